/- The reference of fraction: Choices. (Printed by wip/fref3.py.) -/
import Derived.Test.YtblefdgfmjegiaaGreatDoorFRef2
namespace Go.Proofs.YtblefdgfmjegiaaGreatDoor
open Go.RowKit Num
set_option linter.unusedVariables false
attribute [local go_sem] B_size B_get B_toList B_mk B_extract B_append

theorem zero_ones (cs : List ColV) : List.replicate cs.length (0 : Int) = ones (fun _ _ => false) (colL cs) := by
  unfold ones colL
  rw [List.map_map]
  symm
  rw [List.eq_replicate_iff]
  refine ⟨by simp, fun b hb => ?_⟩
  obtain ⟨r, _, rfl⟩ := List.mem_map.1 hb
  rfl
set_option maxRecDepth 100000 in
theorem frchoices_err (cs : List ColV) (A : Option Addr) (c : Nat) (v : List Str) (V : Option Addr) (cv : Nat) (u0 u1 u4 u5 : Value) (TA OA : Option Addr) (nt ct no cno : Nat) (w : World) (q : Int) (hC : ColsAt w A cs) (hV : Cells w V (strs v)) (hl : cs.length ≤ 1000) (hvl : v.length ≤ cv ∧ cv ≤ maxLen) (hvx : ∀ x ∈ v, x.length ≤ 100000) (hset : ∀ r ∈ cs, 0 ≤ r.s ∧ fits r.s)
    (hok : AllErr (colL cs) v q) (hq0 : q ≠ 0) :
    Calls Tryz.prog 17 #[.agg (insC u0 u1 TA nt ct OA no cno u4 u5), .slice A cs.length c, .slice V v.length cv] w fun e w' => e = .returned (.tuple #[.slice none 0 0, .int .i64 q]) ∧ Below w.heap.size w w' := by
  have b0 := new_below w (.cells (insC u0 u1 TA nt ct OA no cno u4 u5) 43)
  have hrl : (List.replicate cs.length (0 : Int)).length = cs.length := List.length_replicate
  have HS := Lib.hid (fun (w' : World) (N : Option Addr) (cn : Nat) (hN : Cells w' N (ints (List.replicate cs.length 0))) (hb : Below w.heap.size w w') => show Calls Tryz.prog 22 #[.slice N cs.length cn, .slice V v.length cv] w' fun e w2 => e = .returned (.tuple #[.string (B []), .int .i64 q]) ∧ Below w'.heap.size w' w2 from by
    have h := frsum_any (List.replicate cs.length 0) N cn v V cv w' hN (hV.below hb) (by omega) (fun n hn => by rw [(List.mem_replicate.1 hn).2]; constructor <;> decide) hvl hvx
    rw [hrl, zero_ones, show sumQ (ones (fun _ _ => false) (colL cs)) v = ([], q) from hok _] at h
    exact h)
  have hq' : (q != 0) = true := by simpa using hq0
  clear hC hV hvx hset hok hq0 hrl
  go_enter Tryz.func17, Tryz.ntmps17
  go_wp2_with (refine wp_mkn el_fint rfl _ _ rfl (w.heap.size + 1) _ .i64 .i64 _ _ cs.length rfl rfl rfl rfl (by omega) (by unfold maxLen; omega) (by rw [World.size_alloc]; omega) rfl ?_; intro N wq hown hbq)
  have bq := b0.trans (hbq.mono (Nat.le_succ _))
  have hcell := hown.cells
  rw [ints_rep] at hcell
  refine (HS.out wq N cs.length hcell bq).mono ?_
  rintro e w2 ⟨rfl, hb2⟩
  go_wp2_with fail
  go_ret2
  exact ⟨rfl, fbelow3 bq hb2⟩
theorem whole_right {a : Str} (h : rightQ a = true) : wholeQ a = !hasS a := by unfold wholeQ; rw [h, Bool.true_and]
theorem typesD_no {l : List (Int × Int)} {v : List Str} {j : Nat} (h : hasS (usedQ l v j).1 = false) : typesD l v (j + 1) = typesD l v j := by
  unfold typesD; rw [flat_succ]; unfold typeDec; rw [h]; simp
theorem typesD_yes {l : List (Int × Int)} {v : List Str} {j : Nat} (h : hasS (usedQ l v j).1 = true) : typesD l v (j + 1) = typesD l v j ++ [⟨3, j, 0, floorZ (usedQ l v j).1⟩] := by
  unfold typesD; rw [flat_succ]; unfold typeDec; rw [if_pos h]
theorem rowD_no {l : List (Int × Int)} {v : List Str} (X : List Dec) {a b : Nat} (hab : a < b) (h : hasS (togQ l v a b).1 = false) : X ++ rowD l v a (b + 1) = X ++ rowD l v a b := by
  congr 1; unfold rowD; rw [flat_succ, if_pos hab]; unfold pairDec; rw [h]; simp
theorem rowD_yes {l : List (Int × Int)} {v : List Str} (X : List Dec) {a b : Nat} (hab : a < b) (h : hasS (togQ l v a b).1 = true) : X ++ rowD l v a (b + 1) = X ++ rowD l v a b ++ [⟨1, a, b, 0⟩] := by
  rw [List.append_assoc]; congr 1; unfold rowD; rw [flat_succ, if_pos hab]; unfold pairDec; rw [if_pos h]
theorem servsD_no {l : List (Int × Int)} {v : List Str} (X : List Dec) {o : Nat} (h : hasS (togQ l v o o).1 = false) : X ++ servsD l v (o + 1) = X ++ servsD l v o := by
  congr 1; unfold servsD; rw [flat_succ]; unfold servDec; rw [h]; simp
theorem servsD_yes {l : List (Int × Int)} {v : List Str} (X : List Dec) {o : Nat} (h : hasS (togQ l v o o).1 = true) : X ++ servsD l v (o + 1) = X ++ servsD l v o ++ [⟨5, o, 0, 0⟩] := by
  rw [List.append_assoc]; congr 1; unfold servsD; rw [flat_succ]; unfold servDec; rw [if_pos h]
set_option maxHeartbeats 4000000 in
set_option maxRecDepth 100000 in
theorem frchoices_ok (cs : List ColV) (A : Option Addr) (c : Nat) (v : List Str) (V : Option Addr) (cv : Nat) (u0 u1 u4 u5 : Value) (TA OA : Option Addr) (nt ct no cno : Nat) (w : World) (hC : ColsAt w A cs) (hV : Cells w V (strs v)) (hl : cs.length ≤ 1000) (hvl : v.length ≤ cv ∧ cv ≤ maxLen) (hvx : ∀ x ∈ v, x.length ≤ 100000) (hset : ∀ r ∈ cs, 0 ≤ r.s ∧ fits r.s)
    (hok : AllOK (colL cs) v) (hnt : nt ≤ 100) (hno : no ≤ 100) :
    Calls Tryz.prog 17 #[.agg (insC u0 u1 TA nt ct OA no cno u4 u5), .slice A cs.length c, .slice V v.length cv] w fun e w' => ∃ O co, e = .returned (.tuple #[.slice O (choicesD (colL cs) v nt no).length co, .int .i64 0]) ∧ OwnR w' w.heap.size 48 4 O (choicesD (colL cs) v nt no).length co (decCells (choicesD (colL cs) v nt no)) ∧ Below w.heap.size w w' := by
  have b0 := new_below w (.cells (insC u0 u1 TA nt ct OA no cno u4 u5) 43)
  have hq := row_new (w := w) (o := .cells (insC u0 u1 TA nt ct OA no cno u4 u5) 43)
  have hrl : (List.replicate cs.length (0 : Int)).length = cs.length := List.length_replicate
  have HS0 := Lib.hid (fun (w' : World) (N : Option Addr) (cn : Nat) (hN : Cells w' N (ints (List.replicate cs.length 0))) (hb : Below w.heap.size w w') => show Calls Tryz.prog 22 #[.slice N cs.length cn, .slice V v.length cv] w' fun e w2 => ∃ t, e = .returned (.tuple #[.string (B t), .int .i64 0]) ∧ Below w'.heap.size w' w2 from by
    have h := frsum_any (List.replicate cs.length 0) N cn v V cv w' hN (hV.below hb) (by omega) (fun n hn => by rw [(List.mem_replicate.1 hn).2]; constructor <;> decide) hvl hvx
    rw [hrl, zero_ones, (hok (fun _ _ => false)).1] at h
    refine Calls.mono h ?_
    rintro e w2 ⟨rfl, hb2⟩
    exact ⟨_, rfl, hb2⟩)
  have HU := Lib.hid (fun (w' : World) (k : Int) (hb : Below w.heap.size w w') => show Calls Tryz.prog 9 #[.slice A cs.length c, .slice V v.length cv, .int .i64 k] w' fun e w2 => e = .returned (.tuple #[.string (B (usedQ (colL cs) v k).1), .int .i64 0]) ∧ Below w'.heap.size w' w2 from by
    have h := frused_any cs A c v V cv k w' (hC.below hb) (hV.below hb) hl hvl hvx
    rw [show (usedQ (colL cs) v k).2 = 0 from (hok _).1] at h
    exact h)
  have HT := Lib.hid (fun (w' : World) (a b : Int) (hb : Below w.heap.size w w') => show Calls Tryz.prog 11 #[.slice A cs.length c, .slice V v.length cv, .int .i64 a, .int .i64 b] w' fun e w2 => e = .returned (.tuple #[.string (B (togQ (colL cs) v a b).1), .int .i64 0]) ∧ Below w'.heap.size w' w2 from by
    have h := frtog_any cs A c v V cv a b w' (hC.below hb) (hV.below hb) hl hvl hvx hset
    rw [show (togQ (colL cs) v a b).2 = 0 from (hok _).1] at h
    exact h)
  have HSV := Lib.hid (fun (w' : World) (a : Int) (hb : Below w.heap.size w w') => show Calls Tryz.prog 13 #[.slice A cs.length c, .slice V v.length cv, .int .i64 a] w' fun e w2 => e = .returned (.tuple #[.string (B (togQ (colL cs) v a a).1), .int .i64 0]) ∧ Below w'.heap.size w' w2 from by
    have h := frserved_any cs A c v V cv a w' (hC.below hb) (hV.below hb) hl hvl hvx hset
    rw [show (togQ (colL cs) v a a).2 = 0 from (hok _).1] at h
    exact h)
  have HUE := Lib.hid (show ∀ k, SumOK (usedQ (colL cs) v k).1 from fun k => (hok _).2)
  have HTE := Lib.hid (show ∀ a b, SumOK (togQ (colL cs) v a b).1 from fun a b => (hok _).2)
  have HK := Lib.hid (fun wr (hb : Below (w.heap.size + 1) (w.alloc (.cells (insC u0 u1 TA nt ct OA no cno u4 u5) 43)) wr) => show (wr.cell? ⟨w.heap.size, 2, none⟩ = some (.slice TA nt ct) ∧ wr.cell? ⟨w.heap.size, 3, none⟩ = some (.slice OA no cno)) ∧ Below w.heap.size w wr ∧ w.heap.size + 1 ≤ wr.heap.size from by
    have hs : (w.alloc (.cells (insC u0 u1 TA nt ct OA no cno u4 u5) 43)).heap.size = w.heap.size + 1 := World.size_alloc _ _
    exact ⟨ins_cells (row_on hq (by rw [hs]; exact hb)), b0.trans (hb.mono (Nat.le_succ _)), by have := hb.size; rw [hs] at this; exact this⟩)
  have M1 := Lib.hid (fun n => typesD_len (colL cs) v n)
  have M2 := Lib.hid (fun a => pairsD_len (colL cs) v no a)
  have M3 := Lib.hid (fun a m => rowD_len (colL cs) v a m)
  have M4 := Lib.hid (fun n => servsD_len (colL cs) v n)
  clear hC hV hvl hvx hset hok hq b0 hrl
  generalize colL cs = cl at *
  go_enter Tryz.func17, Tryz.ntmps17
  go_wp2_with (refine wp_mkn el_fint rfl _ _ rfl (w.heap.size + 1) _ .i64 .i64 _ _ cs.length rfl rfl rfl rfl (by omega) (by unfold maxLen; omega) (by rw [World.size_alloc]; omega) rfl ?_; intro N wq hown hbq)
  have hcell := hown.cells
  rw [ints_rep] at hcell
  obtain ⟨_, bq, hszq⟩ := HK.out _ hbq
  refine (HS0.out wq N cs.length hcell bq).mono ?_
  rintro e w2 ⟨t0, rfl, hb2⟩
  have HB3 := Lib.hid (hbq.trans (hb2.mono hszq))
  clear hown hcell hbq bq hszq hb2
  go_wp2_with fail
  go_loopw [10, 11, 12, 13] (fun o i _ _ wr => ∃ (j : Nat) (O : Option Addr) (co : Nat) (L : List Dec), j ≤ nt ∧ i = .int .i64 j ∧ L = typesD cl v j ∧ o = .slice O L.length co ∧ OwnR wr (w.heap.size + 1) 48 4 O L.length co (decCells L) ∧ Below (w.heap.size + 1) (w.alloc (.cells (insC u0 u1 TA nt ct OA no cno u4 u5) 43)) wr) (fun _ i _ _ _ => nt - (intOf i).toNat)
  case atStart => exact ⟨0, none, 0, [], Nat.zero_le _, rfl, rfl, rfl, OwnR.nil _ _ _ _, HB3.out⟩
  case round =>
    clear HB3
    obtain ⟨j, O, co, L, hj, rfl, hL, rfl, hown, hbel⟩ := hrel
    have HL := Lib.hid hL
    clear hL
    obtain ⟨⟨d0, d1⟩, bw, hsz⟩ := HK.out _ hbel
    have HOWN := Lib.hid hown
    clear hown
    by_cases hlt : j < nt
    · go_wp2_with fail
      clear d0 d1
      refine (HU.out wr j bw).mono ?_
      rintro e w5 ⟨rfl, hb5⟩
      have b5 := hbel.trans (hb5.mono hsz)
      obtain ⟨_, bw5, hsz5⟩ := HK.out _ b5
      have hown5 := HOWN.out.below hb5
      have hsl := (HUE.out j).len
      have HW := Lib.hid (fun w => frwhole_any ((usedQ cl v j).1) w (by omega))
      rw [whole_right (HUE.out j).right] at HW
      cases hh : hasS ((usedQ cl v j).1)
      · rw [hh] at HW
        have HN := Lib.hid (show typesD cl v (j + 1) = typesD cl v j from typesD_no hh)
        clear hh hsl
        go_wp2_with fail
        refine (HW.out w5).mono ?_
        rintro e w6 ⟨rfl, hb6⟩
        have hown6 := hown5.below hb6
        have b6 := b5.trans (hb6.mono hsz5)
        go_wp2_with fail
        go_roundw
        case rel => exact ⟨j + 1, O, co, L, by omega, by go_num, by rw [HN.out, HL.out], rfl, hown6, b6⟩
        case measure => simp [intOf]; omega
      · rw [hh] at HW
        have HN := Lib.hid (show typesD cl v (j + 1) = typesD cl v j ++ [⟨3, j, 0, floorZ (usedQ cl v j).1⟩] from typesD_yes hh)
        clear hh hsl
        go_wp2_with fail
        refine (HW.out w5).mono ?_
        rintro e w6 ⟨rfl, hb6⟩
        have hown6 := hown5.below hb6
        have b6 := b5.trans (hb6.mono hsz5)
        have hsz6 := (HK.out _ b6).2.2
        go_wp2_with fail
        refine (frfloor_any ((usedQ cl v j).1) w6 (HUE.out j)).mono ?_
        rintro e w7 ⟨rfl, hb7⟩
        have hown7 := hown6.below hb7
        have b7 := b6.trans (hb7.mono hsz6)
        have hsz7 := (HK.out _ b7).2.2
        have HLN := Lib.hid (show L.length ≤ 100000 from by rw [HL.out]; have := M1.out j; omega)
        go_wp2_with (at_builtin; refine wp_app1r el_dec rfl _ _ rfl (w.heap.size + 1) O _ co _ _ #[.int .i64 (3), .int .i64 (j), .int .i64 (0), .int .i64 (floorZ (usedQ cl v j).1)] rfl hown7 rfl rfl (by intro u hu; simp at hu; rcases hu with rfl | rfl | rfl | rfl <;> rfl) (by have := HLN.out; unfold maxLen; omega) (by have := HLN.out; omega) hsz7 ?_; intro A3 c3 w8 hown8 hb8)
        go_roundw
        case rel => exact ⟨j + 1, A3, c3, _, by omega, by go_num, by rw [HN.out, ← HL.out], by rw [List.length_append]; rfl, by rw [List.length_append, ← decCells_snoc]; exact hown8, b7.trans hb8⟩
        case measure => simp [intOf]; omega
    · obtain rfl : nt = j := by omega
      go_wp2_with fail
      clear d0 d1
      go_loopw [10, 14, 15, 16, 17] (fun o i _ _ _ wr => ∃ (a : Nat) (O : Option Addr) (co : Nat) (L : List Dec), a ≤ no ∧ i = .int .i64 a ∧ L = typesD cl v nt ++ pairsD cl v no a ∧ o = .slice O L.length co ∧ OwnR wr (w.heap.size + 1) 48 4 O L.length co (decCells L) ∧ Below (w.heap.size + 1) (w.alloc (.cells (insC u0 u1 TA nt ct OA no cno u4 u5) 43)) wr) (fun _ i _ _ _ _ => no - (intOf i).toNat)
      case atStart => exact ⟨0, O, co, L, Nat.zero_le _, rfl, by rw [show pairsD cl v no 0 = [] from rfl, List.append_nil]; exact HL.out, rfl, HOWN.out, hbel⟩
      case round =>
        clear HOWN hbel bw hsz hlt hj
        clear HL
        obtain ⟨a, O, co, L, ha, rfl, hL, rfl, hown, hbel⟩ := hrel
        have HL := Lib.hid hL
        clear hL
        obtain ⟨⟨d0, d1⟩, bw, hsz⟩ := HK.out _ hbel
        have HOWN := Lib.hid hown
        clear hown
        by_cases hlt : a < no
        · go_wp2_with fail
          clear d0 d1
          go_loopw [10, 15, 16, 17] (fun o i _ _ wr => ∃ (b : Nat) (O : Option Addr) (co : Nat) (L : List Dec), a + 1 ≤ b ∧ b ≤ no ∧ i = .int .i64 b ∧ L = typesD cl v nt ++ pairsD cl v no a ++ rowD cl v a b ∧ o = .slice O L.length co ∧ OwnR wr (w.heap.size + 1) 48 4 O L.length co (decCells L) ∧ Below (w.heap.size + 1) (w.alloc (.cells (insC u0 u1 TA nt ct OA no cno u4 u5) 43)) wr) (fun _ i _ _ _ => no - (intOf i).toNat)
          case atStart => exact ⟨a + 1, O, co, L, Nat.le_refl _, hlt, by go_num, by rw [rowD_first cl v a (a + 1) (Nat.le_refl _), List.append_nil]; exact HL.out, rfl, HOWN.out, hbel⟩
          case round =>
            clear HOWN hbel bw hsz
            clear HL
            obtain ⟨b, O, co, L, hab, hbn, rfl, hL, rfl, hown, hbel⟩ := hrel
            have HL := Lib.hid hL
            clear hL
            obtain ⟨⟨d0, d1⟩, bw, hsz⟩ := HK.out _ hbel
            have HOWN := Lib.hid hown
            clear hown
            by_cases hltb : b < no
            · have hano : a * no ≤ 100 * 100 := Nat.mul_le_mul (by omega) hno
              have HLEN := Lib.hid (show L.length ≤ 100000 from by
                rw [HL.out]
                have h1 := M1.out nt
                have h2 := M2.out a
                have h3 := M3.out a b
                rw [List.length_append, List.length_append]; omega)
              clear hano
              go_wp2_with fail
              clear d0 d1
              refine (HT.out wr a b bw).mono ?_
              rintro e w5 ⟨rfl, hb5⟩
              have b5 := hbel.trans (hb5.mono hsz)
              obtain ⟨_, bw5, hsz5⟩ := HK.out _ b5
              have hown5 := HOWN.out.below hb5
              have hsl := (HTE.out a b).len
              have HW := Lib.hid (fun w => frwhole_any ((togQ cl v a b).1) w (by omega))
              rw [whole_right (HTE.out a b).right] at HW
              cases hh : hasS ((togQ cl v a b).1)
              · rw [hh] at HW
                have HN := Lib.hid (show typesD cl v nt ++ pairsD cl v no a ++ rowD cl v a (b + 1) = typesD cl v nt ++ pairsD cl v no a ++ rowD cl v a b from rowD_no _ (by omega) hh)
                clear hh hsl
                go_wp2_with fail
                refine (HW.out w5).mono ?_
                rintro e w6 ⟨rfl, hb6⟩
                have hown6 := hown5.below hb6
                have b6 := b5.trans (hb6.mono hsz5)
                go_wp2_with fail
                go_roundw
                case rel => exact ⟨b + 1, O, co, L, by omega, by omega, by go_num, by rw [HN.out, HL.out], rfl, hown6, b6⟩
                case measure => simp [intOf]; omega
              · rw [hh] at HW
                have HN := Lib.hid (show typesD cl v nt ++ pairsD cl v no a ++ rowD cl v a (b + 1) = typesD cl v nt ++ pairsD cl v no a ++ rowD cl v a b ++ [⟨1, a, b, 0⟩] from rowD_yes _ (by omega) hh)
                clear hh hsl
                go_wp2_with fail
                refine (HW.out w5).mono ?_
                rintro e w6 ⟨rfl, hb6⟩
                have hown6 := hown5.below hb6
                have b6 := b5.trans (hb6.mono hsz5)
                have hsz6 := (HK.out _ b6).2.2
                have HLN := Lib.hid HLEN.out
                go_wp2_with (at_builtin; refine wp_app1r el_dec rfl _ _ rfl (w.heap.size + 1) O _ co _ _ #[.int .i64 (1), .int .i64 (a), .int .i64 (b), .int .i64 (0)] rfl hown6 rfl rfl (by intro u hu; simp at hu; rcases hu with rfl | rfl | rfl | rfl <;> rfl) (by have := HLN.out; unfold maxLen; omega) (by have := HLN.out; omega) hsz6 ?_; intro A3 c3 w8 hown8 hb8)
                go_roundw
                case rel => exact ⟨b + 1, A3, c3, _, by omega, by omega, by go_num, by rw [HN.out, ← HL.out], by rw [List.length_append]; rfl, by rw [List.length_append, ← decCells_snoc]; exact hown8, b6.trans hb8⟩
                case measure => simp [intOf]; omega
            · obtain rfl : no = b := by omega
              have HN := Lib.hid (pairsD_snoc cl v (typesD cl v nt) no a)
              go_wp2_with fail
              go_roundw
              case rel => exact ⟨a + 1, O, co, L, by omega, by go_num, by rw [← HN.out]; exact HL.out, rfl, HOWN.out, hbel⟩
              case measure => simp [intOf]; omega
        · obtain rfl : no = a := by omega
          go_wp2_with fail
          clear d0 d1
          go_loopw [10, 18, 19, 20] (fun o i _ _ wr => ∃ (o2 : Nat) (O : Option Addr) (co : Nat) (L : List Dec), o2 ≤ no ∧ i = .int .i64 o2 ∧ L = typesD cl v nt ++ pairsD cl v no no ++ servsD cl v o2 ∧ o = .slice O L.length co ∧ OwnR wr (w.heap.size + 1) 48 4 O L.length co (decCells L) ∧ Below (w.heap.size + 1) (w.alloc (.cells (insC u0 u1 TA nt ct OA no cno u4 u5) 43)) wr) (fun _ i _ _ _ => no - (intOf i).toNat)
          case atStart => exact ⟨0, O, co, L, Nat.zero_le _, rfl, by rw [show servsD cl v 0 = [] from rfl, List.append_nil]; exact HL.out, rfl, HOWN.out, hbel⟩
          case round =>
            clear HOWN hbel bw hsz
            clear HL
            obtain ⟨o2, O, co, L, ho, rfl, hL, rfl, hown, hbel⟩ := hrel
            have HL := Lib.hid hL
            clear hL
            obtain ⟨⟨d0, d1⟩, bw, hsz⟩ := HK.out _ hbel
            have HOWN := Lib.hid hown
            clear hown
            by_cases hlto : o2 < no
            · have hano : no * no ≤ 100 * 100 := Nat.mul_le_mul (by omega) hno
              have HLEN := Lib.hid (show L.length ≤ 100000 from by
                rw [HL.out]
                have h1 := M1.out nt
                have h2 := M2.out no
                have h3 := M4.out o2
                rw [List.length_append, List.length_append]; omega)
              clear hano
              go_wp2_with fail
              clear d0 d1
              refine (HSV.out wr o2 bw).mono ?_
              rintro e w5 ⟨rfl, hb5⟩
              have b5 := hbel.trans (hb5.mono hsz)
              obtain ⟨_, bw5, hsz5⟩ := HK.out _ b5
              have hown5 := HOWN.out.below hb5
              have hsl := (HTE.out o2 o2).len
              have HW := Lib.hid (fun w => frwhole_any ((togQ cl v o2 o2).1) w (by omega))
              rw [whole_right (HTE.out o2 o2).right] at HW
              cases hh : hasS ((togQ cl v o2 o2).1)
              · rw [hh] at HW
                have HN := Lib.hid (show typesD cl v nt ++ pairsD cl v no no ++ servsD cl v (o2 + 1) = typesD cl v nt ++ pairsD cl v no no ++ servsD cl v o2 from servsD_no _ hh)
                clear hh hsl
                go_wp2_with fail
                refine (HW.out w5).mono ?_
                rintro e w6 ⟨rfl, hb6⟩
                have hown6 := hown5.below hb6
                have b6 := b5.trans (hb6.mono hsz5)
                go_wp2_with fail
                go_roundw
                case rel => exact ⟨o2 + 1, O, co, L, by omega, by go_num, by rw [HN.out, HL.out], rfl, hown6, b6⟩
                case measure => simp [intOf]; omega
              · rw [hh] at HW
                have HN := Lib.hid (show typesD cl v nt ++ pairsD cl v no no ++ servsD cl v (o2 + 1) = typesD cl v nt ++ pairsD cl v no no ++ servsD cl v o2 ++ [⟨5, o2, 0, 0⟩] from servsD_yes _ hh)
                clear hh hsl
                go_wp2_with fail
                refine (HW.out w5).mono ?_
                rintro e w6 ⟨rfl, hb6⟩
                have hown6 := hown5.below hb6
                have b6 := b5.trans (hb6.mono hsz5)
                have hsz6 := (HK.out _ b6).2.2
                have HLN := Lib.hid HLEN.out
                go_wp2_with (at_builtin; refine wp_app1r el_dec rfl _ _ rfl (w.heap.size + 1) O _ co _ _ #[.int .i64 (5), .int .i64 (o2), .int .i64 (0), .int .i64 (0)] rfl hown6 rfl rfl (by intro u hu; simp at hu; rcases hu with rfl | rfl | rfl | rfl <;> rfl) (by have := HLN.out; unfold maxLen; omega) (by have := HLN.out; omega) hsz6 ?_; intro A3 c3 w8 hown8 hb8)
                go_roundw
                case rel => exact ⟨o2 + 1, A3, c3, _, by omega, by go_num, by rw [HN.out, ← HL.out], by rw [List.length_append]; rfl, by rw [List.length_append, ← decCells_snoc]; exact hown8, b6.trans hb8⟩
                case measure => simp [intOf]; omega
            · obtain rfl : no = o2 := by omega
              have HF := Lib.hid (show OwnR wr w.heap.size 48 4 O L.length co (decCells L) from HOWN.out.mono (Nat.le_succ _))
              have HL2 := Lib.hid (show L = choicesD cl v nt no from HL.out)
              clear HOWN
              go_wp2_with fail
              go_ret2
              exact ⟨O, co, by rw [← HL2.out]; rfl, by rw [← HL2.out]; exact HF.out, bw⟩
end Go.Proofs.YtblefdgfmjegiaaGreatDoor
