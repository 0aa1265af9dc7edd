/- fraction: Choices where the sums err. -/
import Derived.Test.YtblefdgfmjegiaaGreatDoorFProg4
namespace Go.Proofs.YtblefdgfmjegiaaGreatDoor
open Go.RowKit Num
set_option linter.unusedVariables false
attribute [local go_sem] B_size B_get B_toList B_mk B_extract B_append

/-- every sum errs alike -/
def AllErr (l : List (Int × Int)) (v : List Str) (q : Int) : Prop := ∀ f, sumQ (ones f l) v = ([], q)
set_option maxHeartbeats 4000000 in
set_option maxRecDepth 100000 in
theorem fchoices_err (cs : List ColV) (A : Option Addr) (c : Nat) (v : List Str) (V : Option Addr) (cv : Nat) (u0 u1 u4 u5 : Value) (TA OA : Option Addr) (nt ct no cno : Nat) (w : World) (q : Int) (hC : ColsAt w A cs) (hV : Cells w V (strs v)) (hl : cs.length ≤ 1000) (hvl : v.length ≤ cv ∧ cv ≤ maxLen) (hvx : ∀ x ∈ v, x.length ≤ 100000) (hset : ∀ r ∈ cs, 0 ≤ r.s ∧ fits r.s)
    (hok : AllErr (colL cs) v q) (hq0 : q ≠ 0) (hnt : nt ≤ 100) (hno : no ≤ 100) (he : Env w) :
    Calls Tryz.prog 16 #[.agg (insC u0 u1 TA nt ct OA no cno u4 u5), .slice A cs.length c, .slice V v.length cv] w fun e w' => e = .returned (.tuple #[.slice none 0 0, .int .i64 q]) ∧ Below w.heap.size w w' := by
  have b0 := new_below w (.cells (insC u0 u1 TA nt ct OA no cno u4 u5) 43)
  have hq := row_new (w := w) (o := .cells (insC u0 u1 TA nt ct OA no cno u4 u5) 43)
  have hch := row_new (w := w.alloc (.cells (insC u0 u1 TA nt ct OA no cno u4 u5) 43)) (o := .cells #[.slice none 0 0, .int .i64 0] 65)
  rw [World.size_alloc] at hch
  have hask : AskAt ((w.alloc (.cells (insC u0 u1 TA nt ct OA no cno u4 u5) 43)).alloc (.cells #[.slice none 0 0, .int .i64 0] 65)) (w.heap.size + 1) (w.heap.size + 1) none 0 0 [] := by
    refine ⟨⟨rfl, .inr ⟨w.heap.size + 1, 1, _, rfl, Nat.le_refl _, hch, Nat.le_refl _, by unfold maxLen; omega, rfl, rfl⟩⟩, OwnR.nil _ _ _ _⟩
  have HU := Lib.hid (fun (w' : World) (k : Int) (hb : Below w.heap.size w w') => show Calls Tryz.prog 8 #[.slice A cs.length c, .slice V v.length cv, .int .i64 k] w' fun e w2 => e = .returned (.tuple #[.string (B []), .int .i64 q]) ∧ Below w'.heap.size w' w2 from by
    have h := fused_any cs A c v V cv k w' (hC.below hb) (hV.below hb) hl hvl hvx (he.below hb)
    rw [show usedQ (colL cs) v k = ([], q) from hok _] at h
    exact h)
  have HT := Lib.hid (fun (w' : World) (a b : Int) (hb : Below w.heap.size w w') => show Calls Tryz.prog 10 #[.slice A cs.length c, .slice V v.length cv, .int .i64 a, .int .i64 b] w' fun e w2 => e = .returned (.tuple #[.string (B []), .int .i64 q]) ∧ Below w'.heap.size w' w2 from by
    have h := ftog_any cs A c v V cv a b w' (hC.below hb) (hV.below hb) hl hvl hvx hset (he.below hb)
    rw [show togQ (colL cs) v a b = ([], q) from hok _] at h
    exact h)
  have HS := Lib.hid (fun (w' : World) (a : Int) (hb : Below w.heap.size w w') => show Calls Tryz.prog 12 #[.slice A cs.length c, .slice V v.length cv, .int .i64 a] w' fun e w2 => e = .returned (.tuple #[.string (B []), .int .i64 q]) ∧ Below w'.heap.size w' w2 from by
    have h := fserved_any cs A c v V cv a w' (hC.below hb) (hV.below hb) hl hvl hvx hset (he.below hb)
    rw [show togQ (colL cs) v a a = ([], q) from hok _] at h
    exact h)
  have HASK := Lib.hid (fun (w' : World) (d : Dec) (h : AskAt w' (w.heap.size + 1) (w.heap.size + 1) none 0 q []) => fask_err w' _ _ none 0 q [] [] q d h hq0)
  have HK := Lib.hid (fun wr (hb : Below (w.heap.size + 1) (w.alloc (.cells (insC u0 u1 TA nt ct OA no cno u4 u5) 43)) wr) => show (wr.cell? ⟨w.heap.size, 2, none⟩ = some (.slice TA nt ct) ∧ wr.cell? ⟨w.heap.size, 3, none⟩ = some (.slice OA no cno)) ∧ Below w.heap.size w wr ∧ w.heap.size + 1 ≤ wr.heap.size from by
    have hs : (w.alloc (.cells (insC u0 u1 TA nt ct OA no cno u4 u5) 43)).heap.size = w.heap.size + 1 := World.size_alloc _ _
    exact ⟨ins_cells (row_on hq (by rw [hs]; exact hb)), b0.trans (hb.mono (Nat.le_succ _)), by have := hb.size; rw [hs] at this; exact this⟩)
  have bB : Below (w.heap.size + 1) (w.alloc (.cells (insC u0 u1 TA nt ct OA no cno u4 u5) 43)) ((w.alloc (.cells (insC u0 u1 TA nt ct OA no cno u4 u5) 43)).alloc (.cells #[.slice none 0 0, .int .i64 0] 65)) := (Below.refl _ _).alloc (by rw [World.size_alloc]; omega) _
  have hq' : (q != 0) = true := by simpa using hq0
  clear hC hV hvl hvx hset hok hq hch b0 hq0
  have HA0 := Lib.hid hask
  have HB0 := Lib.hid bB
  clear hask bB
  go_enter Tryz.func16, Tryz.ntmps16
  go_wp2_with fail
  refine (HU.out _ (-1) (HK.out _ HB0.out).2.1).mono ?_
  rintro e w2 ⟨rfl, hb2⟩
  have hA2 := HA0.out.below hb2
  have b2 := HB0.out.trans (hb2.mono (by rw [World.size_alloc, World.size_alloc]; omega))
  obtain ⟨_, _, c1, cf⟩ := hA2.cells
  have cf1 := cf 1
  have HA3 := Lib.hid (hA2.err q)
  have HB3 := Lib.hid (b2.trans (hA2.set_below 1 (.int .i64 q)))
  obtain ⟨⟨d0, d1⟩, _, _⟩ := HK.out _ HB3.out
  clear hA2 b2 cf hb2
  go_wp2_with fail
  clear d0 d1
  go_loopw [9, 10, 11, 29] (fun _ _ _ i wr => ∃ j : Nat, j ≤ nt ∧ i = .int .i64 j ∧ AskAt wr (w.heap.size + 1) (w.heap.size + 1) none 0 q [] ∧ Below (w.heap.size + 1) (w.alloc (.cells (insC u0 u1 TA nt ct OA no cno u4 u5) 43)) wr) (fun _ _ _ i _ => nt - (intOf i).toNat)
  case atStart => exact ⟨0, Nat.zero_le _, rfl, HA3.out, HB3.out⟩
  case round =>
    clear c1 cf1 HA3 HB3
    obtain ⟨j, hj, rfl, hA, hbel⟩ := hrel
    obtain ⟨⟨d0, d1⟩, bw, hsz⟩ := HK.out _ hbel
    have HA := Lib.hid hA
    clear hA
    by_cases hlt : j < nt
    · clear d0 d1
      go_wp2_with fail
      refine (HU.out wr j bw).mono ?_
      rintro e w5 ⟨rfl, hb5⟩
      have hA5 := HA.out.below hb5
      have b5 := hbel.trans (hb5.mono hsz)
      obtain ⟨_, bw5, hsz5⟩ := HK.out _ b5
      go_wp2_with fail
      refine (HASK.out w5 ⟨3, j, 0, 0⟩ hA5).mono ?_
      rintro e w6 ⟨rfl, hb6⟩
      have hA6 := hA5.below hb6
      have b6 := b5.trans (hb6.mono hsz5)
      go_wp2_with fail
      go_roundw
      case rel => exact ⟨j + 1, by omega, by go_num, hA6, b6⟩
      case measure => simp [intOf]; omega
    · go_wp2_with fail
      clear d0 d1
      go_loopw [12, 13, 14, 15, 48] (fun _ _ _ _ i wr => ∃ a : Nat, a ≤ no ∧ i = .int .i64 a ∧ AskAt wr (w.heap.size + 1) (w.heap.size + 1) none 0 q [] ∧ Below (w.heap.size + 1) (w.alloc (.cells (insC u0 u1 TA nt ct OA no cno u4 u5) 43)) wr) (fun _ _ _ _ i _ => no - (intOf i).toNat)
      case atStart => exact ⟨0, Nat.zero_le _, rfl, HA.out, hbel⟩
      case round =>
        clear HA hbel bw hsz hlt
        obtain ⟨a, ha, rfl, hA, hbel⟩ := hrel
        obtain ⟨⟨d0, d1⟩, bw, hsz⟩ := HK.out _ hbel
        have HA := Lib.hid hA
        clear hA
        by_cases hlt : a < no
        · go_wp2_with fail
          clear d0 d1
          go_loopw [13, 14, 15] (fun i _ _ wr => ∃ b : Nat, b ≤ no ∧ i = .int .i64 b ∧ AskAt wr (w.heap.size + 1) (w.heap.size + 1) none 0 q [] ∧ Below (w.heap.size + 1) (w.alloc (.cells (insC u0 u1 TA nt ct OA no cno u4 u5) 43)) wr) (fun i _ _ _ => no - (intOf i).toNat)
          case atStart => exact ⟨a + 1, hlt, by go_num, HA.out, hbel⟩
          case round =>
            clear HA hbel bw hsz
            obtain ⟨b, hbn, rfl, hA, hbel⟩ := hrel
            obtain ⟨⟨d0, d1⟩, bw, hsz⟩ := HK.out _ hbel
            have HA := Lib.hid hA
            clear hA
            by_cases hltb : b < no
            · go_wp2_with fail
              refine (HT.out wr a b bw).mono ?_
              rintro e w5 ⟨rfl, hb5⟩
              have hA5 := HA.out.below hb5
              have b5 := hbel.trans (hb5.mono hsz)
              obtain ⟨_, bw5, hsz5⟩ := HK.out _ b5
              go_wp2_with fail
              refine (HASK.out w5 ⟨1, a, b, 0⟩ hA5).mono ?_
              rintro e w6 ⟨rfl, hb6⟩
              have hA6 := hA5.below hb6
              have b6 := b5.trans (hb6.mono hsz5)
              go_wp2_with fail
              go_roundw
              case rel => exact ⟨b + 1, by omega, by go_num, hA6, b6⟩
              case measure => simp [intOf]; omega
            · go_wp2_with fail
              go_roundw
              case rel => exact ⟨a + 1, by omega, by go_num, HA.out, hbel⟩
              case measure => simp [intOf]; omega
        · go_wp2_with fail
          clear d0 d1
          go_loopw [16, 17, 18, 78] (fun _ _ _ i wr => ∃ o : Nat, o ≤ no ∧ i = .int .i64 o ∧ AskAt wr (w.heap.size + 1) (w.heap.size + 1) none 0 q [] ∧ Below (w.heap.size + 1) (w.alloc (.cells (insC u0 u1 TA nt ct OA no cno u4 u5) 43)) wr) (fun _ _ _ i _ => no - (intOf i).toNat)
          case atStart => exact ⟨0, Nat.zero_le _, rfl, HA.out, hbel⟩
          case round =>
            clear HA hbel bw hsz
            obtain ⟨o, ho, rfl, hA, hbel⟩ := hrel
            obtain ⟨⟨d0, d1⟩, bw, hsz⟩ := HK.out _ hbel
            have HA := Lib.hid hA
            clear hA
            by_cases hlto : o < no
            · clear d0 d1
              go_wp2_with fail
              refine (HS.out wr o bw).mono ?_
              rintro e w5 ⟨rfl, hb5⟩
              have hA5 := HA.out.below hb5
              have b5 := hbel.trans (hb5.mono hsz)
              obtain ⟨_, bw5, hsz5⟩ := HK.out _ b5
              go_wp2_with fail
              refine (HASK.out w5 ⟨5, o, 0, 0⟩ hA5).mono ?_
              rintro e w6 ⟨rfl, hb6⟩
              have hA6 := hA5.below hb6
              have b6 := b5.trans (hb6.mono hsz5)
              go_wp2_with fail
              go_roundw
              case rel => exact ⟨o + 1, by omega, by go_num, hA6, b6⟩
              case measure => simp [intOf]; omega
            · obtain ⟨_, k0, k1, _⟩ := HA.out.cells
              clear HA d0 d1
              go_wp2_with fail
              go_quiet (fail)
              go_wp2_with fail
              go_ret2
              exact ⟨rfl, below_drewN bw _⟩
end Go.Proofs.YtblefdgfmjegiaaGreatDoor
