/- The laws of fraction: FractionChooses. -/
import Derived.Test.YtblefdgfmjegiaaGreatDoorG31
namespace Go.Proofs.YtblefdgfmjegiaaGreatDoor
open Go.RowKit Num
set_option linter.unusedVariables false
attribute [local go_sem] B_size B_get B_toList B_mk B_extract B_append

theorem three_at (W : World) (x y z : Obj) : (((W.alloc x).alloc y).alloc z).drew.heap[W.heap.size]? = some x ∧ (((W.alloc x).alloc y).alloc z).drew.heap[W.heap.size + 1]? = some y ∧ (((W.alloc x).alloc y).alloc z).drew.heap[W.heap.size + 1 + 1]? = some z ∧ Below W.heap.size W (((W.alloc x).alloc y).alloc z).drew := by
  have e : (((W.alloc x).alloc y).alloc z).drew.heap = ((W.heap.push x).push y).push z := rfl
  refine ⟨?_, ?_, ?_, ?_⟩
  · rw [e, Array.getElem?_push, if_neg (by simp; omega), Array.getElem?_push, if_neg (by simp), Array.getElem?_push, if_pos (by omega)]
  · rw [e, Array.getElem?_push, if_neg (by simp), Array.getElem?_push, if_pos (by simp)]
  · rw [e, Array.getElem?_push, if_pos (by simp)]
  · exact ((((Below.refl _ _).alloc (Nat.le_refl _) _).alloc (by rw [World.size_alloc]; omega) _).alloc (by rw [World.size_alloc, World.size_alloc]; omega) _).drew
theorem wrap_tmod (a n : Nat) (ha : a < 256) : IntKind.i64.wrap ((a : Int).tmod n) = ((a % n : Nat) : Int) := by
  rw [show ((a : Int).tmod (n : Int)) = ((a % n : Nat) : Int) from rfl]
  have := Nat.mod_le a n
  generalize a % n = m at *
  simp [IntKind.wrap, IntKind.bits, IntKind.signed]
  omega
theorem choicesD_len (l : List (Int × Int)) (v : List Str) (t n : Nat) (ht : t ≤ 100) (hn : n ≤ 100) : (choicesD l v t n).length ≤ 100000 := by
  have h1 := typesD_len l v t
  have h2 := pairsD_len l v n n
  have h3 := servsD_len l v n
  have h4 : n * n ≤ 100 * 100 := Nat.mul_le_mul hn hn
  unfold choicesD
  rw [List.length_append, List.length_append]
  omega
theorem decCells_get : ∀ (L : List Dec) (i : Nat) (hi : i < L.length) (j : Nat), j < 4 → (decCells L)[i * 4 + j]? = L[i].cells[j]? := by
  intro L
  induction L with
  | nil => intro i hi; exact absurd hi (by simp)
  | cons r l ih =>
    intro i hi j hj
    unfold decCells
    rw [List.flatMap_cons]
    have hl : r.cells.length = 4 := rfl
    cases i with
    | zero => rw [List.getElem?_append_left (by omega)]; simp
    | succ i =>
      rw [List.getElem?_append_right (by omega), hl, show (i + 1) * 4 + j - 4 = i * 4 + j by omega]
      exact ih i (by simpa using hi) j hj
theorem dec_at {w : World} {Bs : Nat} {O : Option Addr} {co : Nat} {L : List Dec} (h : OwnR w Bs 48 4 O L.length co (decCells L)) {i : Nat} (hi : i < L.length) : ∃ g, O = some ⟨g, 0, none⟩ ∧ w.cell? ⟨g, i * 4, none⟩ = some (.int .i64 L[i].k) ∧ w.cell? ⟨g, i * 4 + 1, none⟩ = some (.int .i64 L[i].a) ∧ w.cell? ⟨g, i * 4 + 2, none⟩ = some (.int .i64 L[i].b) ∧ w.cell? ⟨g, i * 4 + 3, none⟩ = some (.int .i64 L[i].n) := by
  obtain ⟨g, e, _, _, hc, _⟩ := h.at_ (by omega)
  have hk : ∀ j, j < 4 → w.cell? ⟨g, i * 4 + j, none⟩ = L[i].cells[j]? := fun j hj => (hc _ (by omega)).trans (decCells_get L i hi j hj)
  exact ⟨g, e, hk 0 (by omega), hk 1 (by omega), hk 2 (by omega), hk 3 (by omega)⟩
/-- an instance that was made: its cells, as long as it stands -/
theorem ins_all {w w' : World} {b n m : Nat} {TA OA : Option Addr} (h : w.heap[b]? = some (.cells (insC (.slice none 0 0) (.slice none 0 0) TA n n OA m m (.slice none 0 0) (.slice none 0 0)) 43)) (hb : Below w.heap.size w w') :
    w'.cell? ⟨b, 0, none⟩ = some (.slice none 0 0) ∧ w'.cell? ⟨b, 1, none⟩ = some (.slice none 0 0) ∧ w'.cell? ⟨b, 2, none⟩ = some (.slice TA n n) ∧ w'.cell? ⟨b, 3, none⟩ = some (.slice OA m m) ∧ w'.cell? ⟨b, 4, none⟩ = some (.slice none 0 0) ∧ w'.cell? ⟨b, 5, none⟩ = some (.slice none 0 0) := by
  have hrow := row_on h hb
  refine ⟨?_, ?_, ?_, ?_, ?_, ?_⟩
  · rw [cell_of_row w' b 0 _ _ _ hrow]; rfl
  · rw [cell_of_row w' b 1 _ _ _ hrow]; rfl
  · rw [cell_of_row w' b 2 _ _ _ hrow]; rfl
  · rw [cell_of_row w' b 3 _ _ _ hrow]; rfl
  · rw [cell_of_row w' b 4 _ _ _ hrow]; rfl
  · rw [cell_of_row w' b 5 _ _ _ hrow]; rfl
set_option maxHeartbeats 4000000 in
set_option maxRecDepth 100000 in
theorem fmade_any (cs : List ColV) (A : Option Addr) (c : Nat) (v : List Str) (V : Option Addr) (cv : Nat) (a0 a1 : Nat) (w : World) (h0 : a0 < 256) (h1 : a1 < 256) (hC : ColsAt w A cs) (hV : Cells w V (strs v)) (hl : cs.length ≤ maxLen) (hvl : v.length ≤ cv ∧ cv ≤ maxLen) (hvx : ∀ x ∈ v, x.length ≤ maxLen) (hok : ∀ r ∈ cs, r.ok) (he : Env w) (hr : ErrV w) :
    Calls Tryz.prog 4 #[.agg #[.int .u8 a0, .int .u8 a1], .slice A cs.length c, .slice V v.length cv] w fun e w' => e = .returned (.bool true) ∧ Below w.heap.size w w' := by
  have HAT := Lib.hid (fun w' (h : Below (w.heap.size + 1) (w.alloc (.cells #[.int .u8 a0, .int .u8 a1] 34)) w') => show Below w.heap.size w w' ∧ w'.cell? ⟨w.heap.size, 0, none⟩ = some (.int .u8 a0) ∧ w'.cell? ⟨w.heap.size, 1, none⟩ = some (.int .u8 a1) ∧ w.heap.size + 1 ≤ w'.heap.size from by
    have hs : (w.alloc (.cells #[.int .u8 a0, .int .u8 a1] 34)).heap.size = w.heap.size + 1 := World.size_alloc _ _
    have hrow := row_on (row_new (w := w) (o := .cells #[.int .u8 a0, .int .u8 a1] 34)) (w' := w') (by rw [hs]; exact h)
    refine ⟨(new_below w _).trans (h.mono (Nat.le_succ _)), ?_, ?_, ?_⟩
    · rw [cell_of_row w' _ 0 _ _ _ hrow]; rfl
    · rw [cell_of_row w' _ 1 _ _ _ hrow]; rfl
    · have := h.size; rw [hs] at this; exact this)
  have HFEW := Lib.hid (fun w' (h : Below w.heap.size w w') => ffew_any cs A c v V cv w' (hC.below h) (hV.below h) hl (Nat.le_trans hvl.1 hvl.2) hvx hok)
  have HAW := Lib.hid (fun w' (h : Below w.heap.size w w') => fawake_any w' (he.below h) (hr.below h))
  by_cases hf : fewF cs v = true
  · obtain ⟨p1, p2, p3, p4⟩ := few_parts hf
    have q1 : cs.length ≤ 1000 := by omega
    have q3 : ∀ x ∈ v, x.length ≤ 100000 := fun x hx => by have := p3 x hx; omega
    have q4 : ∀ r ∈ cs, 0 ≤ r.s ∧ fits r.s := fun r hr => ⟨p4 r hr, (hok r hr).2⟩
    obtain ⟨zt, mkT0⟩ := make_types (a0 % 7) (by omega)
    obtain ⟨zo, mkO0⟩ := make_orders (a1 % 11) (by omega)
    have mkT : ∀ w : World, (Instr.makeSlice 35 (.int .i64 (IntKind.i64.wrap ((a0 : Int).tmod 7))) (.int .i64 (IntKind.i64.wrap ((a0 : Int).tmod 7)))).run Tryz.prog w = .ok (.slice (some ⟨w.heap.size, 0, none⟩) (a0 % 7) (a0 % 7)) (w.alloc (.cells zt 212)) := by rw [show IntKind.i64.wrap ((a0 : Int).tmod 7) = ((a0 % 7 : Nat) : Int) from wrap_tmod a0 7 (by omega)]; exact mkT0
    have mkO : ∀ w : World, (Instr.makeSlice 36 (.int .i64 (IntKind.i64.wrap ((a1 : Int).tmod 11))) (.int .i64 (IntKind.i64.wrap ((a1 : Int).tmod 11)))).run Tryz.prog w = .ok (.slice (some ⟨w.heap.size, 0, none⟩) (a1 % 11) (a1 % 11)) (w.alloc (.cells zo 216)) := by rw [show IntKind.i64.wrap ((a1 : Int).tmod 11) = ((a1 % 11 : Nat) : Int) from wrap_tmod a1 11 (by omega)]; exact mkO0
    clear mkT0 mkO0
    rw [hf] at HFEW
    have HE := Lib.hid (fun (TA OA : Option Addr) (q : Int) (hq : AllErr (colL cs) v q) (hq0 : q ≠ 0) w' (h : Below w.heap.size w w') => fchoices_err cs A c v V cv (.slice none 0 0) (.slice none 0 0) (.slice none 0 0) (.slice none 0 0) TA OA (a0 % 7) (a0 % 7) (a1 % 11) (a1 % 11) w' q (hC.below h) (hV.below h) q1 hvl q3 q4 hq hq0 (by omega) (by omega) (he.below h))
    have HEr := Lib.hid (fun (TA OA : Option Addr) (q : Int) (hq : AllErr (colL cs) v q) (hq0 : q ≠ 0) w' (h : Below w.heap.size w w') => frchoices_err cs A c v V cv (.slice none 0 0) (.slice none 0 0) (.slice none 0 0) (.slice none 0 0) TA OA (a0 % 7) (a0 % 7) (a1 % 11) (a1 % 11) w' q (hC.below h) (hV.below h) q1 hvl q3 q4 hq hq0)
    have HO := Lib.hid (fun (TA OA : Option Addr) (hk : AllOK (colL cs) v) w' (h : Below w.heap.size w w') => fchoices_ok cs A c v V cv (.slice none 0 0) (.slice none 0 0) (.slice none 0 0) (.slice none 0 0) TA OA (a0 % 7) (a0 % 7) (a1 % 11) (a1 % 11) w' (hC.below h) (hV.below h) q1 hvl q3 q4 hk (by omega) (by omega) (he.below h) (hr.below h))
    have HOr := Lib.hid (fun (TA OA : Option Addr) (hk : AllOK (colL cs) v) w' (h : Below w.heap.size w w') => frchoices_ok cs A c v V cv (.slice none 0 0) (.slice none 0 0) (.slice none 0 0) (.slice none 0 0) TA OA (a0 % 7) (a0 % 7) (a1 % 11) (a1 % 11) w' (hC.below h) (hV.below h) q1 hvl q3 q4 hk (by omega) (by omega))
    have HIr := Lib.hid (fun (hle : cs.length ≤ v.length) w' (h : Below w.heap.size w w') => show Calls Tryz.prog 15 #[.slice V cs.length cv] w' fun e w'' => e = .returned (.bool ((v.take cs.length).all wholeQ)) ∧ Below w'.heap.size w' w'' from by
      have h1 := frintegral_any (v.take cs.length) V cv w' (by rw [show strs (v.take cs.length) = (strs v).take cs.length from by unfold strs; rw [List.map_take]]; exact (hV.below h).take _) (by rw [List.length_take]; omega) (fun x hx => q3 x (List.mem_of_mem_take hx))
      rw [List.length_take, Nat.min_eq_left hle] at h1
      exact h1)
    have HSUM := Lib.hid (few_sums (l := colL cs) (v := v) (by rw [colL_len]; exact p1) p3)
    have HLEN := Lib.hid (show cs.length ≤ v.length → (v.take cs.length).all wholeQ = true → choicesD (colL cs) v (a0 % 7) (a1 % 11) = [] from fun h1 h2 => few_whole (by rw [colL_len]; exact p1) p3 (by rw [colL_len]; exact h1) (by rw [colL_len]; exact h2) _ _)
    have HL := Lib.hid (choicesD_len (colL cs) v (a0 % 7) (a1 % 11) (by omega) (by omega))
    have HCV := Lib.hid (show cs.length ≤ v.length → cs.length ≤ cv from fun h => Nat.le_trans h hvl.1)
    clear hC hV hl hvl hvx hok hf p1 p2 p3 p4 q1 q3 q4 he hr
    go_enter Tryz.func4, Tryz.ntmps4
    go_wp2_with fail
    refine (HFEW.out _ (HAT.out _ (Below.refl _ _)).1).mono ?_
    rintro e _ ⟨rfl, rfl⟩
    obtain ⟨b1, d0, d1, s1⟩ := HAT.out _ (Below.refl _ _)
    have HB1 := Lib.hid (Below.refl (w.heap.size + 1) (w.alloc (.cells #[.int .u8 a0, .int .u8 a1] 34)))
    generalize w.alloc (.cells #[.int .u8 a0, .int .u8 a1] 34) = w1 at *
    have hlt : w.heap.size < w1.heap.size := s1
    clear b1
    go_upto_region 3 with fail
    go_cut [7] (fun p wx => ∃ (b : Nat) (TA OA : Option Addr), p = .pointer (some ⟨b, 0, none⟩) ∧ wx.heap[b]? = some (.cells (insC (.slice none 0 0) (.slice none 0 0) TA (a0 % 7) (a0 % 7) OA (a1 % 11) (a1 % 11) (.slice none 0 0) (.slice none 0 0)) 43) ∧ Below w1.heap.size w1 wx)
    case first =>
      clear HFEW HAW HAT HB1
      go_region
      all_goals
        go_wp2_with fail
        go_meet
        first
          | exact ⟨_, _, _, rfl, (three_at _ _ _ _).1, (three_at _ _ _ _).2.2.2⟩
          | exact ⟨_, _, _, rfl, (three_at _ _ _ _).2.1, (three_at _ _ _ _).2.2.2⟩
          | exact ⟨_, _, _, rfl, (three_at _ _ _ _).2.2.1, (three_at _ _ _ _).2.2.2⟩
    case rest =>
      obtain ⟨b, TA, OA, rfl, hrow, hbel⟩ := hcut
      have HB2 := Lib.hid (HB1.out.trans (hbel.mono s1))
      obtain ⟨b2, _, _, s2⟩ := HAT.out wc HB2.out
      obtain ⟨d0, d1, d2, d3, d4, d5⟩ := ins_all hrow (Below.refl _ _)
      have HX := Lib.hid (fun w' (h : Below wc.heap.size wc w') => ins_all hrow h)
      clear hrow mkT mkO hbel hlt s1
      rcases HSUM.out with ⟨q, hq0, hq⟩ | ⟨hk, hle, _⟩
      · have HEQ := Lib.hid (fun w' h => HE.out TA OA q hq hq0 w' h)
        have HEQr := Lib.hid (fun w' h => HEr.out TA OA q hq hq0 w' h)
        have hqb : (q == 0) = false := by rw [beq_eq_false_iff_ne]; exact hq0
        clear hq
        go_wp2_with fail
        refine (HEQ.out wc b2).mono ?_
        rintro e w2 ⟨rfl, hb⟩
        have HB3 := Lib.hid (b2.trans (hb.mono b2.size))
        obtain ⟨d0, d1, d2, d3, d4, d5⟩ := HX.out w2 hb
        clear hb
        go_wp2_with fail
        refine (HEQr.out w2 HB3.out).mono ?_
        rintro e w3 ⟨rfl, hb⟩
        have HB4 := Lib.hid (HB3.out.trans (hb.mono HB3.out.size))
        clear hb
        go_wp2_with fail
        go_loop [12] (fun i => i = .int .i64 0) (fun i => 0)
        case atStart => rfl
        case round =>
          obtain rfl := hrel
          go_wp2_with fail
          refine (HAW.out w3 HB4.out).mono ?_
          rintro e w4 ⟨rfl, hb⟩
          have HB5 := Lib.hid (HB4.out.trans (hb.mono HB4.out.size))
          go_wp2_with fail
          go_ret
          exact ⟨rfl, HB5.out⟩
      · have HOK := Lib.hid (fun w' h => HO.out TA OA hk w' h)
        have HOKr := Lib.hid (fun w' h => HOr.out TA OA hk w' h)
        have HINT := Lib.hid (HIr.out (by rw [colL_len] at hle; exact hle))
        have HNIL := Lib.hid (HLEN.out (by rw [colL_len] at hle; exact hle))
        have hle' : cs.length ≤ v.length := by rw [colL_len] at hle; exact hle
        have hcv := HCV.out hle'
        clear hk hle HLEN HIr HO HOr HE HEr
        generalize hL : choicesD (colL cs) v (a0 % 7) (a1 % 11) = L at *
        clear hL
        go_wp2_with fail
        refine (HOK.out wc b2).mono ?_
        rintro e w2 ⟨O, co, rfl, hown, hb⟩
        have HB3 := Lib.hid (b2.trans (hb.mono b2.size))
        obtain ⟨d0, d1, d2, d3, d4, d5⟩ := HX.out w2 hb
        clear hb
        go_wp2_with fail
        refine (HOKr.out w2 HB3.out).mono ?_
        rintro e w3 ⟨O2, co2, rfl, hown2, hb⟩
        have HB4 := Lib.hid (HB3.out.trans (hb.mono HB3.out.size))
        have HD1 := Lib.hid (fun w' (h : Below w3.heap.size w3 w') i (hi : i < L.length) => dec_at ((hown.below hb).below h) hi)
        have HD2 := Lib.hid (fun w' (h : Below w3.heap.size w3 w') i (hi : i < L.length) => dec_at (hown2.below h) hi)
        clear hb hown hown2 d0 d1 d2 d3 d4 d5
        go_wp2_with fail
        go_loopw [12] (fun i wr => ∃ k : Nat, k ≤ L.length ∧ i = .int .i64 k ∧ Below w3.heap.size w3 wr) (fun i _ => L.length - (intOf i).toNat)
        case atStart => exact ⟨0, Nat.zero_le _, rfl, Below.refl _ _⟩
        case round =>
          obtain ⟨k, hk, rfl, hbel⟩ := hrel
          have HBR := Lib.hid hbel
          clear hbel
          have hLl := HL.out
          by_cases hlt : k < L.length
          · obtain ⟨g1, rfl, x0, x1, x2, x3⟩ := HD1.out wr HBR.out k hlt
            obtain ⟨g2, rfl, y0, y1, y2, y3⟩ := HD2.out wr HBR.out k hlt
            generalize L[k] = d at *
            have hlt' : (k : Int) < (L.length : Int) := by omega
            go_wp2_with fail
            go_quiet (fail)
            go_wp2_with fail
            go_roundw
            case rel => exact ⟨k + 1, by omega, by go_num, below_drewN HBR.out _⟩
            case measure => simp [intOf]; omega
          · have BR := HB4.out.trans (HBR.out.mono HB4.out.size)
            go_wp2_with fail
            refine (HINT.out wr BR).mono ?_
            rintro e w4 ⟨rfl, hb⟩
            have HB5 := Lib.hid (BR.trans (hb.mono BR.size))
            clear hb BR
            have HN := Lib.hid (fun h => HNIL.out h)
            cases hw : (v.take cs.length).all wholeQ
            · go_wp2_with fail
              refine (HAW.out w4 HB5.out).mono ?_
              rintro e w5 ⟨rfl, hb⟩
              have HB6 := Lib.hid (HB5.out.trans (hb.mono HB5.out.size))
              go_wp2_with fail
              go_ret
              exact ⟨rfl, HB6.out⟩
            · obtain rfl := HNIL.out hw
              go_wp2_with fail
              refine (HAW.out w4 HB5.out).mono ?_
              rintro e w5 ⟨rfl, hb⟩
              have HB6 := Lib.hid (HB5.out.trans (hb.mono HB5.out.size))
              go_wp2_with fail
              go_ret
              exact ⟨rfl, HB6.out⟩
  · rw [show fewF cs v = false by simpa using hf] at HFEW
    clear hC hV hl hvl hvx hok hf he hr
    go_enter Tryz.func4, Tryz.ntmps4
    go_wp2_with fail
    refine (HFEW.out _ (HAT.out _ (Below.refl _ _)).1).mono ?_
    rintro e _ ⟨rfl, rfl⟩
    obtain ⟨b1, d0, d1, s1⟩ := HAT.out _ (Below.refl _ _)
    go_wp2_with fail
    refine (HAW.out _ b1).mono ?_
    rintro e w2 ⟨rfl, hb⟩
    have HB2 := Lib.hid (b1.trans (hb.mono b1.size))
    go_wp2_with fail
    go_ret
    exact ⟨rfl, HB2.out⟩
theorem fractionChooses_walk (a0 a1 : Nat) (cs : List ColV) (A : Option Addr) (c : Nat) (v : List Str) (V : Option Addr) (cv : Nat) (w : World) (h0 : a0 < 256) (h1 : a1 < 256) (hn : cs.length ≤ c) (hc : c ≤ maxLen) (hs : ColsAt w A cs) (ho : ∀ r ∈ cs, r.ok) (hx : Cells w V (strs v)) (hvn : v.length ≤ cv) (hvc : cv ≤ maxLen) (hvs : ∀ x ∈ v, x.length ≤ maxLen) (he : Env w) (hr : ErrV w) :
    Calls Tryz.prog 4 #[.agg #[.int .u8 a0, .int .u8 a1], .slice A cs.length c, .slice V v.length cv] w fun e w' => e = .returned (.bool true) ∧ Below w.heap.size w w' :=
  fmade_any cs A c v V cv a0 a1 w h0 h1 hs hx (Nat.le_trans hn hc) ⟨hvn, hvc⟩ hvs ho he hr
end Go.Proofs.YtblefdgfmjegiaaGreatDoor
