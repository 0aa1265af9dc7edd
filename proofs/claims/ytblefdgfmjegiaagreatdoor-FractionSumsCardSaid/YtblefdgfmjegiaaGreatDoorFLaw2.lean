/- The laws of fraction: awake. -/
import Derived.Test.YtblefdgfmjegiaaGreatDoorFLaw1
namespace Go.Proofs.YtblefdgfmjegiaaGreatDoor
open Go.RowKit Num
set_option linter.unusedVariables false
attribute [local go_sem] B_size B_get B_toList B_mk B_extract B_append

instance : DecidableEq Dec := fun a b => decidable_of_iff (a.k = b.k ∧ a.a = b.a ∧ a.b = b.b ∧ a.n = b.n) (by cases a; cases b; simp)
def colE (s : Int) : ColV := ⟨0, s, 0, 0, 0, none, 0, 0, none, 0, 0⟩
def awC : List ColV := [colE 3, colE 6, colE 5]
def awV : List Str := [[49, 47, 50], [49, 47, 50], [49, 47, 50]]
def awD : List Dec := [⟨3, 0, 0, 1⟩, ⟨1, 0, 1, 0⟩, ⟨1, 0, 2, 0⟩, ⟨1, 1, 2, 0⟩]
theorem aw_choices : choicesD (colL awC) awV 1 3 = awD := by decide +kernel
theorem aw_ok : AllOK (colL awC) awV := by
  rcases few_sums (l := colL awC) (v := awV) (by decide) (by decide) with ⟨q, hq, h⟩ | h
  · have h1 := h (isType 0)
    rw [show sumQ (ones (isType 0) (colL awC)) awV = ([51, 47, 50], 0) by decide +kernel] at h1
    injection h1 with h1 _
    cases h1
  · exact h.1
theorem cols_new (w : World) (cs : List ColV) (us : Array Value) (h : us.toList = cs.flatMap ColV.cells) : ColsAt (w.alloc (.cells us 57)) (some ⟨w.heap.size, 0, none⟩) cs := by
  intro h0
  refine ⟨w.heap.size, 0, rfl, by simp, fun i hi j v hv => ?_⟩
  have hj : j < 7 := by
    have := (List.getElem?_eq_some_iff.1 hv).1
    simpa [ColV.cells] using this
  rw [World.cell?_alloc_new, ← Array.getElem?_toList, h]
  have key : ∀ (l : List ColV) (i : Nat) (hi : i < l.length) (j : Nat) (hj : j < 7), (l.flatMap ColV.cells)[0 + i * 7 + j]? = l[i].cells[j]? := by
    intro l
    induction l with
    | nil => intro i hi; exact absurd hi (by simp)
    | cons r l ih =>
      intro i hi j hj
      rw [List.flatMap_cons]
      have hl : r.cells.length = 7 := rfl
      cases i with
      | zero => rw [List.getElem?_append_left (by omega)]; simp
      | succ i =>
        rw [List.getElem?_append_right (by omega), hl, show 0 + (i + 1) * 7 + j - 7 = 0 + i * 7 + j by omega]
        exact ih i (by simpa using hi) j hj
  rw [key cs i hi j hj]
  exact hv
theorem rats3_new (w : World) : Cells (w.alloc (.cells #[.string (B [49, 47, 50]), .string (B [49, 47, 50]), .string (B [49, 47, 50])] 27)) (some ⟨w.heap.size, 0, none⟩) (strs awV) := (OwnS.lit w 27 #[.string (B [49, 47, 50]), .string (B [49, 47, 50]), .string (B [49, 47, 50])] w.heap.size 3 (Nat.le_refl _) rfl (by unfold maxLen; omega)).cells
theorem three_new {w W : World} (hs : W.heap.size = w.heap.size + 1) (x y z : Obj) : (((W.alloc x).alloc y).alloc z).drew.heap[w.heap.size + 1]? = some x ∧ (((W.alloc x).alloc y).alloc z).drew.heap[w.heap.size + 1 + 1]? = some y ∧ (((W.alloc x).alloc y).alloc z).drew.heap[w.heap.size + 1 + 1 + 1]? = some z ∧ Below (w.heap.size + 1) W (((W.alloc x).alloc y).alloc z).drew := by
  have e : (((W.alloc x).alloc y).alloc z).drew.heap = ((W.heap.push x).push y).push z := rfl
  refine ⟨?_, ?_, ?_, ?_⟩
  · rw [e, Array.getElem?_push, if_neg (by simp; omega), Array.getElem?_push, if_neg (by simp; omega), Array.getElem?_push, if_pos (by omega)]
  · rw [e, Array.getElem?_push, if_neg (by simp; omega), Array.getElem?_push, if_pos (by simp; omega)]
  · rw [e, Array.getElem?_push, if_pos (by simp; omega)]
  · exact ((((Below.refl _ _).alloc (by omega) _).alloc (by rw [World.size_alloc]; omega) _).alloc (by rw [World.size_alloc, World.size_alloc]; omega) _).drew
theorem dec4_at {w : World} {Bs : Nat} {O : Option Addr} {co : Nat} (h : OwnR w Bs 48 4 O awD.length co (decCells awD)) : ∃ g, O = some ⟨g, 0, none⟩ ∧ (w.cell? ⟨g, 0, none⟩ = some (.int .i64 3) ∧ w.cell? ⟨g, 1, none⟩ = some (.int .i64 0) ∧ w.cell? ⟨g, 2, none⟩ = some (.int .i64 0) ∧ w.cell? ⟨g, 3, none⟩ = some (.int .i64 1)) ∧ w.cell? ⟨g, 4, none⟩ = some (.int .i64 1) ∧ w.cell? ⟨g, 5, none⟩ = some (.int .i64 0) ∧ w.cell? ⟨g, 6, none⟩ = some (.int .i64 1) ∧ w.cell? ⟨g, 7, none⟩ = some (.int .i64 0) := by
  obtain ⟨g, e, _, _, hc, _⟩ := h.at_ (by decide)
  have hk : ∀ j, j < 16 → w.cell? ⟨g, j, none⟩ = (decCells awD)[j]? := fun j hj => hc j hj
  exact ⟨g, e, ⟨hk 0 (by omega), hk 1 (by omega), hk 2 (by omega), hk 3 (by omega)⟩, hk 4 (by omega), hk 5 (by omega), hk 6 (by omega), hk 7 (by omega)⟩
theorem fint1 (w : World) (he : Env w) : Calls Tryz.prog 14 #[.slice (some ⟨w.heap.size, 0, none⟩) 2 2] (w.alloc (.cells #[.string (B [49]), .string (B [48])] 27)) fun e w' => e = .returned (.bool true) ∧ Below w.heap.size (w.alloc (.cells #[.string (B [49]), .string (B [48])] 27)) w' := by
  have h := fintegral_any [[49], [48]] (some ⟨w.heap.size, 0, none⟩) 2 (w.alloc (.cells #[.string (B [49]), .string (B [48])] 27)) (OwnS.lit w 27 #[.string (B [49]), .string (B [48])] w.heap.size 2 (Nat.le_refl _) rfl (by unfold maxLen; omega)).cells (by decide) (by decide) (he.below (new_below w _))
  rw [show ([[49], [48]] : List Str).all wholeQ = true by decide +kernel] at h
  refine h.mono ?_
  rintro e w' ⟨rfl, hb⟩
  exact ⟨rfl, hb.mono (by rw [World.size_alloc]; omega)⟩
theorem fint2 (w : World) (he : Env w) : Calls Tryz.prog 14 #[.slice (some ⟨w.heap.size, 0, none⟩) 1 1] (w.alloc (.cells #[.string (B [49, 47, 50])] 27)) fun e w' => e = .returned (.bool false) ∧ Below w.heap.size (w.alloc (.cells #[.string (B [49, 47, 50])] 27)) w' := by
  have h := fintegral_any [[49, 47, 50]] (some ⟨w.heap.size, 0, none⟩) 1 (w.alloc (.cells #[.string (B [49, 47, 50])] 27)) (OwnS.lit w 27 #[.string (B [49, 47, 50])] w.heap.size 1 (Nat.le_refl _) rfl (by unfold maxLen; omega)).cells (by decide) (by decide) (he.below (new_below w _))
  rw [show ([[49, 47, 50]] : List Str).all wholeQ = false by decide +kernel] at h
  refine h.mono ?_
  rintro e w' ⟨rfl, hb⟩
  exact ⟨rfl, hb.mono (by rw [World.size_alloc]; omega)⟩
set_option maxHeartbeats 4000000 in
set_option maxRecDepth 100000 in
theorem fawake_any (w : World) (he : Env w) (hr : ErrV w) : Calls Tryz.prog 7 #[] w fun e w' => e = .returned (.bool true) ∧ Below w.heap.size w w' := by
  obtain ⟨zt, mkT0⟩ := make_types 1 (by omega)
  obtain ⟨zo, mkO0⟩ := make_orders 3 (by omega)
  have mkT : ∀ w : World, (Instr.makeSlice 35 (.int .i64 1) (.int .i64 1)).run Tryz.prog w = .ok (.slice (some ⟨w.heap.size, 0, none⟩) 1 1) (w.alloc (.cells zt 212)) := mkT0
  have mkO : ∀ w : World, (Instr.makeSlice 36 (.int .i64 3) (.int .i64 3)).run Tryz.prog w = .ok (.slice (some ⟨w.heap.size, 0, none⟩) 3 3) (w.alloc (.cells zo 216)) := mkO0
  clear mkT0 mkO0
  go_enter Tryz.func7, Tryz.ntmps7
  simp only [B_mk]
  go_upto_region 2 with fail
  go_cut [2] (fun p wx => ∃ (b : Nat) (TA OA : Option Addr), p = .pointer (some ⟨b, 0, none⟩) ∧ wx.heap[b]? = some (.cells (insC (.slice none 0 0) (.slice none 0 0) TA 1 1 OA 3 3 (.slice none 0 0) (.slice none 0 0)) 43) ∧ Below (w.heap.size + 1) (w.alloc (.cells #[.int .i64 0, .int .i64 3, .int .i64 0, .int .i64 0, .int .i64 0, .slice none 0 0, .slice none 0 0, .int .i64 0, .int .i64 6, .int .i64 0, .int .i64 0, .int .i64 0, .slice none 0 0, .slice none 0 0, .int .i64 0, .int .i64 5, .int .i64 0, .int .i64 0, .int .i64 0, .slice none 0 0, .slice none 0 0] 57)) wx)
  case first =>
    go_region
    all_goals
      go_wp2_with fail
      go_meet
      first
        | exact ⟨_, _, _, rfl, (three_new (World.size_alloc _ _) _ _ _).1, (three_new (World.size_alloc _ _) _ _ _).2.2.2⟩
        | exact ⟨_, _, _, rfl, (three_new (World.size_alloc _ _) _ _ _).2.1, (three_new (World.size_alloc _ _) _ _ _).2.2.2⟩
        | exact ⟨_, _, _, rfl, (three_new (World.size_alloc _ _) _ _ _).2.2.1, (three_new (World.size_alloc _ _) _ _ _).2.2.2⟩
  case rest =>
    obtain ⟨b, TA, OA, rfl, hrow, hbel⟩ := hcut
    have d0 : wc.cell? ⟨b, 0, none⟩ = some (.slice none 0 0) := by rw [cell_of_row wc b 0 _ _ _ hrow]; rfl
    have d1 : wc.cell? ⟨b, 1, none⟩ = some (.slice none 0 0) := by rw [cell_of_row wc b 1 _ _ _ hrow]; rfl
    have d2 : wc.cell? ⟨b, 2, none⟩ = some (.slice TA 1 1) := by rw [cell_of_row wc b 2 _ _ _ hrow]; rfl
    have d3 : wc.cell? ⟨b, 3, none⟩ = some (.slice OA 3 3) := by rw [cell_of_row wc b 3 _ _ _ hrow]; rfl
    have d4 : wc.cell? ⟨b, 4, none⟩ = some (.slice none 0 0) := by rw [cell_of_row wc b 4 _ _ _ hrow]; rfl
    have d5 : wc.cell? ⟨b, 5, none⟩ = some (.slice none 0 0) := by rw [cell_of_row wc b 5 _ _ _ hrow]; rfl
    clear hrow mkT mkO
    have hC := (cols_new w awC _ rfl).below (hbel.mono (Nat.le_of_eq (World.size_alloc _ _)))
    have hbw := (new_below w _).trans (hbel.mono (Nat.le_succ _))
    clear hbel
    go_wp2_with fail
    have hv := rats3_new wc
    have hch := fchoices_ok awC (some ⟨w.heap.size, 0, none⟩) 3 awV (some ⟨wc.heap.size, 0, none⟩) 3 (.slice none 0 0) (.slice none 0 0) (.slice none 0 0) (.slice none 0 0) TA OA 1 1 3 3 _ (hC.below (new_below wc (.cells #[.string (B [49, 47, 50]), .string (B [49, 47, 50]), .string (B [49, 47, 50])] 27))) hv (by decide) (by unfold maxLen; decide) (by decide) (by decide) aw_ok (by decide) (by decide) (he.below (hbw.trans ((new_below wc _).mono hbw.size))) (hr.below (hbw.trans ((new_below wc _).mono hbw.size)))
    rw [aw_choices] at hch
    refine hch.mono ?_
    rintro e w1 ⟨O, co, rfl, hown, hb1⟩
    have hbw1 := (hbw.trans ((new_below wc _).mono hbw.size)).trans (hb1.mono (by rw [World.size_alloc]; exact Nat.le_succ_of_le hbw.size))
    obtain ⟨g, rfl, hcell⟩ := dec4_at hown
    obtain ⟨⟨c0, c1, c2, c3⟩, c4, c5, c6, c7⟩ := hcell
    have HI1 := Lib.hid (fun w' (h : Below w.heap.size w w') => fint1 w' (he.below h))
    have HI2 := Lib.hid (fun w' (h : Below w.heap.size w w') => fint2 w' (he.below h))
    clear hown hch hv hC hb1
    rw [show awD.length = 4 from rfl]
    have HB := Lib.hid hbw1
    have HS := Lib.hid (hbw.size)
    clear hbw hbw1
    go_wp2_with fail
    refine (HI1.out w1 HB.out).mono ?_
    rintro e w2 ⟨rfl, hb2⟩
    have HB2 := Lib.hid ((HB.out.trans ((new_below w1 _).mono HB.out.size)).trans (hb2.mono HB.out.size))
    go_wp2_with fail
    refine (HI2.out w2 HB2.out).mono ?_
    rintro e w3 ⟨rfl, hb3⟩
    have HB3 := Lib.hid ((HB2.out.trans ((new_below w2 _).mono HB2.out.size)).trans (hb3.mono HB2.out.size))
    go_wp2_with fail
    go_ret
    first | exact ⟨rfl, HB3.out⟩ | exact ⟨rfl, HB3.out.drew⟩ | exact ⟨rfl, below_drewN HB3.out _⟩ | exact ⟨rfl, (below_drewN HB3.out _).drew⟩
end Go.Proofs.YtblefdgfmjegiaaGreatDoor
