/- fraction: ask. -/
import Derived.Test.YtblefdgfmjegiaaGreatDoorFProg2
import Derived.Test.YtblefdgfmjegiaaGreatDoorOwnK
namespace Go.Proofs.YtblefdgfmjegiaaGreatDoor
open Go.RowKit Num
set_option linter.unusedVariables false
attribute [local go_sem] B_size B_get B_toList B_mk B_extract B_append

/-- a decision: kind, A, B, N -/
structure Dec where
  k : Int
  a : Int
  b : Int
  n : Int
def Dec.cells (d : Dec) : List Value := [.int .i64 d.k, .int .i64 d.a, .int .i64 d.b, .int .i64 d.n]
def decCells (l : List Dec) : List Value := l.flatMap Dec.cells
theorem decCells_snoc (l : List Dec) (d : Dec) : decCells l ++ d.cells = decCells (l ++ [d]) := by unfold decCells; rw [List.flatMap_append]; simp
theorem dec_info : (Tryz.prog.info? 48).map (fun i => (i.zero, i.size, i.bytes)) = some (some (.agg #[.int .i64 0, .int .i64 0, .int .i64 0, .int .i64 0]), 4, 32) := by kernel_rfl
theorem el_dec : ElemR Tryz.prog 44 48 (.agg #[.int .i64 0, .int .i64 0, .int .i64 0, .int .i64 0]) 4 32 := ⟨Tryz.underlying44, info_parts dec_info, rfl, by decide⟩
/-- the chooser at block g: its decisions, and its error -/
structure AskAt (w : World) (Bs g : Nat) (O : Option Addr) (co : Nat) (q : Int) (l : List Dec) : Prop where
  own : OwnR w Bs 65 2 (some ⟨g, 0, none⟩) 1 1 [.slice O l.length co, .int .i64 q]
  out : OwnR w Bs 48 4 O l.length co (decCells l)
section
variable {w w' : World} {Bs g co : Nat} {O : Option Addr} {q : Int} {l : List Dec}
theorem AskAt.below (h : AskAt w Bs g O co q l) (hb : Below w.heap.size w w') : AskAt w' Bs g O co q l := ⟨h.own.below hb, h.out.below hb⟩
theorem AskAt.cells (h : AskAt w Bs g O co q l) : g < w.heap.size ∧ w.cell? ⟨g, 0, none⟩ = some (.slice O l.length co) ∧ w.cell? ⟨g, 1, none⟩ = some (.int .i64 q) ∧ (∀ j, w.frozen? ⟨g, j, none⟩ = false) := by
  obtain ⟨g', e, h1, h2, h3, h4⟩ := h.own.at_ (by omega)
  injection e with e
  injection e with e _ _
  subst e
  exact ⟨h2, h3 0 (by omega), h3 1 (by omega), h4⟩
theorem AskAt.err (h : AskAt w Bs g O co q l) (p : Int) : AskAt (w.setCell ⟨g, 1, none⟩ (.int .i64 p)) Bs g O co p l :=
  ⟨h.own.stored 1 (.int .i64 p), h.out.other (h.own.ne h.out (by decide))⟩
theorem AskAt.set_below (h : AskAt w Bs g O co q l) (j : Nat) (v : Value) : Below Bs w (w.setCell ⟨g, j, none⟩ v) := (Below.refl _ _).setCell (p := ⟨g, j, none⟩) h.own.typ.1 v
end
/-- behind an error nothing is asked -/
theorem fask_err (w : World) (Bs g : Nat) (O : Option Addr) (co : Nat) (q : Int) (l : List Dec) (a : Str) (e : Int) (d : Dec) (h : AskAt w Bs g O co q l) (hq : q ≠ 0) :
    Calls Tryz.prog 29 #[.pointer (some ⟨g, 0, none⟩), .string (B a), .int .i64 e, .agg #[.int .i64 d.k, .int .i64 d.a, .int .i64 d.b, .int .i64 d.n]] w fun ex w' => ex = .returned (.tuple #[]) ∧ Below w.heap.size w w' := by
  have b0 := new_below w (.cells #[.int .i64 d.k, .int .i64 d.a, .int .i64 d.b, .int .i64 d.n] 48)
  obtain ⟨_, _, c1, _⟩ := (h.below b0).cells
  have hq' : (q != 0) = true := by simpa using hq
  clear h hq
  go_enter Tryz.func29, Tryz.ntmps29
  go_wp2_with fail
  first | go_end0 | refine bodyPost_ret (results_none rfl _ _ _) rfl ?_
  exact ⟨rfl, b0⟩
abbrev Dec.obj (d : Dec) : Obj := .cells #[.int .i64 d.k, .int .i64 d.a, .int .i64 d.b, .int .i64 d.n] 48
abbrev Dec.agg (d : Dec) : Value := .agg #[.int .i64 d.k, .int .i64 d.a, .int .i64 d.b, .int .i64 d.n]
/-- an integer is not asked about -/
theorem fask_int (w0 w : World) (Bs g : Nat) (O : Option Addr) (co : Nat) (l : List Dec) (a : Str) (d : Dec) (h : AskAt w Bs g O co 0 l) (ha : a.length ≤ 1000000) (hs : hasS a = false) (hB : Bs ≤ w.heap.size) (h0 : Below w0.heap.size w0 w) (hB0 : w0.heap.size ≤ Bs) (he : Env w0) :
    Calls Tryz.prog 29 #[.pointer (some ⟨g, 0, none⟩), .string (B a), .int .i64 0, d.agg] w fun ex w' => ex = .returned (.tuple #[]) ∧ AskAt w' Bs g O co 0 l ∧ Below Bs w w' := by
  have b0 := new_below w d.obj
  have h1 := h.below b0
  obtain ⟨hg, c0, c1, cf⟩ := h1.cells
  have cf1 := cf 1
  have h2 := h1.err 0
  have b1 := (b0.mono hB).trans (h1.set_below 1 (.int .i64 0))
  have HI := Lib.hid (fun w he => finteger_any a w ha he)
  rw [hs] at HI
  have HE := Lib.hid (he.below (h0.trans (b1.mono hB0)))
  have H2 := Lib.hid h2
  have B1 := Lib.hid b1
  clear h hs h2 b1 h1 cf
  go_enter Tryz.func29, Tryz.ntmps29
  go_wp2_with fail
  refine (HI.out _ HE.out).mono ?_
  rintro e w2 ⟨rfl, hb2⟩
  have h3 := H2.out.below hb2
  have b2 := B1.out.trans (hb2.mono (Nat.le_trans hB B1.out.size))
  go_wp2_with fail
  first | go_end0 | refine bodyPost_ret (results_none rfl _ _ _) rfl ?_
  exact ⟨rfl, h3, b2⟩
theorem AskAt.grow {w w' : World} {Bs g co : Nat} {O : Option Addr} {q : Int} {l : List Dec} (h : AskAt w Bs g O co q l) {d : Dec} {A' : Option Addr} {c' : Nat} (hown : OwnR w' Bs 48 4 A' (l.length + 1) c' (decCells l ++ d.cells)) (hk : ∀ k, k < w.heap.size → O ≠ some ⟨k, 0, none⟩ → w'.heap[k]? = w.heap[k]?) :
    (w'.cell? ⟨g, 0, none⟩ = some (.slice O l.length co) ∧ w'.frozen? ⟨g, 0, none⟩ = false) ∧ AskAt (w'.setCell ⟨g, 0, none⟩ (.slice A' (l.length + 1) c')) Bs g A' c' q (l ++ [d]) ∧ Below Bs w' (w'.setCell ⟨g, 0, none⟩ (.slice A' (l.length + 1) c')) := by
  have hne := h.own.ne h.out (by decide)
  have h1 : OwnR w' Bs 65 2 (some ⟨g, 0, none⟩) 1 1 [.slice O l.length co, .int .i64 q] := h.own.keep fun b hb => by
    injection hb with hb
    injection hb with hb _ _
    subst hb
    exact hk g h.own.typ.2.1 hne
  obtain ⟨g', e, a1, a2, a3, a4⟩ := h1.at_ (by omega)
  injection e with e
  injection e with e _ _
  subst e
  refine ⟨⟨a3 0 (by omega), a4 0⟩, ⟨?_, ?_⟩, (Below.refl _ _).setCell (p := ⟨g, 0, none⟩) a1 _⟩
  · rw [List.length_append]; exact h1.stored 0 _
  · rw [List.length_append, ← decCells_snoc]; exact hown.other (h1.ne hown (by decide))
theorem cells_new4 {w : World} {e : TypeId} {us : List Value} : ∀ j u, us[j]? = some u → (w.alloc (.cells us.toArray e)).cell? ⟨w.heap.size, j, none⟩ = some u := by
  intro j u hj
  rw [World.cell?_alloc_new]
  simpa using hj
theorem d_cells {w w' : World} {d : Dec} (h : w'.heap[w.heap.size]? = some d.obj) : w'.cell? ⟨w.heap.size, 0, none⟩ = some (.int .i64 d.k) ∧ w'.cell? ⟨w.heap.size, 1, none⟩ = some (.int .i64 d.a) ∧ w'.cell? ⟨w.heap.size, 2, none⟩ = some (.int .i64 d.b) ∧ w'.cell? ⟨w.heap.size, 3, none⟩ = some (.int .i64 d.n) := by
  refine ⟨?_, ?_, ?_, ?_⟩
  · rw [cell_of_row w' w.heap.size 0 _ _ _ h]; rfl
  · rw [cell_of_row w' w.heap.size 1 _ _ _ h]; rfl
  · rw [cell_of_row w' w.heap.size 2 _ _ _ h]; rfl
  · rw [cell_of_row w' w.heap.size 3 _ _ _ h]; rfl
set_option maxRecDepth 100000 in
theorem fask_frac (w0 w : World) (Bs g : Nat) (O : Option Addr) (co : Nat) (l : List Dec) (a : Str) (d : Dec) (h : AskAt w Bs g O co 0 l) (ha : a.length ≤ 1000000) (hs : hasS a = true) (hk : d.k ≠ 3) (hl : l.length ≤ 100000) (hB : Bs ≤ w.heap.size) (h0 : Below w0.heap.size w0 w) (hB0 : w0.heap.size ≤ Bs) (he : Env w0) :
    Calls Tryz.prog 29 #[.pointer (some ⟨g, 0, none⟩), .string (B a), .int .i64 0, d.agg] w fun ex w' => ex = .returned (.tuple #[]) ∧ (∃ O' co', AskAt w' Bs g O' co' 0 (l ++ [d])) ∧ Below Bs w w' := by
  have b0 := new_below w d.obj
  have hgw := h.own.typ.2.1
  have h1 := h.below b0
  obtain ⟨hg, c0, c1, cf⟩ := h1.cells
  have cf1 := cf 1
  have h2 := h1.err 0
  have b1 := (b0.mono hB).trans (h1.set_below 1 (.int .i64 0))
  have hq : ((w.alloc d.obj).setCell ⟨g, 1, none⟩ (.int .i64 0)).heap[w.heap.size]? = some d.obj := by
    rw [Below.heap_setCell _ _ _ _ (by show w.heap.size ≠ g; omega)]; exact row_new
  have HI := Lib.hid (fun w he => finteger_any a w ha he)
  rw [hs] at HI
  have hk' : (d.k == 3) = false := by simpa using hk
  have HE := Lib.hid (he.below (h0.trans (b1.mono hB0)))
  have H2 := Lib.hid h2
  have B1 := Lib.hid b1
  have HQ := Lib.hid hq
  clear h hs h2 b1 h1 cf hq hk hgw
  go_enter Tryz.func29, Tryz.ntmps29
  go_wp2_with fail
  refine (HI.out _ HE.out).mono ?_
  rintro e w2 ⟨rfl, hb2⟩
  have h3 := H2.out.below hb2
  have b2 := B1.out.trans (hb2.mono (Nat.le_trans hB B1.out.size))
  obtain ⟨e0, e1, e2, e3⟩ := d_cells (row_on HQ.out hb2)
  obtain ⟨hg3, f0, f1, ff⟩ := h3.cells
  have ff0 := ff 0
  have HO := Lib.hid (fun obj => h3.below ((new_below w2 obj).drew))
  have HB2 := Lib.hid (fun obj => b2.trans (((Below.refl Bs w2).alloc (Nat.le_trans hB (Nat.le_trans B1.out.size hb2.size)) obj).drew))
  clear h3 ff b2
  go_wp2_with fail
  go_region_law (first
    | (refine step_app1r el_dec rfl _ _ rfl Bs O l.length co (decCells l) _ _ d.cells rfl (HO.out _).out rfl rfl cells_new4 (by intro u hu; simp [Dec.cells] at hu; rcases hu with rfl | rfl | rfl | rfl <;> rfl) (by unfold maxLen; omega) (by omega) (Nat.le_trans hB (HB2.out _).size) ?_; intro A3 c3 w3 hown3 hb3 hk3; obtain ⟨⟨k0, k1⟩, hA4, hb4⟩ := (HO.out d.obj).grow hown3 hk3))
  all_goals
    go_wp2_with fail
    go_end0
    exact ⟨rfl, ⟨A3, c3, hA4⟩, ((HB2.out d.obj).trans hb3).trans hb4⟩
/-- the decision with its number -/
def Dec.put (d : Dec) (z : Int) : Dec := ⟨d.k, d.a, d.b, z⟩
theorem AskAt.off {w : World} {Bs g co : Nat} {O : Option Addr} {q : Int} {l : List Dec} (h : AskAt w Bs g O co q l) {n j : Nat} {u : Value} (h1 : g ≠ n) (h2 : O ≠ some ⟨n, 0, none⟩) : AskAt (w.setCell ⟨n, j, none⟩ u) Bs g O co q l :=
  ⟨h.own.other (by intro e; injection e with e; injection e with e _ _; exact h1 e), h.out.other h2⟩
set_option maxHeartbeats 1000000 in
set_option maxRecDepth 100000 in
theorem fask_most (w0 w : World) (Bs g : Nat) (O : Option Addr) (co : Nat) (l : List Dec) (a : Str) (d : Dec) (h : AskAt w Bs g O co 0 l) (ha : SumOK a) (hs : hasS a = true) (hk : d.k = 3) (hl : l.length ≤ 100000) (hB : Bs ≤ w.heap.size) (h0 : Below w0.heap.size w0 w) (hB0 : w0.heap.size ≤ Bs) (he : Env w0) (hr : ErrV w0) :
    Calls Tryz.prog 29 #[.pointer (some ⟨g, 0, none⟩), .string (B a), .int .i64 0, d.agg] w fun ex w' => ex = .returned (.tuple #[]) ∧ (∃ O' co', AskAt w' Bs g O' co' 0 (l ++ [d.put (floorZ a)])) ∧ Below Bs w w' := by
  obtain ⟨hf1, hf2, _⟩ := floor_ok ha
  have hal := ha.len
  have hzl := fits_len hf2
  have b0 := new_below w d.obj
  have hgw := h.own.typ.2.1
  have hOn : O ≠ some ⟨w.heap.size, 0, none⟩ := by
    intro e
    have h9 := h.out
    rw [e] at h9
    have := h9.typ.2.1
    omega
  have h1 := h.below b0
  obtain ⟨hg, c0, c1, cf⟩ := h1.cells
  have cf1 := cf 1
  have h2 := h1.err 0
  have b1 := (b0.mono hB).trans (h1.set_below 1 (.int .i64 0))
  have hd0 : OwnR (w.alloc d.obj) Bs 48 4 (some ⟨w.heap.size, 0, none⟩) 1 1 d.cells := by
    refine ⟨rfl, .inr ⟨w.heap.size, 1, #[.int .i64 d.k, .int .i64 d.a, .int .i64 d.b, .int .i64 d.n], rfl, hB, row_new, Nat.le_refl _, by unfold maxLen; omega, rfl, rfl⟩⟩
  have hd1 : OwnR ((w.alloc d.obj).setCell ⟨g, 1, none⟩ (.int .i64 0)) Bs 48 4 (some ⟨w.heap.size, 0, none⟩) 1 1 d.cells := hd0.other (by intro e; injection e with e; injection e with e _ _; omega)
  have HI := Lib.hid (fun w he => finteger_any a w (by omega) he)
  rw [hs] at HI
  have HFL := Lib.hid (fun w he => qfloor_any a w (by omega) he)
  have HWI := Lib.hid (fun w he => wint_any (decI (floorZ a)) w (by omega) he)
  rw [hf1, show rightE a = 0 by unfold rightE; rw [if_pos ha.right]] at HFL
  rw [(num_decI hf2).1, (num_decI hf2).2] at HWI
  generalize floorZ a = z at *
  have hk' : (d.k == 3) = true := by simpa using hk
  have HE := Lib.hid (fun w' (hb : Below Bs w w') => show Env w' ∧ ErrV w' from ⟨he.below (h0.trans (hb.mono hB0)), hr.below (h0.trans (hb.mono hB0))⟩)
  have H2 := Lib.hid h2
  have B1 := Lib.hid b1
  have HD := Lib.hid hd1
  have HNE := Lib.hid (show g ≠ w.heap.size by omega)
  have HON := Lib.hid hOn
  clear h hs h2 b1 h1 cf hk hgw hf1 hf2 ha hd0 hd1 hOn
  go_enter Tryz.func29, Tryz.ntmps29
  go_wp2_with fail
  refine (HI.out _ (HE.out _ B1.out).1).mono ?_
  rintro e w2 ⟨rfl, hb2⟩
  have b2 := B1.out.trans (hb2.mono (Nat.le_trans hB B1.out.size))
  obtain ⟨gd, ed, _, _, hdc, _⟩ := (HD.out.below hb2).at_ (by omega)
  injection ed with ed
  injection ed with ed _ _
  subst ed
  have e0 : w2.cell? ⟨w.heap.size, 0, none⟩ = some (.int .i64 d.k) := hdc 0 (by omega)
  clear hdc
  go_wp2_with fail
  refine (HFL.out _ (HE.out _ b2).1).mono ?_
  rintro e w3 ⟨rfl, hb3⟩
  have b3 := b2.trans (hb3.mono (Nat.le_trans hB b2.size))
  go_wp2_with fail
  refine (HWI.out _ (HE.out _ b3).2).mono ?_
  rintro e w4 ⟨rfl, hb4⟩
  have hb24 := (hb2.trans (hb3.mono hb2.size)).trans (hb4.mono (Nat.le_trans hb2.size hb3.size))
  have b4 := B1.out.trans (hb24.mono (Nat.le_trans hB B1.out.size))
  have h4 := H2.out.below hb24
  have d4 := HD.out.below hb24
  obtain ⟨gd, ed, _, hdlt, hdc, hdf⟩ := d4.at_ (by omega)
  injection ed with ed
  injection ed with ed _ _
  subst ed
  have e3 : w4.cell? ⟨w.heap.size, 3, none⟩ = some (.int .i64 d.n) := hdc 3 (by omega)
  have f3 := hdf 3
  have h5 := h4.off (j := 3) (u := .int .i64 z) HNE.out HON.out
  have d5 := d4.stored 3 (.int .i64 z)
  obtain ⟨hg5, _, k5, kf5⟩ := h5.cells
  have kf51 := kf5 1
  have h6 := h5.err 0
  have d6 : OwnR ((w4.setCell ⟨w.heap.size, 3, none⟩ (.int .i64 z)).setCell ⟨g, 1, none⟩ (.int .i64 0)) Bs 48 4 (some ⟨w.heap.size, 0, none⟩) 1 1 (d.put z).cells := d5.other (by intro e; injection e with e; injection e with e _ _; exact HNE.out e.symm)
  have b6 := (b4.trans ((Below.refl Bs w4).setCell (p := ⟨w.heap.size, 3, none⟩) hB (.int .i64 z))).trans (h5.set_below 1 (.int .i64 0))
  obtain ⟨hg6, k60, k61, kf6⟩ := h6.cells
  have kf60 := kf6 0
  obtain ⟨gd, ed, _, _, hdc6, _⟩ := d6.at_ (by omega)
  injection ed with ed
  injection ed with ed _ _
  subst ed
  have m0 : ((w4.setCell ⟨w.heap.size, 3, none⟩ (.int .i64 z)).setCell ⟨g, 1, none⟩ (.int .i64 0)).cell? ⟨w.heap.size, 0, none⟩ = some (.int .i64 d.k) := hdc6 0 (by omega)
  have m1 : ((w4.setCell ⟨w.heap.size, 3, none⟩ (.int .i64 z)).setCell ⟨g, 1, none⟩ (.int .i64 0)).cell? ⟨w.heap.size, 1, none⟩ = some (.int .i64 d.a) := hdc6 1 (by omega)
  have m2 : ((w4.setCell ⟨w.heap.size, 3, none⟩ (.int .i64 z)).setCell ⟨g, 1, none⟩ (.int .i64 0)).cell? ⟨w.heap.size, 2, none⟩ = some (.int .i64 d.b) := hdc6 2 (by omega)
  have m3 : ((w4.setCell ⟨w.heap.size, 3, none⟩ (.int .i64 z)).setCell ⟨g, 1, none⟩ (.int .i64 0)).cell? ⟨w.heap.size, 3, none⟩ = some (.int .i64 z) := hdc6 3 (by omega)
  have HM := Lib.hid (show _ ∧ _ ∧ _ ∧ _ ∧ _ from ⟨m0, m1, m2, m3, k60⟩)
  have HO := Lib.hid (fun obj => h6.below ((new_below ((w4.setCell ⟨w.heap.size, 3, none⟩ (.int .i64 z)).setCell ⟨g, 1, none⟩ (.int .i64 0)) obj).drew))
  have HB2 := Lib.hid (fun obj => b6.trans (((Below.refl Bs _).alloc (Nat.le_trans hB b6.size) obj).drew))
  clear hdc hdf hdc6 h4 d4 h5 d5 h6 d6 kf5 kf6 m0 m1 m2 m3 k60 e0
  go_wp2_with fail
  clear e3 f3 k5 kf51 hg5 k61
  generalize (w4.setCell ⟨w.heap.size, 3, none⟩ (.int .i64 z)).setCell ⟨g, 1, none⟩ (.int .i64 0) = w6 at *
  obtain ⟨m0, m1, m2, m3, k60⟩ := HM.out
  go_region_law (first
    | (refine step_app1r el_dec rfl _ _ rfl Bs O l.length co (decCells l) _ _ (d.put z).cells rfl (HO.out _).out rfl rfl cells_new4 (by intro u hu; simp [Dec.cells] at hu; rcases hu with rfl | rfl | rfl | rfl <;> rfl) (by unfold maxLen; omega) (by omega) (Nat.le_trans hB (HB2.out _).size) ?_; intro A3 c3 w3 hown3 hb3 hk3; obtain ⟨⟨k0, k1⟩, hA4, hb4⟩ := (HO.out (d.put z).obj).grow hown3 hk3))
  all_goals
    go_wp2_with fail
    go_end0
    exact ⟨rfl, ⟨A3, c3, hA4⟩, ((HB2.out (d.put z).obj).trans hb3).trans hb4⟩
end Go.Proofs.YtblefdgfmjegiaaGreatDoor
