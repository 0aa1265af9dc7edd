/- A matrix of numbers that came in (a [][]api.Rat), as the walk wants it. -/
import Derived.Test.YtmppmdmekomjbaaGreatDoorG15
import Derived.Test.YtmppmdmekomjbaaGreatDoorG19
namespace Go.Proofs.YtmppmdmekomjbaaGreatDoor
open Go.ChangeShapes Go.WideShapes Go.RowKit Num
set_option linter.unusedVariables false
/-- a list of numbers as it lies in memory -/
structure VecV where
  A : Option Addr
  c : Nat
  xs : List Str
/-- the rows at an address -/
def MatAt (w : World) (A : Option Addr) (rs : List VecV) : Prop :=
  (0 < rs.length → ∃ b off, A = some ⟨b, off, none⟩ ∧ b < w.heap.size ∧ ∀ i (hi : i < rs.length), w.cell? ⟨b, off + i, none⟩ = some (.slice rs[i].A rs[i].xs.length rs[i].c)) ∧
  ∀ r ∈ rs, Cells w r.A (strs r.xs)
theorem MatAt.below {w w' : World} {A : Option Addr} {rs : List VecV} (h : MatAt w A rs) (hb : Below w.heap.size w w') : MatAt w' A rs := by
  refine ⟨fun h0 => ?_, fun r hr => (h.2 r hr).below hb⟩
  obtain ⟨b, off, e, hlt, hc⟩ := h.1 h0
  exact ⟨b, off, e, Nat.lt_of_lt_of_le hlt hb.size, fun i hi => (hb.cell (p := ⟨b, off + i, none⟩) hlt).trans (hc i hi)⟩
/-- what of a row is known by its type -/
def VecV.ok (r : VecV) : Prop := r.xs.length ≤ r.c ∧ r.c ≤ maxLen ∧ ∀ x ∈ r.xs, x.length ≤ maxLen
section
variable {H : Type} {enc : TypeId × Value → H} {W : World} {P : Program} {t ts te : TypeId}
theorem open_strs_cells (ht : P.underlying ts = some (.slice te)) (he : P.underlying te = some .string) (hc : P.cellsOf te = 1) {fuel : Nat} {cs : List Value} {x : DataW H × List MemPlace}
    (hf : DataW.trod enc P W 0 (fun _ => true) true fuel ts cs = some x) :
    ∃ r : VecV, cs = [.slice r.A r.xs.length r.c] ∧ r.ok ∧ Cells W r.A (Go.Proofs.YtmppmdmekomjbaaGreatDoor.strs r.xs) := by
  have hcs : ∃ a len cap, cs = [.slice a len cap] := by
    rcases open_strings ht he hc hf with ⟨hcs, _⟩ | ⟨a, len, cap, _, hcs, _⟩
    · exact ⟨_, _, _, hcs⟩
    · exact ⟨_, _, _, hcs⟩
  obtain ⟨a, len, cap, rfl⟩ := hcs
  obtain ⟨A, ls, c, hv, h1, h2, h3, h4⟩ := open_strs_list (v := .slice a len cap) (d := x.1) (p := x.2) ht he hc ⟨_, _, _, rfl⟩ ⟨fuel, by simpa [Value.cells] using hf⟩
  exact ⟨⟨A, c, ls⟩, by rw [hv], ⟨h1, h2, h4⟩, h3⟩
theorem open_mat (ht : P.underlying t = some (.slice ts)) (hts : P.underlying ts = some (.slice te)) (he : P.underlying te = some .string) (hce : P.cellsOf te = 1) (hcs : P.cellsOf ts = 1) {v : Value} {d : DataW H} {p : List MemPlace}
    (hv : ∃ a len cap, v = .slice a len cap) (h : DataW.Trod enc P W 0 (fun _ => true) true t v d p) :
    ∃ (A : Option Addr) (rs : List VecV) (c : Nat), v = .slice A rs.length c ∧ rs.length ≤ c ∧ c ≤ maxLen ∧ MatAt W A rs ∧ ∀ r ∈ rs, r.ok := by
  obtain ⟨a0, len0, cap0, rfl⟩ := hv
  obtain ⟨fuel, hf0⟩ := h
  have hf : DataW.trod enc P W 0 (fun _ => true) true fuel t [.slice a0 len0 cap0] = some (d, p) := by simpa [Value.cells] using hf0
  rcases DataW.trod_slice ht hf with ⟨h1, _⟩ | ⟨a, len, cap, elems, rest, n, _, hc1, _, _, hl, hm, hlen, hel, _, _⟩
  · injection h1 with h1 _
    exact ⟨none, [], 0, h1, by simp, by unfold maxLen; omega, ⟨fun h => absurd h (by simp), fun r hr => absurd hr (by simp)⟩, fun r hr => absurd hr (by simp)⟩
  · rw [hcs] at hel
    injection hc1 with hc1 _
    have key : ∀ i, i < len → ∃ r : VecV, W.cell? ((a.add (i * 1)).add 0) = some (.slice r.A r.xs.length r.c) ∧ r.ok ∧ Cells W r.A (Go.Proofs.YtmppmdmekomjbaaGreatDoor.strs r.xs) := by
      intro i hi
      have h1 := hel i hi
      rw [List.getElem?_eq_getElem (show i < elems.length by omega)] at h1
      obtain ⟨us, hu1, hu2⟩ := Option.bind_eq_some_iff.1 h1
      obtain ⟨_, hu3, hu4⟩ := World.cells?_some hu1
      obtain ⟨r, rfl, hr1, hr2⟩ := open_strs_cells hts he hce hu2
      exact ⟨r, hu4 0 (by omega), hr1, hr2⟩
    obtain ⟨rs, hrl, hrp⟩ := list_choose len _ key
    have hin : ∀ r ∈ rs, r.ok ∧ Cells W r.A (Go.Proofs.YtmppmdmekomjbaaGreatDoor.strs r.xs) := by
      intro r hr
      obtain ⟨i, hi, rfl⟩ := List.getElem_of_mem hr
      exact (hrp i hi).2
    refine ⟨some a, rs, cap, by rw [hc1, hrl], by omega, hm, ⟨fun h0 => ?_, fun r hr => (hin r hr).2⟩, fun r hr => (hin r hr).1⟩
    obtain ⟨b, off, spot⟩ := a
    have h00 := (hrp 0 h0).1
    have hspot : spot = none := by simpa [Addr.add] using World.cell?_spot h00
    subst hspot
    rw [add_plain] at h00
    refine ⟨b, off, rfl, lt_of_cell h00, fun i hi => ?_⟩
    have h1 := (hrp i hi).1
    rw [add_plain, add_plain] at h1
    simpa using h1
end
end Go.Proofs.YtmppmdmekomjbaaGreatDoor
/- A slice that came in and has no address is nil. -/
namespace Go.Proofs.YtmppmdmekomjbaaGreatDoor
open Go.ChangeShapes Go.WideShapes Go.RowKit Num
set_option linter.unusedVariables false
theorem cap_of_none {H : Type} {enc : TypeId × Value → H} {W : World} {P : Program} {t ts : TypeId} (ht : P.underlying t = some (.slice ts)) {n c : Nat} {A : Option Addr} {d : DataW H} {p : List MemPlace}
    (h : DataW.Trod enc P W 0 (fun _ => true) true t (.slice A n c) d p) : A = none → c = 0 := by
  rintro rfl
  obtain ⟨fuel, hf0⟩ := h
  have hf : DataW.trod enc P W 0 (fun _ => true) true fuel t [.slice none n c] = some (d, p) := by simpa [Value.cells] using hf0
  rcases DataW.trod_slice ht hf with ⟨h1, _⟩ | ⟨a, len, cap, elems, rest, n', _, hc1, _⟩
  · injection h1 with h1 _
    injection h1
  · injection hc1 with hc1 _
    injection hc1 with hc1 _ _
    cases hc1
end Go.Proofs.YtmppmdmekomjbaaGreatDoor
/- A matrix of the call's own: the rows' headers lie in one block, each row in a block of its own. -/
namespace Go.Proofs.YtmppmdmekomjbaaGreatDoor
open Go.RowKit Num
set_option linter.unusedVariables false

theorem mrat_info : (Tryz.prog.info? 29).map (fun i => (i.zero, i.size, i.bytes)) = some (some (.string (B [])), 1, 16) := by kernel_rfl
theorem el_mrat : Elem Tryz.prog 28 29 (.string (B [])) 16 := ⟨Tryz.underlying28, info_parts mrat_info, rfl⟩
theorem mrow_info : (Tryz.prog.info? 28).map (fun i => (i.zero, i.size, i.bytes)) = some (some (.slice none 0 0), 1, 24) := by kernel_rfl
theorem el_mrow : Elem Tryz.prog 58 28 (.slice none 0 0) 24 := ⟨Tryz.underlying58, info_parts mrow_info, rfl⟩
theorem OwnS.other {w : World} {Bs : Nat} {e : TypeId} {A : Option Addr} {n c : Nat} {xs : List Value} (h : OwnS w Bs e A n c xs) {g j : Nat} {u : Value} (hg : A ≠ some ⟨g, 0, none⟩) : OwnS (w.setCell ⟨g, j, none⟩ u) Bs e A n c xs := by
  refine ⟨h.1, ?_⟩
  rcases h.2 with h2 | ⟨g', cap, cur, hv, hgb, hh, r⟩
  · exact .inl h2
  · refine .inr ⟨g', cap, cur, hv, hgb, ?_, r⟩
    injection hv with hA _ _
    rw [Below.heap_setCell _ _ _ _ (fun e => hg (by rw [hA]; show some (⟨g', 0, none⟩ : Addr) = _; rw [e]))]
    exact hh
/-- the headers of rows -/
def hdrs (hA : Nat → Option Addr) (hC : Nat → Nat) (M : List (List Str)) : List Value := (List.range M.length).map fun i => Value.slice (hA i) (M.getD i []).length (hC i)
theorem hdrs_length (hA : Nat → Option Addr) (hC : Nat → Nat) (M : List (List Str)) : (hdrs hA hC M).length = M.length := by unfold hdrs; simp
theorem hdrs_get (hA : Nat → Option Addr) (hC : Nat → Nat) (M : List (List Str)) {i : Nat} (hi : i < M.length) : (hdrs hA hC M)[i]? = some (.slice (hA i) (M.getD i []).length (hC i)) := by
  unfold hdrs; rw [List.getElem?_map, List.getElem?_range hi]; rfl
/-- a matrix of the call's own -/
structure MatO (w : World) (Bs : Nat) (A : Option Addr) (c : Nat) (hA : Nat → Option Addr) (hC : Nat → Nat) (M : List (List Str)) : Prop where
  outer : OwnS w Bs 28 A M.length c (hdrs hA hC M)
  rows : ∀ i, i < M.length → OwnS w Bs 29 (hA i) (M.getD i []).length (hC i) (strs (M.getD i []))
  apart : ∀ i j, i < M.length → j < M.length → i ≠ j → ∀ g, hA i = some g → hA j ≠ some g
  apart0 : ∀ i, i < M.length → ∀ g, hA i = some g → A ≠ some g
section
variable {w w' : World} {Bs : Nat} {A : Option Addr} {c : Nat} {hA : Nat → Option Addr} {hC : Nat → Nat} {M : List (List Str)}
theorem MatO.below (h : MatO w Bs A c hA hC M) (hb : Below w.heap.size w w') : MatO w' Bs A c hA hC M :=
  ⟨h.outer.below hb, fun i hi => (h.rows i hi).below hb, h.apart, h.apart0⟩
theorem MatO.mono {Bs' : Nat} (h : MatO w Bs A c hA hC M) (hB : Bs' ≤ Bs) : MatO w Bs' A c hA hC M :=
  ⟨h.outer.mono hB, fun i hi => (h.rows i hi).mono hB, h.apart, h.apart0⟩
theorem MatO.hdr (h : MatO w Bs A c hA hC M) (h0 : 0 < M.length) : ∃ g, A = some ⟨g, 0, none⟩ ∧ Bs ≤ g ∧ g < w.heap.size ∧ (∀ i, i < M.length → w.cell? ⟨g, i, none⟩ = some (.slice (hA i) (M.getD i []).length (hC i))) ∧ ∀ j, w.frozen? ⟨g, j, none⟩ = false := by
  obtain ⟨g, e, h1, h2, h3, h4⟩ := h.outer.at_ h0
  exact ⟨g, e, h1, h2, fun i hi => by rw [h3 i hi, hdrs_get _ _ _ hi], h4⟩
theorem MatO.row (h : MatO w Bs A c hA hC M) {i : Nat} (hi : i < M.length) (h0 : 0 < (M.getD i []).length) : ∃ g, hA i = some ⟨g, 0, none⟩ ∧ Bs ≤ g ∧ g < w.heap.size ∧ (∀ j, j < (M.getD i []).length → w.cell? ⟨g, j, none⟩ = some (.string (B (cellM M i j)))) ∧ ∀ j, w.frozen? ⟨g, j, none⟩ = false := by
  obtain ⟨g, e, h1, h2, h3, h4⟩ := (h.rows i hi).at_ h0
  exact ⟨g, e, h1, h2, fun j hj => by rw [h3 j hj, strs_get _ _ hj]; rfl, h4⟩
theorem getD_set {M : List (List Str)} {i k : Nat} {r : List Str} (hi : i < M.length) : (M.set i r).getD k [] = if k = i then r else M.getD k [] := by
  rw [List.getD_eq_getElem?_getD, List.getD_eq_getElem?_getD, List.getElem?_set]
  by_cases e : i = k
  · subst e; simp [hi]
  · rw [if_neg e, if_neg (fun h => e h.symm)]
theorem strs_set (l : List Str) (j : Nat) (s : Str) : (strs l).set j (.string (B s)) = strs (l.set j s) := by unfold strs; rw [List.map_set]
/-- one cell is stored -/
theorem MatO.store (h : MatO w Bs A c hA hC M) {i j g : Nat} (hi : i < M.length) (hg : hA i = some ⟨g, 0, none⟩) (s : Str) : MatO (w.setCell ⟨g, j, none⟩ (.string (B s))) Bs A c hA hC (M.set i ((M.getD i []).set j s)) := by
  have hlen : ∀ k, ((M.set i ((M.getD i []).set j s)).getD k []).length = (M.getD k []).length := by
    intro k
    rw [getD_set hi]
    split
    · rename_i e; rw [e, List.length_set]
    · rfl
  have hh : hdrs hA hC (M.set i ((M.getD i []).set j s)) = hdrs hA hC M := by
    unfold hdrs
    rw [List.length_set]
    exact List.map_congr_left fun k _ => by rw [hlen]
  refine ⟨?_, fun k hk => ?_, ?_, ?_⟩
  · rw [hh, List.length_set]
    exact h.outer.other (h.apart0 i hi _ hg)
  · rw [List.length_set] at hk
    rw [hlen, getD_set hi]
    by_cases e : k = i
    · subst e
      rw [if_pos rfl]
      have := h.rows k hk
      rw [hg] at this ⊢
      rw [← strs_set]
      exact this.stored j _
    · rw [if_neg e]
      exact (h.rows k hk).other (h.apart i k hi hk (fun e2 => e e2.symm) _ hg)
  · rw [List.length_set]; exact h.apart
  · rw [List.length_set]; exact h.apart0
theorem hdrs_swap {a b : Nat} (ha : a < M.length) (hb : b < M.length) : hdrs (swF hA a b) (swF hC a b) (swapM M a b) = ((hdrs hA hC M).set a (.slice (hA b) (M.getD b []).length (hC b))).set b (.slice (hA a) (M.getD a []).length (hC a)) := by
  apply List.ext_getElem?
  intro i
  by_cases hi : i < M.length
  · rw [hdrs_get _ _ _ (by rw [swapM_len]; exact hi), List.getElem?_set, List.getElem?_set, hdrs_get _ _ _ hi, swapM_row ha hb]
    simp only [List.length_set, hdrs_length]
    unfold swF
    by_cases e1 : b = i
    · subst e1
      rw [if_pos rfl, if_pos hb]
      by_cases e2 : b = a
      · subst e2; simp
      · rw [if_neg e2, if_neg e2, if_neg e2]; simp
    · rw [if_neg e1]
      by_cases e2 : a = i
      · subst e2; simp [ha]
      · rw [if_neg e2, if_neg (fun h => e2 h.symm), if_neg (fun h => e1 h.symm), if_neg (fun h => e2 h.symm), if_neg (fun h => e1 h.symm), if_neg (fun h => e2 h.symm), if_neg (fun h => e1 h.symm)]
  · rw [List.getElem?_eq_none (by rw [hdrs_length, swapM_len]; omega), List.getElem?_eq_none (by rw [List.length_set, List.length_set, hdrs_length]; omega)]
/-- two headers change places -/
theorem MatO.swap (h : MatO w Bs A c hA hC M) {a b g : Nat} (ha : a < M.length) (hb : b < M.length) (hg : A = some ⟨g, 0, none⟩) :
    MatO ((w.setCell ⟨g, a, none⟩ (.slice (hA b) (M.getD b []).length (hC b))).setCell ⟨g, b, none⟩ (.slice (hA a) (M.getD a []).length (hC a))) Bs A c (swF hA a b) (swF hC a b) (swapM M a b) := by
  have hso := fun i => swapM_row (i := i) ha hb
  have hidx : ∀ i, i < M.length → ∃ i', i' < M.length ∧ swF hA a b i = hA i' ∧ swF hC a b i = hC i' ∧ (swapM M a b).getD i [] = M.getD i' [] ∧ ((i = a ∧ i' = b) ∨ (i ≠ a ∧ i = b ∧ i' = a) ∨ (i ≠ a ∧ i ≠ b ∧ i' = i)) := by
    intro i hi
    rw [hso]
    unfold swF
    by_cases e1 : i = a
    · rw [if_pos e1, if_pos e1, if_pos e1]; exact ⟨b, hb, rfl, rfl, rfl, .inl ⟨e1, rfl⟩⟩
    · rw [if_neg e1, if_neg e1, if_neg e1]
      by_cases e2 : i = b
      · rw [if_pos e2, if_pos e2, if_pos e2]; exact ⟨a, ha, rfl, rfl, rfl, .inr (.inl ⟨e1, e2, rfl⟩)⟩
      · rw [if_neg e2, if_neg e2, if_neg e2]; exact ⟨i, hi, rfl, rfl, rfl, .inr (.inr ⟨e1, e2, rfl⟩)⟩
  refine ⟨?_, fun i hi => ?_, ?_, ?_⟩
  · rw [hdrs_swap ha hb, swapM_len]
    have ho := h.outer
    rw [hg] at ho ⊢
    exact (ho.stored a _).stored b _
  · rw [swapM_len] at hi
    obtain ⟨i', hi', e1, e2, e3, _⟩ := hidx i hi
    rw [e1, e2, e3]
    have hne : hA i' ≠ some ⟨g, 0, none⟩ := fun e => h.apart0 i' hi' _ e hg
    exact ((h.rows i' hi').other hne).other hne
  · intro i j hi hj hij x hx
    rw [swapM_len] at hi hj
    obtain ⟨i', hi', e1, _, _, e4⟩ := hidx i hi
    obtain ⟨j', hj', f1, _, _, f4⟩ := hidx j hj
    rw [e1] at hx
    rw [f1]
    exact h.apart i' j' hi' hj' (by omega) x hx
  · intro i hi x hx
    rw [swapM_len] at hi
    obtain ⟨i', hi', e1, _⟩ := hidx i hi
    rw [e1] at hx
    exact h.apart0 i' hi' x hx
end
end Go.Proofs.YtmppmdmekomjbaaGreatDoor
/- A matrix of the call's own beside another slice of the call's own: blocks of different types lie apart. -/
namespace Go.Proofs.YtmppmdmekomjbaaGreatDoor
open Go.RowKit Num
set_option linter.unusedVariables false
section
variable {w w' : World} {Bs : Nat} {e e' : TypeId} {A : Option Addr} {n c n' c' g : Nat} {xs ys : List Value}
theorem OwnS.typ (h : OwnS w Bs e (some ⟨g, 0, none⟩) n c xs) : Bs ≤ g ∧ g < w.heap.size ∧ ∃ cur, w.heap[g]? = some (.cells cur e (0, 0)) := by
  rcases h.2 with ⟨hv, _⟩ | ⟨g', cap, cur, hv, hb, hh, _⟩
  · injection hv with hv _ _; cases hv
  · injection hv with hv _ _
    injection hv with hv
    injection hv with hv _ _
    subst hv
    refine ⟨hb, ?_, cur, hh⟩
    rcases Nat.lt_or_ge g w.heap.size with h' | h'
    · exact h'
    · rw [Array.getElem?_eq_none h'] at hh; cases hh
theorem OwnS.ne (h : OwnS w Bs e (some ⟨g, 0, none⟩) n c xs) (h2 : OwnS w Bs e' A n' c' ys) (he : e ≠ e') : A ≠ some ⟨g, 0, none⟩ := by
  intro hA
  subst hA
  obtain ⟨_, _, cur, h3⟩ := h.typ
  obtain ⟨_, _, cur2, h4⟩ := h2.typ
  rw [h3] at h4
  injection h4 with h4
  injection h4 with _ h4 _
  exact he h4
theorem OwnS.keep (h : OwnS w Bs e A n c xs) (hk : ∀ b, A = some ⟨b, 0, none⟩ → w'.heap[b]? = w.heap[b]?) : OwnS w' Bs e A n c xs := by
  refine ⟨h.1, ?_⟩
  rcases h.2 with h2 | ⟨g', cap, cur, hv, hgb, hh, r⟩
  · exact .inl h2
  · refine .inr ⟨g', cap, cur, hv, hgb, ?_, r⟩
    injection hv with hA _ _
    rw [hk g' hA]; exact hh
theorem OwnS.form' (h : OwnS w Bs e A n c xs) (h0 : 0 < n) : ∃ g, A = some ⟨g, 0, none⟩ := by
  obtain ⟨g, e, _⟩ := h.at_ h0; exact ⟨g, e⟩
end
section
variable {w w' : World} {Bs : Nat} {A : Option Addr} {c : Nat} {hA : Nat → Option Addr} {hC : Nat → Nat} {M : List (List Str)}
/-- another slice's block is none of the matrix' -/
theorem MatO.keep {P : Option Addr} {n cp : Nat} {ps : List Value} (h : MatO w Bs A c hA hC M) (hP : OwnS w Bs 3 P n cp ps) (hk : ∀ b, b < w.heap.size → P ≠ some ⟨b, 0, none⟩ → w'.heap[b]? = w.heap[b]?) : MatO w' Bs A c hA hC M := by
  have key : ∀ {e : TypeId} {X : Option Addr} {m cx : Nat} {xs : List Value}, OwnS w Bs e X m cx xs → 3 ≠ e → OwnS w' Bs e X m cx xs := by
    intro e X m cx xs hx he
    refine hx.keep fun b hb => ?_
    subst hb
    exact hk b hx.typ.2.1 fun hp => by subst hp; exact hP.ne hx he rfl
  exact ⟨key h.outer (by decide), fun i hi => key (h.rows i hi) (by decide), h.apart, h.apart0⟩
theorem MatO.noP {P : Option Addr} {n cp g : Nat} {ps : List Value} (h : MatO w Bs A c hA hC M) (hP : OwnS w Bs 3 (some ⟨g, 0, none⟩) n cp ps) {i : Nat} (hi : i < M.length) : hA i ≠ some ⟨g, 0, none⟩ := hP.ne (h.rows i hi) (by decide)
theorem MatO.noP0 {P : Option Addr} {n cp g : Nat} {ps : List Value} (h : MatO w Bs A c hA hC M) (hP : OwnS w Bs 3 (some ⟨g, 0, none⟩) n cp ps) : A ≠ some ⟨g, 0, none⟩ := hP.ne h.outer (by decide)
end
section
variable {P : Program} {ops : Array Oper} {rest : List Oper} {o : Oper} {a : Act} {Q : Exit → Act → World → Prop}
/-- append of one element to a slice of the call's own; every other block stays -/
theorem wp_app1k {t e : TypeId} {z : Value} {bytes : Nat} (he : Elem P t e z bytes) (hgd : o.guard = none) (s x : Operand) (ho : o.op = .call { callee := .builtin .append, args := #[s, x], argTypes := #[t, t] })
    (Bs : Nat) (A : Option Addr) (n c : Nat) (xs : List Value) (w : World) (u : Value) (hs : a.eval s = .slice A n c) (hown : OwnS w Bs e A n c xs)
    (hx : a.eval x = .slice (some ⟨w.heap.size, 0, none⟩) 1 1) (h1 : u.oneCell' = true) (h63 : n + 1 ≤ maxLen) (hby : (n + 1) * bytes ≤ 140737488355328) (hbase : Bs ≤ w.heap.size)
    (h : ∀ A' c' w', OwnS w' Bs e A' (n + 1) c' (xs ++ [u]) → Below Bs w w' → (∀ k, k < w.heap.size → A ≠ some ⟨k, 0, none⟩ → w'.heap[k]? = w.heap[k]?) → wpList P ops Q rest (a.put o.dst (.slice A' (n + 1) c')) w') :
    wpList P ops Q (o :: rest) a (w.alloc (.cells #[u] e)) := by
  obtain ⟨ht, ⟨i, hi, hz, hsz, hb⟩, hzs⟩ := he
  have hown' : (w.alloc (.cells #[u] e)).ownsRow Bs e 1 (.slice A n c) n xs := hown.alloc _
  refine wpList_append_own _ hgd s x t ho Bs e i z 1 bytes ht hi hz hsz hb hzs (by decide) _ n xs hs hown' ⟨w.heap.size, 0, none⟩ 1 1 [u] hx rfl ?_ (by simpa using h1) h63 hby (by simp; omega) ?_
  · intro j v hj
    match j, hj with
    | 0, hj => simp at hj; subst hj; simp [Addr.add]
  · intro v' w' h2 h3 h4
    have hne : v' ≠ .slice none 0 0 := by intro e; have := (h4.1 e).2; omega
    obtain ⟨g, cap, hv⟩ : ∃ g cap, v' = .slice (some ⟨g, 0, none⟩) (n + 1) cap := by
      rcases h2.2 with ⟨hv, _⟩ | ⟨g, cap, cur, hv, _⟩
      · exact absurd hv hne
      · exact ⟨g, cap, hv⟩
    subst hv
    refine h _ _ _ h2 ?_ ?_
    · refine ((Below.refl _ _).alloc hbase _).grown h3 (by simp; omega) ?_
      intro k hk
      rcases hown.2 with ⟨hv, _⟩ | ⟨g', cap', cur', hv, hg', _⟩
      · rw [hv] at hk; simp [Value.ownBlock] at hk
      · rw [hv] at hk; simp [Value.ownBlock] at hk; omega
    · intro k hk hA
      have hne2 : some k ≠ (Value.slice A n c).ownBlock := by
        rcases hown.2 with ⟨hv, _⟩ | ⟨g', cap', cur', hv, hg', _⟩
        · rw [hv]; simp [Value.ownBlock]
        · injection hv with hv1 _ _
          rw [hv1]
          intro e
          have : k = g' := by simpa [Value.ownBlock] using e
          exact hA (by rw [hv1, this])
      rw [h3.block k (by simp; omega) hne2]
      show (w.heap.push _)[k]? = _
      rw [Array.getElem?_push_lt hk, Array.getElem?_eq_getElem hk]
end
end Go.Proofs.YtmppmdmekomjbaaGreatDoor
