/- The rank of a matrix and of its transpose: plain. -/
import Derived.Test.YtkcaheaefjcdiaaGreatDoorG27
import Derived.Test.YtkcaheaefjcdiaaGreatDoorG19
import Derived.Test.YtkcaheaefjcdiaaGreatDoorG24
namespace Go.Proofs.YtkcaheaefjcdiaaGreatDoor
namespace Num
set_option linter.unusedVariables false
/-- the transpose -/
def turnM (k : Nat) (M : List (List Str)) : List (List Str) := (List.range k).map fun j => (List.range M.length).map fun i => cellM M i j
theorem turnM_len (k : Nat) (M : List (List Str)) : (turnM k M).length = k := by unfold turnM; simp
theorem turnM_cell (k : Nat) (M : List (List Str)) {i j : Nat} (hi : i < M.length) (hj : j < k) : cellM (turnM k M) j i = cellM M i j := by
  unfold turnM
  show (List.getD _ j []).getD i [] = _
  rw [List.getD_eq_getElem?_getD, List.getD_eq_getElem?_getD, List.getElem?_map, List.getElem?_range hj]
  simp [hi]
theorem turnM_mat {g k : Nat} {M : List (List Str)} (h : Mat g g k M) : Mat g g M.length (turnM k M) := by
  intro r hr
  unfold turnM at hr
  obtain ⟨j, hj, rfl⟩ := List.mem_map.1 hr
  refine ⟨by simp, fun a ha => ?_⟩
  obtain ⟨i, hi, rfl⟩ := List.mem_map.1 ha
  exact h.cell (List.mem_range.1 hi) (List.mem_range.1 hj)
/-- the ranks are the same -/
theorem rank_same {g k : Nat} {M : List (List Str)} (hm : Mat g g k M) (h0 : 0 < M.length) (hk : 0 < k) (hE : 3 * gr (M.length - 1) (1 + k * g) + 1 ≤ 4096) (hE' : 3 * gr (k - 1) (1 + M.length * g) + 1 ≤ 4096) (hg : g ≤ 1 + k * g) (hg' : g ≤ 1 + M.length * g) :
    (reduceM M).2.length = (reduceM (turnM k M)).2.length ∧ (reduceM M).2.length ≤ M.length ∧ (reduceM M).2.length ≤ k := by
  have hw : (M.getD 0 []).length = k := (hm.row h0).1
  have hmt := turnM_mat hm
  have hlt : (turnM k M).length = k := turnM_len k M
  have hwt : ((turnM k M).getD 0 []).length = M.length := (hmt.row (by omega)).1
  obtain ⟨R, hT0, hall⟩ := red_all hm hE hg
  obtain ⟨R', hT0', hall'⟩ := red_all hmt (by rw [hlt]; exact hE') hg'
  have hA := (hall k (Nat.le_refl _)).1
  have hB := (hall' M.length (Nat.le_refl _)).1
  rw [reduceM_st, reduceM_st, hw, hwt]
  generalize stN M k = st at *
  generalize stN (turnM k M) M.length = st' at *
  obtain ⟨T, b, hT, hTM, hbp, _⟩ := hA.tab
  obtain ⟨T', b', hT', hTM', hbp', _⟩ := hB.tab
  have hz : ∀ i, st.2.length ≤ i → i < M.length → ∀ j, j < k → T i j = 0 := fun i h1 h2 j hj => by rw [hTM i h2 j hj, hA.low i h1 h2 j hj, rq_zero]
  have hz' : ∀ i, st'.2.length ≤ i → i < (turnM k M).length → ∀ j, j < M.length → T' i j = 0 := fun i h1 h2 j hj => by rw [hTM' i h2 j hj, hB.low i h1 h2 j hj, rq_zero]
  have e1 : ∀ i, i < M.length → ∀ j, j < (turnM k M).length → cellM (turnM k M) j i = cellM M i j := fun i hi j hj => turnM_cell k M hi (by rw [hlt] at hj; exact hj)
  have e2 : ∀ i, i < (turnM k M).length → ∀ j, j < M.length → cellM M j i = cellM (turnM k M) i j := fun i hi j hj => (turnM_cell k M hj (by rw [hlt] at hi; exact hi)).symm
  have l1 : st'.2.length ≤ st.2.length := by
    refine rank_le (m := M) (m' := turnM k M) (R := R) (R' := R') (T := T) (T' := T') (b := b) (b' := b') (piv := st.2) (piv' := st'.2) ?_ ?_ hA.few hbp ?_ ?_ hT0' hT' hB.few hbp' hB.lt e1
    · rw [hlt]; exact hT0
    · rw [hlt]; exact hT
    · rw [hlt]; exact hA.lt
    · rw [hlt]; exact hz
  have l2 : st.2.length ≤ st'.2.length := by
    refine rank_le (m := turnM k M) (m' := M) (R := R') (R' := R) (T := T') (T' := T) (b := b') (b' := b) (piv := st'.2) (piv' := st.2) hT0' hT' hB.few hbp' hB.lt hz' ?_ ?_ ?_ hbp ?_ e2
    · rw [hlt]; exact hT0
    · rw [hlt]; exact hT
    · exact hA.few
    · rw [hlt]; exact hA.lt
  have l3 := hB.few
  rw [hlt] at l3
  exact ⟨by omega, hA.few, by omega⟩
end Num
end Go.Proofs.YtkcaheaefjcdiaaGreatDoor
/- The reduced form is its own reduced form: plain. -/
namespace Go.Proofs.YtkcaheaefjcdiaaGreatDoor
namespace Num
set_option linter.unusedVariables false
/-- a matrix that is reduced, and its pivots -/
structure Ech (D k : Nat) (a : List (List Str)) (piv : List Nat) : Prop where
  mat : Mat D D k a
  few : piv.length ≤ a.length
  lt : ∀ x ∈ piv, x < k
  asc : piv.Pairwise (· < ·)
  low : ∀ i, piv.length ≤ i → i < a.length → ∀ j, j < k → cellM a i j = [48]
  left : ∀ l (hl : l < piv.length), ∀ j, j < piv[l] → cellM a l j = [48]
  pivot : ∀ i, i < a.length → ∀ l (hl : l < piv.length), cellM a i piv[l] = if i = l then [49] else [48]
theorem ech_of {g k : Nat} {m : List (List Str)} (hm : Mat g g k m) (hE : 3 * gr (m.length - 1) (1 + k * g) + 1 ≤ 4096) (hg : g ≤ 1 + k * g) : Ech (gr (m.length - 1) (1 + k * g)) k (stN m k).1 (stN m k).2 ∧ (stN m k).1.length = m.length := by
  obtain ⟨R, _, hall⟩ := red_all hm hE hg
  have H := (hall k (Nat.le_refl _)).1
  generalize stN m k = st at *
  have hl := H.len
  refine ⟨⟨H.mat, by rw [hl]; exact H.few, H.lt, H.asc, fun i h1 h2 => H.low i h1 (by omega), H.left, fun i hi l hl2 => H.pivot (Nat.le_refl _) (by omega) (by omega) hl2⟩, hl⟩
theorem mat_ext {n d n' d' k : Nat} {M N : List (List Str)} (hM : Mat n d k M) (hN : Mat n' d' k N) (hl : M.length = N.length) (h : ∀ i, i < M.length → ∀ j, j < k → cellM M i j = cellM N i j) : M = N := by
  apply List.ext_getElem hl
  intro i h1 h2
  have l1 := (hM _ (List.getElem_mem h1)).1
  have l2 := (hN _ (List.getElem_mem h2)).1
  apply List.ext_getElem (by omega)
  intro j h3 h4
  have := h i h1 j (by omega)
  rw [cellM_eq h1 h3, cellM_eq h2 h4] at this
  exact this
theorem swapM_self (M : List (List Str)) (i : Nat) : swapM M i i = M := by
  unfold swapM
  apply List.ext_getElem?
  intro j
  simp only [List.getElem?_set, List.length_set]
  by_cases e : i = j
  · subst e
    rw [if_pos rfl]
    by_cases h : i < M.length
    · rw [if_pos h, List.getD_eq_getElem?_getD, List.getElem?_eq_getElem h]; rfl
    · rw [if_neg h, List.getElem?_eq_none (by omega)]
  · rw [if_neg e, if_neg e]
theorem rq_one : rq [49] = 1 := by
  have h2 : decI 1 = [49] := by decide +kernel
  have := rq_int 1
  rw [h2] at this
  rw [this]; rfl
section
variable {D k : Nat} {a : List (List Str)} {piv : List Nat}
theorem Ech.clear (h : Ech D k a piv) (hD : 3 * D + 1 ≤ 4096) {l : Nat} (hl : l < piv.length) : ClearOps D k a l piv[l] ∧ clearM a l piv[l] = a := by
  have hla : l < a.length := Nat.lt_of_lt_of_le hl h.few
  have hc : piv[l] < k := h.lt _ (List.getElem_mem hl)
  have hone : cellM a l piv[l] = [49] := by rw [h.pivot l hla l hl, if_pos rfl]
  have hpv : ∀ i, i < a.length → ∀ j, j < k → pivM (fun i j => rq (cellM a i j)) l piv[l] i j = rq (cellM a i j) := by
    intro i hi j hj
    unfold pivM
    dsimp only
    by_cases e : i = l
    · rw [if_pos e, hone, rq_one, e]; grind
    · rw [if_neg e, h.pivot i hi l hl, if_neg e, rq_zero]; grind
  have hok := clear_ok (T := fun i j => rq (cellM a i j)) h.mat hla hc (fun i hi j hj => rfl) (by rw [hone]; decide) (fun i hi j hj => by
    obtain ⟨p, q, hq, h1, h2, h3⟩ := h.mat.cell hi hj
    refine ⟨p, (q : Int), by omega, h1, h2, ?_⟩
    rw [hpv i hi j hj, h3, rq_low hq]) hD
  refine ⟨hok.1, mat_ext hok.2.1 h.mat (clearM_len _ _ _) fun i hi j hj => ?_⟩
  rw [clearM_len] at hi
  refine rq_inj ((hok.2.1.cell (by rw [clearM_len]; exact hi) hj).right (by omega) (by omega)) ((h.mat.cell hi hj).right (by omega) (by omega)) ?_
  rw [← hok.2.2 i hi j hj, hpv i hi j hj]
theorem asc_get {piv : List Nat} (h : piv.Pairwise (· < ·)) {i j : Nat} (hi : i < piv.length) (hj : j < piv.length) (hij : i < j) : piv[i] < piv[j] := List.pairwise_iff_getElem.1 h i j hi hj hij
theorem Ech.find (h : Ech D k a piv) {c n : Nat} (hc : c < k) (hn : n ≤ piv.length) (hnl : ∀ l (hl : l < piv.length), l < n ↔ piv[l] < c) :
    (∃ hn : n < piv.length, piv[n] = c ∧ findM a n c = n) ∨ ((∀ l (hl : l < piv.length), piv[l] ≠ c) ∧ findM a n c = a.length) := by
  have hfew := h.few
  by_cases hhit : ∃ hn : n < piv.length, piv[n] = c
  · obtain ⟨h1, h2⟩ := hhit
    refine .inl ⟨h1, h2, findM_eq (Nat.le_refl _) (by omega) (fun i h3 h4 => by omega) (.inr ?_)⟩
    have := h.pivot n (by omega) n h1
    rw [h2, if_pos rfl] at this
    rw [this]; decide
  · have hno : ∀ l (hl : l < piv.length), piv[l] ≠ c := by
      intro l hl e
      have h1 := hnl l hl
      have hnl' : n ≤ l := by omega
      have hn2 : n < piv.length := by omega
      have h2 := hnl n hn2
      rcases Nat.eq_or_lt_of_le hnl' with e2 | e2
      · subst e2; exact hhit ⟨hl, e⟩
      · have := asc_get h.asc hn2 hl e2
        omega
    refine .inr ⟨hno, findM_eq (by omega) (Nat.le_refl _) (fun i h3 h4 => ?_) (.inl rfl)⟩
    by_cases hi : i < piv.length
    · have h1 := hnl i hi
      have h2 := hno i hi
      exact h.left i hi c (by omega)
    · exact h.low i (by omega) h4 c hc
theorem Ech.state (h : Ech D k a piv) (hD : 3 * D + 1 ≤ 4096) : ∀ c, c ≤ k → ∃ n, n ≤ piv.length ∧ stN a c = (a, piv.take n) ∧ ∀ l (hl : l < piv.length), l < n ↔ piv[l] < c := by
  intro c
  induction c with
  | zero => intro _; exact ⟨0, Nat.zero_le _, stN_zero a, fun l hl => by omega⟩
  | succ c ih =>
    intro hc
    obtain ⟨n, hn, hst, hnl⟩ := ih (by omega)
    have hlen : (piv.take n).length = n := by rw [List.length_take]; omega
    have hfew := h.few
    rcases h.find (by omega) hn hnl with ⟨h1, h2, h3⟩ | ⟨h1, h2⟩
    · refine ⟨n + 1, h1, ?_, fun l hl => ?_⟩
      · rw [stN_hit hst (by show findM a (piv.take n).length c ≠ a.length; rw [hlen, h3]; omega)]
        show (clearM (swapM a (piv.take n).length (findM a (piv.take n).length c)) (piv.take n).length c, piv.take n ++ [c]) = _
        rw [hlen, h3, swapM_self]
        have hcl := (h.clear hD h1).2
        rw [h2] at hcl
        rw [hcl, List.take_succ_eq_append_getElem h1, h2]
      · have h4 := hnl l hl
        rcases Nat.lt_trichotomy l n with e | e | e
        · omega
        · subst e; omega
        · have := asc_get h.asc h1 hl e; omega
    · refine ⟨n, hn, stN_miss hst (by show findM a (piv.take n).length c = a.length; rw [hlen, h2]), fun l hl => ?_⟩
      have h4 := hnl l hl
      have h5 := h1 l hl
      omega
theorem Ech.redOK (h : Ech D k a piv) (hD : 3 * D + 1 ≤ 4096) : RedOK D k a := by
  refine ⟨fun h0 => (h.mat.row h0).1, fun c hc => ?_, fun c hc => ?_, fun c hc => ?_, fun c hc hf => ?_⟩
  · obtain ⟨n, hn, hst, hnl⟩ := h.state hD c hc
    rw [hst]
  · obtain ⟨n, hn, hst, hnl⟩ := h.state hD c hc
    rw [hst]; exact h.mat
  · obtain ⟨n, hn, hst, hnl⟩ := h.state hD c hc
    rw [hst]
    have := h.few
    show (piv.take n).length ≤ _
    rw [List.length_take]; omega
  · obtain ⟨n, hn, hst, hnl⟩ := h.state hD c (Nat.le_of_lt hc)
    rw [hst] at hf ⊢
    have hlen : (piv.take n).length = n := by rw [List.length_take]; omega
    have hf : findM a (piv.take n).length c ≠ a.length := hf
    show ClearOps D k (swapM a (piv.take n).length (findM a (piv.take n).length c)) (piv.take n).length c
    rw [hlen] at hf ⊢
    rcases h.find hc hn hnl with ⟨h1, h2, h3⟩ | ⟨h1, h2⟩
    · rw [h3, swapM_self]
      have := (h.clear hD h1).1
      rw [h2] at this
      exact this
    · exact absurd h2 hf
theorem Ech.again (h : Ech D k a piv) (hD : 3 * D + 1 ≤ 4096) : reduceM a = (a, piv) := by
  rw [reduceM_st]
  by_cases h0 : 0 < a.length
  · rw [(h.mat.row h0).1]
    obtain ⟨n, hn, hst, hnl⟩ := h.state hD k (Nat.le_refl _)
    rw [hst]
    have : n = piv.length := by
      refine Nat.le_antisymm hn (Nat.le_of_not_lt fun hlt => ?_)
      have := (hnl n hlt).2 (h.lt _ (List.getElem_mem hlt))
      omega
    rw [this, List.take_length]
  · have h1 : a = [] := List.eq_nil_of_length_eq_zero (by omega)
    have h2 : piv = [] := List.eq_nil_of_length_eq_zero (by have := h.few; omega)
    rw [h1, h2]; rfl
end
end Num
end Go.Proofs.YtkcaheaefjcdiaaGreatDoor
/- Chosen columns of a matrix are turned as the whole; when there is one solution: plain. -/
namespace Go.Proofs.YtkcaheaefjcdiaaGreatDoor
namespace Num
set_option linter.unusedVariables false
/-- the columns f of a row -/
def selR (f : List Nat) (r : List Str) : List Str := f.map fun j => r.getD j []
def selM (f : List Nat) (M : List (List Str)) : List (List Str) := M.map (selR f)
theorem selR_len (f : List Nat) (r : List Str) : (selR f r).length = f.length := by unfold selR; simp
theorem selM_len (f : List Nat) (M : List (List Str)) : (selM f M).length = M.length := by unfold selM; simp
theorem selR_get {f : List Nat} {c : Nat} (r : List Str) (hc : c < f.length) : (selR f r).getD c [] = r.getD (f.getD c 0) [] := by
  unfold selR
  rw [List.getD_eq_getElem?_getD, List.getElem?_map, List.getElem?_eq_getElem hc, List.getD_eq_getElem?_getD (l := f), List.getElem?_eq_getElem hc]; rfl
theorem selM_row {f : List Nat} {M : List (List Str)} {i : Nat} (hi : i < M.length) : (selM f M).getD i [] = selR f (M.getD i []) := by
  unfold selM
  rw [List.getD_eq_getElem?_getD, List.getElem?_map, List.getElem?_eq_getElem hi, List.getD_eq_getElem?_getD, List.getElem?_eq_getElem hi]; rfl
theorem selM_cell {f : List Nat} {M : List (List Str)} {i c : Nat} (hi : i < M.length) (hc : c < f.length) : cellM (selM f M) i c = cellM M i (f.getD c 0) := by
  unfold cellM
  rw [selM_row hi, selR_get _ hc]
theorem findM_sel {f : List Nat} {M : List (List Str)} {row c : Nat} (hc : c < f.length ∧ f.getD c 0 = c) : findM (selM f M) row c = findM M row c := by
  unfold findM selM
  rw [← List.map_drop, List.findIdx_map]
  congr 2
  funext r
  show decide ((selR f r).getD c [] ≠ [48]) = _
  rw [selR_get _ hc.1, hc.2]
theorem swapM_sel {f : List Nat} {M : List (List Str)} {a b : Nat} (ha : a < M.length) (hb : b < M.length) : swapM (selM f M) a b = selM f (swapM M a b) := by
  unfold swapM
  rw [selM_row ha, selM_row hb]
  unfold selM
  rw [List.map_set, List.map_set]
theorem scaleR_sel {f : List Nat} {r : List Str} {p : Str} (hf : ∀ j ∈ f, j < r.length) : scaleR (selR f r) p = selR f (scaleR r p) := by
  show (selR f r).map _ = _
  unfold selR
  rw [List.map_map]
  refine List.map_congr_left fun j hj => ?_
  rw [scaleR_get (hf j hj)]; rfl
theorem lessR_sel {f : List Nat} {r s : List Str} {p : Str} (hf : ∀ j ∈ f, j < r.length ∧ j < s.length) : lessR (selR f r) (selR f s) p = selR f (lessR r s p) := by
  apply List.ext_getElem?
  intro i
  by_cases hi : i < f.length
  · have h1 : ((lessR (selR f r) (selR f s) p).getD i []) = (selR f (lessR r s p)).getD i [] := by
      have h2 := hf f[i] (List.getElem_mem hi)
      have h3 : f.getD i 0 = f[i] := by rw [List.getD_eq_getElem?_getD, List.getElem?_eq_getElem hi]; rfl
      rw [lessR_get (by rw [selR_len]; exact hi) (by rw [selR_len]; exact hi), selR_get _ hi, selR_get _ hi, selR_get _ hi, h3, lessR_get h2.1 h2.2]
    have l1 : (lessR (selR f r) (selR f s) p).length = f.length := by unfold lessR; rw [List.length_zipWith, selR_len, selR_len]; omega
    have l2 : (selR f (lessR r s p)).length = f.length := selR_len _ _
    rw [List.getElem?_eq_getElem (by omega), List.getElem?_eq_getElem (by omega)]
    rw [List.getD_eq_getElem?_getD, List.getElem?_eq_getElem (by omega), List.getD_eq_getElem?_getD, List.getElem?_eq_getElem (by omega)] at h1
    exact congrArg some h1
  · rw [List.getElem?_eq_none (by unfold lessR; rw [List.length_zipWith, selR_len, selR_len]; omega), List.getElem?_eq_none (by rw [selR_len]; omega)]
theorem clearM_sel {f : List Nat} {M : List (List Str)} {row c k : Nat} (hM : ∀ r ∈ M, r.length = k) (hf : ∀ j ∈ f, j < k) (hr : row < M.length) (hc : c < f.length ∧ f.getD c 0 = c) : clearM (selM f M) row c = selM f (clearM M row c) := by
  have hlen : ∀ i, i < M.length → (M.getD i []).length = k := fun i hi => by rw [getD_eq hi]; exact hM _ (List.getElem_mem hi)
  apply List.ext_getElem?
  intro i
  by_cases hi : i < M.length
  · have h1 : (clearM (selM f M) row c).getD i [] = (selM f (clearM M row c)).getD i [] := by
      rw [selM_row (M := clearM M row c) (by rw [clearM_len]; exact hi), clearM_row (M := M) hi, clearM_row (M := selM f M) (by rw [selM_len]; exact hi), selM_row hr, selM_row hi, selM_cell hr hc.1, selM_cell hi hc.1, hc.2]
      have h2 := hlen row hr
      have h3 := hlen i hi
      split
      · exact scaleR_sel fun j hj => by rw [h2]; exact hf j hj
      · rw [scaleR_sel fun j hj => by rw [h2]; exact hf j hj]
        exact lessR_sel fun j hj => by rw [h3]; unfold scaleR; rw [List.length_map, h2]; exact ⟨hf j hj, hf j hj⟩
    have l1 : (clearM (selM f M) row c).length = M.length := by rw [clearM_len, selM_len]
    have l2 : (selM f (clearM M row c)).length = M.length := by rw [selM_len, clearM_len]
    rw [List.getElem?_eq_getElem (by omega), List.getElem?_eq_getElem (by omega)]
    rw [getD_eq (by omega), getD_eq (by omega)] at h1
    exact congrArg some h1
  · rw [List.getElem?_eq_none (by rw [clearM_len, selM_len]; omega), List.getElem?_eq_none (by rw [selM_len, clearM_len]; omega)]
theorem stN_sel {D k n : Nat} {M : List (List Str)} (hO : RedOK D k M) (hn : n ≤ k) {f : List Nat} (hf : ∀ c, c < n → c < f.length ∧ f.getD c 0 = c) (hfk : ∀ j ∈ f, j < k) : ∀ c, c ≤ n → stN (selM f M) c = (selM f (stN M c).1, (stN M c).2) := by
  intro c
  induction c with
  | zero => intro _; rw [stN_zero, stN_zero]
  | succ c ih =>
    intro hc
    have h1 := ih (by omega)
    have hlen := hO.len c (by omega)
    have hfew := hO.few c (by omega)
    have hmat := hO.mat c (by omega)
    have hle := findM_le (stN M c).1 (stN M c).2.length c (by omega)
    have hfs := findM_sel (M := (stN M c).1) (row := (stN M c).2.length) (hf c (by omega))
    generalize hst : stN M c = st at *
    by_cases e : findM st.1 st.2.length c = st.1.length
    · rw [stN_miss hst e, stN_miss h1 (by show findM (selM f st.1) st.2.length c = (selM f st.1).length; rw [hfs, selM_len, e])]
    · have hr : st.2.length < st.1.length := by omega
      have hat : findM st.1 st.2.length c < st.1.length := by omega
      rw [stN_hit hst e, stN_hit h1 (by show findM (selM f st.1) st.2.length c ≠ (selM f st.1).length; rw [hfs, selM_len]; exact e)]
      show (clearM (swapM (selM f st.1) st.2.length (findM (selM f st.1) st.2.length c)) st.2.length c, st.2 ++ [c]) = (selM f (clearM (swapM st.1 st.2.length (findM st.1 st.2.length c)) st.2.length c), st.2 ++ [c])
      rw [hfs, swapM_sel hr hat, clearM_sel (k := k) (fun r hrm => ((swap_mat hmat hr hat).2 r hrm).1) hfk (by rw [swapM_len]; exact hr) (hf c (by omega))]
/-- the pivots go up -/
theorem stN_piv (M : List (List Str)) : ∀ c, (stN M c).2.Pairwise (· < ·) ∧ ∀ x ∈ (stN M c).2, x < c := by
  intro c
  induction c with
  | zero => rw [stN_zero]; exact ⟨List.Pairwise.nil, fun x hx => absurd hx (by simp)⟩
  | succ c ih =>
    by_cases e : findM (stN M c).1 (stN M c).2.length c = (stN M c).1.length
    · rw [stN_miss rfl e]
      exact ⟨ih.1, fun x hx => Nat.lt_succ_of_lt (ih.2 x hx)⟩
    · rw [stN_hit rfl e]
      refine ⟨?_, fun x hx => ?_⟩
      · show ((stN M c).2 ++ [c]).Pairwise (· < ·)
        rw [List.pairwise_append]
        exact ⟨ih.1, by simp, fun x hx y hy => by rw [List.mem_singleton.1 hy]; exact ih.2 x hx⟩
      · rcases List.mem_append.1 hx with h | h
        · exact Nat.lt_succ_of_lt (ih.2 x h)
        · rw [List.mem_singleton.1 h]; omega
theorem stN_pre (M : List (List Str)) (n : Nat) : ∀ c, n ≤ c → ∃ t, (stN M c).2 = (stN M n).2 ++ t ∧ ∀ x ∈ t, n ≤ x := by
  intro c
  induction c with
  | zero => intro h; rw [show n = 0 by omega]; exact ⟨[], by simp, fun x hx => absurd hx (by simp)⟩
  | succ c ih =>
    intro h
    by_cases e1 : n = c + 1
    · rw [e1]; exact ⟨[], by simp, fun x hx => absurd hx (by simp)⟩
    obtain ⟨t, h1, h2⟩ := ih (by omega)
    by_cases e : findM (stN M c).1 (stN M c).2.length c = (stN M c).1.length
    · rw [stN_miss rfl e]; exact ⟨t, h1, h2⟩
    · rw [stN_hit rfl e]
      refine ⟨t ++ [c], ?_, fun x hx => ?_⟩
      · show (stN M c).2 ++ [c] = _
        rw [h1, List.append_assoc]
      · rcases List.mem_append.1 hx with h3 | h3
        · exact h2 x h3
        · rw [List.mem_singleton.1 h3]; omega
section
variable {l : List Nat} (h : l.Pairwise (· < ·))
include h
theorem asc_gap {i : Nat} : ∀ j, (hij : i ≤ j) → (hj : j < l.length) → l[i]'(by omega) + (j - i) ≤ l[j] := by
  intro j
  induction j with
  | zero => intro h1 hj; have : i = 0 := by omega
            subst this; simp
  | succ j ih =>
    intro h1 hj
    by_cases e : i = j + 1
    · subst e; simp
    · have h2 := ih (by omega) (by omega)
      have h3 := asc_get h (show j < l.length by omega) hj (Nat.lt_succ_self j)
      omega
theorem asc_up (i : Nat) (hi : i < l.length) : i ≤ l[i] := by
  have := asc_gap h i (Nat.zero_le _) hi
  omega
theorem asc_few {n : Nat} (hn : ∀ x ∈ l, x < n) : l.length ≤ n := by
  refine Nat.le_of_not_lt fun hlt => ?_
  have h1 := asc_up h n hlt
  have h2 := hn _ (List.getElem_mem hlt)
  omega
theorem asc_full {n : Nat} (hn : ∀ x ∈ l, x < n) (hl : l.length = n) (i : Nat) (hi : i < n) : l.getD i 0 = i := by
  have h1 := asc_up h i (by omega)
  have h2 := asc_gap h (i := i) (n - 1) (by omega) (by omega)
  have h3 := hn _ (List.getElem_mem (show n - 1 < l.length by omega))
  rw [List.getD_eq_getElem?_getD, List.getElem?_eq_getElem (by omega)]
  show l[i] = i
  omega
/-- one solution: the first pivots are all columns -/
theorem badP_iff (n : Nat) : ¬ badP l n ↔ n ≤ l.length ∧ ∀ i, i < n → l.getD i 0 = i := by
  unfold badP
  constructor
  · intro hb
    have h1 : n ≤ l.length := by omega
    refine ⟨h1, fun i hi => ?_⟩
    have h2 : l.getD (n - 1) 0 = n - 1 := Classical.byContradiction fun h2 => hb (.inr ⟨by omega, h2⟩)
    have h3 := asc_up h i (by omega)
    have h4 := asc_gap h (i := i) (n - 1) (by omega) (by omega)
    rw [List.getD_eq_getElem?_getD, List.getElem?_eq_getElem (by omega)] at h2 ⊢
    have h2 : l[n - 1] = n - 1 := h2
    show l[i] = i
    omega
  · rintro ⟨h1, h2⟩ (h3 | ⟨h3, h4⟩)
    · omega
    · exact h4 (h2 _ (by omega))
end
/-- there is no single solution if the first n columns have too few pivots -/
theorem stN_bad {D k n : Nat} {W : List (List Str)} (hO : RedOK D k W) (hW : W.length = n) (hn : n ≤ k) : badP (stN W k).2 n ↔ (stN W n).2.length < n := by
  obtain ⟨t, h1, h2⟩ := stN_pre W n k hn
  obtain ⟨h3, h4⟩ := stN_piv W n
  have h5 := (stN_piv W k).1
  have hP := asc_few h3 h4
  constructor
  · intro hb
    refine Nat.lt_of_not_le fun hge => (badP_iff h5 n).2 ⟨?_, fun i hi => ?_⟩ hb
    · rw [h1, List.length_append]; omega
    · rw [h1, List.getD_eq_getElem?_getD, List.getElem?_append_left (by omega), ← List.getD_eq_getElem?_getD]
      exact asc_full h3 h4 (by omega) i hi
  · intro hlt
    refine Classical.byContradiction fun hb => ?_
    obtain ⟨h6, h7⟩ := (badP_iff h5 n).1 hb
    have h8 := h7 (n - 1) (by omega)
    rw [h1, List.length_append] at h6
    rw [h1, List.getD_eq_getElem?_getD, List.getElem?_append_right (by omega), List.getElem?_eq_getElem (by omega)] at h8
    have h9 := h2 _ (List.getElem_mem (show n - 1 - (stN W n).2.length < t.length by omega))
    have h8 : t[n - 1 - (stN W n).2.length] = n - 1 := h8
    omega
/-- behind n pivots in n rows nothing is turned -/
theorem stN_rest {W : List (List Str)} {n : Nat} (hl : (stN W n).1.length = n) (hp : (stN W n).2.length = n) : ∀ c, n ≤ c → stN W c = stN W n := by
  intro c
  induction c with
  | zero => intro h; rw [show n = 0 by omega]
  | succ c ih =>
    intro h
    by_cases e1 : n = c + 1
    · rw [e1]
    have h1 := ih (by omega)
    rw [stN_miss h1]
    have := findM_le (stN W n).1 (stN W n).2.length c (by omega)
    omega
end Num
end Go.Proofs.YtkcaheaefjcdiaaGreatDoor
/- What Solve, Inverse and Times say, by the program and by the reference: plain. -/
namespace Go.Proofs.YtkcaheaefjcdiaaGreatDoor
namespace Num
set_option linter.unusedVariables false
/-- as many columns as rows -/
def sqB (M : List (List Str)) : Bool := decide (M.length = 0) || decide ((M.getD 0 []).length = M.length)
/-- behind the sizes: the errors by what else is asked -/
def nextE (M : List (List Str)) (p : Prop) [Decidable p] (vs : List (List Str)) : Int :=
  if rchkE M = 0 then (if p then (if allR M = true ∧ allR vs = true then 0 else 3) else 2) else rchkE M
theorem bad_right (M vs : List (List Str)) : ((M ++ vs).any badR = true) ↔ ¬ (allR M = true ∧ allR vs = true) := by
  have h : (M ++ vs).any badR = !(allR M && allR vs) := by
    unfold allR badR
    rw [← List.all_append, List.not_all_eq_any_not]
    refine any_congr' fun r _ => ?_
    rw [List.not_all_eq_any_not]
  rw [h, Bool.not_eq_true', ← Bool.and_eq_true]
  cases (allR M && allR vs) <;> simp
theorem chk_next (M : List (List Str)) (wd : Int) (sq : Bool) (vs : List (List Str)) (p : Prop) [Decidable p] (h1 : (M.any (fun r => decide (r.length ≠ (M.getD 0 []).length)) = true → M.any (badW M wd sq) = true))
    (h2 : (∀ r ∈ M, r.length = (M.getD 0 []).length) → (p ↔ M.any (badW M wd sq) = false ∧ vs.any (badV M.length sq) = false)) : chkE M wd sq vs = nextE M p vs := by
  rw [chk_eq]
  unfold nextE rchkE
  by_cases c1 : 64 < M.length ∨ M.any (fun r => decide (64 < r.length)) = true
  · rw [if_pos c1, if_pos c1]; rfl
  rw [if_neg c1, if_neg c1]
  by_cases c2 : M.any (fun r => decide (r.length ≠ (M.getD 0 []).length)) = true
  · rw [if_pos (h1 c2), if_pos c2]; rfl
  rw [if_neg c2, if_pos rfl]
  have h3 := h2 fun r hr => Classical.byContradiction fun e => c2 (List.any_eq_true.2 ⟨r, hr, by rw [decide_eq_true_iff]; exact e⟩)
  by_cases hp : p
  · obtain ⟨h4, h5⟩ := h3.1 hp
    rw [if_pos hp, h4, if_neg (by decide), h5, if_neg (by decide)]
    by_cases h6 : (M ++ vs).any badR = true
    · rw [if_pos h6, if_neg ((bad_right M vs).1 h6)]
    · rw [if_neg h6, if_pos (Classical.byContradiction fun e => h6 ((bad_right M vs).2 e))]
  · rw [if_neg hp]
    by_cases h4 : M.any (badW M wd sq) = true
    · rw [if_pos h4]
    · rw [if_neg h4, if_pos]
      cases h5 : vs.any (badV M.length sq)
      · exact absurd (h3.2 ⟨by simpa using h4, h5⟩) hp
      · rfl
theorem chk_sq (M vs : List (List Str)) : chkE M (-1) true vs = nextE M (sqB M = true ∧ ∀ v ∈ vs, v.length = M.length) vs := by
  refine chk_next M (-1) true vs _ (fun h => ?_) fun hall => ?_
  · obtain ⟨r, hr, e⟩ := List.any_eq_true.1 h
    have h0 : 0 < M.length := List.length_pos_of_mem hr
    refine List.any_eq_true.2 ⟨r, hr, ?_⟩
    rw [decide_eq_true_iff] at e
    unfold badW widthE
    rw [if_pos ⟨by omega, h0⟩, Bool.or_eq_true, decide_eq_true_iff]
    left; omega
  · have hV : vs.any (badV M.length true) = false ↔ ∀ v ∈ vs, v.length = M.length := by
      rw [List.any_eq_false]
      constructor
      · intro h v hv
        have := h v hv
        unfold badV at this
        simpa using this
      · intro h v hv
        unfold badV
        simpa using h v hv
    rw [hV]
    have hW : M.any (badW M (-1) true) = false ↔ sqB M = true := by
      rw [List.any_eq_false]
      unfold sqB
      rw [Bool.or_eq_true, decide_eq_true_iff, decide_eq_true_iff]
      constructor
      · intro h
        by_cases h0 : M.length = 0
        · exact .inl h0
        · have h00 : 0 < M.length := by omega
          have := h M[0] (List.getElem_mem h00)
          unfold badW widthE at this
          rw [if_pos ⟨by omega, h00⟩, getD_eq h00] at this
          rw [getD_eq h00]
          right
          simpa using this
      · rintro (h | h) r hr
        · have := List.length_pos_of_mem hr; omega
        · have h00 := List.length_pos_of_mem hr
          have h1 := hall r hr
          unfold badW widthE
          rw [if_pos ⟨by omega, h00⟩, ← h1]
          rw [← h1] at h
          simp [h]
    rw [hW]
theorem chk_time (M : List (List Str)) (x : List Str) : timE M x = nextE M (M.length = 0 ∨ (M.getD 0 []).length = x.length) [x] := by
  refine chk_next M x.length false [x] _ (fun h => ?_) fun hall => ?_
  · obtain ⟨r, hr, e⟩ := List.any_eq_true.1 h
    have h0 : 0 < M.length := List.length_pos_of_mem hr
    rw [decide_eq_true_iff] at e
    by_cases hx : r.length = x.length
    · refine List.any_eq_true.2 ⟨M[0], List.getElem_mem h0, ?_⟩
      rw [getD_eq h0] at e
      unfold badW widthE
      rw [if_neg (by omega), Bool.or_eq_true, decide_eq_true_iff]
      left; omega
    · refine List.any_eq_true.2 ⟨r, hr, ?_⟩
      unfold badW widthE
      rw [if_neg (by omega), Bool.or_eq_true, decide_eq_true_iff]
      left; omega
  · have hV : [x].any (badV M.length false) = false := by simp [badV]
    rw [hV]
    have hW : M.any (badW M x.length false) = false ↔ (M.length = 0 ∨ (M.getD 0 []).length = x.length) := by
      rw [List.any_eq_false]
      constructor
      · intro h
        by_cases h0 : M.length = 0
        · exact .inl h0
        · have h00 : 0 < M.length := by omega
          have := h M[0] (List.getElem_mem h00)
          unfold badW widthE at this
          rw [if_neg (by omega)] at this
          rw [getD_eq h00]
          right
          have this : ((M[0].length : Nat) : Int) = ((x.length : Nat) : Int) := by simpa using this
          omega
      · rintro (h | h) r hr
        · have := List.length_pos_of_mem hr; omega
        · have h1 := hall r hr
          unfold badW widthE
          rw [if_neg (by omega)]
          simp
          omega
    rw [hW]; simp
/-- what the reference's Solve says -/
def rslvE (M : List (List Str)) (b : List Str) : Int :=
  if nextE M (sqB M = true ∧ b.length = M.length) [b] = 0 then solE (reduceM (wideM M (oneMore b))).2 M.length else nextE M (sqB M = true ∧ b.length = M.length) [b]
theorem next_congr {M vs : List (List Str)} {p q : Prop} [Decidable p] [Decidable q] (h : p ↔ q) : nextE M p vs = nextE M q vs := by
  unfold nextE
  by_cases hp : p
  · rw [if_pos hp, if_pos (h.1 hp)]
  · rw [if_neg hp, if_neg fun hq => hp (h.2 hq)]
theorem slv_same (M : List (List Str)) (b : List Str) : slvE M b = rslvE M b := by
  have h := chk_sq M [b]
  rw [next_congr (q := sqB M = true ∧ b.length = M.length) (by simp)] at h
  unfold slvE rslvE
  rw [h]
/-- the sizes of a sum of products -/
theorem dot_frd {e : Nat} {r x : List Str} (hr : ∀ j, j < r.length → FrD e e (mulQS (r.getD j []) (x.getD j [])) ∧ mulQE (r.getD j []) (x.getD j []) = 0 ∧ rq (mulQS (r.getD j []) (x.getD j [])) = rq (r.getD j []) * rq (x.getD j [])) (he : 1 + r.length * (e + 1) ≤ 4096) :
    ∀ j, j ≤ r.length → FrD (1 + j * (e + 1)) (1 + j * e) (dotN r x j) ∧ rq (dotN r x j) = sumR (fun i => rq (r.getD i []) * rq (x.getD i [])) j ∧ (j < r.length → addQE (dotN r x j) (mulQS (r.getD j []) (x.getD j [])) = 0) := by
  have hadd : ∀ j, j < r.length → FrD (1 + j * (e + 1)) (1 + j * e) (dotN r x j) → addQE (dotN r x j) (mulQS (r.getD j []) (x.getD j [])) = 0 ∧ FrD (1 + (j + 1) * (e + 1)) (1 + (j + 1) * e) (addQS (dotN r x j) (mulQS (r.getD j []) (x.getD j []))) ∧ rq (addQS (dotN r x j) (mulQS (r.getD j []) (x.getD j []))) = rq (dotN r x j) + rq (r.getD j []) * rq (x.getD j []) := by
    intro j hj h
    obtain ⟨h1, h2, h3⟩ := hr j hj
    have hm : (j + 1) * (e + 1) ≤ r.length * (e + 1) := Nat.mul_le_mul_right _ hj
    have e1 : (j + 1) * (e + 1) = j * (e + 1) + e + 1 := by rw [Nat.succ_mul]; omega
    have e2 : (j + 1) * e = j * e + e := Nat.succ_mul _ _
    have e3 : j * (e + 1) = j * e + j := Nat.mul_succ _ _
    have ha := h.add h1 (by omega) (by omega)
    refine ⟨ha.1, ha.2.1.mono (by omega) (by omega), ?_⟩
    rw [ha.2.2, h3]
  intro j
  induction j with
  | zero =>
    intro _
    have hz : FrD 1 1 [48] := ⟨0, 1, by omega, by decide +kernel, by decide +kernel, by decide +kernel⟩
    refine ⟨hz.mono (by omega) (by omega), rq_zero, fun h => ?_⟩
    exact (hadd 0 h (hz.mono (by omega) (by omega))).1
  | succ j ih =>
    intro hj
    have h1 := ih (by omega)
    have h2 := hadd j hj h1.1
    refine ⟨h2.2.1, ?_, fun h => (hadd (j + 1) h h2.2.1).1⟩
    show rq (addQS _ _) = _
    rw [h2.2.2, h1.2.1]; rfl
theorem frd_len2 {n d : Nat} {s : Str} (h : FrD n d s) : s.length ≤ 2 * max n d + 2 := frd_len (h.mono (Nat.le_max_left n d) (Nat.le_max_right n d))
theorem dot_ok {n n' : Nat} {r x : List Str} (hr : ∀ a ∈ r, FrD n n a) (hx : ∀ a ∈ x, FrD n' n' a) (hl : r.length = x.length) (hn : 1 ≤ n') (he : 1 + r.length * (n + n' + 1) ≤ 4096) :
    DotOK r x ∧ FrD 4096 4096 (dotN r x r.length) ∧ rq (dotN r x r.length) = sumR (fun i => rq (r.getD i []) * rq (x.getD i [])) r.length := by
  have hm : ∀ j, j < r.length → FrD (n + n') (n + n') (mulQS (r.getD j []) (x.getD j [])) ∧ mulQE (r.getD j []) (x.getD j []) = 0 ∧ rq (mulQS (r.getD j []) (x.getD j [])) = rq (r.getD j []) * rq (x.getD j []) := by
    intro j hj
    have h1 : r.getD j [] ∈ r := by rw [List.getD_eq_getElem?_getD, List.getElem?_eq_getElem hj]; exact List.getElem_mem hj
    have h2 : x.getD j [] ∈ x := by rw [List.getD_eq_getElem?_getD, List.getElem?_eq_getElem (by omega)]; exact List.getElem_mem _
    have h3 : 1 * (n + n' + 1) ≤ r.length * (n + n' + 1) := Nat.mul_le_mul_right _ (by omega)
    have := (hr _ h1).mul (hx _ h2) (by omega) (by omega)
    exact ⟨this.2.1, this.1, this.2.2⟩
  have hd := dot_frd hm he
  have hsz : ∀ j, j ≤ r.length → 1 + j * (n + n' + 1) ≤ 4096 ∧ 1 + j * (n + n') ≤ 4096 := fun j hj => by
    have h1 : j * (n + n' + 1) ≤ r.length * (n + n' + 1) := Nat.mul_le_mul_right _ hj
    have h2 : j * (n + n' + 1) = j * (n + n') + j := Nat.mul_succ _ _
    omega
  refine ⟨fun j hj => ?_, ((hd _ (Nat.le_refl _)).1).mono (hsz _ (Nat.le_refl _)).1 (hsz _ (Nat.le_refl _)).2, (hd _ (Nat.le_refl _)).2.1⟩
  have h1 := hd j (by omega)
  have h2 := frd_len2 (hm j hj).1
  have h3 := frd_len (h1.1.mono (hsz j (by omega)).1 (hsz j (by omega)).2)
  have h4 : 1 * (n + n' + 1) ≤ r.length * (n + n' + 1) := Nat.mul_le_mul_right _ (by omega)
  exact ⟨(hm j hj).2.1, h1.2.2 hj, by omega, by omega⟩
end Num
end Go.Proofs.YtkcaheaefjcdiaaGreatDoor
/- The solution solves; the inverse's columns are solutions: plain. -/
namespace Go.Proofs.YtkcaheaefjcdiaaGreatDoor
namespace Num
set_option linter.unusedVariables false
theorem getD_app {a b : List Str} {j : Nat} : (a ++ b).getD j [] = if j < a.length then a.getD j [] else b.getD (j - a.length) [] := by
  rw [List.getD_eq_getElem?_getD]
  split
  · rename_i h; rw [List.getElem?_append_left h, List.getD_eq_getElem?_getD]
  · rename_i h; rw [List.getElem?_append_right (by omega), List.getD_eq_getElem?_getD]
theorem wide_cell {M : List (List Str)} {more : Nat → List Str} {i j : Nat} (hi : i < M.length) : cellM (wideM M more) i j = if j < (M.getD i []).length then cellM M i j else (more i).getD (j - (M.getD i []).length) [] := by
  unfold cellM
  rw [wideM_get M more hi, getD_app]
theorem wide_mat {g n l : Nat} {M : List (List Str)} {more : Nat → List Str} (hm : Mat g g n M) (hmore : ∀ i, i < M.length → (more i).length = l ∧ ∀ a ∈ more i, FrD g g a) : Mat g g (n + l) (wideM M more) := by
  intro r hr
  unfold wideM at hr
  obtain ⟨i, hi, rfl⟩ := List.mem_map.1 hr
  have hi := List.mem_range.1 hi
  have h1 := hm.row hi
  have h2 := hmore i hi
  refine ⟨by rw [List.length_append, h1.1, h2.1], fun a ha => ?_⟩
  rcases List.mem_append.1 ha with h | h
  · exact h1.2 a h
  · exact h2.2 a h
theorem one_more {g n : Nat} {b : List Str} (hb : b.length = n ∧ ∀ a ∈ b, FrD g g a) {i : Nat} (hi : i < n) : (oneMore b i).length = 1 ∧ ∀ a ∈ oneMore b i, FrD g g a := by
  unfold oneMore
  refine ⟨rfl, fun a ha => ?_⟩
  rw [List.mem_singleton.1 ha, List.getD_eq_getElem?_getD, List.getElem?_eq_getElem (by omega)]
  exact hb.2 _ (List.getElem_mem _)
theorem frd_one {g : Nat} (hg : 1 ≤ g) : FrD g g [49] := FrD.mono ⟨1, 1, by omega, by decide +kernel, by decide +kernel, by decide +kernel⟩ hg hg
theorem frd_nil {g : Nat} (hg : 1 ≤ g) : FrD g g [48] := FrD.mono ⟨0, 1, by omega, by decide +kernel, by decide +kernel, by decide +kernel⟩ hg hg
theorem unit_len (n a : Nat) : (unitR n a).length = n := by unfold unitR; simp
theorem unit_get {n a i : Nat} (hi : i < n) : (unitR n a).getD i [] = if i = a then [49] else [48] := by
  unfold unitR
  rw [List.getD_eq_getElem?_getD, List.getElem?_set]
  by_cases e : a = i
  · subst e; rw [if_pos rfl, if_pos rfl, if_pos (by simpa using hi)]; rfl
  · rw [if_neg e, if_neg (fun h => e h.symm), List.getElem?_replicate, if_pos hi]; rfl
theorem unit_frd {g n a : Nat} (hg : 1 ≤ g) : (unitR n a).length = n ∧ ∀ x ∈ unitR n a, FrD g g x := by
  refine ⟨unit_len n a, fun x hx => ?_⟩
  unfold unitR at hx
  rcases List.mem_or_eq_of_mem_set hx with h | h
  · rw [(List.mem_replicate.1 h).2]; exact frd_nil hg
  · rw [h]; exact frd_one hg
theorem sel_range {n : Nat} {a b : List Str} (ha : a.length = n) : (List.range n).map (fun j => (a ++ b).getD j []) = a := by
  apply List.ext_getElem?
  intro i
  by_cases hi : i < n
  · rw [List.getElem?_map, List.getElem?_range hi]
    show some ((a ++ b).getD i []) = _
    rw [getD_app, if_pos (by omega), List.getD_eq_getElem?_getD, List.getElem?_eq_getElem (by omega)]; rfl
  · rw [List.getElem?_eq_none (by simp; omega), List.getElem?_eq_none (by omega)]
theorem sel_first {n : Nat} {M : List (List Str)} {more : Nat → List Str} (hM : ∀ r ∈ M, r.length = n) : selM (List.range n) (wideM M more) = M := by
  unfold selM wideM
  rw [List.map_map]
  apply List.ext_getElem?
  intro i
  by_cases hi : i < M.length
  · rw [List.getElem?_map, List.getElem?_range hi, List.getElem?_eq_getElem hi]
    show some (selR (List.range n) (M.getD i [] ++ more i)) = _
    unfold selR
    rw [sel_range (by rw [getD_eq hi]; exact hM _ (List.getElem_mem hi)), getD_eq hi]
  · rw [List.getElem?_eq_none (by simp; omega), List.getElem?_eq_none (by omega)]
theorem sel_unit {n i : Nat} {M : List (List Str)} (hM : ∀ r ∈ M, r.length = n) (hn : M.length = n) (hi : i < n) : selM (List.range n ++ [n + i]) (wideM M (unitR n)) = wideM M (oneMore (unitR n i)) := by
  unfold selM wideM
  rw [List.map_map]
  refine List.map_congr_left fun r hr => ?_
  have hr := List.mem_range.1 hr
  have hl : (M.getD r []).length = n := by rw [getD_eq hr]; exact hM _ (List.getElem_mem hr)
  show selR (List.range n ++ [n + i]) (M.getD r [] ++ unitR n r) = M.getD r [] ++ oneMore (unitR n i) r
  unfold selR oneMore
  rw [List.map_append, sel_range hl, List.map_singleton, getD_app, if_neg (by omega), hl, show n + i - n = i by omega, unit_get hi, unit_get (by omega)]
  by_cases e : i = r
  · rw [if_pos e, if_pos e.symm]
  · rw [if_neg e, if_neg (fun h => e h.symm)]
theorem sol_ok {piv : List Nat} {n : Nat} (h : solE piv n = 0) : ¬ badP piv n := by
  unfold solE at h
  split at h
  · cases h
  · assumption
theorem slv_zero {M : List (List Str)} {b : List Str} (h : slvE M b = 0) : chkE M (-1) true [b] = 0 ∧ solE (reduceM (wideM M (oneMore b))).2 M.length = 0 := by
  unfold slvE at h
  by_cases h1 : chkE M (-1) true [b] = 0
  · rw [if_pos h1] at h; exact ⟨h1, h⟩
  · rw [if_neg h1] at h; exact absurd h h1
theorem drop_cell' {R : List (List Str)} {n i j : Nat} (hi : i < R.length) : cellM (R.map (·.drop n)) i j = cellM R i (n + j) := by
  unfold cellM
  rw [List.getD_eq_getElem?_getD (l := R.map _), List.getElem?_map, List.getElem?_eq_getElem hi, getD_eq hi]
  show (R[i].drop n).getD j [] = _
  rw [List.getD_eq_getElem?_getD, List.getElem?_drop, List.getD_eq_getElem?_getD]
theorem drop_cell {R : List (List Str)} {n i j : Nat} (hi : i < R.length) : ((R.map (·.drop n)).getD i []).getD j [] = cellM R i (n + j) := by
  unfold cellM
  rw [List.getD_eq_getElem?_getD (l := R.map _), List.getElem?_map, List.getElem?_eq_getElem hi, getD_eq hi]
  show (R[i].drop n).getD j [] = _
  rw [List.getD_eq_getElem?_getD, List.getElem?_drop, List.getD_eq_getElem?_getD]
section
variable {g n : Nat} {M : List (List Str)} {b : List Str} (hm : Mat g g n M) (hn : M.length = n) (h0 : 0 < n) (hg : 1 ≤ g)
include hm hn h0 hg
omit hg in
theorem wide_red (hb : b.length = n ∧ ∀ a ∈ b, FrD g g a) (hE : 3 * gr (n - 1) (1 + (n + 1) * g) + 1 ≤ 4096) : RedOK (gr (n - 1) (1 + (n + 1) * g)) (n + 1) (wideM M (oneMore b)) := by
  have hw := wide_mat (l := 1) (more := oneMore b) hm (fun i hi => one_more hb (by omega))
  have hl : (wideM M (oneMore b)).length = n := by rw [wideM_len]; exact hn
  have h1 : 1 * g ≤ (n + 1) * g := Nat.mul_le_mul_right _ (by omega)
  have := redOK_of hw (by rw [hl]; exact hE) (by omega)
  rw [hl] at this
  exact this
omit hg in
/-- the solution's numbers, and what they do -/
theorem sol_rows (hb : b.length = n ∧ ∀ a ∈ b, FrD g g a) (hE : 3 * gr (n - 1) (1 + (n + 1) * g) + 1 ≤ 4096) (hs : slvE M b = 0) :
    (slvM M b).length = n ∧ (∀ x ∈ slvM M b, FrD (gr (n - 1) (1 + (n + 1) * g)) (gr (n - 1) (1 + (n + 1) * g)) x) ∧ (∀ i, i < n → sumR (fun j => rq (cellM M i j) * rq ((slvM M b).getD j [])) n = rq (b.getD i [])) ∧ (reduceM M).2.length = n := by
  have hO := wide_red hm hn h0 hb hE
  have hw := wide_mat (l := 1) (more := oneMore b) hm (fun i hi => one_more hb (by omega))
  have hl : (wideM M (oneMore b)).length = n := by rw [wideM_len]; exact hn
  have h1 : 1 * g ≤ (n + 1) * g := Nat.mul_le_mul_right _ (by omega)
  obtain ⟨R, hT0, hall⟩ := red_all hw (by rw [hl]; exact hE) (by omega)
  obtain ⟨_, hsol⟩ := slv_zero hs
  have hnb := sol_ok hsol
  have hrow : ∀ i, i < n → (M.getD i []).length = n := fun i hi => (hm.row (by omega)).1
  have hwd : ((wideM M (oneMore b)).getD 0 []).length = n + 1 := (hw.row (by omega)).1
  have hSM : slvM M b = (solM (wideM M (oneMore b)) M.length).map (·.getD 0 []) := by unfold slvM; rw [if_pos hs]
  unfold solM at hSM
  rw [if_neg hnb, List.map_map, hn] at hSM
  have hrank : (stN (wideM M (oneMore b)) n).2.length = n := by
    rw [hn, reduceM_st, hwd] at hnb
    have h2 := stN_bad hO hl (Nat.le_succ n)
    obtain ⟨h3, h4⟩ := stN_piv (wideM M (oneMore b)) n
    have h5 := asc_few h3 h4
    refine Nat.le_antisymm h5 (Nat.le_of_not_lt fun h6 => hnb (h2.2 h6))
  rw [hn, reduceM_st, hwd] at hnb
  rw [reduceM_st, hwd] at hSM
  have hA := (hall (n + 1) (Nat.le_refl _)).1
  rw [hl] at hA
  have hasc := (stN_piv (wideM M (oneMore b)) (n + 1)).1
  have hwc : ∀ i, i < n → ∀ j, cellM (wideM M (oneMore b)) i j = if j < n then cellM M i j else [b.getD i []].getD (j - n) [] := fun i hi j => by
    rw [wide_cell (by omega), hrow i hi]; rfl
  have hsel : stN M n = (selM (List.range n) (stN (wideM M (oneMore b)) n).1, (stN (wideM M (oneMore b)) n).2) := by
    have := stN_sel hO (n := n) (Nat.le_succ n) (f := List.range n) (fun c hc => ⟨by simpa using hc, by rw [List.getD_eq_getElem?_getD, List.getElem?_range hc]; rfl⟩) (fun j hj => by have := List.mem_range.1 hj; omega) n (Nat.le_refl _)
    rw [sel_first fun r hr => (hm r hr).1] at this
    exact this
  have hrk : (reduceM M).2.length = n := by
    rw [reduceM_st, hrow 0 h0, hsel]; exact hrank
  generalize hst : stN (wideM M (oneMore b)) (n + 1) = st at *
  obtain ⟨hpl, hpg⟩ := (badP_iff hasc n).1 hnb
  have hlen : st.1.length = n := hA.len
  have hml : (slvM M b).length = n := by rw [hSM, List.length_map]; exact hlen
  have hget : ∀ j, j < n → (slvM M b).getD j [] = cellM st.1 j n := by
    intro j hj
    rw [hSM, List.getD_eq_getElem?_getD, List.getElem?_map, List.getElem?_eq_getElem (by omega)]
    show (st.1[j].drop n).getD 0 [] = _
    unfold cellM
    rw [getD_eq (by omega), List.getD_eq_getElem?_getD, List.getElem?_drop, List.getD_eq_getElem?_getD]; rfl
  refine ⟨hml, fun x hx => ?_, fun i hi => ?_, hrk⟩
  · obtain ⟨j, hj, rfl⟩ := List.getElem_of_mem hx
    have := hget j (by omega)
    rw [List.getD_eq_getElem?_getD, List.getElem?_eq_getElem hj] at this
    have e : (slvM M b)[j] = cellM st.1 j n := this
    rw [e]
    have hmat := hA.mat
    exact hmat.cell (by omega) (by omega)
  · obtain ⟨T, bb, hT, hTM, hbp, _⟩ := hA.tab
    have hTk : ∀ i l, i < n → l < n → T i l = kron i l := by
      intro i l hi hl2
      have h2 := hT.base i l hi hl2
      have h3 := hbp l (by omega)
      have h4 := hpg l hl2
      rw [List.getD_eq_getElem?_getD, List.getElem?_eq_getElem (by omega)] at h4
      have h4 : st.2[l] = l := h4
      rw [h3, h4] at h2
      exact h2
    have hTv : ∀ i, i < (wideM M (oneMore b)).length → mulV (n + 1) (T i) (fun j => if j < n then rq (cellM st.1 j n) else if j = n then -1 else 0) = 0 := by
      intro i hi
      rw [hl] at hi
      show sumR (fun j => T i j * (if j < n then rq (cellM st.1 j n) else if j = n then -1 else 0)) n + T i n * (if n < n then rq (cellM st.1 n n) else if n = n then -1 else 0) = 0
      rw [sumR_one (k := i) hi fun j hj hne => by
        show T i j * (if j < n then rq (cellM st.1 j n) else if j = n then -1 else 0) = 0
        rw [hTk i j hi hj]; unfold kron; rw [if_neg (fun e => hne e.symm)]; grind]
      show T i i * (if i < n then rq (cellM st.1 i n) else if i = n then -1 else 0) + T i n * (if n < n then rq (cellM st.1 n n) else if n = n then -1 else 0) = 0
      rw [hTk i i hi hi, hTM i hi n (by omega), if_pos hi, if_neg (Nat.lt_irrefl n), if_pos rfl]
      unfold kron
      rw [if_pos rfl]; grind
    have hT' : Tb (wideM M (oneMore b)).length (n + 1 + (wideM M (oneMore b)).length) R T bb := by rw [hl]; exact hT
    have key := (sol_up (k := n + 1) hT0 hT' _ (fun j hj => by rw [if_neg (by omega), if_neg (by omega)])).2 hTv i (by omega)
    have key : sumR (fun j => rq (cellM (wideM M (oneMore b)) i j) * (if j < n then rq (cellM st.1 j n) else if j = n then -1 else 0)) n + rq (cellM (wideM M (oneMore b)) i n) * (if n < n then rq (cellM st.1 n n) else if n = n then -1 else 0) = 0 := key
    rw [hwc i hi n, if_neg (Nat.lt_irrefl n), if_neg (Nat.lt_irrefl n), if_pos rfl, Nat.sub_self] at key
    have e : sumR (fun j => rq (cellM (wideM M (oneMore b)) i j) * (if j < n then rq (cellM st.1 j n) else if j = n then -1 else 0)) n = sumR (fun j => rq (cellM M i j) * rq ((slvM M b).getD j [])) n :=
      sumR_congr n fun j hj => by rw [hwc i hi j, if_pos hj, if_pos hj, hget j hj]
    rw [e] at key
    have key : sumR (fun j => rq (cellM M i j) * rq ((slvM M b).getD j [])) n + rq (b.getD i []) * -1 = 0 := key
    grind
/-- the columns of the inverse are the solutions of the unit columns -/
theorem inv_cols (hE : 3 * gr (n - 1) (1 + (n + 1) * g) + 1 ≤ 4096) (hE2 : 3 * gr (n - 1) (1 + (n + n) * g) + 1 ≤ 4096) {i : Nat} (hi : i < n) :
    solE (reduceM (wideM M (oneMore (unitR n i)))).2 n = solE (reduceM (wideM M (unitR n))).2 n ∧
    (solE (reduceM (wideM M (unitR n))).2 n = 0 → (∀ r, r < n → ((solM (wideM M (oneMore (unitR n i))) n).map (·.getD 0 [])).getD r [] = cellM (solM (wideM M (unitR n)) n) r i) ∧
      (solM (wideM M (unitR n)) n).length = n ∧ (∀ r ∈ solM (wideM M (unitR n)) n, r.length = n) ∧ (solM (wideM M (oneMore (unitR n i))) n).length = n) := by
  have hO1 := wide_red hm hn h0 (unit_frd (a := i) hg) hE
  have hw := wide_mat (l := n) (more := unitR n) hm (fun r hr => unit_frd hg)
  have hl : (wideM M (unitR n)).length = n := by rw [wideM_len]; exact hn
  have hl1 : (wideM M (oneMore (unitR n i))).length = n := by rw [wideM_len]; exact hn
  have h1 : 1 * g ≤ (n + n) * g := Nat.mul_le_mul_right _ (by omega)
  have hO2 := redOK_of hw (by rw [hl]; exact hE2) (by omega)
  rw [hl] at hO2
  have hw1 := hO1.width (by omega)
  have hw2 := hO2.width (by omega)
  rw [reduceM_st, reduceM_st, hw1, hw2]
  have hf : ∀ c, c < n → c < (List.range n ++ [n + i]).length ∧ (List.range n ++ [n + i]).getD c 0 = c := fun c hc => by
    refine ⟨by simp; omega, ?_⟩
    rw [List.getD_eq_getElem?_getD, List.getElem?_append_left (by simpa using hc), List.getElem?_range hc]; rfl
  have hfk : ∀ j ∈ List.range n ++ [n + i], j < n + n := fun j hj => by
    rcases List.mem_append.1 hj with h | h
    · have := List.mem_range.1 h; omega
    · rw [List.mem_singleton.1 h]; omega
  have hsel := stN_sel hO2 (n := n) (by omega) hf hfk n (Nat.le_refl _)
  rw [sel_unit (fun r hr => (hm r hr).1) hn hi] at hsel
  have hb1 := stN_bad hO1 hl1 (by omega)
  have hb2 := stN_bad hO2 hl (by omega)
  have hP : (stN (wideM M (oneMore (unitR n i))) n).2 = (stN (wideM M (unitR n)) n).2 := by rw [hsel]
  rw [hP] at hb1
  have hbb : badP (stN (wideM M (oneMore (unitR n i))) (n + 1)).2 n ↔ badP (stN (wideM M (unitR n)) (n + n)).2 n := hb1.trans hb2.symm
  refine ⟨?_, fun hs => ?_⟩
  · unfold solE
    by_cases hb : badP (stN (wideM M (unitR n)) (n + n)).2 n
    · rw [if_pos hb, if_pos (hbb.2 hb)]
    · rw [if_neg hb, if_neg fun h => hb (hbb.1 h)]
  · have hnb := sol_ok hs
    have hnb1 : ¬ badP (stN (wideM M (oneMore (unitR n i))) (n + 1)).2 n := fun h => hnb (hbb.1 h)
    have hplen : (stN (wideM M (unitR n)) n).2.length = n := by
      obtain ⟨h3, h4⟩ := stN_piv (wideM M (unitR n)) n
      have h5 := asc_few h3 h4
      exact Nat.le_antisymm h5 (Nat.le_of_not_lt fun h6 => hnb (hb2.2 h6))
    have hlenA : (stN (wideM M (unitR n)) n).1.length = n := by rw [hO2.len n (by omega)]; exact hl
    have hr2 := stN_rest hlenA hplen (n + n) (by omega)
    have hlenB : (stN (wideM M (oneMore (unitR n i))) n).1.length = n := by rw [hO1.len n (by omega)]; exact hl1
    have hr1 := stN_rest hlenB (by rw [hP]; exact hplen) (n + 1) (by omega)
    have hmatA := hO2.mat n (by omega)
    unfold solM
    rw [reduceM_st, reduceM_st, hw1, hw2, if_neg hnb, if_neg hnb1, hr1, hr2, hsel]
    generalize stN (wideM M (unitR n)) n = st at *
    have hmatA : Mat _ _ (n + n) st.1 := hmatA
    have hlenA : st.1.length = n := hlenA
    refine ⟨fun r hr => ?_, by rw [List.length_map]; exact hlenA, fun r hr => ?_, by rw [List.length_map]; show (selM _ st.1).length = n; rw [selM_len]; exact hlenA⟩
    · rw [drop_cell' (by omega), List.map_map]
      show (((selM (List.range n ++ [n + i]) st.1).map fun r => (r.drop n).getD 0 []).getD r []) = _
      rw [List.getD_eq_getElem?_getD, List.getElem?_map, List.getElem?_eq_getElem (by rw [selM_len]; omega)]
      show ((selM (List.range n ++ [n + i]) st.1)[r]'(by rw [selM_len]; omega) |>.drop n).getD 0 [] = _
      have h2 := selM_cell (f := List.range n ++ [n + i]) (M := st.1) (i := r) (c := n) (by omega) (by simp)
      rw [List.getD_eq_getElem?_getD, List.getElem?_drop, ← List.getD_eq_getElem?_getD, Nat.add_zero]
      unfold cellM at h2
      rw [getD_eq (by rw [selM_len]; omega)] at h2
      rw [h2]
      have h3 : (List.range n ++ [n + i]).getD n 0 = n + i := by
        rw [List.getD_eq_getElem?_getD, List.getElem?_append_right (by simp)]; simp
      rw [h3]; rfl
    · obtain ⟨x, hx, rfl⟩ := List.mem_map.1 hr
      have := (hmatA x hx).1
      rw [List.length_drop]; omega
end
end Num
end Go.Proofs.YtkcaheaefjcdiaaGreatDoor
