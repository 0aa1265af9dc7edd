/- The reference of basis: square, unit, Solve. -/
import Derived.Test.YtkcaheaefjcdiaaGreatDoorG27
import Derived.Test.YtkcaheaefjcdiaaGreatDoorG28
namespace Go.Proofs.YtkcaheaefjcdiaaGreatDoor
open Go.RowKit Num
set_option linter.unusedVariables false
attribute [local go_sem] B_size B_get B_toList B_mk B_extract B_append

/-- rows that are being made: headers and rows are the call's own -/
structure RowsO (w : World) (Bs : Nat) (A : Option Addr) (c : Nat) (rs : List VecV) : Prop where
  outer : OwnS w Bs 23 A rs.length c (rs.map hdrV)
  rows : ∀ r ∈ rs, OwnS w Bs 36 r.A r.xs.length r.c (strs r.xs)
section
variable {w w' : World} {Bs c : Nat} {A : Option Addr} {rs : List VecV}
theorem RowsO.nil (w : World) (Bs : Nat) : RowsO w Bs none 0 [] := ⟨OwnS.nil _ _ _, fun r hr => absurd hr (by simp)⟩
theorem RowsO.below (h : RowsO w Bs A c rs) (hb : Below w.heap.size w w') : RowsO w' Bs A c rs := ⟨h.outer.below hb, fun r hr => (h.rows r hr).below hb⟩
theorem RowsO.mono {Bs' : Nat} (h : RowsO w Bs A c rs) (hb : Bs' ≤ Bs) : RowsO w Bs' A c rs := ⟨h.outer.mono hb, fun r hr => (h.rows r hr).mono hb⟩
theorem RowsO.at (h : RowsO w Bs A c rs) : MatAt w A rs := mat_of_hdr h.outer.cells fun r hr => (h.rows r hr).cells
theorem RowsO.add {A' : Option Addr} {c' : Nat} {r : VecV} (h : RowsO w Bs A c rs) (hr : OwnS w Bs 36 r.A r.xs.length r.c (strs r.xs)) (ho : OwnS w' Bs 23 A' (rs.length + 1) c' (rs.map hdrV ++ [hdrV r]))
    (hk : ∀ k, k < w.heap.size → A ≠ some ⟨k, 0, none⟩ → w'.heap[k]? = w.heap[k]?) : RowsO w' Bs A' c' (rs ++ [r]) := by
  have key : ∀ x : VecV, OwnS w Bs 36 x.A x.xs.length x.c (strs x.xs) → OwnS w' Bs 36 x.A x.xs.length x.c (strs x.xs) := by
    intro x hx
    refine hx.keep fun b hb => ?_
    rw [hb] at hx
    exact hk b hx.typ.2.1 (hx.ne h.outer (by decide))
  refine ⟨?_, fun x hx => ?_⟩
  · rw [List.length_append, List.map_append]; exact ho
  · rcases List.mem_append.1 hx with h1 | h1
    · exact key x (h.rows x h1)
    · rw [List.mem_singleton.1 h1]; exact key r hr
end
theorem texts_snoc (rs : List VecV) (r : VecV) : texts (rs ++ [r]) = texts rs ++ [r.xs] := by unfold texts; rw [List.map_append]; rfl
theorem bsquare_any (rs : List VecV) (A : Option Addr) (c : Nat) (w : World) (hM : MatAt w A rs) (hl : rs.length ≤ 1000000) (hrl : ∀ r ∈ rs, r.xs.length ≤ 1000000) :
    Calls Tryz.prog 33 #[.slice A rs.length c] w fun e w' => e = .returned (.bool (sqB (texts rs))) ∧ w' = w := by
  by_cases h0 : rs.length = 0
  · have h0' : ((rs.length : Int) == 0) = true := by rw [h0]; rfl
    have HS := Lib.hid (show sqB (texts rs) = true by unfold sqB; rw [texts_length, h0]; rfl)
    clear h0
    go_enter Tryz.func33, Tryz.ntmps33
    go_wp2_with fail
    go_ret
    exact ⟨ret_bool HS.out.symm, rfl⟩
  · have hpos : 0 < rs.length := by omega
    have h0' : ((rs.length : Int) == 0) = false := by rw [beq_eq_false_iff_ne]; omega
    obtain ⟨b, off, rfl, hb, hc⟩ := hM.1 hpos
    have c0 : w.cell? ⟨b, off, none⟩ = some (.slice (rs[0]'hpos).A (rs[0]'hpos).xs.length (rs[0]'hpos).c) := hc 0 hpos
    have hr0 := hrl _ (List.getElem_mem hpos)
    have HS := Lib.hid (show sqB (texts rs) = decide ((rs[0]'hpos).xs.length = rs.length) by
      unfold sqB; rw [texts_length, texts_getD hpos, decide_eq_false h0, Bool.false_or])
    generalize rs[0]'hpos = r0 at *
    by_cases he : r0.xs.length = rs.length
    · have he' : ((r0.xs.length : Int) == (rs.length : Int)) = true := by rw [he]; simp
      have HS2 := Lib.hid (show sqB (texts rs) = true by rw [HS.out, decide_eq_true he])
      clear he hc h0
      go_enter Tryz.func33, Tryz.ntmps33
      go_wp2_with fail
      go_ret
      exact ⟨ret_bool HS2.out.symm, rfl⟩
    · have he' : ((r0.xs.length : Int) == (rs.length : Int)) = false := by rw [beq_eq_false_iff_ne]; omega
      have HS2 := Lib.hid (show sqB (texts rs) = false by rw [HS.out, decide_eq_false he])
      clear he hc h0
      go_enter Tryz.func33, Tryz.ntmps33
      go_wp2_with fail
      go_ret
      exact ⟨ret_bool HS2.out.symm, rfl⟩
/-- the unit row, as far as it is written -/
def unitN (a j : Nat) : List Str := (List.range j).map fun i => if i = a then [49] else [48]
theorem unitN_full (n a : Nat) : unitN a n = unitR n a := by
  apply List.ext_getElem?
  intro i
  unfold unitN
  by_cases hi : i < n
  · have h := unit_get (a := a) hi
    rw [List.getD_eq_getElem?_getD, List.getElem?_eq_getElem (by rw [unit_len]; exact hi)] at h
    have h : (unitR n a)[i]'(by rw [unit_len]; exact hi) = if i = a then [49] else [48] := h
    rw [List.getElem?_map, List.getElem?_range hi, List.getElem?_eq_getElem (by rw [unit_len]; exact hi), h]; rfl
  · rw [List.getElem?_eq_none (by simp; omega), List.getElem?_eq_none (by rw [unit_len]; omega)]
theorem unitN_snoc (a j : Nat) : unitN a j ++ [if j = a then [49] else [48]] = unitN a (j + 1) := by
  unfold unitN; rw [List.range_succ, List.map_append]; rfl
theorem bunit_any (n a : Nat) (w : World) (hn : n ≤ 1000000) (ha : a ≤ 1000000) :
    Calls Tryz.prog 51 #[.int .i64 n, .int .i64 a] w fun e w' => ∃ X cx, e = .returned (.slice X n cx) ∧ OwnS w' w.heap.size 36 X n cx (strs (unitR n a)) ∧ Below w.heap.size w w' := by
  go_enter Tryz.func51, Tryz.ntmps51
  simp only [B_mk]
  go_wp2_with fail
  go_loopw [5, 6] (fun v i wr => ∃ (j : Nat) (X : Option Addr) (cx : Nat), j ≤ n ∧ i = .int .i64 j ∧ v = .slice X j cx ∧ OwnS wr w.heap.size 36 X j cx (strs (unitN a j)) ∧ Below w.heap.size w wr) (fun _ i _ => n - (intOf i).toNat)
  case atStart => exact ⟨0, none, 0, Nat.zero_le _, rfl, rfl, OwnS.nil _ _ _, Below.refl _ _⟩
  case round =>
    obtain ⟨j, X, cx, hj, rfl, rfl, hX, hbel⟩ := hrel
    have hcap := hX.cap
    unfold maxLen at hcap
    by_cases hlt : j < n
    · have HS := Lib.hid (unitN_snoc a j)
      by_cases hja : j = a
      · have hja' : ((j : Int) == (a : Int)) = true := by rw [hja]; simp
        have HS1 := Lib.hid (show unitN a j ++ [[49]] = unitN a (j + 1) by rw [← HS.out, if_pos hja])
        clear hja
        go_wp2_with (at_builtin; refine wp_app1 el_mrat rfl _ _ rfl w.heap.size _ _ _ _ _ (.string (B [49])) rfl hX rfl rfl (by unfold maxLen; omega) (by omega) hbel.size ?_; intro A3 c3 w3 hown3 hb3)
        go_roundw
        case rel => exact ⟨j + 1, A3, c3, by omega, by go_num, rfl, by rw [snoc_strs, HS1.out] at hown3; exact hown3, hbel.trans hb3⟩
        case measure => simp [intOf]; omega
      · have hja' : ((j : Int) == (a : Int)) = false := by rw [beq_eq_false_iff_ne]; omega
        have HS1 := Lib.hid (show unitN a j ++ [[48]] = unitN a (j + 1) by rw [← HS.out, if_neg hja])
        clear hja
        go_wp2_with (at_builtin; refine wp_app1 el_mrat rfl _ _ rfl w.heap.size _ _ _ _ _ (.string (B [48])) rfl hX rfl rfl (by unfold maxLen; omega) (by omega) hbel.size ?_; intro A3 c3 w3 hown3 hb3)
        go_roundw
        case rel => exact ⟨j + 1, A3, c3, by omega, by go_num, rfl, by rw [snoc_strs, HS1.out] at hown3; exact hown3, hbel.trans hb3⟩
        case measure => simp [intOf]; omega
    · have hjn : j = n := by omega
      have HF := Lib.hid (show OwnS wr w.heap.size 36 X n cx (strs (unitR n a)) by rw [← unitN_full, ← hjn]; exact hX)
      have HJ := Lib.hid hjn
      clear hX hjn
      go_wp2_with fail
      go_ret
      exact ⟨X, cx, by show Ending.returned (.slice X j cx) = _; rw [HJ.out], HF.out, hbel⟩
end Go.Proofs.YtkcaheaefjcdiaaGreatDoor
