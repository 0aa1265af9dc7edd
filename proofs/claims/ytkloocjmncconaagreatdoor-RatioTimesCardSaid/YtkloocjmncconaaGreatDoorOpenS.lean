/- A []string that came in, as the walk wants it; an argument reads behind the call as before. -/
import Derived.Test.YtkloocjmncconaaGreatDoorG11
import Derived.SliceStrings
import Derived.Carry
namespace Go.Proofs.YtkloocjmncconaaGreatDoor
open Go.ChangeShapes Go.WideShapes Go.RowKit Num
set_option linter.unusedVariables false

theorem lt_of_cell {w : World} {b o : Nat} {u : Value} {j : Nat} (h : w.cell? ((⟨b, o, none⟩ : Addr).add j) = some u) : b < w.heap.size := by
  rcases Nat.lt_or_ge b w.heap.size with h' | h'
  · exact h'
  · rw [add_plain] at h
    unfold World.cell? at h
    simp only at h
    rw [Array.getElem?_eq_none h'] at h
    simp at h
theorem open_strs_list {H : Type} {enc : TypeId × Value → H} {W : World} {P : Program} {t e : TypeId} (ht : P.underlying t = some (.slice e)) (he : P.underlying e = some .string) (hc : P.cellsOf e = 1) {v : Value} {d : DataW H} {p : List MemPlace}
    (hv : ∃ a len cap, v = .slice a len cap) (h : DataW.Trod enc P W 0 (fun _ => true) true t v d p) :
    ∃ (A : Option Addr) (ls : List Str) (c : Nat), v = .slice A ls.length c ∧ ls.length ≤ c ∧ c ≤ maxLen ∧ Cells W A (Go.Proofs.YtkloocjmncconaaGreatDoor.strs ls) ∧ ∀ s ∈ ls, s.length ≤ maxLen := by
  obtain ⟨a0, len, cap, rfl⟩ := hv
  obtain ⟨fuel, hf⟩ := h
  rcases open_strings ht he hc hf with ⟨hcs, hx⟩ | ⟨a, len', cap', ss, hcs, _, hl, hm, hz, hx, hcell, hsz⟩
  · simp [Value.cells] at hcs
    obtain ⟨rfl, rfl, rfl⟩ := hcs
    exact ⟨none, [], 0, rfl, by simp, by unfold maxLen; omega, Cells.nil _ _, by simp⟩
  · simp [Value.cells] at hcs
    obtain ⟨rfl, rfl, rfl⟩ := hcs
    simp only [if_true] at hz
    obtain ⟨b, off, spot⟩ := a
    have hlen : (ss.take len).length = len := by rw [List.length_take]; omega
    refine ⟨some ⟨b, off, spot⟩, (ss.take len).map (fun s => s.data.toList), cap, by rw [List.length_map, hlen], by rw [List.length_map, hlen]; exact hl, hm, fun h0 => ?_, ?_⟩
    · rw [strs_length, List.length_map, hlen] at h0
      have hspot : spot = none := by simpa [Addr.add] using World.cell?_spot (hcell 0 (by omega))
      subst hspot
      refine ⟨b, off, rfl, lt_of_cell (hcell 0 (by omega)), fun j u hu => ?_⟩
      have hj : j < len := by
        have := (List.getElem?_eq_some_iff.1 hu).1
        rw [strs_length, List.length_map, hlen] at this
        exact this
      have h1 := hcell j (by omega)
      rw [add_plain] at h1
      rw [h1, ← hu]
      have hjs : j < ss.length := by omega
      simp only [Go.Proofs.YtkloocjmncconaaGreatDoor.strs, List.getElem?_map, List.getElem?_take_of_lt hj, List.getElem?_eq_getElem hjs, Option.map_some, List.getD_eq_getElem?_getD, Option.getD_some]
      rw [← B_of]
    · intro s hs
      obtain ⟨x, hx1, rfl⟩ := List.mem_map.1 hs
      have := hsz x (List.mem_of_mem_take hx1)
      show x.data.toList.length ≤ maxLen
      rw [Array.length_toList]; exact this
theorem arg_stays {H : Type} {enc : TypeId × Value → H} {P : Program} {t : TypeId} (hl : laidOutB P = true) (hr : P.readableRec t = true) (hrow : t < P.types.size) {W W' : World} {v : Value} {d : DataW H} {ps : List MemPlace}
    (h : DataW.Trod enc P W 0 (fun _ => true) true t v d ps) (hb : Below W.heap.size W W') (hlt : ∀ x ∈ ps, x.block < W.heap.size) {sp : Nat → Bool} (hs : ∀ x ∈ ps, sp x.block = true) :
    DataW.Trod enc P W' 0 sp true t v d ps :=
  WideElems.Trod_stays hl hr hrow h (fun x hx => hb.same (hlt x hx)) hs
end Go.Proofs.YtkloocjmncconaaGreatDoor
