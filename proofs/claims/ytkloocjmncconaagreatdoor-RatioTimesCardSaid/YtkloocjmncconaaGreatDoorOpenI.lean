/- A []int that came in, as the walk wants it. -/
import Derived.Test.YtkloocjmncconaaGreatDoorOpenS
import Derived.Test.YtkloocjmncconaaGreatDoorRTimesP
import Derived.Test.YtkloocjmncconaaGreatDoorG1
import Derived.ChangeSlices
namespace Go.Proofs.YtkloocjmncconaaGreatDoor
open Go.ChangeShapes Go.WideShapes Go.RowKit Num
set_option linter.unusedVariables false
theorem open_ints_list {H : Type} {enc : TypeId × Value → H} {W : World} {P : Program} {t e : TypeId} (ht : P.underlying t = some (.slice e)) (he : P.underlying e = some (.int .i64)) (hc : P.cellsOf e = 1) {v : Value} {d : DataW H} {p : List MemPlace}
    (hv : ∃ a len cap, v = .slice a len cap) (h : DataW.Trod enc P W 0 (fun _ => true) true t v d p) :
    ∃ (A : Option Addr) (ns : List Int) (c : Nat), v = .slice A ns.length c ∧ ns.length ≤ c ∧ c ≤ maxLen ∧ Cells W A (Go.Proofs.YtkloocjmncconaaGreatDoor.ints ns) ∧ ∀ n ∈ ns, fits n := by
  obtain ⟨a0, len, cap, rfl⟩ := hv
  obtain ⟨fuel, hf⟩ := h
  rcases open_ints ht he hc hf with ⟨hcs, hx⟩ | ⟨a, len', cap', zs, hcs, _, hl, hm, hz, hx, hcell, hsz⟩
  · simp [Value.cells] at hcs
    obtain ⟨rfl, rfl, rfl⟩ := hcs
    exact ⟨none, [], 0, rfl, by simp, by unfold maxLen; omega, Cells.nil _ _, by simp⟩
  · simp [Value.cells] at hcs
    obtain ⟨rfl, rfl, rfl⟩ := hcs
    simp only [if_true] at hz
    obtain ⟨b, off, spot⟩ := a
    have hlen : (zs.take len).length = len := by rw [List.length_take]; omega
    refine ⟨some ⟨b, off, spot⟩, zs.take len, cap, by rw [hlen], by rw [hlen]; exact hl, hm, fun h0 => ?_, ?_⟩
    · rw [ints_length, hlen] at h0
      have hspot : spot = none := by simpa [Addr.add] using World.cell?_spot (hcell 0 (by omega))
      subst hspot
      refine ⟨b, off, rfl, lt_of_cell (hcell 0 (by omega)), fun j u hu => ?_⟩
      have hj : j < len := by
        have := (List.getElem?_eq_some_iff.1 hu).1
        rw [ints_length, hlen] at this
        exact this
      have h1 := hcell j (by omega)
      rw [add_plain] at h1
      rw [h1, ← hu]
      have hjs : j < zs.length := by omega
      simp only [Go.Proofs.YtkloocjmncconaaGreatDoor.ints, List.getElem?_map, List.getElem?_take_of_lt hj, List.getElem?_eq_getElem hjs, Option.map_some, List.getD_eq_getElem?_getD, Option.getD_some]
    · intro n hn
      have h2 := hsz n (List.mem_of_mem_take hn)
      have h3 : IntKind.i64.min ≤ n ∧ n ≤ IntKind.i64.max := by simpa [Lit.wf] using h2
      exact h3
end Go.Proofs.YtkloocjmncconaaGreatDoor
