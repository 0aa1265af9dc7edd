/- Digits in a stretch of a text: plain. -/
import Derived.Test.YtkggdkkfdbbglaaDoorBase
namespace Go.Proofs.YtkggdkkfdbbglaaDoor
open Num
set_option linter.unusedVariables false

/-- the value of the digits from a up to b -/
def seg (l : List UInt8) (a b : Nat) : Nat := val ((l.take b).drop a)
theorem seg_self (l : List UInt8) (a : Nat) : seg l a a = 0 := by
  unfold seg; rw [List.drop_of_length_le (by rw [List.length_take]; omega)]; rfl
theorem seg_succ (l : List UInt8) (a k : Nat) (ha : a ≤ k) (h : k < l.length) : seg l a (k + 1) = 10 * seg l a k + dv (at8 l k) := by
  unfold seg
  rw [List.take_succ_eq_append_getElem h, List.drop_append_of_le_length (by rw [List.length_take]; omega), val_snoc, at8_eq l k h]
theorem all_sub {l : List UInt8} {p : UInt8 → Bool} (h : l.all p = true) (a b : Nat) : ((l.take b).drop a).all p = true := by
  rw [List.all_eq_true] at h ⊢
  intro x hx
  exact h x (List.mem_of_mem_take (List.mem_of_mem_drop hx))
theorem seg_lt (l : List UInt8) (a b : Nat) (h : l.all isDig = true) (hb : b ≤ a + 9) : seg l a b < 1000000000 := by
  have h1 := val_lt _ (all_sub h a b)
  have h2 : ((l.take b).drop a).length ≤ 9 := by rw [List.length_drop, List.length_take]; omega
  have h3 : 10 ^ ((l.take b).drop a).length ≤ 10 ^ 9 := Nat.pow_le_pow_right (by omega) h2
  unfold seg; omega
theorem dig_of_all {l : List UInt8} (h : l.all isDig = true) {k : Nat} (hk : k < l.length) : 48 ≤ (at8 l k).toNat ∧ (at8 l k).toNat ≤ 57 := by
  rw [List.all_eq_true] at h
  have := h l[k] (List.getElem_mem hk)
  rw [← at8_eq l k hk] at this
  simpa [isDig] using this
theorem val_split (l : List UInt8) (a : Nat) (h : a ≤ l.length) : val l = val (l.take a) * 10 ^ (l.length - a) + seg l a l.length := by
  have := val_append (l.take a) (l.drop a)
  rw [List.take_append_drop, List.length_drop] at this
  rw [this]; unfold seg; rw [List.take_of_length_le (Nat.le_refl _)]
end Go.Proofs.YtkggdkkfdbbglaaDoor
