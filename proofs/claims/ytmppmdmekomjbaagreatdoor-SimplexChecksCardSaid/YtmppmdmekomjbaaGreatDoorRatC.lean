/- strings.Cut and strings.Contains at a slash: plain. -/
import Derived.Test.YtmppmdmekomjbaaGreatDoorRatO
import Derived.Lib.IndexMore
namespace Go.Proofs.YtmppmdmekomjbaaGreatDoor
namespace Num
set_option linter.unusedVariables false
theorem index_slash (s : Str) : Lib.index s [47] = if hasS s = true then ((preS s).length : Int) else -1 := by
  induction s with
  | nil => rfl
  | cons c r ih =>
    rw [Lib.index]
    by_cases hc : c = 47
    · subst hc
      have h1 : hasS (47 :: r) = true := by unfold hasS; simp
      have h2 : preS (47 :: r) = [] := by unfold preS; simp
      rw [h1, h2]; rfl
    · have hp : ([47] : Str).isPrefixOf (c :: r) = false := by
        have h1 : ((47 : UInt8) == c) = false := by simpa using fun e : (47 : UInt8) = c => hc e.symm
        show ((47 : UInt8) == c && _) = false
        rw [h1]; rfl
      have hh : hasS (c :: r) = hasS r := by
        unfold hasS; rw [List.any_cons]
        have : (c == 47) = false := by simpa using hc
        rw [this, Bool.false_or]
      have h2 : (c != 47) = true := by simpa using hc
      have hpre : preS (c :: r) = c :: preS r := by unfold preS; rw [List.takeWhile_cons, h2]; rfl
      rw [hp, ih, hh, hpre]
      by_cases h3 : hasS r = true
      · rw [if_pos h3, if_pos h3]
        have h4 : (((preS r).length : Int) == -1) = false := by rw [beq_eq_false_iff_ne]; omega
        simp [h4]
      · rw [if_neg h3, if_neg h3]; rfl
theorem contains_slash (s : Str) : Lib.contains s [47] = hasS s := by
  unfold Lib.contains
  rw [index_slash]
  by_cases h : hasS s = true
  · rw [if_pos h, h]; simp
  · rw [if_neg h]; simp at h; rw [h]; rfl
theorem cut_slash (s : Str) : Lib.cut s [47] = if hasS s = true then (preS s, postS s, true) else (s, [], false) := by
  unfold Lib.cut
  rw [index_slash]
  by_cases h : hasS s = true
  · rw [if_pos h, if_pos h, if_pos (Int.natCast_nonneg _)]
    have hs := (split_has h).1
    have e : ∀ a b : Str, (a ++ 47 :: b).take a.length = a ∧ (a ++ 47 :: b).drop (a.length + 1) = b := by
      intro a b
      refine ⟨List.take_left, ?_⟩
      rw [List.drop_append, List.drop_of_length_le (by omega), show a.length + 1 - a.length = 1 by omega]; rfl
    have h12 := e (preS s) (postS s)
    rw [← hs] at h12
    obtain ⟨h1, h2⟩ := h12
    rw [Int.toNat_natCast, show ([47] : Str).length = 1 from rfl, h1, h2]
  · rw [if_neg h, if_neg h, if_neg (show ¬ (0 : Int) ≤ -1 by decide)]
end Num
end Go.Proofs.YtmppmdmekomjbaaGreatDoor
