/- nat.number.compare. -/
import Derived.Test.YtkggdkkfdbbglaaDoorRead
import Derived.Test.YtkggdkkfdbbglaaDoorCmpP
import Derived.Deep.QuietTactic
import Derived.BigQuiet
namespace Go.Proofs.YtkggdkkfdbbglaaDoor
open Go.RowKit Num
set_option linter.unusedVariables false
attribute [local go_sem] B_size B_get B_toList B_mk B_extract
attribute [local go_sem high] run_max2

theorem lv_cut (xs : List Nat) (k : Nat) (hk : k < xs.length) : lv xs = lv (xs.take k) + 1000000000 ^ k * (atN xs k + 1000000000 * lv (xs.drop (k + 1))) := by
  have h := lv_append (xs.take k) (xs.drop k)
  rw [List.take_append_drop, List.length_take, Nat.min_eq_left (by omega), List.drop_eq_getElem_cons hk, lv] at h
  rw [h]; simp [atN, hk]
theorem cmp_limb (xs ys : List Nat) (k : Nat) (hx : limbs xs) (hy : limbs ys) (hl : xs.length = ys.length) (hk : k < xs.length) (hd : xs.drop (k + 1) = ys.drop (k + 1)) (hne : atN xs k ≠ atN ys k) :
    cmpI (lv xs : Int) (lv ys : Int) = cmpI (atN xs k : Int) (atN ys k : Int) := by
  rw [cmpI_cast, cmpI_cast, lv_cut xs k hk, lv_cut ys k (by omega), hd]
  have h1 : lv (xs.take k) < 1000000000 ^ k := by
    have := lv_lt (xs.take k) (fun x h => hx x (List.mem_of_mem_take h))
    rwa [List.length_take, Nat.min_eq_left (by omega)] at this
  have h2 : lv (ys.take k) < 1000000000 ^ k := by
    have := lv_lt (ys.take k) (fun x h => hy x (List.mem_of_mem_take h))
    rwa [List.length_take, Nat.min_eq_left (by omega)] at this
  generalize lv (ys.drop (k + 1)) = r
  rw [Nat.mul_add, Nat.mul_add]
  generalize 1000000000 ^ k * (1000000000 * r) = q
  rcases Nat.lt_or_gt_of_ne hne with h | h
  · have := Nat.mul_le_mul_left (1000000000 ^ k) (show atN xs k + 1 ≤ atN ys k by omega)
    rw [Nat.mul_add] at this
    rw [if_pos (by omega), if_pos h]
  · have := Nat.mul_le_mul_left (1000000000 ^ k) (show atN ys k + 1 ≤ atN xs k by omega)
    rw [Nat.mul_add] at this
    rw [if_neg (by omega), if_pos (by omega), if_neg (by omega), if_pos h]
theorem cmp_len (a b : Nat) (h : (nl a).length ≠ (nl b).length) : cmpI ((nl a).length : Int) ((nl b).length : Int) = cmpI (a : Int) (b : Int) := by
  rw [cmpI_cast, cmpI_cast]
  rcases Nat.lt_or_gt_of_ne h with h | h
  · have : a < b := by
      rcases Nat.lt_or_ge a b with h' | h'
      · exact h'
      · have := nl_length_mono h'; omega
    rw [if_pos h, if_pos this]
  · have : b < a := by
      rcases Nat.lt_or_ge b a with h' | h'
      · exact h'
      · have := nl_length_mono h'; omega
    rw [if_neg (by omega), if_pos h, if_neg (by omega), if_pos this]

set_option maxHeartbeats 400000 in
theorem ncompare_loop (xs ys : List Nat) (b off c b' off' c' : Nat) (w : World) (hx : limbs xs) (hy : limbs ys) (hl : xs.length = ys.length) (hm : xs.length ≤ 1000000000)
    (hc : ∀ j, j < xs.length → w.cell? ⟨b, off + j, none⟩ = some (.int .i64 (atN xs j : Int))) (hc' : ∀ j, j < ys.length → w.cell? ⟨b', off' + j, none⟩ = some (.int .i64 (atN ys j : Int))) :
    Calls Tryd.prog 63 #[.slice (some ⟨b, off, none⟩) xs.length c, .slice (some ⟨b', off', none⟩) ys.length c'] w fun e w' => e = .returned (.int .i64 (cmpI (lv xs : Int) (lv ys : Int))) ∧ Below w.heap.size w w' := by
  have e1 : ((xs.length : Int) != ys.length) = false := by rw [hl]; simp
  rw [← hl] at hc' e1 ⊢
  have HL := Lib.hid hl
  clear hl
  go_enter Tryd.func63, Tryd.ntmps63
  go_wp2
  go_loopw [5] (fun i wr => ∃ k : Nat, k ≤ xs.length ∧ i = .int .i64 ((k : Int) - 1) ∧ xs.drop k = ys.drop k ∧ Below w.heap.size w wr ∧ ∀ p, wr.cell? p = w.cell? p) (fun i _ => (intOf i + 1).toNat)
  case atStart => exact ⟨xs.length, Nat.le_refl _, rfl, by rw [List.drop_of_length_le (Nat.le_refl _), List.drop_of_length_le (by rw [HL.out]; exact Nat.le_refl _)], Below.refl _ _, fun _ => rfl⟩
  case round =>
    obtain ⟨k, hk, rfl, hd, hbel, hcl⟩ := hrel
    have HD := Lib.hid hd
    clear hd
    by_cases h0 : k = 0
    · subst h0
      clear hcl hc hc'
      go_wp2_with fail
      go_ret
      have : xs = ys := by have := HD.out; simpa using this
      exact ⟨ret_int (by rw [this, cmpI_eq rfl]), hbel⟩
    · obtain ⟨j, rfl⟩ : ∃ j, k = j + 1 := ⟨k - 1, by omega⟩
      rw [show ((j + 1 : Nat) : Int) - 1 = (j : Int) from by omega]
      have g1 : wr.cell? ⟨b, off + j, none⟩ = some (.int .i64 (atN xs j : Int)) := by rw [hcl]; exact hc j (by omega)
      have g2 : wr.cell? ⟨b', off' + j, none⟩ = some (.int .i64 (atN ys j : Int)) := by rw [hcl]; exact hc' j (by omega)
      have HC := Lib.hid hcl
      clear hcl hc hc' h0
      by_cases hne : atN xs j = atN ys j
      · have HE := Lib.hid hne
        have ht : ((atN xs j : Int) != (atN ys j : Int)) = false := by rw [hne]; simp
        clear hne
        go_wp2
        go_region
        go_wp2
        go_roundw
        case rel =>
          refine ⟨j, by omega, rfl, ?_, hbel.drew, fun p => HC.out p⟩
          have h1 : j < xs.length := by omega
          have h2 : j < ys.length := by have := HL.out; omega
          rw [List.drop_eq_getElem_cons h1, List.drop_eq_getElem_cons h2, HD.out]
          have := HE.out
          simp only [atN, List.getD_eq_getElem?_getD, List.getElem?_eq_getElem h1, List.getElem?_eq_getElem h2, Option.getD_some] at this
          rw [this]
        case measure => simp [intOf]
      · have ht : ((atN xs j : Int) != (atN ys j : Int)) = true := by rw [bne_iff_ne]; omega
        have HN := Lib.hid (cmp_limb xs ys j hx hy HL.out (by omega) HD.out hne)
        clear hne
        go_wp2
        go_region
        go_wp2_with fail
        have k1 : wr.drew.cell? ⟨b, off + j, none⟩ = some (.int .i64 (atN xs j : Int)) := g1
        have k2 : wr.drew.cell? ⟨b', off' + j, none⟩ = some (.int .i64 (atN ys j : Int)) := g2
        have kb := hbel.drew
        clear g1 g2 hbel HC
        generalize wr.drew = w2 at *
        go_quiet ((go_at_call 80; exact Calls.quiet_of_same (cmp_int_any _ _ _)))
        go_wp2_with fail
        go_ret
        exact ⟨ret_int HN.out.symm, below_drewN kb _⟩
theorem ncompare_any (a b : Nat) (A A' : Option Addr) (c c' : Nat) (w : World) (hla : (nl a).length ≤ 1000000000) (hlb : (nl b).length ≤ 1000000000) (hc : Cells w A (nums (nl a))) (hc' : Cells w A' (nums (nl b))) :
    Calls Tryd.prog 63 #[.slice A (nl a).length c, .slice A' (nl b).length c'] w fun e w' => e = .returned (.int .i64 (cmpI (a : Int) (b : Int))) ∧ Below w.heap.size w w' := by
  by_cases hl : (nl a).length = (nl b).length
  · by_cases h0 : (nl a).length = 0
    · have ha : a = 0 := nl_eq_nil.1 (List.eq_nil_of_length_eq_zero h0)
      have hb : b = 0 := nl_eq_nil.1 (List.eq_nil_of_length_eq_zero (by omega))
      subst ha; subst hb
      rw [h0]
      have e1 : ((0 : Int) != 0) = false := by decide
      clear hl h0 hc hc' hla hlb
      go_enter Tryd.func63, Tryd.ntmps63
      go_wp2
      go_loop [5] (fun i => i = .int .i64 (-1)) (fun _ => 0)
      case atStart => rfl
      case round =>
        subst hrel
        go_wp2
        go_ret
        exact ⟨ret_int (by rw [cmpI_eq rfl]), Below.refl _ _⟩
    · obtain ⟨bl, off, rfl, hb, h⟩ := hc (by rw [nums_length]; omega)
      obtain ⟨bl', off', rfl, hb', h'⟩ := hc' (by rw [nums_length]; omega)
      have := ncompare_loop (nl a) (nl b) bl off c bl' off' c' w (limbs_nl a) (limbs_nl b) hl hla (Cells.num h) (Cells.num h')
      rw [lv_nl, lv_nl] at this
      exact this
  · have HN := Lib.hid (cmp_len a b hl)
    have e1 : (((nl a).length : Int) != (nl b).length) = true := by rw [bne_iff_ne]; omega
    clear hl hc hc'
    go_enter Tryd.func63, Tryd.ntmps63
    go_wp2_with fail
    refine (cmp_int_any _ _ _).mono ?_; rintro e w' ⟨rfl, rfl⟩
    go_wp2_with fail
    go_ret
    exact ⟨ret_int HN.out, Below.refl _ _⟩
end Go.Proofs.YtkggdkkfdbbglaaDoor
