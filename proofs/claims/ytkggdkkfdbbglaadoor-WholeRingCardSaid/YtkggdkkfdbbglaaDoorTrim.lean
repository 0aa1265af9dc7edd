/- nat.number.trim. -/
import Derived.Test.YtkggdkkfdbbglaaDoorBase
namespace Go.Proofs.YtkggdkkfdbbglaaDoor
open Go.RowKit Num
attribute [local go_sem] B_size B_get B_toList B_mk
theorem trim_len (xs : List Nat) (k : Nat) (hx : limbs xs) (hk : k ≤ xs.length) (he : lv (xs.take k) = lv xs) (h : k = 0 ∨ atN xs (k - 1) ≠ 0) : (nl (lv xs)).length = k ∧ xs.take k = nl (lv xs) := by
  have h1 : limbs (xs.take k) := fun x hx' => hx x (List.mem_of_mem_take hx')
  have h2 : (xs.take k).getLast? ≠ some 0 := by
    rcases h with rfl | h
    · simp
    · by_cases h0 : k = 0
      · subst h0; simp
      · rw [List.getLast?_eq_getElem?, List.length_take, Nat.min_eq_left hk, List.getElem?_take]
        rw [if_pos (by omega)]
        intro e
        apply h
        unfold atN
        rw [List.getD_eq_getElem?_getD, e]; rfl
  have := nl_lv _ h1 h2
  rw [he] at this
  rw [this]
  simp [hk]
theorem take_zero_step (xs : List Nat) (k : Nat) (hk : k < xs.length) (h : atN xs k = 0) : lv (xs.take k) = lv (xs.take (k + 1)) := by
  rw [List.take_succ_eq_append_getElem hk]
  have : xs[k] = 0 := by simpa [atN, hk] using h
  rw [this, lv_snoc_zero]
theorem take_nl (xs : List Nat) (hx : limbs xs) : xs.take (nl (lv xs)).length = nl (lv xs) := by
  have : ∀ k, k ≤ xs.length → lv (xs.take k) = lv xs → xs.take (nl (lv xs)).length = nl (lv xs) := by
    intro k
    induction k with
    | zero => intro hk he; have := trim_len xs 0 hx hk he (.inl rfl); rw [this.1]; exact this.2
    | succ k ih =>
      intro hk he
      by_cases h : atN xs k = 0
      · exact ih (by omega) (by rw [take_zero_step xs k (by omega) h]; exact he)
      · have := trim_len xs (k + 1) hx hk he (.inr (by simpa using h)); rw [this.1]; exact this.2
  exact this xs.length (Nat.le_refl _) (by simp)

theorem trim_loop (xs : List Nat) (b off c : Nat) (w : World) (hx : limbs xs) (hl : xs.length ≤ c) (hm : c ≤ maxLen)
    (hc : ∀ j, j < xs.length → w.cell? ⟨b, off + j, none⟩ = some (.int .i64 (atN xs j : Int))) :
    Calls Tryd.prog 73 #[.slice (some ⟨b, off, none⟩) xs.length c] w fun e w' => e = .returned (.slice (some ⟨b, off, none⟩) (nl (lv xs)).length c) ∧ w' = w := by
  unfold maxLen at hm
  go_enter Tryd.func73, Tryd.ntmps73
  go_wp2
  go_loop [0] (fun v => ∃ k : Nat, k ≤ xs.length ∧ v = .slice (some ⟨b, off, none⟩) k c ∧ lv (xs.take k) = lv xs) (fun v => match v with | .slice _ k _ => k | _ => 0)
  case atStart => exact ⟨xs.length, Nat.le_refl _, rfl, by simp⟩
  case round =>
    obtain ⟨k, hk, rfl, he⟩ := hrel
    have HE := Lib.hid he
    clear he
    by_cases h0 : k = 0
    · subst h0
      go_wp2
      go_ret
      exact ⟨congrArg Ending.returned (by rw [(trim_len xs 0 hx hk HE.out (.inl rfl)).1]; rfl), rfl⟩
    · have hc' : w.cell? ⟨b, off + (k - 1), none⟩ = some (.int .i64 (atN xs (k - 1) : Int)) := hc (k - 1) (by omega)
      by_cases h1 : atN xs (k - 1) = 0
      · have HS := Lib.hid (take_zero_step xs (k - 1) (by omega) h1)
        have h1' : ((atN xs (k - 1) : Int) == 0) = true := by rw [h1]; rfl
        clear h1
        go_wp2
        go_round
        case rel => exact ⟨k - 1, by omega, rfl, by rw [HS.out, show k - 1 + 1 = k by omega, HE.out]⟩
        case measure => simp; omega
      · have HS := Lib.hid (trim_len xs k hx hk HE.out (.inr h1))
        have h1' : ((atN xs (k - 1) : Int) == 0) = false := by rw [beq_eq_false_iff_ne]; omega
        clear h1
        go_wp2
        go_ret
        exact ⟨congrArg Ending.returned (by rw [HS.out.1]; rfl), rfl⟩
theorem trim_any (xs : List Nat) (A : Option Addr) (c : Nat) (w : World) (hx : limbs xs) (hl : xs.length ≤ c) (hm : c ≤ maxLen) (hc : Cells w A (nums xs)) :
    Calls Tryd.prog 73 #[.slice A xs.length c] w fun e w' => e = .returned (.slice A (nl (lv xs)).length c) ∧ w' = w := by
  by_cases h0 : xs.length = 0
  · have : xs = [] := List.eq_nil_of_length_eq_zero h0
    subst this
    have hn : (nl (lv [])).length = 0 := by rw [lv, nl_zero]; rfl
    rw [hn]
    go_enter Tryd.func73, Tryd.ntmps73
    go_wp2
    go_loop [0] (fun v => v = .slice A 0 c) (fun _ => 0)
    case atStart => rfl
    case round =>
      subst hrel
      go_wp2
      go_ret
      exact ⟨rfl, rfl⟩
  · obtain ⟨b, off, rfl, hb, h⟩ := hc (by rw [nums_length]; omega)
    exact trim_loop xs b off c w hx hl hm (Cells.num h)
end Go.Proofs.YtkggdkkfdbbglaaDoor
