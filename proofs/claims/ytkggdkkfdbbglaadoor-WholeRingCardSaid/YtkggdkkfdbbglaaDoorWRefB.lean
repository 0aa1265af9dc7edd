/- The reference of whole: text, Right, Digits, check, result. -/
import Derived.Test.YtkggdkkfdbbglaaDoorWRefA
import Derived.Test.YtkggdkkfdbbglaaDoorWNumB
namespace Go.Proofs.YtkggdkkfdbbglaaDoor
open Go.RowKit Num
set_option linter.unusedVariables false
attribute [local go_sem] B_size B_get B_toList B_mk B_extract B_append
attribute [local go_sem high] run_max2

theorem bytes_snoc (l : List UInt8) (c : UInt8) : bytes (l ++ [c]) = bytes l ++ [.int .u8 (c.toNat : Int)] := by simp [bytes]
theorem text_step (ys : List Nat) (j : Nat) (h : j < ys.length) : ((ys.drop j).map dch).reverse = ((ys.drop (j + 1)).map dch).reverse ++ [dch (atN ys j)] := by
  rw [List.drop_eq_getElem_cons h, List.map_cons, List.reverse_cons]; simp [atN, h]
theorem atD_mem {xs : List Nat} (h : digl xs) (k : Nat) : atN xs k < 10 := atD_lt h k

set_option maxHeartbeats 1000000 in
theorem wtext_any (neg : Bool) (xs : List Nat) (A : Option Addr) (c : Nat) (w : World) (hx : digl xs) (hl0 : xs.length ≤ 1000000) (hl : xs.length ≤ c) (hm : c ≤ maxLen) (hc : Cells w A (nums xs)) :
    Calls Tryd.prog 45 #[.bool neg, .slice A xs.length c] w fun e w' => e = .returned (.string (B (decI (sg neg (lw xs))))) ∧ Below w.heap.size w w' := by
  have hW := Lib.hid (wtrim_any xs A c w hx hl hm hc)
  have hle : (ns (lw xs)).length ≤ xs.length := by
    have := congrArg List.length (take_ns xs hx)
    rw [List.length_take] at this; omega
  have hcells : Cells w A (nums (ns (lw xs))) := by
    rw [← take_ns xs hx]
    have := hc.take (ns (lw xs)).length
    unfold nums at this ⊢
    rw [← List.map_take] at this
    exact this
  have hy := digl_ns (lw xs)
  have HD := Lib.hid (ns_dec (lw xs))
  have HZ := Lib.hid (@ns_eq_nil (lw xs))
  have hS0 := Lib.hid (show lw xs = 0 → decI (sg neg (lw xs)) = [48] from fun h => by rw [h, sg_zero]; exact decI_zero)
  have hSp := Lib.hid (show lw xs ≠ 0 → decI (sg neg (lw xs)) = (if neg = true then [45] else []) ++ dec (lw xs) from fun h => by
    cases neg
    · rw [decI_sg_false]; rfl
    · rw [decI_sg_pos h]; rfl)
  generalize lw xs = v at *
  generalize hn : ns v = ys at *
  have HN := Lib.hid hn
  clear hn
  by_cases h0 : ys.length = 0
  · have hys : ys = [] := List.eq_nil_of_length_eq_zero h0
    subst hys
    have hv : v = 0 := HZ.out.1 rfl
    have HR := Lib.hid (hS0.out hv)
    clear hv h0 hcells
    go_enter Tryd.func45, Tryd.ntmps45
    go_wp2_with fail
    refine hW.out.mono ?_; rintro e w' ⟨rfl, rfl⟩
    go_wp2_with fail
    go_ret
    exact ⟨ret_str HR.out.symm, Below.refl _ _⟩
  · have hv : v ≠ 0 := fun e => h0 (by rw [HZ.out.2 e]; rfl)
    have HR := Lib.hid (hSp.out hv)
    have HD' := Lib.hid (HD.out hv)
    clear hv
    have hpos : 0 < ys.length := by omega
    have hne : ((ys.length : Int) == 0) = false := by rw [beq_eq_false_iff_ne]; omega
    obtain ⟨b, off, rfl, hb, hcell⟩ := hcells (by rw [nums_length]; omega)
    have hcl := Cells.num hcell
    clear h0 hcell hc
    cases neg
    · go_enter Tryd.func45, Tryd.ntmps45
      go_wp2_with fail
      refine hW.out.mono ?_; rintro e w' ⟨rfl, h⟩
      obtain rfl := h.symm
      go_wp2_with fail
      go_loopw [5, 6] (fun s i wr => ∃ (k m : Nat) (A2 : Option Addr) (c2 : Nat), k ≤ ys.length ∧ i = .int .i64 ((k : Int) - 1) ∧ s = .slice A2 m c2 ∧ m + k = ys.length ∧ OwnS wr w.heap.size 5 A2 m c2 (bytes (((ys.drop k).map dch).reverse)) ∧ Below w.heap.size w wr) (fun _ i _ => (intOf i + 1).toNat)
      case atStart => exact ⟨ys.length, 0, none, 0, Nat.le_refl _, rfl, rfl, by omega, by rw [List.drop_of_length_le (Nat.le_refl _)]; exact OwnS.nil _ _ _, Below.refl _ _⟩
      case round =>
        obtain ⟨k, m, A2, c2, hk, rfl, rfl, hmk, hown, hbel⟩ := hrel
        have hmk1 : m + k ≤ ys.length := by omega
        have hmk2 : ys.length ≤ m + k := by omega
        clear hmk
        by_cases hk0 : k = 0
        · subst hk0
          have hmm : 0 < m := by omega
          obtain ⟨g, rfl, hg1, hg2, _, _⟩ := hown.at_ hmm
          have hlm := hown.len
          rw [bytes_length] at hlm
          have kc := conv_bytes g m c2 _ _ wr hlm hown
          rw [List.drop_zero] at kc
          have KC := Lib.hid (show ((ys.map dch).reverse) = decI (sg false v) by rw [HR.out, HD'.out]; rfl)
          rw [KC.out] at kc
          clear hlm
          go_wp2_with fail
          go_ret
          exact ⟨rfl, hbel⟩
        · obtain ⟨j, rfl⟩ : ∃ j, k = j + 1 := ⟨k - 1, by omega⟩
          rw [show ((j + 1 : Nat) : Int) - 1 = (j : Int) from by omega]
          have hcj : wr.cell? ⟨b, off + j, none⟩ = some (.int .i64 (atN ys j : Int)) := (hbel.cell (p := ⟨b, off + j, none⟩) hb).trans (hcl j (by omega))
          have hdj := atD_lt hy j
          have HS := Lib.hid (text_step ys j (by omega))
          clear hk0
          go_wp2_with (at_builtin; refine wp_app1 el_byte rfl _ _ rfl w.heap.size _ _ _ _ _ _ rfl hown rfl rfl (by unfold maxLen; omega) (by omega) hbel.size ?_; intro A3 c3 w3 hown3 hb3)
          go_roundw
          case rel =>
            refine ⟨j, m + 1, A3, c3, by omega, rfl, rfl, by omega, ?_, hbel.trans hb3⟩
            rw [HS.out, bytes_snoc, dch_toNat hdj]
            have e : ((48 + atN ys j : Nat) : Int) = 48 + (atN ys j : Int) := by omega
            rw [e]; exact hown3
          case measure => simp [intOf]
    · go_enter Tryd.func45, Tryd.ntmps45
      go_wp2_with fail
      refine hW.out.mono ?_; rintro e w' ⟨rfl, h⟩
      obtain rfl := h.symm
      go_wp2_with (at_builtin; refine wp_app1 el_byte rfl _ _ rfl w.heap.size _ _ _ _ _ _ rfl (OwnS.nil _ _ _) rfl rfl (by unfold maxLen; omega) (by omega) (Nat.le_refl _) ?_; intro A1 c1 w1 hown1 hb1)
      have hp0 : OwnS w1 w.heap.size 5 A1 1 c1 (bytes [45]) := hown1
      clear hown1
      go_loopw [5, 6] (fun s i wr => ∃ (k m : Nat) (A2 : Option Addr) (c2 : Nat), k ≤ ys.length ∧ i = .int .i64 ((k : Int) - 1) ∧ s = .slice A2 m c2 ∧ m + k = ys.length + 1 ∧ OwnS wr w.heap.size 5 A2 m c2 (bytes ([45] ++ ((ys.drop k).map dch).reverse)) ∧ Below w.heap.size w wr) (fun _ i _ => (intOf i + 1).toNat)
      case atStart => exact ⟨ys.length, 1, A1, c1, Nat.le_refl _, rfl, rfl, by omega, by rw [List.drop_of_length_le (Nat.le_refl _)]; exact hp0, hb1⟩
      case round =>
        obtain ⟨k, m, A2, c2, hk, rfl, rfl, hmk, hown, hbel⟩ := hrel
        have hmk1 : m + k ≤ ys.length + 1 := by omega
        have hmk2 : ys.length + 1 ≤ m + k := by omega
        clear hmk hp0 hb1
        by_cases hk0 : k = 0
        · subst hk0
          have hmm : 0 < m := by omega
          obtain ⟨g, rfl, hg1, hg2, _, _⟩ := hown.at_ hmm
          have hlm := hown.len
          rw [bytes_length] at hlm
          have kc := conv_bytes g m c2 _ _ wr hlm hown
          rw [List.drop_zero] at kc
          have KC := Lib.hid (show [45] ++ ((ys.map dch).reverse) = decI (sg true v) by rw [HR.out, HD'.out]; rfl)
          rw [KC.out] at kc
          clear hlm
          go_wp2_with fail
          go_ret
          exact ⟨rfl, hbel⟩
        · obtain ⟨j, rfl⟩ : ∃ j, k = j + 1 := ⟨k - 1, by omega⟩
          rw [show ((j + 1 : Nat) : Int) - 1 = (j : Int) from by omega]
          have hcj : wr.cell? ⟨b, off + j, none⟩ = some (.int .i64 (atN ys j : Int)) := (hbel.cell (p := ⟨b, off + j, none⟩) hb).trans (hcl j (by omega))
          have hdj := atD_lt hy j
          have HS := Lib.hid (text_step ys j (by omega))
          clear hk0
          go_wp2_with (at_builtin; refine wp_app1 el_byte rfl _ _ rfl w.heap.size _ _ _ _ _ _ rfl hown rfl rfl (by unfold maxLen; omega) (by omega) hbel.size ?_; intro A3 c3 w3 hown3 hb3)
          go_roundw
          case rel =>
            refine ⟨j, m + 1, A3, c3, by omega, rfl, rfl, by omega, ?_, hbel.trans hb3⟩
            rw [HS.out, ← List.append_assoc, bytes_snoc, dch_toNat hdj]
            have e : ((48 + atN ys j : Nat) : Int) = 48 + (atN ys j : Int) := by omega
            rw [e]; exact hown3
          case measure => simp [intOf]
end Go.Proofs.YtkggdkkfdbbglaaDoor
