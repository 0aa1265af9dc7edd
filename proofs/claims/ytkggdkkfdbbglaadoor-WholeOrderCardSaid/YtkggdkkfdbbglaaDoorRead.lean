/- nat.read, nat.number.limb. -/
import Derived.Test.YtkggdkkfdbbglaaDoorOwn
import Derived.Test.YtkggdkkfdbbglaaDoorTrim
import Derived.Test.YtkggdkkfdbbglaaDoorSeg
namespace Go.Proofs.YtkggdkkfdbbglaaDoor
open Go.RowKit Num
set_option linter.unusedVariables false
attribute [local go_sem] B_size B_get B_toList B_mk B_extract
attribute [local go_sem high] run_max2

theorem limb_any (xs : List Nat) (A : Option Addr) (c k : Nat) (w : World) (hk : k ≤ 9000000000000000000) (hl : xs.length ≤ c) (hm : c ≤ maxLen) (hc : Cells w A (nums xs)) :
    Calls Tryd.prog 61 #[.slice A xs.length c, .int .i64 k] w fun e w' => e = .returned (.int .i64 (atN xs k : Int)) ∧ w' = w := by
  unfold maxLen at hm
  by_cases h : k < xs.length
  · obtain ⟨b, off, rfl, hb, hcell⟩ := hc (by rw [nums_length]; omega)
    have h1 := Cells.num hcell k h
    clear hcell hc
    go_enter Tryd.func61, Tryd.ntmps61
    go_wp2
    go_ret
    exact ⟨rfl, rfl⟩
  · have h0 := Lib.hid (show atN xs k = 0 by simp [atN]; rw [List.getElem?_eq_none (by omega)]; rfl)
    clear hc
    go_enter Tryd.func61, Tryd.ntmps61
    go_wp2
    go_ret
    exact ⟨ret_int (by rw [h0.out]; rfl), rfl⟩

/-- one round of read: the last nine digits become a limb -/
theorem read_step (l t : List UInt8) (ys : List Nat) (ht : t = l.take t.length) (hm0 : 0 < t.length) (h : l.all isDig = true) (hy : limbs ys) (hv : val l = val t * 1000000000 ^ ys.length + lv ys) :
    limbs (ys ++ [seg t (t.length - 9) t.length]) ∧ val l = val (t.take (t.length - 9)) * 1000000000 ^ (ys ++ [seg t (t.length - 9) t.length]).length + lv (ys ++ [seg t (t.length - 9) t.length]) := by
  have hta : t.all isDig = true := by rw [ht]; have := all_sub h 0 t.length; simpa using this
  generalize hm : t.length = m at *
  have h1 := seg_lt t (m - 9) m hta (by omega)
  refine ⟨limbs_append.2 ⟨hy, fun x hx => by simp at hx; rw [hx]; exact h1⟩, ?_⟩
  have h2 := val_split t (m - 9) (by omega)
  rw [hm] at h2
  rw [hv, h2, lv_append, List.length_append, List.length_cons, List.length_nil, Nat.pow_succ]
  have h4 : lv [seg t (m - 9) m] = seg t (m - 9) m := by simp [lv]
  rw [h4]
  by_cases h9 : 9 ≤ m
  · rw [show m - (m - 9) = 9 by omega, Nat.add_mul, Nat.mul_assoc, show (10 : Nat) ^ 9 = 1000000000 from rfl, Nat.mul_comm 1000000000 (1000000000 ^ ys.length), Nat.mul_comm (seg t (m - 9) m)]
    omega
  · have h5 : m - 9 = 0 := by omega
    rw [h5]; simp [val]; rw [Nat.mul_comm]; omega

set_option maxHeartbeats 400000 in
theorem read_any (l : List UInt8) (w : World) (hl : l.length ≤ 1000000000) (hd : l.all isDig = true) :
    Calls Tryd.prog 74 #[.string (B l)] w fun e w' => ∃ A c, e = .returned (.slice A (nl (val l)).length c) ∧ (nl (val l)).length ≤ c ∧ c ≤ maxLen ∧ Cells w' A (nums (nl (val l))) ∧ Below w.heap.size w w' := by
  go_enter Tryd.func74, Tryd.ntmps74
  go_wp2
  go_loopw [0, 3] (fun s v wr => ∃ (t : List UInt8) (ys : List Nat) (A : Option Addr) (c : Nat), s = .string (B t) ∧ v = .slice A ys.length c ∧ OwnS wr w.heap.size 3 A ys.length c (nums ys) ∧
      limbs ys ∧ t = l.take t.length ∧ val l = val t * 1000000000 ^ ys.length + lv ys ∧ ys.length + t.length ≤ l.length ∧ Below w.heap.size w wr)
    (fun s _ _ => match s with | .string s => s.size | _ => 0)
  case atStart =>
    exact ⟨l, [], none, 0, rfl, rfl, OwnS.nil _ _ _, limbs_nil, by simp, by simp [lv], by simp, Below.refl _ _⟩
  case round =>
    obtain ⟨t, ys, A, c, rfl, rfl, hown, hy, ht, hv, hsz, hbel⟩ := hrel
    by_cases hm0 : t = []
    · have HV := Lib.hid hv
      subst hm0
      clear hv ht
      go_wp2_with fail
      have hval : val l = lv ys := by rw [HV.out]; simp [val]
      rw [show (ys.length : Nat) = ys.length from rfl]
      refine (trim_any ys A c wr hy hown.cap.1 hown.cap.2 hown.cells).mono ?_
      rintro e w' ⟨rfl, rfl⟩
      go_wp2_with fail
      go_ret
      have hc := hown.cells.take (nl (lv ys)).length
      have ht := take_nl ys hy
      refine ⟨A, c, ret_slice (by rw [hval]), ?_, hown.cap.2, ?_, hbel⟩
      · have := congrArg List.length ht
        rw [List.length_take] at this
        have := hown.cap.1
        rw [hval]; omega
      · rw [hval, ← ht]
        unfold nums at hc ⊢
        rw [← List.map_take] at hc
        exact hc
    · have hm1 : 0 < t.length := List.length_pos_iff.2 hm0
      have HS := Lib.hid (read_step l t ys ht hm1 hd hy hv)
      have hta : t.all isDig = true := by rw [ht]; have := all_sub hd 0 t.length; simpa using this
      have HT := Lib.hid ht
      have HTA := Lib.hid hta
      clear hv ht hm0 hta
      have hmx : imax 0 ((t.length : Int) - 9) = ((t.length - 9 : Nat) : Int) := by rw [imax_pos]; omega
      go_wp2_with fail
      go_loop [5, 6] (fun x i => ∃ k : Nat, t.length - 9 ≤ k ∧ k ≤ t.length ∧ i = .int .i64 k ∧ x = .int .i64 (seg t (t.length - 9) k : Nat)) (fun _ i => t.length - (intOf i).toNat)
      case atStart => exact ⟨t.length - 9, Nat.le_refl _, by omega, rfl, by rw [seg_self]; rfl⟩
      case round =>
        obtain ⟨k, hk1, hk2, rfl, rfl⟩ := hrel
        by_cases hlt : k < t.length
        · have HX := Lib.hid (seg_succ t (t.length - 9) k hk1 hlt)
          have hdg := dig_of_all HTA.out hlt
          have hsg := seg_lt t (t.length - 9) k HTA.out (by omega)
          have hd1 : 48 ≤ ((at8 t k).toNat : Int) := by omega
          have hd2 : ((at8 t k).toNat : Int) ≤ 57 := by omega
          have hs1 : (0 : Int) ≤ (seg t (t.length - 9) k : Int) := by omega
          have hs2 : (seg t (t.length - 9) k : Int) ≤ 999999999 := by omega
          clear hdg hsg
          go_wp2_with fail
          go_round
          case rel => exact ⟨k + 1, by omega, by omega, by go_num, by rw [HX.out]; unfold dv; go_num⟩
          case measure => simp [intOf]; omega
        · obtain rfl : k = t.length := by omega
          go_wp2_with (at_builtin; refine wp_app1 el_number rfl _ _ rfl w.heap.size _ _ _ _ _ _ rfl hown rfl rfl (by unfold maxLen; omega) (by omega) hbel.size ?_; intro A' c' w1 hown1 hb1)
          go_roundw
          case rel =>
            have hs := HS.out
            refine ⟨t.take (t.length - 9), ys ++ [seg t (t.length - 9) t.length], A', c', rfl, by simp, by simpa [nums] using hown1, hs.1, ?_, hs.2, by simp; omega, hbel.trans hb1⟩
            have e : t.take (t.length - 9) = (l.take t.length).take (t.length - 9) := by rw [← HT.out]
            rw [List.length_take, Nat.min_eq_left (by omega), e, List.take_take]
            congr 1
            omega
          case measure => simp [B_size]; omega
end Go.Proofs.YtkggdkkfdbbglaaDoor
