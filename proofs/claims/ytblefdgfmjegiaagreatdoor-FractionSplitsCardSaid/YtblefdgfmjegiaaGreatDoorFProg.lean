/- fraction: sets.Has, integer, the properties of columns. -/
import Derived.Test.YtblefdgfmjegiaaGreatDoorFracQ
import Derived.Test.YtblefdgfmjegiaaGreatDoorRTimes
import Derived.Test.YtblefdgfmjegiaaGreatDoorOpenK
import Derived.Laws.Bits64b
namespace Go.Proofs.YtblefdgfmjegiaaGreatDoor
open Go.RowKit Num
set_option linter.unusedVariables false
attribute [local go_sem] B_size B_get B_toList B_mk B_extract B_append

theorem fbelow3 {w0 w1 w2 : World} (h1 : Below w0.heap.size w0 w1) (h2 : Below w1.heap.size w1 w2) : Below w0.heap.size w0 w2 := h1.trans (h2.mono h1.size)
theorem and_one_i64 (E : Int) (h0 : 0 ≤ E) (h1 : E ≤ 9223372036854775807) : bits BinOp.and IntKind.i64 E 1 = E % 2 := by
  obtain ⟨a, rfl⟩ : ∃ a : Nat, E = a := ⟨E.toNat, by omega⟩
  have h3 : (BitVec.ofInt 64 (a : Int)).toNat = a := by
    rw [BitVec.ofInt_natCast, BitVec.toNat_ofNat]; exact Nat.mod_eq_of_lt (by omega)
  have h4 : (BitVec.ofInt 64 (1 : Int)).toNat = 1 := by decide
  show IntKind.i64.wrap ((BitVec.ofInt 64 (a : Int) &&& BitVec.ofInt 64 (1 : Int)).toNat : Int) = _
  rw [BitVec.toNat_and, h3, h4, Nat.and_one_is_mod]
  have : a % 2 < 2 := Nat.mod_lt _ (by omega)
  unfold IntKind.wrap
  simp [IntKind.signed, IntKind.bits]
  omega
theorem fhas_any (s i : Int) (w : World) (hs : 0 ≤ s) (hs2 : fits s) :
    Calls Tryz.prog 24 #[.int .i64 s, .int .i64 i] w fun e w' => e = .returned (.bool (hasB s i)) ∧ w' = w := by
  have hs3 := hs2.2
  by_cases h0 : 0 ≤ i
  · by_cases h1 : i ≤ 62
    · have hd0 : 0 ≤ s / 2 ^ i.toNat := Int.ediv_nonneg hs (Int.pow_nonneg (by omega))
      have hd1 : s / 2 ^ i.toNat ≤ s := Int.ediv_le_self _ hs
      have HV := Lib.hid (show hasB s i = (bits BinOp.and IntKind.i64 (s / 2 ^ i.toNat) 1 == 1) by
        rw [and_one_i64 _ hd0 (by omega)]
        unfold hasB
        by_cases e : s / 2 ^ i.toNat % 2 = 1
        · rw [e, decide_eq_true ⟨h0, h1, rfl⟩]; rfl
        · rw [decide_eq_false (fun h => e h.2.2)]; simp [e])
      clear hd0 hd1
      go_enter Tryz.func24, Tryz.ntmps24
      go_wp2_with fail
      go_ret
      exact ⟨ret_bool HV.out.symm, rfl⟩
    · have HV := Lib.hid (show hasB s i = false by unfold hasB; rw [decide_eq_false (fun h => h1 h.2.1)])
      go_enter Tryz.func24, Tryz.ntmps24
      go_wp2_with fail
      go_ret
      exact ⟨ret_bool HV.out.symm, rfl⟩
  · have HV := Lib.hid (show hasB s i = false by unfold hasB; rw [decide_eq_false (fun h => h0 h.1)])
    go_enter Tryz.func24, Tryz.ntmps24
    go_wp2_with fail
    go_ret
    exact ⟨ret_bool HV.out.symm, rfl⟩
theorem finteger_any (l : Str) (w : World) (hl : l.length ≤ 1000000) (he : Env w) :
    Calls Tryz.prog 27 #[.string (B l)] w fun e w' => e = .returned (.bool (!hasS l)) ∧ Below w.heap.size w w' := by
  have HC := Lib.hid (containsq_any l w hl he.2)
  generalize hasS l = h at *
  go_enter Tryz.func27, Tryz.ntmps27
  simp only [B_mk]
  go_wp2_with fail
  refine HC.out.mono ?_
  rintro e w1 ⟨rfl, hb1⟩
  go_wp2_with fail
  go_ret
  exact ⟨rfl, hb1⟩
abbrev ColV.agg (r : ColV) : Value := .agg #[.int .i64 r.t, .int .i64 r.s, .int .i64 r.p, .int .i64 r.rt, .int .i64 r.rs, .slice r.A r.n r.c, .slice r.A2 r.n2 r.c2]
theorem fused1_any (r : ColV) (k : Int) (q : Nat) (w : World) (hq : w.heap[q]? = some (.cells #[.int .i64 k] 3)) :
    Calls Tryz.prog 21 #[r.agg, .pointer (some ⟨q, 0, none⟩)] w fun e w' => e = .returned (.bool (isType k r.t r.s)) ∧ Below w.heap.size w w' := by
  have b0 := new_below w (.cells #[.int .i64 r.t, .int .i64 r.s, .int .i64 r.p, .int .i64 r.rt, .int .i64 r.rs, .slice r.A r.n r.c, .slice r.A2 r.n2 r.c2] 57)
  have hq2 := row_on hq b0
  have c0 : (w.alloc (.cells #[.int .i64 r.t, .int .i64 r.s, .int .i64 r.p, .int .i64 r.rt, .int .i64 r.rs, .slice r.A r.n r.c, .slice r.A2 r.n2 r.c2] 57)).cell? ⟨q, 0, none⟩ = some (.int .i64 k) := by rw [cell_of_row _ q 0 _ _ _ hq2]; rfl
  have HV := Lib.hid (show isType k r.t r.s = (r.t == k) by unfold isType; rfl)
  clear hq hq2
  go_enter Tryz.func21, Tryz.ntmps21
  go_wp2_with fail
  go_ret
  exact ⟨ret_bool HV.out.symm, b0⟩
theorem ftog1_any (r : ColV) (a b : Int) (q1 q2 : Nat) (w : World) (hs : 0 ≤ r.s ∧ fits r.s) (hq1 : w.heap[q1]? = some (.cells #[.int .i64 a] 3)) (hq2 : w.heap[q2]? = some (.cells #[.int .i64 b] 3)) :
    Calls Tryz.prog 23 #[r.agg, .pointer (some ⟨q1, 0, none⟩), .pointer (some ⟨q2, 0, none⟩)] w fun e w' => e = .returned (.bool (bothIn a b r.t r.s)) ∧ Below w.heap.size w w' := by
  have b0 := new_below w (.cells #[.int .i64 r.t, .int .i64 r.s, .int .i64 r.p, .int .i64 r.rt, .int .i64 r.rs, .slice r.A r.n r.c, .slice r.A2 r.n2 r.c2] 57)
  have h1 := row_on hq1 b0
  have h2 := row_on hq2 b0
  have c1 : (w.alloc (.cells #[.int .i64 r.t, .int .i64 r.s, .int .i64 r.p, .int .i64 r.rt, .int .i64 r.rs, .slice r.A r.n r.c, .slice r.A2 r.n2 r.c2] 57)).cell? ⟨q1, 0, none⟩ = some (.int .i64 a) := by rw [cell_of_row _ q1 0 _ _ _ h1]; rfl
  have c2 : (w.alloc (.cells #[.int .i64 r.t, .int .i64 r.s, .int .i64 r.p, .int .i64 r.rt, .int .i64 r.rs, .slice r.A r.n r.c, .slice r.A2 r.n2 r.c2] 57)).cell? ⟨q2, 0, none⟩ = some (.int .i64 b) := by rw [cell_of_row _ q2 0 _ _ _ h2]; rfl
  have H1 := Lib.hid (fun w => fhas_any r.s a w hs.1 hs.2)
  have H2 := Lib.hid (fun w => fhas_any r.s b w hs.1 hs.2)
  have HV := Lib.hid (show bothIn a b r.t r.s = (hasB r.s a && hasB r.s b) from rfl)
  clear hq1 hq2 h1 h2
  generalize hasB r.s b = y at *
  cases hx : hasB r.s a
  · rw [hx] at H1 HV
    go_enter Tryz.func23, Tryz.ntmps23
    go_wp2_with fail
    refine (H1.out _).mono ?_
    rintro e w1 ⟨rfl, rfl⟩
    go_wp2_with fail
    go_ret
    exact ⟨ret_bool HV.out.symm, b0⟩
  · rw [hx] at H1 HV
    go_enter Tryz.func23, Tryz.ntmps23
    go_wp2_with fail
    refine (H1.out _).mono ?_
    rintro e w1 ⟨rfl, rfl⟩
    go_wp2_with fail
    refine (H2.out _).mono ?_
    rintro e w1 ⟨rfl, rfl⟩
    go_wp2_with fail
    go_ret
    exact ⟨ret_bool (by rw [HV.out, Bool.true_and]), b0⟩
end Go.Proofs.YtblefdgfmjegiaaGreatDoor
