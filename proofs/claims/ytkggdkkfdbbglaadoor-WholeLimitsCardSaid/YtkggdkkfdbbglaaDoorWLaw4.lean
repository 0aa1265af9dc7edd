/- The law WholeLimits. (Printed by wip/wlaws4.py.) -/
import Derived.Test.YtkggdkkfdbbglaaDoorWLaw3
namespace Go.Proofs.YtkggdkkfdbbglaaDoor
open Go.RowKit Num
set_option linter.unusedVariables false
attribute [local go_sem] B_size B_get B_toList B_mk B_extract B_append
attribute [local go_sem high] run_max2

theorem val_nines (k : Nat) : val (List.replicate k 57) + 1 = 10 ^ k := by
  induction k with
  | zero => rfl
  | succ k ih =>
    rw [List.replicate_succ, val_cons, List.length_replicate, Nat.pow_succ, show dv 57 = 9 from rfl]
    omega
theorem right_nines {k : Nat} (h : 0 < k) : right (List.replicate k 57) = true := by
  obtain ⟨j, rfl⟩ : ∃ j, k = j + 1 := ⟨k - 1, by omega⟩
  unfold right
  have h1 : (List.replicate (j + 1) (57 : UInt8)).all isDig = true := by
    rw [List.all_eq_true]; intro x hx; rw [List.eq_of_mem_replicate hx]; rfl
  rw [h1, List.replicate_succ]; rfl
theorem dec_nines {k : Nat} (h : 0 < k) : dec (10 ^ k - 1) = List.replicate k 57 := by
  have h1 := dec_val (right_nines h)
  have h2 := val_nines k
  rw [show val (List.replicate k 57) = 10 ^ k - 1 by omega] at h1
  exact h1
theorem dec_pow (k : Nat) : (dec (10 ^ k)).length = k + 1 := by
  have h1 : (dec (10 ^ k)).length ≤ k + 1 := (length_dec_le (by omega)).2 (Nat.pow_lt_pow_right (by omega) (by omega))
  rcases Nat.lt_or_ge k (dec (10 ^ k)).length with h | h
  · omega
  · rcases Nat.eq_zero_or_pos k with h0 | h0
    · have := length_dec_pos (10 ^ k); omega
    · have := (length_dec_le (n := 10 ^ k) h0).1 h; omega
theorem dec_nine10 {k : Nat} (h : 0 < k) : (dec ((10 ^ k - 1) * 10)).length = k + 1 := by
  have hp := Nat.pow_le_pow_right (show 0 < 10 by omega) h
  rw [dec_ge (by omega), show (10 ^ k - 1) * 10 / 10 = 10 ^ k - 1 by omega, dec_nines h]; simp
/-- the text of n nines -/
def nin (g : Bool) (k : Nat) : Str := (if g = true then [45] else []) ++ List.replicate k 57
theorem nin_decI (g : Bool) {k : Nat} (h : 0 < k) : nin g k = decI (sg g (10 ^ k - 1)) := by
  have hp := Nat.pow_le_pow_right (show 0 < 10 by omega) h
  cases g
  · rw [decI_sg_false, dec_nines h]; rfl
  · rw [decI_sg_pos (by omega), dec_nines h]; rfl
theorem nin_right (g : Bool) {k : Nat} (h : 0 < k) : rightI (nin g k) = true := by rw [nin_decI g h]; exact rightI_decI _
theorem nin_val (g : Bool) {k : Nat} (h : 0 < k) : valI (nin g k) = sg g (10 ^ k - 1) := by rw [nin_decI g h, valI_decI]
theorem nin_mag (g : Bool) {k : Nat} (h : 0 < k) : (mag (nin g k)).length = k := by rw [nin_decI g h, mag_decI, sg_abs, dec_nines h]; simp
theorem nin_len (g : Bool) (k : Nat) : (nin g k).length ≤ k + 1 := by unfold nin; cases g <;> simp
/-- the text of the one with a sign -/
def one (g : Bool) : Str := if g = true then [45, 49] else [49]
theorem one_facts (g : Bool) : rightI (one g) = true ∧ valI (one g) = sg g 1 ∧ (mag (one g)).length = 1 := by cases g <;> decide
theorem nin_neg (g : Bool) {k : Nat} (h : 0 < k) : decI (-(valI (nin g k))) = nin (!g) k := by rw [nin_val g h, nin_decI (!g) h, sg_not]
theorem nin_err (g : Bool) {k : Nat} (h : 0 < k) (b : Str) (hb : rightI b = true) (hl : (mag b).length ≤ 4096) : errI (nin g k) b = if k ≤ 4096 then 0 else 4 := by
  unfold errI
  rw [if_pos ⟨nin_right g h, hb⟩, nin_mag g h]
  by_cases hk : k ≤ 4096
  · rw [if_pos ⟨hk, hl⟩, if_pos hk]
  · rw [if_neg (fun hh => hk hh.1), if_neg hk]
theorem nin_err2 (g : Bool) {k : Nat} (h : 0 < k) : errI (nin g k) (nin g k) = if k ≤ 4096 then 0 else 4 := by
  unfold errI
  rw [if_pos ⟨nin_right g h, nin_right g h⟩, nin_mag g h]
  by_cases hk : k ≤ 4096
  · rw [if_pos ⟨hk, hk⟩, if_pos hk]
  · rw [if_neg (fun hh => hk hh.1), if_neg hk]
theorem res_big {z : Int} {k : Nat} (hz : (dec z.natAbs).length = k + 1) : resIE z = (if k < 4096 then 0 else 4) ∧ (4096 ≤ k → resIS z = []) := by
  unfold resIE resIS
  rw [hz]
  refine ⟨?_, fun h => if_neg (by omega)⟩
  by_cases h : k < 4096
  · rw [if_pos (by omega), if_pos h]
  · rw [if_neg (by omega), if_neg h]
theorem nin_add (g : Bool) {k : Nat} (h : 0 < k) : addIE (nin g k) (one g) = (if k < 4096 then 0 else 4) ∧ (4096 ≤ k → addIS (nin g k) (one g) = []) := by
  have h1 := one_facts g
  have he := nin_err g h (one g) h1.1 (by rw [h1.2.2]; decide)
  have hp := Nat.pow_le_pow_right (show 0 < 10 by omega) h
  have hz : valI (nin g k) + valI (one g) = sg g (10 ^ k) := by
    rw [nin_val g h, h1.2.1, sum_same, show 10 ^ k - 1 + 1 = 10 ^ k by omega]
  have hr := res_big (z := sg g (10 ^ k)) (k := k) (by rw [sg_abs]; exact dec_pow k)
  unfold addIE addIS
  rw [hz, he]
  by_cases hk : k ≤ 4096
  · rw [if_pos hk, if_pos rfl, if_pos rfl]; exact hr
  · rw [if_neg hk, if_neg (show ¬ (4 : Int) = 0 by decide), if_neg (show ¬ (4 : Int) = 0 by decide), if_neg (show ¬ k < 4096 by omega)]; exact ⟨rfl, fun _ => rfl⟩
theorem nin_mul (g : Bool) {k : Nat} (h : 0 < k) : mulIE (nin g k) [49, 48] = (if k < 4096 then 0 else 4) ∧ (4096 ≤ k → mulIS (nin g k) [49, 48] = []) := by
  have he := nin_err g h [49, 48] (by decide) (by decide)
  have hz : valI (nin g k) * valI [49, 48] = sg g ((10 ^ k - 1) * 10) := by
    rw [nin_val g h, show valI [49, 48] = sg false 10 from rfl, mul_sg]; cases g <;> rfl
  have hr := res_big (z := sg g ((10 ^ k - 1) * 10)) (k := k) (by rw [sg_abs]; exact dec_nine10 h)
  unfold mulIE mulIS
  rw [hz, he]
  by_cases hk : k ≤ 4096
  · rw [if_pos hk, if_pos rfl, if_pos rfl]; exact hr
  · rw [if_neg hk, if_neg (show ¬ (4 : Int) = 0 by decide), if_neg (show ¬ (4 : Int) = 0 by decide), if_neg (show ¬ k < 4096 by omega)]; exact ⟨rfl, fun _ => rfl⟩
theorem nin_negS (g : Bool) {k : Nat} (h : 0 < k) (hk : k ≤ 4096) : negIS (nin g k) = nin (!g) k := by
  unfold negIS; rw [nin_err2 g h, if_pos hk, if_pos rfl, nin_neg g h]
theorem nin_div (g : Bool) {k : Nat} (h : 0 < k) : divIE (nin g k) [49] = (if k ≤ 4096 then 0 else 4) ∧ (k ≤ 4096 → divIQ (nin g k) [49] = nin g k ∧ divIR (nin g k) [49] = [48]) := by
  have he := nin_err g h [49] (by decide) (by decide)
  have h1 : valI [49] = 1 := by decide
  have hE : divIE (nin g k) [49] = if k ≤ 4096 then 0 else 4 := by
    unfold divIE
    rw [he, h1]
    by_cases hk : k ≤ 4096
    · rw [if_pos hk, if_pos rfl, if_neg (by decide)]
    · rw [if_neg hk, if_neg (by decide)]
  refine ⟨hE, fun hk => ?_⟩
  have hq : qI (valI (nin g k)) (valI [49]) = valI (nin g k) := by rw [h1]; unfold qI; rw [if_neg (by omega), Int.ediv_one]
  unfold divIQ divIR
  rw [hE, if_pos hk, if_pos rfl, if_pos rfl]
  refine ⟨by rw [hq, decI_valI (nin_right g h)], ?_⟩
  unfold rI
  rw [hq, h1, Int.one_mul, Int.sub_self, decI_zero]
theorem nin_num (g : Bool) {k : Nat} (h : 4000 ≤ k) : numE (nin g k) = 4 := by
  refine (num_big (nin_right g (by omega)) (int_long (nin_right g (by omega)) ?_)).1
  rw [nin_mag g (by omega)]; omega
theorem bytes_rep (l : Str) (j : Nat) : bytes (l ++ List.replicate j 57) ++ [.int .u8 57] = bytes (l ++ List.replicate (j + 1) 57) := by
  rw [List.replicate_succ', ← List.append_assoc]; simp [bytes]

set_option maxHeartbeats 1000000 in
set_option maxRecDepth 100000 in
theorem nines_any (g : Bool) (k : Nat) (w : World) (h0 : 0 < k) (hk : k ≤ 100000) :
    Calls Tryd.prog 34 #[.int .i64 k, .bool g] w fun e w' => e = .returned (.string (B (nin g k))) ∧ Below w.heap.size w w' := by
  have HN := Lib.hid (show nin g k = (if g = true then [45] else []) ++ List.replicate k 57 from rfl)
  generalize nin g k = N at *
  cases g
  · go_enter Tryd.func34, Tryd.ntmps34
    simp only [B_mk]
    go_wp2_with fail
    go_loopw [5] (fun s wr => ∃ (j : Nat) (A2 : Option Addr) (c2 : Nat), j ≤ k ∧ s = .slice A2 (j) c2 ∧ OwnS wr w.heap.size 5 A2 (j) c2 (bytes ([] ++ List.replicate j 57)) ∧ Below w.heap.size w wr) (fun s _ => match s with | .slice _ n _ => k - n | _ => 0)
    case atStart => exact ⟨0, none, 0, by omega, rfl, OwnS.nil _ _ _, Below.refl _ _⟩
    case round =>
      obtain ⟨j, A2, c2, hj, rfl, hown, hbel⟩ := hrel
      by_cases hlt : j < k
      · have hlt' : ((j : Nat) : Int) < (k : Int) := by omega
        go_wp2_with (at_builtin; refine wp_app1 el_byte rfl _ _ rfl w.heap.size _ _ _ _ _ _ rfl hown rfl rfl (by unfold maxLen; omega) (by omega) hbel.size ?_; intro A3 c3 w3 hown3 hb3)
        go_roundw
        case rel => exact ⟨j + 1, A3, c3, by omega, rfl, by rw [bytes_rep] at hown3; exact hown3, hbel.trans hb3⟩
        case measure => simp; omega
      · have hjk : j = k := by omega
        obtain rfl : k = j := by omega
        clear hjk
        obtain ⟨g, rfl, hg1, hg2, _, _⟩ := hown.at_ (by omega)
        have hlm := hown.len
        rw [bytes_length] at hlm
        have kc := conv_bytes g _ c2 _ _ wr hlm hown
        have KC := Lib.hid (show [] ++ List.replicate k 57 = N by rw [HN.out]; rfl)
        rw [KC.out] at kc
        clear hlm
        go_wp2_with fail
        go_ret
        exact ⟨rfl, hbel⟩
  · go_enter Tryd.func34, Tryd.ntmps34
    simp only [B_mk]
    go_wp2_with (at_builtin; refine wp_app1 el_byte rfl _ _ rfl w.heap.size _ _ _ _ _ _ rfl (OwnS.nil _ _ _) rfl rfl (by unfold maxLen; omega) (by omega) (Nat.le_refl _) ?_; intro A1 c1 w1 hown1 hb1)
    have hp0 : OwnS w1 w.heap.size 5 A1 1 c1 (bytes ([45] ++ List.replicate 0 57)) := hown1
    clear hown1
    go_loopw [5] (fun s wr => ∃ (j : Nat) (A2 : Option Addr) (c2 : Nat), j + 1 ≤ k ∧ s = .slice A2 (j + 1) c2 ∧ OwnS wr w.heap.size 5 A2 (j + 1) c2 (bytes ([45] ++ List.replicate j 57)) ∧ Below w.heap.size w wr) (fun s _ => match s with | .slice _ n _ => k - n | _ => 0)
    case atStart => exact ⟨0, A1, c1, by omega, rfl, hp0, hb1⟩
    case round =>
      obtain ⟨j, A2, c2, hj, rfl, hown, hbel⟩ := hrel
      by_cases hlt : j + 1 < k
      · have hlt' : ((j + 1 : Nat) : Int) < (k : Int) := by omega
        go_wp2_with (at_builtin; refine wp_app1 el_byte rfl _ _ rfl w.heap.size _ _ _ _ _ _ rfl hown rfl rfl (by unfold maxLen; omega) (by omega) hbel.size ?_; intro A3 c3 w3 hown3 hb3)
        go_roundw
        case rel => exact ⟨j + 1, A3, c3, by omega, rfl, by rw [bytes_rep] at hown3; exact hown3, hbel.trans hb3⟩
        case measure => simp; omega
      · have hjk : j + 1 = k := by omega
        have hge : ¬ ((j + 1 : Nat) : Int) < (k : Int) := by omega
        have HK := Lib.hid hjk
        have HKC := Lib.hid (show [45] ++ List.replicate (j + 1) 57 = N by rw [HN.out, HK.out]; rfl)
        clear hjk hlt hp0
        go_wp2_with (at_builtin; refine wp_app1 el_byte rfl _ _ rfl w.heap.size _ _ _ _ _ _ rfl hown rfl rfl (by unfold maxLen; omega) (by omega) hbel.size ?_; intro A3 c3 w3 hown3 hb3; rw [bytes_rep, HKC.out] at hown3; obtain ⟨g, hg, hg1, hg2, h5, h6⟩ := hown3.at_ (by omega); subst hg; have hlm := hown3.len; rw [bytes_length] at hlm; have kc := conv_bytes g _ c3 _ _ w3 hlm hown3; clear hlm hown3 h5 h6 hown hg2; generalize j + 1 + 1 = q at *)
        go_ret
        exact ⟨rfl, hbel.trans hb3⟩

set_option maxHeartbeats 2000000 in
set_option maxRecDepth 100000 in
theorem limits_core (m : Int) (g : Bool) (k : Nat) (w : World) (hm0 : 0 ≤ m) (hm1 : m ≤ 255) (hk1 : 4094 ≤ k) (hk2 : k ≤ 4098) (hkm : 4094 + m % 5 = (k : Int)) (ht : Tab w) (he : ErrV w) :
    Calls Tryd.prog 8 #[.int .u8 m, .bool g] w fun e w' => e = .returned (.bool true) ∧ Below w.heap.size w w' := by
  have hk0 : 0 < k := by omega
  have HNI := Lib.hid (fun w => nines_any g k w hk0 (by omega))
  have HNJ := Lib.hid (fun w => nines_any (!g) k w hk0 (by omega))
  have HR := Lib.hid (nin_right g hk0)
  have HNE := Lib.hid (nin_num g (show 4000 ≤ k by omega))
  have HAD := Lib.hid (nin_add g hk0)
  have HMU := Lib.hid (nin_mul g hk0)
  have HNG := Lib.hid (nin_negS g hk0)
  have HER := Lib.hid (nin_err2 g hk0)
  have HDI := Lib.hid (nin_div g hk0)
  have hln := nin_len g k
  have HONE := Lib.hid (show one g = if g = true then [45, 49] else [49] from rfl)
  have hl1 : (one g).length ≤ 2 := by cases g <;> decide
  have CA := Lib.hid (fun (w : World) (ht : Tab w) => padd_any (nin g k) (one g) w (by omega) (by omega) ht)
  have CM := Lib.hid (fun (w : World) (ht : Tab w) => pmul_any (nin g k) [49, 48] w (by omega) (by decide) ht)
  have CN := Lib.hid (fun (w : World) => pneg_any (nin g k) w (by omega))
  have CD := Lib.hid (fun (w : World) (ht : Tab w) => pdiv_any (nin g k) [49] w (by omega) (by decide) ht)
  have CI := Lib.hid (fun (w : World) (he : ErrV w) => wint_any (nin g k) w (by omega) he)
  have CR := Lib.hid (fun (w : World) => wright_any (nin g k) w (maxLen_le (by omega)))
  have hself : (nin g k == nin g k) = true := by simp
  have hself2 : (nin (!g) k == nin (!g) k) = true := by simp
  have hreg : k < 4096 ∨ k = 4096 ∨ 4096 < k := by omega
  rcases hreg with hr | hr | hr
  · have hi1 : (k : Int) < 4096 := by omega
    have hi2 : (k : Int) ≤ 4096 := by omega
    have A1 : addIE (nin g k) (one g) = 0 := by rw [HAD.out.1, if_pos hr]
    have M1 : mulIE (nin g k) [49, 48] = 0 := by rw [HMU.out.1, if_pos hr]
    have E1 : errI (nin g k) (nin g k) = 0 := by rw [HER.out, if_pos (by omega)]
    have E2 := HNG.out (by omega)
    have D1 : divIE (nin g k) [49] = 0 := by rw [HDI.out.1, if_pos (by omega)]
    have D2 := HDI.out.2 (by omega)
    have CA1 := fun (w : World) (ht : Tab w) => CA.out w ht
    simp only [A1] at CA1
    have CA2 := Lib.hid CA1
    clear CA1
    have CM1 := fun (w : World) (ht : Tab w) => CM.out w ht
    simp only [M1] at CM1
    have CM2 := Lib.hid CM1
    clear CM1
    have CN1 := fun (w : World)  => CN.out w 
    simp only [E1, E2] at CN1
    have CN2 := Lib.hid CN1
    clear CN1
    have CD1 := fun (w : World) (ht : Tab w) => CD.out w ht
    simp only [D1, D2.1, D2.2] at CD1
    have CD2 := Lib.hid CD1
    clear CD1
    clear A1 M1 E1 D1 hr E2 D2
    have CI2 := Lib.hid (fun (w : World) (he : ErrV w) => (show Calls Tryd.prog 22 #[.string (B (nin g k))] w fun e w' => e = .returned (.tuple #[.int .i64 (numV (nin g k)), .int .i64 4]) ∧ Below w.heap.size w w' by have := CI.out w he; rw [HNE.out] at this; exact this))
    clear CI CA CM CN CD HAD HMU HNG HER HDI HNE
    generalize numV (nin g k) = nv at *
    generalize negIS (nin g k) = ngs at *
    generalize addIS (nin g k) (one g) = ads at *
    generalize mulIS (nin g k) [49, 48] = mus at *
    generalize divIQ (nin g k) [49] = dqs at *
    generalize divIR (nin g k) [49] = drs at *
    generalize nin g k = N at *
    generalize hNN : nin (!g) k = N2 at *
    clear hNN
    generalize hone : one g = O1 at *
    have HO1 := Lib.hid hone
    clear hone
    cases g
    · have ho1 : O1 = [49] := by rw [← HO1.out]; rfl
      subst ho1
      go_enter Tryd.func8, Tryd.ntmps8
      simp only [B_mk]
      go_wp2_with fail
      refine (HNI.out w).mono ?_
      rintro e v1 ⟨rfl, hb1⟩
      go_wp2_with fail
      refine (CA2.out v1 (ht.below hb1)).mono ?_
      rintro e v2 ⟨rfl, hb2⟩
      have a2 := hb1.trans (hb2.mono hb1.size)
      go_wp2_with fail
      refine (CM2.out v2 (ht.below a2)).mono ?_
      rintro e v3 ⟨rfl, hb3⟩
      have a3 := a2.trans (hb3.mono a2.size)
      go_wp2_with fail
      refine (CN2.out v3).mono ?_
      rintro e v4 ⟨rfl, hb4⟩
      have a4 := a3.trans (hb4.mono a3.size)
      go_wp2_with fail
      refine (CD2.out v4 (ht.below a4)).mono ?_
      rintro e v5 ⟨rfl, hb5⟩
      have a5 := a4.trans (hb5.mono a4.size)
      go_wp2_with fail
      refine (CI2.out v5 (he.below a5)).mono ?_
      rintro e v6 ⟨rfl, hb6⟩
      have a6 := a5.trans (hb6.mono a5.size)
      go_wp2_with fail
      refine (CR.out v6).mono ?_; rw [HR.out]; rintro e w' ⟨rfl, h⟩; obtain rfl := h.symm
      go_wp2_with fail
      refine (HNJ.out v6).mono ?_
      rintro e v7 ⟨rfl, hb7⟩
      have a7 := a6.trans (hb7.mono a6.size)
      go_wp2_with fail
      refine (examples_any v7 (ht.below a7) (he.below a7)).mono ?_
      rintro e vz ⟨rfl, hbz⟩
      go_wp2_with fail
      go_ret
      exact ⟨rfl, a7.trans (hbz.mono a7.size)⟩
    · have ho1 : O1 = [45, 49] := by rw [← HO1.out]; rfl
      subst ho1
      go_enter Tryd.func8, Tryd.ntmps8
      simp only [B_mk]
      go_wp2_with fail
      refine (HNI.out w).mono ?_
      rintro e v1 ⟨rfl, hb1⟩
      go_wp2_with fail
      refine (CA2.out v1 (ht.below hb1)).mono ?_
      rintro e v2 ⟨rfl, hb2⟩
      have a2 := hb1.trans (hb2.mono hb1.size)
      go_wp2_with fail
      refine (CM2.out v2 (ht.below a2)).mono ?_
      rintro e v3 ⟨rfl, hb3⟩
      have a3 := a2.trans (hb3.mono a2.size)
      go_wp2_with fail
      refine (CN2.out v3).mono ?_
      rintro e v4 ⟨rfl, hb4⟩
      have a4 := a3.trans (hb4.mono a3.size)
      go_wp2_with fail
      refine (CD2.out v4 (ht.below a4)).mono ?_
      rintro e v5 ⟨rfl, hb5⟩
      have a5 := a4.trans (hb5.mono a4.size)
      go_wp2_with fail
      refine (CI2.out v5 (he.below a5)).mono ?_
      rintro e v6 ⟨rfl, hb6⟩
      have a6 := a5.trans (hb6.mono a5.size)
      go_wp2_with fail
      refine (CR.out v6).mono ?_; rw [HR.out]; rintro e w' ⟨rfl, h⟩; obtain rfl := h.symm
      go_wp2_with fail
      refine (HNJ.out v6).mono ?_
      rintro e v7 ⟨rfl, hb7⟩
      have a7 := a6.trans (hb7.mono a6.size)
      go_wp2_with fail
      refine (examples_any v7 (ht.below a7) (he.below a7)).mono ?_
      rintro e vz ⟨rfl, hbz⟩
      go_wp2_with fail
      go_ret
      exact ⟨rfl, a7.trans (hbz.mono a7.size)⟩
  · have hi1 : ¬ (k : Int) < 4096 := by omega
    have hi2 : (k : Int) ≤ 4096 := by omega
    have A1 : addIE (nin g k) (one g) = 4 := by rw [HAD.out.1, if_neg (by omega)]
    have A2 := HAD.out.2 (by omega)
    have M1 : mulIE (nin g k) [49, 48] = 4 := by rw [HMU.out.1, if_neg (by omega)]
    have M2 := HMU.out.2 (by omega)
    have E1 : errI (nin g k) (nin g k) = 0 := by rw [HER.out, if_pos (by omega)]
    have E2 := HNG.out (by omega)
    have D1 : divIE (nin g k) [49] = 0 := by rw [HDI.out.1, if_pos (by omega)]
    have D2 := HDI.out.2 (by omega)
    have CA1 := fun (w : World) (ht : Tab w) => CA.out w ht
    simp only [A1, A2] at CA1
    have CA2 := Lib.hid CA1
    clear CA1
    have CM1 := fun (w : World) (ht : Tab w) => CM.out w ht
    simp only [M1, M2] at CM1
    have CM2 := Lib.hid CM1
    clear CM1
    have CN1 := fun (w : World)  => CN.out w 
    simp only [E1, E2] at CN1
    have CN2 := Lib.hid CN1
    clear CN1
    have CD1 := fun (w : World) (ht : Tab w) => CD.out w ht
    simp only [D1, D2.1, D2.2] at CD1
    have CD2 := Lib.hid CD1
    clear CD1
    clear A1 M1 E1 D1 hr A2 M2 E2 D2
    have CI2 := Lib.hid (fun (w : World) (he : ErrV w) => (show Calls Tryd.prog 22 #[.string (B (nin g k))] w fun e w' => e = .returned (.tuple #[.int .i64 (numV (nin g k)), .int .i64 4]) ∧ Below w.heap.size w w' by have := CI.out w he; rw [HNE.out] at this; exact this))
    clear CI CA CM CN CD HAD HMU HNG HER HDI HNE
    generalize numV (nin g k) = nv at *
    generalize negIS (nin g k) = ngs at *
    generalize addIS (nin g k) (one g) = ads at *
    generalize mulIS (nin g k) [49, 48] = mus at *
    generalize divIQ (nin g k) [49] = dqs at *
    generalize divIR (nin g k) [49] = drs at *
    generalize nin g k = N at *
    generalize hNN : nin (!g) k = N2 at *
    clear hNN
    generalize hone : one g = O1 at *
    have HO1 := Lib.hid hone
    clear hone
    cases g
    · have ho1 : O1 = [49] := by rw [← HO1.out]; rfl
      subst ho1
      go_enter Tryd.func8, Tryd.ntmps8
      simp only [B_mk]
      go_wp2_with fail
      refine (HNI.out w).mono ?_
      rintro e v1 ⟨rfl, hb1⟩
      go_wp2_with fail
      refine (CA2.out v1 (ht.below hb1)).mono ?_
      rintro e v2 ⟨rfl, hb2⟩
      have a2 := hb1.trans (hb2.mono hb1.size)
      go_wp2_with fail
      refine (CM2.out v2 (ht.below a2)).mono ?_
      rintro e v3 ⟨rfl, hb3⟩
      have a3 := a2.trans (hb3.mono a2.size)
      go_wp2_with fail
      refine (CN2.out v3).mono ?_
      rintro e v4 ⟨rfl, hb4⟩
      have a4 := a3.trans (hb4.mono a3.size)
      go_wp2_with fail
      refine (CD2.out v4 (ht.below a4)).mono ?_
      rintro e v5 ⟨rfl, hb5⟩
      have a5 := a4.trans (hb5.mono a4.size)
      go_wp2_with fail
      refine (CI2.out v5 (he.below a5)).mono ?_
      rintro e v6 ⟨rfl, hb6⟩
      have a6 := a5.trans (hb6.mono a5.size)
      go_wp2_with fail
      refine (CR.out v6).mono ?_; rw [HR.out]; rintro e w' ⟨rfl, h⟩; obtain rfl := h.symm
      go_wp2_with fail
      refine (HNJ.out v6).mono ?_
      rintro e v7 ⟨rfl, hb7⟩
      have a7 := a6.trans (hb7.mono a6.size)
      go_wp2_with fail
      refine (examples_any v7 (ht.below a7) (he.below a7)).mono ?_
      rintro e vz ⟨rfl, hbz⟩
      go_wp2_with fail
      go_ret
      exact ⟨rfl, a7.trans (hbz.mono a7.size)⟩
    · have ho1 : O1 = [45, 49] := by rw [← HO1.out]; rfl
      subst ho1
      go_enter Tryd.func8, Tryd.ntmps8
      simp only [B_mk]
      go_wp2_with fail
      refine (HNI.out w).mono ?_
      rintro e v1 ⟨rfl, hb1⟩
      go_wp2_with fail
      refine (CA2.out v1 (ht.below hb1)).mono ?_
      rintro e v2 ⟨rfl, hb2⟩
      have a2 := hb1.trans (hb2.mono hb1.size)
      go_wp2_with fail
      refine (CM2.out v2 (ht.below a2)).mono ?_
      rintro e v3 ⟨rfl, hb3⟩
      have a3 := a2.trans (hb3.mono a2.size)
      go_wp2_with fail
      refine (CN2.out v3).mono ?_
      rintro e v4 ⟨rfl, hb4⟩
      have a4 := a3.trans (hb4.mono a3.size)
      go_wp2_with fail
      refine (CD2.out v4 (ht.below a4)).mono ?_
      rintro e v5 ⟨rfl, hb5⟩
      have a5 := a4.trans (hb5.mono a4.size)
      go_wp2_with fail
      refine (CI2.out v5 (he.below a5)).mono ?_
      rintro e v6 ⟨rfl, hb6⟩
      have a6 := a5.trans (hb6.mono a5.size)
      go_wp2_with fail
      refine (CR.out v6).mono ?_; rw [HR.out]; rintro e w' ⟨rfl, h⟩; obtain rfl := h.symm
      go_wp2_with fail
      refine (HNJ.out v6).mono ?_
      rintro e v7 ⟨rfl, hb7⟩
      have a7 := a6.trans (hb7.mono a6.size)
      go_wp2_with fail
      refine (examples_any v7 (ht.below a7) (he.below a7)).mono ?_
      rintro e vz ⟨rfl, hbz⟩
      go_wp2_with fail
      go_ret
      exact ⟨rfl, a7.trans (hbz.mono a7.size)⟩
  · have hi1 : ¬ (k : Int) < 4096 := by omega
    have hi2 : ¬ (k : Int) ≤ 4096 := by omega
    have A1 : addIE (nin g k) (one g) = 4 := by rw [HAD.out.1, if_neg (by omega)]
    have A2 := HAD.out.2 (by omega)
    have M1 : mulIE (nin g k) [49, 48] = 4 := by rw [HMU.out.1, if_neg (by omega)]
    have M2 := HMU.out.2 (by omega)
    have E1 : errI (nin g k) (nin g k) = 4 := by rw [HER.out, if_neg (by omega)]
    have D1 : divIE (nin g k) [49] = 4 := by rw [HDI.out.1, if_neg (by omega)]
    have CA1 := fun (w : World) (ht : Tab w) => CA.out w ht
    simp only [A1, A2] at CA1
    have CA2 := Lib.hid CA1
    clear CA1
    have CM1 := fun (w : World) (ht : Tab w) => CM.out w ht
    simp only [M1, M2] at CM1
    have CM2 := Lib.hid CM1
    clear CM1
    have CN1 := fun (w : World)  => CN.out w 
    simp only [E1] at CN1
    have CN2 := Lib.hid CN1
    clear CN1
    have CD1 := fun (w : World) (ht : Tab w) => CD.out w ht
    simp only [D1] at CD1
    have CD2 := Lib.hid CD1
    clear CD1
    clear A1 M1 E1 D1 hr A2 M2
    have CI2 := Lib.hid (fun (w : World) (he : ErrV w) => (show Calls Tryd.prog 22 #[.string (B (nin g k))] w fun e w' => e = .returned (.tuple #[.int .i64 (numV (nin g k)), .int .i64 4]) ∧ Below w.heap.size w w' by have := CI.out w he; rw [HNE.out] at this; exact this))
    clear CI CA CM CN CD HAD HMU HNG HER HDI HNE
    generalize numV (nin g k) = nv at *
    generalize negIS (nin g k) = ngs at *
    generalize addIS (nin g k) (one g) = ads at *
    generalize mulIS (nin g k) [49, 48] = mus at *
    generalize divIQ (nin g k) [49] = dqs at *
    generalize divIR (nin g k) [49] = drs at *
    generalize nin g k = N at *
    generalize hNN : nin (!g) k = N2 at *
    clear hNN
    generalize hone : one g = O1 at *
    have HO1 := Lib.hid hone
    clear hone
    cases g
    · have ho1 : O1 = [49] := by rw [← HO1.out]; rfl
      subst ho1
      go_enter Tryd.func8, Tryd.ntmps8
      simp only [B_mk]
      go_wp2_with fail
      refine (HNI.out w).mono ?_
      rintro e v1 ⟨rfl, hb1⟩
      go_wp2_with fail
      refine (CA2.out v1 (ht.below hb1)).mono ?_
      rintro e v2 ⟨rfl, hb2⟩
      have a2 := hb1.trans (hb2.mono hb1.size)
      go_wp2_with fail
      refine (CM2.out v2 (ht.below a2)).mono ?_
      rintro e v3 ⟨rfl, hb3⟩
      have a3 := a2.trans (hb3.mono a2.size)
      go_wp2_with fail
      refine (CN2.out v3).mono ?_
      rintro e v4 ⟨rfl, hb4⟩
      have a4 := a3.trans (hb4.mono a3.size)
      go_wp2_with fail
      refine (CD2.out v4 (ht.below a4)).mono ?_
      rintro e v5 ⟨rfl, hb5⟩
      have a5 := a4.trans (hb5.mono a4.size)
      go_wp2_with fail
      refine (CI2.out v5 (he.below a5)).mono ?_
      rintro e v6 ⟨rfl, hb6⟩
      have a6 := a5.trans (hb6.mono a5.size)
      go_wp2_with fail
      refine (CR.out v6).mono ?_; rw [HR.out]; rintro e w' ⟨rfl, h⟩; obtain rfl := h.symm
      go_wp2_with fail
      refine (examples_any v6 (ht.below a6) (he.below a6)).mono ?_
      rintro e vz ⟨rfl, hbz⟩
      go_wp2_with fail
      go_ret
      exact ⟨rfl, a6.trans (hbz.mono a6.size)⟩
    · have ho1 : O1 = [45, 49] := by rw [← HO1.out]; rfl
      subst ho1
      go_enter Tryd.func8, Tryd.ntmps8
      simp only [B_mk]
      go_wp2_with fail
      refine (HNI.out w).mono ?_
      rintro e v1 ⟨rfl, hb1⟩
      go_wp2_with fail
      refine (CA2.out v1 (ht.below hb1)).mono ?_
      rintro e v2 ⟨rfl, hb2⟩
      have a2 := hb1.trans (hb2.mono hb1.size)
      go_wp2_with fail
      refine (CM2.out v2 (ht.below a2)).mono ?_
      rintro e v3 ⟨rfl, hb3⟩
      have a3 := a2.trans (hb3.mono a2.size)
      go_wp2_with fail
      refine (CN2.out v3).mono ?_
      rintro e v4 ⟨rfl, hb4⟩
      have a4 := a3.trans (hb4.mono a3.size)
      go_wp2_with fail
      refine (CD2.out v4 (ht.below a4)).mono ?_
      rintro e v5 ⟨rfl, hb5⟩
      have a5 := a4.trans (hb5.mono a4.size)
      go_wp2_with fail
      refine (CI2.out v5 (he.below a5)).mono ?_
      rintro e v6 ⟨rfl, hb6⟩
      have a6 := a5.trans (hb6.mono a5.size)
      go_wp2_with fail
      refine (CR.out v6).mono ?_; rw [HR.out]; rintro e w' ⟨rfl, h⟩; obtain rfl := h.symm
      go_wp2_with fail
      refine (examples_any v6 (ht.below a6) (he.below a6)).mono ?_
      rintro e vz ⟨rfl, hbz⟩
      go_wp2_with fail
      go_ret
      exact ⟨rfl, a6.trans (hbz.mono a6.size)⟩
theorem wholeLimits_walk (m : Int) (g : Bool) (w : World) (wm : (Lit.int .u8 m).wf = true) (ht : Tab w) (he : ErrV w) :
    Calls Tryd.prog 8 #[.int .u8 m, .bool g] w fun e w' => e = .returned (.bool true) ∧ Below w.heap.size w w' := by
  have h1 : IntKind.u8.min ≤ m ∧ m ≤ IntKind.u8.max := by simpa [Lit.wf] using wm
  have h2 : 0 ≤ m := h1.1
  have h3 : m ≤ 255 := h1.2
  exact limits_core m g (4094 + m % 5).toNat w h2 h3 (by omega) (by omega) (by omega) ht he
end Go.Proofs.YtkggdkkfdbbglaaDoor
