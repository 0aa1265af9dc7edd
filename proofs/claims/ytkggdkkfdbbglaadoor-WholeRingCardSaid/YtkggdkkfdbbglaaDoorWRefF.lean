/- The reference of whole: divide. -/
import Derived.Test.YtkggdkkfdbbglaaDoorWRefE
namespace Go.Proofs.YtkggdkkfdbbglaaDoor
open Go.RowKit Num
set_option linter.unusedVariables false
attribute [local go_sem] B_size B_get B_toList B_mk B_extract B_append
attribute [local go_sem high] run_max2

theorem lw_drop (xs : List Nat) (k : Nat) (h : k < xs.length) : lw (xs.drop k) = atN xs k + 10 * lw (xs.drop (k + 1)) := by
  rw [List.drop_eq_getElem_cons h, lw]; simp [atN, h]
theorem wdiv_step (xs zs : List Nat) (j b r m rest : Nat) (hj : j < xs.length) (hjz : j < zs.length) (hz0 : atN zs j = 0) (h : 10 ^ (j + 1) * lw (xs.drop (j + 1)) = lw zs * b + 10 ^ (j + 1) * r) (hm : atN xs j + 10 * r = m * b + rest) :
    10 ^ j * lw (xs.drop j) = lw (zs.set j m) * b + 10 ^ j * rest := by
  have h1 := lw_set zs j m hjz
  rw [hz0, Nat.mul_zero, Nat.add_zero] at h1
  rw [h1, lw_drop xs j hj, Nat.add_mul, Nat.mul_add]
  rw [Nat.pow_succ, Nat.mul_assoc, Nat.mul_assoc] at h
  have h2 := congrArg (10 ^ j * ·) hm
  simp only [Nat.mul_add] at h2
  rw [Nat.mul_assoc (10 ^ j) m b]
  omega
theorem set_same10 (zs : List Nat) (j : Nat) (h : atN zs j = 0) : zs.set j 0 = zs := by
  apply List.ext_getElem?
  intro i
  rw [List.getElem?_set]
  by_cases hij : j = i
  · subst hij
    rw [if_pos rfl]
    unfold atN at h
    rw [List.getD_eq_getElem?_getD] at h
    by_cases hl : j < zs.length
    · rw [if_pos hl, List.getElem?_eq_getElem hl]
      rw [List.getElem?_eq_getElem hl] at h
      simp at h; rw [h]
    · rw [if_neg hl, List.getElem?_eq_none (by omega)]
  · rw [if_neg hij]
theorem digl_cons {x : Nat} {xs : List Nat} (hx : x < 10) (h : digl xs) : digl (x :: xs) := by
  intro y hy
  rcases List.mem_cons.1 hy with rfl | hy
  · exact hx
  · exact h y hy
theorem nums_one10 (xs : List Nat) : ∀ u ∈ nums xs, u.oneCell' = true := by
  intro u hu
  unfold nums at hu
  obtain ⟨x, _, rfl⟩ := List.mem_map.1 hu
  rfl
theorem ns_mul10_len {n b : Nat} (h : n < b * 10) : (ns n).length ≤ (ns b).length + 1 := by
  have h1 := ns_length_le.1 (Nat.le_refl (ns b).length)
  refine ns_length_le.2 ?_
  rw [Nat.pow_succ]; omega

set_option maxHeartbeats 2000000 in
theorem wdivide_any (a b : Nat) (A A' : Option Addr) (c c' : Nat) (w : World) (hA : DigAt w A c a) (hB : DigAt w A' c' b) (hla : (ns a).length ≤ 100000) (hlb : (ns b).length ≤ 100000) (hb0 : 0 < b) :
    Calls Tryd.prog 42 #[.slice A (ns a).length c, .slice A' (ns b).length c'] w fun e w' => ∃ A1 c1 A2 c2, e = .returned (.tuple #[.slice A1 (ns (a / b)).length c1, .slice A2 (ns (a % b)).length c2]) ∧
      DigAt w' A1 c1 (a / b) ∧ DigAt w' A2 c2 (a % b) ∧ Below w.heap.size w w' := by
  obtain ⟨hcx, hcl, hcm⟩ := hA
  have hx := digl_ns a
  have HX := Lib.hid (lw_ns a)
  have HYL := Lib.hid (fun n (h : n < b * 10) => ns_mul10_len h)
  have HMONO := Lib.hid (fun n (h : n ≤ b) => ns_length_mono h)
  have hdb := digl_ns b
  have HLB := Lib.hid (lw_ns b)
  obtain ⟨hcb, hlb2, hmb2⟩ := hB
  generalize ns a = xs at *
  generalize hys : ns b = ys at *
  have HYS := Lib.hid hys
  clear hys
  go_enter Tryd.func42, Tryd.ntmps42
  go_wp2_with (refine wp_mkn el_ints rfl _ _ rfl w.heap.size _ .i64 .i64 _ _ xs.length rfl rfl (by go_num) (by go_num) (by omega) (by unfold maxLen; omega) (Nat.le_refl _) rfl ?_; intro A0 w0 hown0 hb0')
  go_loopw [7, 8, 9] (fun rs i _ wr => ∃ (k r : Nat) (zs : List Nat) (Ar : Option Addr) (cr : Nat), k ≤ xs.length ∧ i = .int .i64 ((k : Int) - 1) ∧ rs = .slice Ar (ns r).length cr ∧ DigAt wr Ar cr r ∧ r < b ∧
      OwnS wr w.heap.size 3 A0 xs.length xs.length (nums zs) ∧ digl zs ∧ 10 ^ k * lw (xs.drop k) = lw zs * b + 10 ^ k * r ∧ (∀ j, j < k → atN zs j = 0) ∧ Below w.heap.size w wr)
    (fun _ i _ _ => (intOf i + 1).toNat)
  case atStart => exact ⟨xs.length, 0, List.replicate xs.length 0, none, 0, Nat.le_refl _, rfl, by rw [ns_zero]; rfl, ⟨by rw [ns_zero]; exact Cells.nil _ _, by rw [ns_zero]; exact Nat.le_refl _, by unfold maxLen; omega⟩, hb0, by rw [nums_replicate]; exact hown0, digl_replicate _, by rw [List.drop_of_length_le (Nat.le_refl _), lw_replicate]; simp [lw], fun j _ => atN_replicate _ _, hb0'⟩
  case round =>
    obtain ⟨k, r, zs, Ar, cr, hk, rfl, rfl, hr, hrb, hown, hz, hv, hzero, hbel⟩ := hrel
    have hzl : zs.length = xs.length := by have := hown.len; rw [nums_length] at this; exact this
    have HZL := Lib.hid hzl
    have HV := Lib.hid hv
    have HZ := Lib.hid hzero
    clear hzl hv hzero
    by_cases hk0 : k = 0
    · subst hk0
      have hval : lw zs = a / b ∧ r = a % b := by
        have h1 := HV.out
        rw [Nat.pow_zero, Nat.one_mul, Nat.one_mul, List.drop_zero, HX.out] at h1
        constructor
        · rw [h1, Nat.mul_comm, Nat.mul_add_div hb0, Nat.div_eq_of_lt hrb]; omega
        · rw [h1, Nat.mul_comm, Nat.mul_add_mod, Nat.mod_eq_of_lt hrb]
      have HW := Lib.hid (wtrim_num zs (a / b) A0 _ _ wr hz hval.1 HZL.out hown.cap.1 hown.cap.2 hown.cells)
      have HR := Lib.hid hval.2
      clear hval
      go_wp2_with fail
      refine HW.out.mono ?_
      rintro e w3 ⟨rfl, hd, h⟩
      obtain rfl := h.symm
      go_wp2_with fail
      go_ret2
      exact ⟨A0, xs.length, Ar, cr, by rw [← HR.out]; rfl, hd, by rw [← HR.out]; exact hr, hbel⟩
    · obtain ⟨j, rfl⟩ : ∃ j, k = j + 1 := ⟨k - 1, by omega⟩
      rw [show ((j + 1 : Nat) : Int) - 1 = (j : Int) from by omega]
      obtain ⟨bx, offx, rfl, hbx, hcellx⟩ := (hcx.below hbel) (by rw [nums_length]; omega)
      have hcj := Cells.num hcellx j (by omega)
      have hxj := atD_lt hx j
      obtain ⟨x, hxx⟩ : ∃ x, x = atN xs j := ⟨_, rfl⟩
      rw [← hxx] at hcj hxj
      have HXX := Lib.hid hxx
      have hlr : (ns r).length ≤ 100000 := Nat.le_trans (HMONO.out r (Nat.le_of_lt hrb)) hlb
      have hcbw := hcb.below hbel
      obtain ⟨n, hn⟩ : ∃ n, n = x + 10 * r := ⟨_, rfl⟩
      have hn10 : n < b * 10 := by omega
      have HN := Lib.hid hn
      have hln := HYL.out n hn10
      have hlw : lw (x :: ns r) = n := by rw [lw, lw_ns, HN.out]
      have HLW := Lib.hid hlw
      have hdl : digl (x :: ns r) := digl_cons hxj (digl_ns r)
      have hzj := Lib.hid (HZ.out j (by omega))
      have hq := Lib.hid (fun m rest hm => wdiv_step xs zs j b r m rest (by omega) (by have := HZL.out; omega) hzj.out HV.out hm)
      clear hcellx hk0 hxx hn hlw
      go_wp2_with (at_builtin; refine wp_appn el_ints rfl _ _ rfl wr.heap.size _ _ _ [.int .i64 (x : Int)] _ _ _ _ (nums (ns r)) rfl (OwnS.lit wr 3 #[.int .i64 (x : Int)] wr.heap.size 1 (Nat.le_refl _) rfl (by unfold maxLen; omega)) rfl (nums_length _) (hr.cells.below ((Below.refl _ _).alloc (Nat.le_refl _) _)) (nums_one10 _) (by unfold maxLen; omega) (by omega) (by simp) ?_; intro A3 c3 w1 hown1 hb1)
      refine (wtrim_num (x :: ns r) n A3 _ c3 _ hdl HLW.out (by simp; omega) hown1.cap.1 hown1.cap.2 (by have := hown1.cells; simpa [nums] using this)).mono ?_
      rintro e w2 ⟨rfl, hr2, hw2⟩
      subst hw2
      obtain ⟨g, hA0, hg1, hg2, _⟩ := hown.at_ (by omega)
      subst hA0
      have hb2 : Below wr.heap.size wr w2 := ((Below.refl _ _).alloc (Nat.le_refl _) _).trans hb1
      have hown2 := hown.below hb2
      have hbel2 := hbel.trans (hb2.mono hbel.size)
      have hcbw2 := hcbw.below hb2
      have hfr3 : ∀ ad, A3 = some ad → ad.block ≠ g := fun ad h => by subst h; have := hown1.fresh; omega
      have HF3 := Lib.hid hfr3
      clear hown hbel hcbw hr hb2 hb1 hown1 hcj hfr3
      go_wp2_with fail
      go_loopw [7] (fun rs w3 => ∃ (m rest : Nat) (Ar : Option Addr) (cr : Nat), rs = .slice Ar (ns rest).length cr ∧ DigAt w3 Ar cr rest ∧ rest ≤ n ∧ n = m * b + rest ∧ m ≤ 9 ∧ (∀ ad, Ar = some ad → ad.block ≠ g) ∧
          OwnS w3 w.heap.size 3 (some ⟨g, 0, none⟩) xs.length xs.length (nums (zs.set j m)) ∧ Below w.heap.size w w3)
        (fun _ w3 => 10 - (intOf ((w3.cell? ⟨g, j, none⟩).getD (.int .i64 0))).toNat)
      case atStart => exact ⟨0, n, A3, c3, rfl, hr2, Nat.le_refl _, by omega, by omega, HF3.out, by rw [set_same10 zs j hzj.out]; exact hown2, hbel2⟩
      case round =>
        obtain ⟨m, rest, Ar2, cr2, rfl, hrs, hrn, hmn, hm9, hne, hown3, hbel3⟩ := hrel
        have HNE := Lib.hid hne
        have HMN := Lib.hid hmn
        have hlrest : (ns rest).length ≤ 1000000 := by have := HYL.out rest (by omega); omega
        have hbc := hcb.below hbel3
        have hsl : (zs.set j m).length = xs.length := by rw [List.length_set]; exact HZL.out
        have HSL := Lib.hid hsl
        obtain ⟨g', hg', _, hgw, hgc, hgf⟩ := hown3.at_ (by omega)
        injection hg' with hg'
        injection hg' with hg' _ _
        subst hg'
        have hcellj : wr.cell? ⟨g, j, none⟩ = some (.int .i64 (m : Int)) := by
          rw [hgc j (by omega), nums_get _ j (by omega), atN_set _ _ _ _ (by have := HZL.out; omega), if_pos rfl]
        have hfrj := hgf j
        have hcmp := wcompare_any (ns rest) (ns b) Ar2 A' cr2 c' wr (digl_ns rest) (digl_ns b) hlrest (by rw [HYS.out]; omega) hrs.le (by rw [HYS.out]; exact hlb2) hrs.cap hmb2 hrs.cells (by rw [HYS.out]; exact hbc)
        rw [lw_ns, lw_ns, HYS.out] at hcmp
        clear hne hmn hsl hgc hgf hown2 hbel2 hr2
        by_cases hge : b ≤ rest
        · obtain ⟨o, ho, hop⟩ : ∃ o, ordI rest b = o ∧ 0 ≤ o := by
            refine ⟨_, rfl, ?_⟩
            unfold ordI; rw [if_neg (by omega)]; split <;> omega
          rw [ho] at hcmp
          have HC := Lib.hid hcmp
          have hm8 : m ≤ 8 := by
            rcases Nat.lt_or_ge 8 m with h | h
            · have h1 := Nat.mul_le_mul_right b (show 9 ≤ m by omega)
              have := HMN.out
              omega
            · exact h
          have hmin := wminus_any rest b Ar2 A' cr2 c' wr hrs ⟨by rw [HYS.out]; exact hbc, by rw [HYS.out]; exact hlb2, hmb2⟩ (by omega) hge
          rw [HYS.out] at hmin
          have HM := Lib.hid hmin
          have HM2 := Lib.hid (show n = (m + 1) * b + (rest - b) by have := HMN.out; rw [Nat.add_mul]; omega)
          clear ho hcmp hmin hbc hrs
          go_wp2_with fail
          refine HC.out.mono ?_; rintro e w' ⟨rfl, h⟩
          obtain rfl := h.symm
          go_wp2_with fail
          refine HM.out.mono ?_
          rintro e w4 ⟨A5, c5, rfl, hd5, hfr5, hb5⟩
          have hcellj4 : w4.cell? ⟨g, j, none⟩ = some (.int .i64 (m : Int)) := (hb5.cell (p := ⟨g, j, none⟩) hgw).trans hcellj
          have hfrj4 : w4.frozen? ⟨g, j, none⟩ = false := (hb5.frozen (p := ⟨g, j, none⟩) hgw).trans hfrj
          have hown4 := hown3.below hb5
          have hbel4 := hbel3.trans (hb5.mono hbel3.size)
          have HCJ := Lib.hid hcellj
          have hst := hown4.stored j (.int .i64 ((m + 1 : Nat) : Int))
          rw [← nums_set, List.set_set] at hst
          have HST := Lib.hid hst
          have HF5 := Lib.hid hfr5
          clear hst hcellj hfrj hown3 hbel3 hb5 hfr5 HC HM
          go_wp2_with fail
          go_roundw
          case rel =>
            refine ⟨m + 1, rest - b, A5, c5, rfl, hd5.setOther (fun ad h => by have := HF5.out ad h; omega) j _, by omega, HM2.out, by omega, fun ad h => by have := HF5.out ad h; omega, ?_, hbel4.setCell hg1 _⟩
            exact HST.out
          case measure =>
            rw [World.cell?_setCell_same' _ _ _ (by rw [hcellj4]; rfl), HCJ.out]
            simp [intOf]
            omega
        · obtain ⟨o, ho, hop⟩ : ∃ o, ordI rest b = o ∧ o < 0 := by
            refine ⟨_, rfl, ?_⟩
            unfold ordI; rw [if_pos (by omega)]; omega
          rw [ho] at hcmp
          have HC := Lib.hid hcmp
          have hop' : ¬ 0 ≤ o := by omega
          have HQ := Lib.hid (hq.out m rest (by rw [← HXX.out, ← HN.out]; exact HMN.out))
          clear ho hcmp hbc hcellj hfrj
          go_wp2_with fail
          refine HC.out.mono ?_; rintro e w' ⟨rfl, h⟩
          obtain rfl := h.symm
          go_wp2_with fail
          go_roundw
          case rel =>
            refine ⟨j, rest, zs.set j m, Ar2, cr2, by omega, by go_num, rfl, hrs, by omega, hown3, digl_set hz (by omega), HQ.out, ?_, hbel3⟩
            intro i hi
            rw [atN_set _ _ _ _ (by have := HZL.out; omega), if_neg (by omega)]
            exact HZ.out i (by omega)
          case measure => simp [intOf]
end Go.Proofs.YtkggdkkfdbbglaaDoor
