/- whole.Div. -/
import Derived.Test.YtkggdkkfdbbglaaDoorWProg4
import Derived.Test.YtkggdkkfdbbglaaDoorWRefI
import Derived.Deep.RegionWith
import Derived.Deep.RegionHeld3
import Derived.Deep.DeepCutAuto
namespace Go.Proofs.YtkggdkkfdbbglaaDoor
open Go.RowKit Num
set_option linter.unusedVariables false
attribute [local go_sem] B_size B_get B_toList B_mk B_extract B_append
attribute [local go_sem high] run_max2

theorem divS_dec {p q : Nat} (hp : (dec p).length ≤ 4096) (hq : (dec q).length ≤ 4096) (h : q ≠ 0) : divQ (dec p) (dec q) = dec (p / q) ∧ divR (dec p) (dec q) = dec (p % q) ∧ divE (dec p) (dec q) = 0 := by
  have h0 : divE (dec p) (dec q) = 0 := by unfold divE; rw [if_pos (errT_dec hp hq), val_dec, if_neg h]
  unfold divQ divR; rw [h0, if_pos rfl, if_pos rfl, val_dec, val_dec]; exact ⟨rfl, rfl, rfl⟩
theorem resS_len {n : Nat} (h : (dec n).length ≤ 4096) : resS n = dec n ∧ resE n = 0 := ⟨if_pos h, if_pos h⟩
theorem quo_len {x y : Nat} (hx : (dec x).length ≤ 4096) (hy0 : y ≠ 0) (hr : x % y ≠ 0) : (dec (x / y + 1)).length ≤ 4096 := by
  refine Nat.le_trans (length_dec_mono ?_) hx
  have hx0 : x ≠ 0 := by intro e; rw [e] at hr; simp at hr
  have hy : 2 ≤ y ∨ y ≤ 1 := by omega
  rcases hy with hy | hy
  · have h1 : x / y ≤ x / 2 := Nat.div_le_div_left hy (by omega)
    omega
  · exfalso
    apply hr
    have h1 : y = 1 := by omega
    subst h1; exact Nat.mod_one x
theorem div_t_false {m n : Bool} {x y : Nat} (hy : 0 < y) (h : ¬ (m ≠ n ∧ x % y ≠ 0)) : qI (sg m x) (sg n y) = sg (!(m == n)) (x / y) ∧ rI (sg m x) (sg n y) = sg n (x % y) := by
  by_cases hmn : m = n
  · subst hmn
    have := div_same m (x := x) hy
    refine ⟨?_, this.2⟩
    rw [this.1]; simp [sg]
  · have hr : x % y = 0 := by
      by_cases hr : x % y = 0
      · exact hr
      · exact absurd ⟨hmn, hr⟩ h
    have := div_exact hmn hy hr
    have hb : (!(m == n)) = true := by simpa using hmn
    rw [this.1, this.2, hr, hb, sg_zero]; exact ⟨rfl, rfl⟩
theorem div_t_true {m n : Bool} {x y : Nat} (hy : 0 < y) (h : m ≠ n ∧ x % y ≠ 0) : qI (sg m x) (sg n y) = sg (!(m == n)) (x / y + 1) ∧ rI (sg m x) (sg n y) = sg n (y - x % y) := by
  have := div_other h.1 hy h.2
  have hb : (!(m == n)) = true := by simpa using h.1
  rw [this.1, this.2, hb]; exact ⟨rfl, rfl⟩
theorem keepS {w wo wn : World} {m n : Bool} {p q : Nat} (h : Below w.heap.size w wo ∧ wo.cell? ⟨p, 0, none⟩ = some (.bool m) ∧ wo.cell? ⟨q, 0, none⟩ = some (.bool n) ∧ p < wo.heap.size ∧ q < wo.heap.size) (hb : Below wo.heap.size wo wn) :
    Below w.heap.size w wn ∧ wn.cell? ⟨p, 0, none⟩ = some (.bool m) ∧ wn.cell? ⟨q, 0, none⟩ = some (.bool n) ∧ p < wn.heap.size ∧ q < wn.heap.size :=
  ⟨h.1.trans (hb.mono h.1.size), (hb.cell (p := ⟨p, 0, none⟩) h.2.2.2.1).trans h.2.1, (hb.cell (p := ⟨q, 0, none⟩) h.2.2.2.2).trans h.2.2.1, Nat.lt_of_lt_of_le h.2.2.2.1 hb.size, Nat.lt_of_lt_of_le h.2.2.2.2 hb.size⟩

set_option maxHeartbeats 2000000 in
set_option maxRecDepth 100000 in
theorem pdiv_any (a b : List UInt8) (w : World) (ha : a.length ≤ 1000000) (hbl : b.length ≤ 1000000) (ht : Tab w) :
    Calls Tryd.prog 12 #[.string (B a), .string (B b)] w fun e w' => e = .returned (.tuple #[.string (B (divIQ a b)), .string (B (divIR a b)), .int .i64 (divIE a b)]) ∧ Below w.heap.size w w' := by
  have hma : a.length ≤ maxLen := by unfold maxLen; omega
  have hmb : b.length ≤ maxLen := by unfold maxLen; omega
  have HRD := Lib.hid (read_any_w [a, b] (some ⟨w.heap.size, 0, none⟩) 2 _ (cells_two w a b) (Nat.le_refl _) (by simp) (by simp) (by simpa using ⟨hma, hmb⟩))
  have HE1 := Lib.hid (errL_two a b)
  go_enter Tryd.func12, Tryd.ntmps12
  simp only [B_mk]
  go_wp2_with fail
  refine HRD.out.mono ?_
  rintro e w1 (⟨he, A, c, rfl, hown, hb1⟩ | ⟨he, rfl, hb1⟩)
  · have hb := (alloc_below w (.cells #[.string (B a), .string (B b)] 9)).trans (hb1.mono (by simp))
    obtain ⟨g, rfl, hg1, hg2, hgc, hgf⟩ := hown.at_ (by simp)
    have c0 : w1.cell? ⟨g, 0, none⟩ = some (.bool (neg? a)) := hgc 0 (by simp)
    have c1 : w1.cell? ⟨g, 1, none⟩ = some (.string (B (mag a))) := hgc 1 (by simp)
    have c2 : w1.cell? ⟨g, 2, none⟩ = some (.bool (neg? b)) := hgc 2 (by simp)
    have c3 : w1.cell? ⟨g, 3, none⟩ = some (.string (B (mag b))) := hgc 3 (by simp)
    rw [HE1.out] at he
    obtain ⟨h1, h2, h3, h4⟩ := errI_zero.1 he
    have HDA := Lib.hid (dec_mag h1)
    have HDB := Lib.hid (dec_mag h2)
    have hla : (dec (val (mag a))).length ≤ 4096 := by rw [← dec_mag h1]; exact h3
    have hlb : (dec (val (mag b))).length ≤ 4096 := by rw [← dec_mag h2]; exact h4
    have HA := Lib.hid (valI_sg a)
    have HB := Lib.hid (valI_sg b)
    have HZ := Lib.hid (fun hb => divI_zero (a := a) (b := b) he hb)
    have HO := Lib.hid (fun hb => divI_ok (a := a) (b := b) he hb)
    have hcap := hown.cap
    rw [HDA.out] at c1
    rw [HDB.out] at c3
    clear he hgc hgf hown hb1 h1 h2 h3 h4 HDA HDB HRD HE1
    generalize val (mag a) = x at *
    generalize val (mag b) = y at *
    generalize neg? a = m at *
    generalize neg? b = n at *
    go_upto_region 4 with fail
    go_cut [9, 10] (fun s9 s10 wx => ∃ p q : Nat, s9 = .pointer (some ⟨p, 0, none⟩) ∧ s10 = .pointer (some ⟨q, 0, none⟩) ∧ wx.cell? ⟨p, 0, none⟩ = some (.bool m) ∧ wx.cell? ⟨p, 1, none⟩ = some (.string (B (dec x))) ∧
      wx.cell? ⟨q, 0, none⟩ = some (.bool n) ∧ wx.cell? ⟨q, 1, none⟩ = some (.string (B (dec y))) ∧ p < wx.heap.size ∧ q < wx.heap.size ∧ Below w.heap.size w wx)
    case first =>
      have hbd : Below w.heap.size w w1.drew := below_drew hb
      go_region_with fail
      all_goals
        go_wp2_with fail
        go_meet
        exact ⟨_, _, rfl, rfl, by go_simp, by go_simp, by go_simp, by go_simp, by show _ < ((w1.alloc _).alloc _).heap.size; simp; try omega, by show _ < ((w1.alloc _).alloc _).heap.size; simp; try omega, below_drew ((hb.alloc hb.size _).alloc (by have := hb.size; simp; omega) _)⟩
    case rest =>
      obtain ⟨p, q, rfl, rfl, k0, k1, k2, k3, hp, hq, hbx⟩ := hcut
      clear c0 c1 c2 c3
      by_cases hy : y = 0
      · have HR := Lib.hid (HZ.out (by rw [HB.out, hy, sg_zero]))
        have hy0 : (dec y == [48]) = true := by rw [hy, dec_zero]; rfl
        clear hy
        go_wp2_with fail
        go_ret3
        exact ⟨ret_ssi HR.out.1.symm HR.out.2.1.symm HR.out.2.2.symm, hbx⟩
      have hyp : 0 < y := by omega
      have hy0 : (dec y == [48]) = false := by
        have : dec y ≠ [48] := by intro e; rw [← dec_zero] at e; exact hy (dec_inj e)
        simpa using this
      have HR := Lib.hid (HO.out (by
        rw [HB.out]; intro e
        have := congrArg Int.natAbs e
        rw [sg_abs] at this; exact hy this))
      have HD := Lib.hid (fun w ht => div_any (dec x) (dec y) w (maxLen_le (by omega)) (maxLen_le (by omega)) ht)
      have HDS := Lib.hid (divS_dec hla hlb hy)
      have hlq : (dec (x / y)).length ≤ 4096 := Nat.le_trans (length_dec_mono (Nat.div_le_self x y)) hla
      have hlr : (dec (x % y)).length ≤ 4096 := Nat.le_trans (length_dec_mono (Nat.le_of_lt (Nat.mod_lt x hyp))) hlb
      have hle : x % y ≤ y := Nat.le_of_lt (Nat.mod_lt x hyp)
      have HQL := Lib.hid (fun h => quo_len (x := x) (y := y) hla hy h)
      have HF := Lib.hid (fun h => div_t_false (m := m) (n := n) (x := x) (y := y) hyp h)
      have HT := Lib.hid (fun h => div_t_true (m := m) (n := n) (x := x) (y := y) hyp h)
      clear hy
      go_wp2_with fail
      refine (HD.out _ (ht.below hbx)).mono ?_
      rw [HDS.out.1, HDS.out.2.1, HDS.out.2.2]
      rintro e w3 ⟨rfl, hb3⟩
      have hby := hbx.trans (hb3.mono hbx.size)
      have e0 := (hb3.cell (p := ⟨p, 0, none⟩) hp).trans k0
      have e2 := (hb3.cell (p := ⟨q, 0, none⟩) hq).trans k2
      have e3 := (hb3.cell (p := ⟨q, 1, none⟩) hq).trans k3
      have hp3 : p < w3.heap.size := Nat.lt_of_lt_of_le hp hb3.size
      have hq3 : q < w3.heap.size := Nat.lt_of_lt_of_le hq hb3.size
      clear k0 k1 k2 k3 hp hq hbx hb3 HD HDS
      go_upto_region 10 with fail
      go_cut [52] (fun s52 wx => ∃ t : Bool, s52 = .bool t ∧ (t = true ↔ m ≠ n ∧ x % y ≠ 0) ∧ wx = w3)
      case first =>
        by_cases hr0 : x % y = 0
        · have hr1 : (dec (x % y) == [48]) = true := by rw [hr0, dec_zero]; rfl
          have HR0 := Lib.hid hr0
          clear hr0
          cases m <;> cases n
          all_goals
            go_wp2_with fail
            go_meet
            exact ⟨_, rfl, by simp [HR0.out], rfl⟩
        · have hrn : dec (x % y) ≠ [48] := by intro e; rw [← dec_zero] at e; exact hr0 (dec_inj e)
          have hr1 : (dec (x % y) == [48]) = false := by simpa using hrn
          have HR0 := Lib.hid hr0
          clear hr0 hrn
          cases m <;> cases n
          all_goals
            go_wp2_with fail
            go_meet
            exact ⟨_, rfl, by simp [HR0.out], rfl⟩
      case rest =>
        obtain ⟨t, rfl, ht2, rfl⟩ := hcut
        have HT2 := Lib.hid ht2
        clear ht2
        go_upto_if 52 with fail
        go_cut [8, 11, 12] (fun s8 s11 s12 wx => ∃ Q R : Nat, s11 = .string (B (dec Q)) ∧ s12 = .string (B (dec R)) ∧ qI (sg m x) (sg n y) = sg (!(m == n)) Q ∧ rI (sg m x) (sg n y) = sg n R ∧ (dec Q).length ≤ 4096 ∧ (dec R).length ≤ 4096 ∧
          Below w.heap.size w wx ∧ wx.cell? ⟨p, 0, none⟩ = some (.bool m) ∧ wx.cell? ⟨q, 0, none⟩ = some (.bool n) ∧ p < wx.heap.size ∧ q < wx.heap.size)
        case first =>
          cases t
          · have HQ := Lib.hid (HF.out (fun h => by have := HT2.out.2 h; cases this))
            go_wp2_with fail
            go_meet
            exact ⟨_, _, rfl, rfl, HQ.out.1, HQ.out.2, hlq, hlr, hby, e0, e2, hp3, hq3⟩
          · have HQ := Lib.hid (HT.out (HT2.out.1 rfl))
            have hr0 := (HT2.out.1 rfl).2
            have hq1 := HQL.out hr0
            have hl2 : (dec (y - x % y)).length ≤ 4096 := Nat.le_trans (length_dec_mono (by omega)) hlb
            have HP := Lib.hid (fun w ht => add_any (dec (x / y)) [49] w (maxLen_le (by omega)) (maxLen_le (by decide)) ht)
            have HPS := Lib.hid (show addS (dec (x / y)) [49] = dec (x / y + 1) ∧ addE (dec (x / y)) [49] = 0 by
              have h1 : dec 1 = [49] := dec_lt (by omega)
              have h2 := addS_dec' (p := x / y) (q := 1) hlq (by rw [h1]; decide)
              rw [h1] at h2
              rw [h2.1, h2.2]; exact resS_len hq1)
            have HM := Lib.hid (fun w ht => sub_any (dec y) (dec (x % y)) w (maxLen_le (by omega)) (maxLen_le (by omega)) ht)
            have HMS := Lib.hid (show subS (dec y) (dec (x % y)) = dec (y - x % y) ∧ subE (dec y) (dec (x % y)) = 0 by
              have h2 := subS_dec' (p := y) (q := x % y) hlb hlr hle
              rw [h2.1, h2.2]; exact resS_len hl2)
            clear hr0
            go_wp2_with fail
            refine (HP.out _ (ht.below hby)).mono ?_
            rw [HPS.out.1, HPS.out.2]
            rintro e w4 ⟨rfl, hb4⟩
            have hbz := hby.trans (hb4.mono hby.size)
            have f0 := (hb4.cell (p := ⟨p, 0, none⟩) hp3).trans e0
            have f2 := (hb4.cell (p := ⟨q, 0, none⟩) hq3).trans e2
            have f3 := (hb4.cell (p := ⟨q, 1, none⟩) hq3).trans e3
            have hp4 : p < w4.heap.size := Nat.lt_of_lt_of_le hp3 hb4.size
            have hq4 : q < w4.heap.size := Nat.lt_of_lt_of_le hq3 hb4.size
            clear e0 e2 e3 hp3 hq3 hby hb4
            go_wp2_with fail
            refine (HM.out _ (ht.below hbz)).mono ?_
            rw [HMS.out.1, HMS.out.2]
            rintro e w5 ⟨rfl, hb5⟩
            have g0 := (hb5.cell (p := ⟨p, 0, none⟩) hp4).trans f0
            have g2 := (hb5.cell (p := ⟨q, 0, none⟩) hq4).trans f2
            go_wp2_with fail
            go_meet
            exact ⟨_, _, rfl, rfl, HQ.out.1, HQ.out.2, hq1, hl2, hbz.trans (hb5.mono hbz.size), g0, g2, Nat.lt_of_lt_of_le hp4 hb5.size, Nat.lt_of_lt_of_le hq4 hb5.size⟩
        case rest =>
          obtain ⟨Q, R, rfl, rfl, hq1, hr1, hlQ, hlR, hby, e0, e2, hp3, hq3⟩ := hcut
          have HQV := Lib.hid hq1
          have HRV := Lib.hid hr1
          have HT1 := Lib.hid (fun w => ptext_any (!(m == n)) Q w (by omega))
          have HT3 := Lib.hid (fun w => ptext_any n R w (by omega))
          clear hq1 hr1 HF HT HQL hlq hlr hle
          have hS0 : Below w.heap.size w wc.drew ∧ wc.drew.cell? ⟨p, 0, none⟩ = some (.bool m) ∧ wc.drew.cell? ⟨q, 0, none⟩ = some (.bool n) ∧ p < wc.drew.heap.size ∧ q < wc.drew.heap.size := ⟨below_drew hby, e0, e2, hp3, hq3⟩
          go_wp2_with fail
          go_region_held3 (fun w' => Below w.heap.size w w' ∧ w'.cell? ⟨p, 0, none⟩ = some (.bool m) ∧ w'.cell? ⟨q, 0, none⟩ = some (.bool n) ∧ p < w'.heap.size ∧ q < w'.heap.size)
            (first | (exact keepS (hb := hb4) (by assumption)) | (with_reducible exact hS0))
            (first | (go_at_call 39; ((with_reducible refine (HT1.out _).mono ?_); rintro e w4 ⟨rfl, hb4⟩)) | (go_at_call 39; ((with_reducible refine (HT3.out _).mono ?_); rintro e w4 ⟨rfl, hb4⟩)))
          all_goals
            have hfin := (show Below w.heap.size w w4 ∧ w4.cell? ⟨p, 0, none⟩ = some (.bool m) ∧ w4.cell? ⟨q, 0, none⟩ = some (.bool n) ∧ p < w4.heap.size ∧ q < w4.heap.size from by assumption).1
            go_wp2_with fail
            go_ret3
            exact ⟨ret_ssi (by rw [HR.out.1, HA.out, HB.out, HQV.out]) (by rw [HR.out.2.1, HA.out, HB.out, HRV.out]) HR.out.2.2.symm, hfin⟩
  · have hb := (alloc_below w (.cells #[.string (B a), .string (B b)] 9)).trans (hb1.mono (by simp))
    rw [HE1.out] at he ⊢
    have HR := Lib.hid (divI_err he)
    have hne : (errI a b != 0) = true := by simpa using he
    clear he hb1
    go_wp2_with fail
    go_ret3
    exact ⟨ret_ssi HR.out.1.symm HR.out.2.1.symm HR.out.2.2.symm, hb⟩
end Go.Proofs.YtkggdkkfdbbglaaDoor
