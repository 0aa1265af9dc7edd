/- The law SimplexLeast. -/
import Derived.Test.YtmppmdmekomjbaaGreatDoorG37
namespace Go.Proofs.YtmppmdmekomjbaaGreatDoor
open Go.RowKit Num
set_option linter.unusedVariables false
attribute [local go_sem] B_size B_get B_toList B_mk B_extract B_append
attribute [local go_sem high] run_max2

theorem least_ok {cost : List Int} {rs : List RowV} {a : AnsL} {xs : List Str} (ho : OkP 3 cost rs) (h : AnsR 511 (linOf cost rs) a) (hf : fitsB (linOf cost rs) xs = true) (hb : briefB xs = true) :
    (timesQ cost xs).2 = 0 ∧ ((a.kind = 1 ∧ cmpQ a.value (timesQ cost xs).1 ≤ 0) ∨ a.kind = 3) := by
  have ht := (okp_text ho h).2
  have hbr := brief_ok hb
  have hf2 := hf
  unfold fitsB at hf2
  simp only [Bool.and_eq_true, decide_eq_true_eq] at hf2
  obtain ⟨⟨hlen, hpos⟩, _⟩ := hf2
  rw [List.all_eq_true] at hpos
  have hfr : ∀ x ∈ xs, FrT 12 x := fun x hx => by
    have := hpos x hx
    unfold posB at this
    rw [Bool.and_eq_true] at this
    exact frT_of this.1 (hbr.2 x hx)
  have hlc : cost.length = xs.length := hlen.symm
  have tm := times_ok (K := 12) hlc ho.wf.2 hfr (by omega) (by have := ho.n7; omega)
  refine ⟨tm.1, ?_⟩
  rcases ht with h1 | h1 | h1
  · refine .inl ⟨h1.1, ?_⟩
    have h2 := h1.2.2
    unfold provedB at h2
    simp only [Bool.and_eq_true, decide_eq_true_eq] at h2
    have h3 := weak_proves ho.wf hf h2.1.1.1 tm.1
    rw [h2.1.1.2] at h3
    have rv : rightQ a.value = true := by rw [← h2.2]; exact (times_sum h2.1.2).2.1
    have rt : rightQ (timesQ cost xs).1 = true := (times_sum tm.1).2.1
    have c1 := cmpQ_rat rv rt
    have c2 := cmpQ_rat rt rv
    have h4 : ¬ 0 < cmpQ a.value (timesQ cost xs).1 := fun hh => h3 (c2.1.2 (c1.2.1 hh))
    omega
  · have := weak_refutes (ds := a.dual) ho.wf hf
    rw [h1.2] at this; exact absurd this (by decide)
  · exact .inr h1.1
set_option maxHeartbeats 8000000 in
set_option maxRecDepth 100000 in
theorem simplexLeast_walk (cost : List Int) (rs : List RowV) (A : Option Addr) (ca : Nat) (R : Option Addr) (cr : Nat) (xs : List Str) (X : Option Addr) (cx : Nat) (w : World) (hp : LinAt w cost rs A ca R cr)
    (hX : Cells w X (strs xs)) (hx : xs.length ≤ cx) (hcx : cx ≤ maxLen) (hlx : ∀ x ∈ xs, x.length ≤ maxLen) (he : Env w) :
    Calls Tryz.prog 5 #[linV A cost.length ca R rs.length cr, .slice X xs.length cx] w fun e w' => e = .returned (.bool true) ∧ Below w.heap.size w w' := by
  have b0 := new_below w (linO A cost.length ca R rs.length cr)
  have HP := Lib.hid hp
  have HE := Lib.hid he
  have HX := Lib.hid hX
  have HF := Lib.hid (few_any cost rs A ca R cr _ (hp.below b0))
  have HBR := Lib.hid (fun w' (h : Below w.heap.size w w') => brief_any xs X cx w' (hX.below h) ⟨hx, hcx⟩ hlx)
  have HAW := Lib.hid (fun w' (h : Below w.heap.size w w') => sxawake_any w' (he.below h))
  have HBW := Lib.hid (fun wr (h : Below (w.alloc (linO A cost.length ca R rs.length cr)).heap.size (w.alloc (linO A cost.length ca R rs.length cr)) wr) => b0.trans (h.mono b0.size))
  have HRL := Lib.hid (fun (h : briefB xs = true) w' (hb : Below w.heap.size w w') => (show RatsAt w' xs X cx from ⟨hX.below hb, fun x hh => by have := (brief_ok h).2 x hh; omega, ⟨hx, hcx⟩⟩))
  have hcl := hp.la
  have hrl := hp.lr
  unfold maxLen at hcl hrl hcx
  clear hp hX he
  obtain ⟨d0, d1, d2⟩ := lin_cells (w := w) (u := .slice A cost.length ca) (v := .slice R rs.length cr) (t := 25) (Below.refl _ _)
  rcases hfew : fewB cost rs
  · rw [hfew] at HF
    go_enter Tryz.func5, Tryz.ntmps5
    go_wp2_with fail
    refine HF.out.mono ?_
    rintro e w1 ⟨rfl, hb1⟩
    have a1 := HBW.out _ hb1
    go_wp2_with fail
    refine (HAW.out w1 a1).mono ?_
    rintro e w2 ⟨rfl, hb2⟩
    go_wp2_with fail
    go_ret
    exact ⟨rfl, below_lift3 a1 hb2⟩
  rw [hfew] at HF
  rcases hbr : briefB xs
  · rw [hbr] at HBR
    go_enter Tryz.func5, Tryz.ntmps5
    go_wp2_with fail
    refine HF.out.mono ?_
    rintro e w1 ⟨rfl, hb1⟩
    have a1 := HBW.out _ hb1
    go_wp2_with fail
    refine (HBR.out w1 a1).mono ?_
    rintro e w' ⟨rfl, h⟩; obtain rfl := h.symm
    go_wp2_with fail
    refine (HAW.out w1 a1).mono ?_
    rintro e w2 ⟨rfl, hb2⟩
    go_wp2_with fail
    go_ret
    exact ⟨rfl, below_lift3 a1 hb2⟩
  rw [hbr] at HBR
  have hm : rs.length ≤ 1000000 := by have := (few_parts hfew).2.1; omega
  have HCK := Lib.hid (fun w' (h : Below w.heap.size w w') => rlcheck_any cost rs A ca R cr w' hm (HP.out.below h))
  have hlck := checkK_len (linOf cost rs) rs.length
  have HCL := Lib.hid (show checkK (linOf cost rs) rs.length = [] → OkP 3 cost rs from okp_few hfew)
  have HFI := Lib.hid (fun w' (h : Below w.heap.size w w') => rlfits_any cost rs A ca R cr xs X cx w' (HP.out.below h) (HRL.out hbr _ h))
  by_cases hck : ¬ checkK (linOf cost rs) rs.length = []
  · have hck0 : 0 < (checkK (linOf cost rs) rs.length).length := by cases h : checkK (linOf cost rs) rs.length with | nil => exact absurd h hck | cons _ _ => simp
    clear hck
    generalize checkK (linOf cost rs) rs.length = l at *
    have hl0 : (0 : Int) < (l.length : Int) := by omega
    go_enter Tryz.func5, Tryz.ntmps5
    go_wp2_with fail
    refine HF.out.mono ?_
    rintro e w1 ⟨rfl, hb1⟩
    have a1 := HBW.out _ hb1
    obtain ⟨d0, d1, d2⟩ := lin_cells hb1
    go_wp2_with fail
    refine (HBR.out w1 a1).mono ?_
    rintro e w' ⟨rfl, h⟩; obtain rfl := h.symm
    go_wp2_with fail
    refine (HCK.out w1 a1).mono ?_
    rintro e w2 ⟨⟨v2, rfl, F2, c2, rfl, hf2⟩, hb2⟩
    have a2 := below_lift3 a1 hb2
    go_wp2_with fail
    refine (HAW.out w2 a2).mono ?_
    rintro e w3 ⟨rfl, hb3⟩
    go_wp2_with fail
    go_ret
    exact ⟨rfl, below_lift3 a2 hb3⟩
  have hck := Decidable.not_not.1 hck
  have HOK := Lib.hid (HCL.out hck)
  rw [hck] at HCK
  rcases hfi : fitsB (linOf cost rs) xs
  · rw [hfi] at HFI
    go_enter Tryz.func5, Tryz.ntmps5
    go_wp2_with fail
    refine HF.out.mono ?_
    rintro e w1 ⟨rfl, hb1⟩
    have a1 := HBW.out _ hb1
    obtain ⟨d0, d1, d2⟩ := lin_cells hb1
    go_wp2_with fail
    refine (HBR.out w1 a1).mono ?_
    rintro e w' ⟨rfl, h⟩; obtain rfl := h.symm
    go_wp2_with fail
    refine (HCK.out w1 a1).mono ?_
    rintro e w2 ⟨⟨v2, rfl, F2, c2, rfl, hf2⟩, hb2⟩
    have a2 := below_lift3 a1 hb2
    have c2 := below_lift3 hb1 hb2
    obtain ⟨d0, d1, d2⟩ := lin_cells c2
    go_wp2_with fail
    refine (HFI.out w2 a2).mono ?_
    rintro e w3 ⟨rfl, hb3⟩
    have a3 := below_lift3 a2 hb3
    go_wp2_with fail
    refine (HAW.out w3 a3).mono ?_
    rintro e w4 ⟨rfl, hb4⟩
    go_wp2_with fail
    go_ret
    exact ⟨rfl, below_lift3 a3 hb4⟩
  rw [hfi] at HFI
  have HVA := Lib.hid (fun w' (h : Below w.heap.size w w') => rlval_any cost rs A ca R cr xs X cx w' (HP.out.below h) (HRL.out hbr _ h))
  have HSO := Lib.hid (fun w' (h : Below w.heap.size w w') => sol_okp (d2 := 3) (D := 511) cost rs A ca R cr w' (HP.out.below h) HOK.out ⟨by decide, by decide⟩ (by decide) (by decide) (by decide) (HE.out.below h))
  have HLE := Lib.hid (fun (a : AnsL) (h : AnsR 511 (linOf cost rs) a) => least_ok HOK.out h hfi hbr)
  have HAV := Lib.hid (fun (a : AnsL) (h : AnsR 511 (linOf cost rs) a) => ans_val HOK.out.wf HOK.out.n7 h)
  have HTL := Lib.hid (times_len2 cost xs)
  clear hfi hbr hfew hck hlck
  generalize timesQ cost xs = tq at *
  obtain ⟨t1, t2⟩ := tq
  go_enter Tryz.func5, Tryz.ntmps5
  go_wp2_with fail
  refine HF.out.mono ?_
  rintro e w1 ⟨rfl, hb1⟩
  have a1 := HBW.out _ hb1
  obtain ⟨d0, d1, d2⟩ := lin_cells hb1
  go_wp2_with fail
  refine (HBR.out w1 a1).mono ?_
  rintro e w' ⟨rfl, h⟩; obtain rfl := h.symm
  go_wp2_with fail
  refine (HCK.out w1 a1).mono ?_
  rintro e w2 ⟨⟨v2, rfl, F2, c2, rfl, hf2⟩, hb2⟩
  have a2 := below_lift3 a1 hb2
  have c2 := below_lift3 hb1 hb2
  clear d0 d1 d2
  obtain ⟨d0, d1, d2⟩ := lin_cells c2
  go_wp2_with fail
  refine (HFI.out w2 a2).mono ?_
  rintro e w3 ⟨rfl, hb3⟩
  have a3 := below_lift3 a2 hb3
  have c3 := below_lift3 c2 hb3
  clear d0 d1 d2
  obtain ⟨d0, d1, d2⟩ := lin_cells c3
  go_wp2_with fail
  refine (HSO.out w3 a3).mono ?_
  rintro e w4 ⟨v, a, rfl, ⟨AX, AY, AZ, ax, ay, az, rfl, _, _, _⟩, hR, hb4⟩
  have a4 := below_lift3 a3 hb4
  have c4 := below_lift3 c3 hb4
  obtain ⟨ht2, hkk⟩ := HLE.out a hR
  have HAV2 := Lib.hid (HAV.out a hR)
  subst ht2
  obtain ⟨ak, aX, aD, aR, aV⟩ := a
  have n5 := new_below w4 (.cells #[.int .i64 ak, .slice AX aX.length ax, .slice AY aD.length ay, .slice AZ aR.length az, .string (B aV)] 31)
  have a5 := below_lift3 a4 n5
  have c5 := below_lift3 c4 n5
  clear d0 d1 d2 hR
  obtain ⟨d0, d1, d2⟩ := lin_cells c5
  go_wp2_with fail
  refine (HVA.out _ a5).mono ?_
  rintro e w6 ⟨rfl, hb6⟩
  have a6 := below_lift3 a5 hb6
  have HBX := Lib.hid (ans_box (w := w4) ak (.slice AX aX.length ax) (.slice AY aD.length ay) (.slice AZ aR.length az) aV)
  obtain ⟨x0, _, _, _, x4, x5⟩ := HBX.out w6 hb6
  clear d0 d1 d2
  rcases hkk with ⟨hk, hcmp⟩ | hk
  · skip
    subst hk
    have HCM := Lib.hid (rqcmp_any aV t1 w6 HAV2.out HTL.out)
    generalize cmpQ aV t1 = cq at *
    go_wp2_with fail
    refine HCM.out.mono ?_
    rintro e w7 ⟨rfl, hb7⟩
    have a7 := below_lift3 a6 hb7
    go_wp2_with fail
    refine (HAW.out w7 a7).mono ?_
    rintro e w8 ⟨rfl, hb8⟩
    go_wp2_with fail
    go_ret
    exact ⟨rfl, below_lift3 a7 hb8⟩
  · subst hk
    go_wp2_with fail
    refine (HAW.out w6 a6).mono ?_
    rintro e w7 ⟨rfl, hb7⟩
    go_wp2_with fail
    go_ret
    exact ⟨rfl, below_lift3 a6 hb7⟩
end Go.Proofs.YtmppmdmekomjbaaGreatDoor
