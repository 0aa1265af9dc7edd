/- ratio: Mul. -/
import Derived.Test.YtmppmdmekomjbaaGreatDoorRProg5
import Derived.Test.YtmppmdmekomjbaaGreatDoorG12
namespace Go.Proofs.YtmppmdmekomjbaaGreatDoor
open Go.RowKit Num
set_option linter.unusedVariables false
attribute [local go_sem] B_size B_get B_toList B_mk B_extract B_append
attribute [local go_sem high] run_max2

theorem keep2 {w wo wn : World} {g : Nat} {v0 v1 : Value} (h : Below w.heap.size w wo ∧ wo.cell? ⟨g, 0, none⟩ = some v0 ∧ wo.cell? ⟨g, 1, none⟩ = some v1 ∧ g < wo.heap.size) (hb : Below wo.heap.size wo wn) :
    Below w.heap.size w wn ∧ wn.cell? ⟨g, 0, none⟩ = some v0 ∧ wn.cell? ⟨g, 1, none⟩ = some v1 ∧ g < wn.heap.size :=
  ⟨h.1.trans (hb.mono h.1.size), (hb.cell (p := ⟨g, 0, none⟩) h.2.2.2).trans h.2.1, (hb.cell (p := ⟨g, 1, none⟩) h.2.2.2).trans h.2.2.1, Nat.lt_of_lt_of_le h.2.2.2 hb.size⟩
theorem two_in {w : World} {x y u v : Value} {t : TypeId} : ∀ (i : Nat) (z : Value), #[x, y, u, v][i]? = some z → (w.alloc (.cells #[x, y, u, v] t)).cell? ⟨w.heap.size, i, none⟩ = some z := by
  intro i z h
  rw [show (w.alloc (.cells #[x, y, u, v] t)).cell? ⟨w.heap.size, i, none⟩ = #[x, y, u, v][i]? by
    have e : (w.alloc (.cells #[x, y, u, v] t)).heap[w.heap.size]? = some (.cells #[x, y, u, v] t) := by
      show (w.heap.push (.cells #[x, y, u, v] t))[w.heap.size]? = _
      simp
    unfold World.cell?; simp only [e]; rfl]
  exact h
theorem qprod2_any (x y u v : Int) (t : TypeId) (w : World) (hx : dl x ≤ 4096) (hy : dl y ≤ 4096) (hu : dl u ≤ 4096) (hv : dl v ≤ 4096) (ht : Tab w) :
    Calls Tryz.prog 141 #[.slice (some ⟨w.heap.size, 0, none⟩) 2 2] (w.alloc (.cells #[.string (B (decI x)), .string (B (decI y)), .string (B (decI u)), .string (B (decI v))] t)) fun e w' => Below w.heap.size w w' ∧ ∃ r er, e = .returned (.tuple #[r, .int .i64 er]) ∧
      ((dl (x * y) ≤ 4096 ∧ dl (u * v) ≤ 4096 ∧ er = 0 ∧ ∃ g c, r = .slice (some ⟨g, 0, none⟩) 2 c ∧ 2 ≤ c ∧ c ≤ maxLen ∧ g < w'.heap.size ∧ w'.cell? ⟨g, 0, none⟩ = some (.string (B (decI (x * y)))) ∧ w'.cell? ⟨g, 1, none⟩ = some (.string (B (decI (u * v))))) ∨
       (¬ (dl (x * y) ≤ 4096 ∧ dl (u * v) ≤ 4096) ∧ er = 4 ∧ r = .slice none 0 0)) := by
  have b1 : Below w.heap.size w (w.alloc (.cells #[.string (B (decI x)), .string (B (decI y)), .string (B (decI u)), .string (B (decI v))] t)) := (Below.refl _ _).alloc (Nat.le_refl _) _
  have h := qprod_any [(x, y), (u, v)] w.heap.size 2 (w.alloc (.cells #[.string (B (decI x)), .string (B (decI y)), .string (B (decI u)), .string (B (decI v))] t)) (by simp) ⟨by simp, by unfold maxLen; omega⟩ (by simp) (ht.below b1)
    (by intro k hk; match k, hk with
      | 0, _ => exact ⟨hx, hy⟩
      | 1, _ => exact ⟨hu, hv⟩)
    (by intro k hk; match k, hk with
      | 0, _ => exact ⟨two_in 0 _ rfl, two_in 1 _ rfl⟩
      | 1, _ => exact ⟨two_in 2 _ rfl, two_in 3 _ rfl⟩)
  refine h.mono ?_
  rintro e w' ⟨hb, r, er, rfl, hc⟩
  refine ⟨b1.trans (hb.mono b1.size), r, er, rfl, ?_⟩
  rcases hc with ⟨ha, rfl, A, c, rfl, hown⟩ | ⟨ha, rfl, rfl⟩
  · simp at ha
    obtain ⟨g, rfl, hg1, hg2, hgc, hgf⟩ := hown.at_ (by simp)
    have hcap := hown.cap
    exact .inl ⟨ha.1, ha.2, rfl, g, c, rfl, hcap.1, hcap.2, hg2, hgc 0 (by simp), hgc 1 (by simp)⟩
  · refine .inr ⟨?_, rfl, rfl⟩
    rintro ⟨h1, h2⟩
    simp [h1, h2] at ha

set_option maxHeartbeats 1000000 in
set_option maxRecDepth 100000 in
theorem qmul_any (a b : List UInt8) (w : World) (ha : a.length ≤ 1000000) (hb : b.length ≤ 1000000) (he : Env w) :
    Calls Tryz.prog 106 #[.string (B a), .string (B b)] w fun e w' => e = .returned (.tuple #[.string (B (mulQS a b)), .int .i64 (mulQE a b)]) ∧ Below w.heap.size w w' := by
  have HT := Lib.hid (qtwo_any a b w ha hb he)
  have ht := he.1
  by_cases h0 : errQ a b = 0
  · have hr := errQ_zero.1 h0
    have pa := rq_parts hr.1
    have pb := rq_parts hr.2
    have HS := Lib.hid (show ∀ s, twoS a b s = s by intro s; unfold twoS; rw [if_pos h0])
    rw [HS.out, HS.out, HS.out, HS.out, h0, pa.1, pa.2.1, pb.1, pb.2.1, ← decI_nat, ← decI_nat] at HT
    have HC := Lib.hid (show mulQE a b = if dl (qn a * qn b) ≤ 4096 ∧ dl ((qd a : Int) * qd b) ≤ 4096 then 0 else 4 by unfold mulQE; rw [if_pos h0])
    have HSS := Lib.hid (show mulQS a b = if mulQE a b = 0 then lowS (qn a * qn b) (qd a * qd b) else [] from rfl)
    have HP := Lib.hid (fun t w ht => qprod2_any (qn a) (qn b) (qd a) (qd b) t w pa.2.2.2.1 pb.2.2.2.1 (by rw [dl_nat]; exact pa.2.2.2.2.1) (by rw [dl_nat]; exact pb.2.2.2.2.1) ht)
    have hm0 : 0 < qd a * qd b := Nat.mul_pos pa.2.2.1 pb.2.2.1
    have HM := Lib.hid (show decI ((qd a : Int) * (qd b : Int)) = dec (qd a * qd b) by rw [← Int.natCast_mul, decI_nat])
    have HDL := Lib.hid (show dl ((qd a : Int) * (qd b : Int)) = (dec (qd a * qd b)).length by rw [← Int.natCast_mul, dl_nat])
    clear pa pb hr h0 HS
    go_enter Tryz.func106, Tryz.ntmps106
    simp only [B_mk]
    go_wp2_with fail
    refine HT.out.mono ?_
    rintro e w1 ⟨rfl, hb1⟩
    go_wp2_with fail
    refine (HP.out _ w1 (ht.below hb1)).mono ?_
    rintro e w2 ⟨hb2, r, er, rfl, hc⟩
    have a2 := hb1.trans (hb2.mono hb1.size)
    rcases hc with ⟨h1, h2, rfl, g, c, rfl, hc1, hc2, hg, c0, c1⟩ | ⟨hno, rfl, rfl⟩
    · have HE := Lib.hid (show mulQE a b = 0 by rw [HC.out]; exact if_pos ⟨h1, h2⟩)
      have HR := Lib.hid (show mulQS a b = lowS (qn a * qn b) (qd a * qd b) by rw [HSS.out]; exact if_pos HE.out)
      rw [HM.out] at c1
      rw [HDL.out] at h2
      have HL := Lib.hid (fun w ht => qlowest_any (qn a * qn b) (qd a * qd b) w h1 h2 hm0 ht)
      unfold maxLen at hc2
      clear h1 h2
      go_wp2_with fail
      have hbd : Below w.heap.size w w2.drew := below_drew a2
      have hL := HL.out _ (ht.below hbd)
      have hS0 : Below w.heap.size w w2.drew ∧ w2.drew.cell? ⟨g, 0, none⟩ = some (.string (B (decI (qn a * qn b)))) ∧ w2.drew.cell? ⟨g, 1, none⟩ = some (.string (B (dec (qd a * qd b)))) ∧ g < w2.drew.heap.size := ⟨hbd, c0, c1, hg⟩
      go_region_held3 (fun w' => Below w.heap.size w w' ∧ w'.cell? ⟨g, 0, none⟩ = some (.string (B (decI (qn a * qn b)))) ∧ w'.cell? ⟨g, 1, none⟩ = some (.string (B (dec (qd a * qd b)))) ∧ g < w'.heap.size)
        (first | (exact keep2 (hb := hb3) (by assumption)) | (with_reducible exact hS0))
        (first | (go_at_call 142; ((with_reducible refine hL.mono ?_); rintro e w3 ⟨rfl, hb3⟩)))
      all_goals
        go_wp2_with fail
        go_ret2
        exact ⟨ret_si' HR.out.symm HE.out.symm, hbd.trans (hb3.mono hbd.size)⟩
    · have HE := Lib.hid (show mulQE a b = 4 by rw [HC.out]; exact if_neg hno)
      have HR := Lib.hid (show mulQS a b = [] by rw [HSS.out, HE.out]; rfl)
      clear hno
      go_wp2_with fail
      go_ret2
      exact ⟨ret_si' HR.out.symm HE.out.symm, a2⟩
  · have h3 : errQ a b = 3 := by unfold errQ at h0 ⊢; by_cases h : rightQ a = true ∧ rightQ b = true; exact absurd (if_pos h) h0; exact if_neg h
    have HE := Lib.hid (show mulQE a b = 3 by unfold mulQE; rw [if_neg h0])
    have HR := Lib.hid (show mulQS a b = [] by unfold mulQS; rw [HE.out]; rfl)
    rw [h3] at HT
    clear h0 h3
    go_enter Tryz.func106, Tryz.ntmps106
    simp only [B_mk]
    go_wp2_with fail
    refine HT.out.mono ?_
    rintro e w1 ⟨rfl, hb1⟩
    go_wp2_with fail
    go_ret2
    exact ⟨ret_si' HR.out.symm HE.out.symm, hb1⟩
end Go.Proofs.YtmppmdmekomjbaaGreatDoor
