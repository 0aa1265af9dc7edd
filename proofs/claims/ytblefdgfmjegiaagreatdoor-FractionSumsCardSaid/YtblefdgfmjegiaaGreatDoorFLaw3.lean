/- The laws of fraction: FractionSums. -/
import Derived.Test.YtblefdgfmjegiaaGreatDoorFLaw2
namespace Go.Proofs.YtblefdgfmjegiaaGreatDoor
open Go.RowKit Num
set_option linter.unusedVariables false
attribute [local go_sem] B_size B_get B_toList B_mk B_extract B_append

set_option maxHeartbeats 4000000 in
set_option maxRecDepth 100000 in
theorem fsums_walk (cs : List ColV) (A : Option Addr) (c : Nat) (v : List Str) (V : Option Addr) (cv : Nat) (a0 a1 a2 : Int) (w : World) (hC : ColsAt w A cs) (hV : Cells w V (strs v)) (hl : cs.length ≤ maxLen) (hvl : v.length ≤ cv ∧ cv ≤ maxLen) (hvx : ∀ x ∈ v, x.length ≤ maxLen) (hok : ∀ r ∈ cs, r.ok) (he : Env w) (hr : ErrV w) :
    Calls Tryz.prog 3 #[.slice A cs.length c, .slice V v.length cv, .agg #[.int .i64 a0, .int .i64 a1, .int .i64 a2]] w fun e w' => e = .returned (.bool true) ∧ Below w.heap.size w w' := by
  have HFEW := Lib.hid (fun w' (h : Below w.heap.size w w') => ffew_any cs A c v V cv w' (hC.below h) (hV.below h) hl (Nat.le_trans hvl.1 hvl.2) hvx hok)
  have HAT := Lib.hid (fun w' (h : Below (w.heap.size + 1) (w.alloc (.cells #[.int .i64 a0, .int .i64 a1, .int .i64 a2] 24)) w') => show Below w.heap.size w w' ∧ w'.cell? ⟨w.heap.size, 0, none⟩ = some (.int .i64 a0) ∧ w'.cell? ⟨w.heap.size, 1, none⟩ = some (.int .i64 a1) ∧ w'.cell? ⟨w.heap.size, 2, none⟩ = some (.int .i64 a2) ∧ w.heap.size + 1 ≤ w'.heap.size from by
    have hs : (w.alloc (.cells #[.int .i64 a0, .int .i64 a1, .int .i64 a2] 24)).heap.size = w.heap.size + 1 := World.size_alloc _ _
    have hrow := row_on (row_new (w := w) (o := .cells #[.int .i64 a0, .int .i64 a1, .int .i64 a2] 24)) (w' := w') (by rw [hs]; exact h)
    refine ⟨(new_below w _).trans (h.mono (Nat.le_succ _)), ?_, ?_, ?_, ?_⟩
    · rw [cell_of_row w' _ 0 _ _ _ hrow]; rfl
    · rw [cell_of_row w' _ 1 _ _ _ hrow]; rfl
    · rw [cell_of_row w' _ 2 _ _ _ hrow]; rfl
    · have := h.size; rw [hs] at this; exact this)
  have HAW := Lib.hid (fun w' (h : Below w.heap.size w w') => fawake_any w' (he.below h) (hr.below h))
  by_cases hf : fewF cs v = true
  · obtain ⟨p1, p2, p3, p4⟩ := few_parts hf
    have q1 : cs.length ≤ 1000 := by omega
    have q3 : ∀ x ∈ v, x.length ≤ 100000 := fun x hx => by have := p3 x hx; omega
    have q4 : ∀ r ∈ cs, 0 ≤ r.s ∧ fits r.s := fun r hr => ⟨p4 r hr, (hok r hr).2⟩
    have HU := Lib.hid (fun k w' (h : Below w.heap.size w w') => fused_any cs A c v V cv k w' (hC.below h) (hV.below h) q1 hvl q3 (he.below h))
    have HUr := Lib.hid (fun k w' (h : Below w.heap.size w w') => frused_any cs A c v V cv k w' (hC.below h) (hV.below h) q1 hvl q3)
    have HT := Lib.hid (fun j k w' (h : Below w.heap.size w w') => ftog_any cs A c v V cv j k w' (hC.below h) (hV.below h) q1 hvl q3 q4 (he.below h))
    have HTr := Lib.hid (fun j k w' (h : Below w.heap.size w w') => frtog_any cs A c v V cv j k w' (hC.below h) (hV.below h) q1 hvl q3 q4)
    have HS := Lib.hid (fun k w' (h : Below w.heap.size w w') => fserved_any cs A c v V cv k w' (hC.below h) (hV.below h) q1 hvl q3 q4 (he.below h))
    have HSr := Lib.hid (fun k w' (h : Below w.heap.size w w') => frserved_any cs A c v V cv k w' (hC.below h) (hV.below h) q1 hvl q3 q4)
    have HI := Lib.hid (fun w' (h : Below w.heap.size w w') => fintegral_any v V cv w' (hV.below h) (by omega) q3 (he.below h))
    have HIr := Lib.hid (fun w' (h : Below w.heap.size w w') => frintegral_any v V cv w' (hV.below h) (by omega) q3)
    have hT2 := fun w' (h : Below w.heap.size w w') => ftog_any cs A c v V cv a2 a1 w' (hC.below h) (hV.below h) q1 hvl q3 q4 (he.below h)
    rw [tog_swap (colL cs) v a2 a1] at hT2
    have HT2 := Lib.hid hT2
    clear hT2
    rw [hf] at HFEW
    clear hC hV hl hvl hvx hok hf p1 p2 p3 p4 q1 q3 q4 he hr
    generalize usedQ (colL cs) v = x1 at *
    generalize togQ (colL cs) v = x2 at *
    generalize v.all wholeQ = x5 at *
    go_enter Tryz.func3, Tryz.ntmps3
    go_wp2_with fail
    refine (HFEW.out _ (HAT.out _ (Below.refl _ _)).1).mono ?_
    rintro e _ ⟨rfl, rfl⟩
    obtain ⟨b1, d0, d1, d2, s1⟩ := HAT.out _ (Below.refl _ _)
    have HB1 := Lib.hid (Below.refl (w.heap.size + 1) (w.alloc (.cells #[.int .i64 a0, .int .i64 a1, .int .i64 a2] 24)))
    go_wp2_with fail
    refine (HU.out a0 _ b1).mono ?_
    rintro e w2 ⟨rfl, hb⟩
    have HB2 := Lib.hid (HB1.out.trans (hb.mono s1))
    clear d0 d1 d2
    obtain ⟨b2, d0, d1, d2, s2⟩ := HAT.out _ HB2.out
    clear hb b1 s1
    go_wp2_with fail
    refine (HUr.out a0 _ b2).mono ?_
    rintro e w3 ⟨rfl, hb⟩
    have HB3 := Lib.hid (HB2.out.trans (hb.mono s2))
    clear d0 d1 d2
    obtain ⟨b3, d0, d1, d2, s3⟩ := HAT.out _ HB3.out
    clear hb b2 s2
    go_wp2_with fail
    refine (HT.out a1 a2 _ b3).mono ?_
    rintro e w4 ⟨rfl, hb⟩
    have HB4 := Lib.hid (HB3.out.trans (hb.mono s3))
    clear d0 d1 d2
    obtain ⟨b4, d0, d1, d2, s4⟩ := HAT.out _ HB4.out
    clear hb b3 s3
    go_wp2_with fail
    refine (HTr.out a1 a2 _ b4).mono ?_
    rintro e w5 ⟨rfl, hb⟩
    have HB5 := Lib.hid (HB4.out.trans (hb.mono s4))
    clear d0 d1 d2
    obtain ⟨b5, d0, d1, d2, s5⟩ := HAT.out _ HB5.out
    clear hb b4 s4
    go_wp2_with fail
    refine (HS.out a1 _ b5).mono ?_
    rintro e w6 ⟨rfl, hb⟩
    have HB6 := Lib.hid (HB5.out.trans (hb.mono s5))
    clear d0 d1 d2
    obtain ⟨b6, d0, d1, d2, s6⟩ := HAT.out _ HB6.out
    clear hb b5 s5
    go_wp2_with fail
    refine (HSr.out a1 _ b6).mono ?_
    rintro e w7 ⟨rfl, hb⟩
    have HB7 := Lib.hid (HB6.out.trans (hb.mono s6))
    clear d0 d1 d2
    obtain ⟨b7, d0, d1, d2, s7⟩ := HAT.out _ HB7.out
    clear hb b6 s6
    go_wp2_with fail
    refine (HT2.out _ b7).mono ?_
    rintro e w8 ⟨rfl, hb⟩
    have HB8 := Lib.hid (HB7.out.trans (hb.mono s7))
    clear d0 d1 d2
    obtain ⟨b8, d0, d1, d2, s8⟩ := HAT.out _ HB8.out
    clear hb b7 s7
    go_wp2_with fail
    refine (HI.out _ b8).mono ?_
    rintro e w9 ⟨rfl, hb⟩
    have HB9 := Lib.hid (HB8.out.trans (hb.mono s8))
    clear d0 d1 d2
    obtain ⟨b9, d0, d1, d2, s9⟩ := HAT.out _ HB9.out
    clear hb b8 s8
    go_wp2_with fail
    refine (HIr.out _ b9).mono ?_
    rintro e w10 ⟨rfl, hb⟩
    have HB10 := Lib.hid (HB9.out.trans (hb.mono s9))
    clear d0 d1 d2
    obtain ⟨b10, d0, d1, d2, s10⟩ := HAT.out _ HB10.out
    clear hb b9 s9
    go_wp2_with fail
    refine (HAW.out _ b10).mono ?_
    rintro e w11 ⟨rfl, hb⟩
    have HB11 := Lib.hid (b10.trans (hb.mono b10.size))
    go_wp2_with fail
    go_ret
    exact ⟨rfl, HB11.out⟩
  · rw [show fewF cs v = false by simpa using hf] at HFEW
    clear hC hV hl hvl hvx hok hf he hr
    go_enter Tryz.func3, Tryz.ntmps3
    go_wp2_with fail
    refine (HFEW.out _ (HAT.out _ (Below.refl _ _)).1).mono ?_
    rintro e _ ⟨rfl, rfl⟩
    obtain ⟨b1, d0, d1, d2, s1⟩ := HAT.out _ (Below.refl _ _)
    go_wp2_with fail
    refine (HAW.out _ b1).mono ?_
    rintro e w2 ⟨rfl, hb⟩
    have HB2 := Lib.hid (b1.trans (hb.mono b1.size))
    go_wp2_with fail
    go_ret
    exact ⟨rfl, HB2.out⟩
theorem fractionSums_walk (cs : List ColV) (A : Option Addr) (c : Nat) (v : List Str) (V : Option Addr) (cv : Nat) (a0 a1 a2 : Int) (w : World) (hn : cs.length ≤ c) (hc : c ≤ maxLen) (hs : ColsAt w A cs) (ho : ∀ r ∈ cs, r.ok) (hx : Cells w V (strs v)) (hvn : v.length ≤ cv) (hvc : cv ≤ maxLen) (hvs : ∀ x ∈ v, x.length ≤ maxLen) (f0 : fits a0) (f1 : fits a1) (f2 : fits a2) (he : Env w) (hr : ErrV w) :
    Calls Tryz.prog 3 #[.slice A cs.length c, .slice V v.length cv, .agg #[.int .i64 a0, .int .i64 a1, .int .i64 a2]] w fun e w' => e = .returned (.bool true) ∧ Below w.heap.size w w' :=
  fsums_walk cs A c v V cv a0 a1 a2 w hs hx (Nat.le_trans hn hc) ⟨hvn, hvc⟩ hvs ho he hr
end Go.Proofs.YtblefdgfmjegiaaGreatDoor
