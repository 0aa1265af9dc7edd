/- The reference's Join; the law TextJoins. -/
import Derived.Test.YtdgnnahkcklepaaDoorTLawW
namespace Go.Proofs.YtdgnnahkcklepaaDoor
open Go.RowKit Num Txt
set_option linter.unusedVariables false
attribute [local go_sem] B_size B_get B_toList B_mk B_extract B_append

theorem strs_cell {w : World} {b off : Nat} {ps : List Str} (h : ∀ j u, (strs ps)[j]? = some u → w.cell? ⟨b, off + j, none⟩ = some u) {k : Nat} (hk : k < ps.length) : w.cell? ⟨b, off + k, none⟩ = some (.string (B (ps.getD k []))) := h k _ (strs_get ps k hk)
theorem joinP_take_le (ps : List Str) (k : Nat) : (joinP (ps.take k)).length ≤ (joinP ps).length := by
  by_cases h1 : ps.take k = []
  · rw [h1]; simp [joinP]
  · by_cases h2 : ps.drop k = []
    · have := List.take_append_drop k ps
      rw [h2, List.append_nil] at this
      rw [this]; exact Nat.le_refl _
    · have := joinP_append h1 h2
      rw [List.take_append_drop] at this
      rw [this, List.length_append]; omega
theorem rjoin_any (ps : List Str) (A : Option Addr) (c : Nat) (w : World) (hc : Cells w A (strs ps)) (hn : ps.length ≤ c) (hl2 : ps.length ≤ 1000) (hp : (joinP ps).length ≤ 1000000) :
    Calls Tryd.prog 23 #[.slice A ps.length c] w fun e w' => e = .returned (.string (B (joinP ps))) ∧ w' = w := by
  by_cases h0 : ps.length = 0
  · have hps : ps = [] := List.eq_nil_of_length_eq_zero h0
    subst hps
    clear hc
    go_enter Tryd.func23, Tryd.ntmps23
    simp only [B_mk]
    go_wp2_with fail
    go_loop [3, 4] (fun s i => s = .string (B []) ∧ i = .int .i64 0) (fun _ _ => 0)
    case atStart => exact ⟨rfl, rfl⟩
    case round =>
      obtain ⟨rfl, rfl⟩ := hrel
      go_wp2_with fail
      go_ret
      exact ⟨rfl, rfl⟩
  · obtain ⟨b, off, rfl, hb, hx⟩ := hc (by rw [strs_length]; omega)
    have HFULL := Lib.hid (show joinP (ps.take ps.length) = joinP ps by rw [List.take_of_length_le (Nat.le_refl _)])
    go_enter Tryd.func23, Tryd.ntmps23
    simp only [B_mk]
    go_wp2_with fail
    go_loop [3, 4] (fun s i => ∃ (k : Nat) (t : List UInt8), k ≤ ps.length ∧ i = .int .i64 k ∧ s = .string (B t) ∧ t = joinP (ps.take k)) (fun _ i => ps.length - (intOf i).toNat)
    case atStart => exact ⟨0, [], by omega, rfl, rfl, rfl⟩
    case round =>
      obtain ⟨k, t, hk, rfl, rfl, ht⟩ := hrel
      have HT := Lib.hid ht
      clear ht
      by_cases hlt : k < ps.length
      · have hcell := strs_cell hx hlt
        have hj0 := joinP_take_succ hlt
        have hj1 := joinP_take_le ps (k + 1)
        have HJ := Lib.hid hj0
        by_cases hk0 : k = 0
        · subst hk0
          rw [hj0, if_pos rfl] at hj1
          rw [Nat.add_zero] at hcell
          clear hj0
          generalize hx0 : ps.getD 0 [] = x at *
          have HX0 := Lib.hid hx0
          obtain rfl : t = [] := by rw [HT.out]; rfl
          clear hx0 HT
          go_wp2_with fail
          go_round
          case rel => exact ⟨1, x, by omega, rfl, rfl, by rw [HJ.out, if_pos rfl]⟩
          case measure => simp [intOf]; omega
        · rw [hj0, if_neg hk0, ← HT.out, List.length_append, List.length_cons] at hj1
          clear hj0
          generalize ps.getD k [] = x at *
          have hk1 : (0 : Int) < (k : Int) := by omega
          have HK0 := Lib.hid hk0
          clear hk0
          go_wp2_with fail
          go_round
          case rel => exact ⟨k + 1, _, by omega, by go_num, rfl, by rw [HJ.out, if_neg HK0.out, ← HT.out]⟩
          case measure => simp [intOf]; omega
      · obtain rfl : k = ps.length := by omega
        go_wp2_with fail
        go_ret
        exact ⟨ret_str (by rw [HT.out, HFULL.out]), rfl⟩

def partOf (x : Str) : Str := if nameOK x = true then x else quote x
theorem wch_of_name {c : UInt8} (h : (isLet c || isDig c) = true) : wch c = true := by
  unfold isLet isDig at h
  unfold wch
  simp at h ⊢
  refine ⟨⟨?_, ?_⟩, ?_⟩
  · omega
  · omega
  · intro e; subst e; simp at h
theorem isPart_partOf (x : Str) : isPart (partOf x) := by
  unfold partOf
  by_cases h : nameOK x = true
  · rw [if_pos h]
    have h1 := (nameOK_parts x).1 h
    left
    unfold isWord
    have h2 : x.all wch = true := by
      rw [List.all_eq_true]; intro c hc
      exact wch_of_name (List.all_eq_true.1 h1.2.2.2 c hc)
    rw [h2]
    have : x ≠ [] := List.length_pos_iff.1 (by omega)
    simp [this]
  · rw [if_neg h]; right; exact ⟨x, rfl⟩
theorem joinP_le : ∀ (m : Nat) (ps : List Str), (∀ p ∈ ps, p.length ≤ m) → (joinP ps).length ≤ ps.length * (m + 1) := by
  intro m ps
  induction ps with
  | nil => intro _; simp [joinP]
  | cons p r ih =>
    intro h
    have h1 := h p (by simp)
    have h2 := ih (fun q hq => h q (by simp [hq]))
    rw [joinP_cons, List.length_cons, Nat.add_mul]
    by_cases hr : r = []
    · rw [if_pos hr]; omega
    · rw [if_neg hr, List.length_append, List.length_cons]; omega

set_option maxHeartbeats 2000000 in
theorem textJoins_walk (ls : List Str) (A : Option Addr) (c : Nat) (w : World) (hc : Cells w A (strs ls)) (hn : ls.length ≤ c) (hcap : c ≤ maxLen) (hs : ∀ s ∈ ls, s.length ≤ maxLen) (ht : Tab w) (he : ErrV w) :
    Calls Tryd.prog 7 #[.slice A ls.length c] w fun e w' => e = .returned (.bool true) ∧ Below w.heap.size w w' := by
  unfold maxLen at hcap
  have HC := Lib.hid hc
  have HS := Lib.hid hs
  clear hc hs
  go_enter Tryd.func7, Tryd.ntmps7
  go_wp2_with fail
  go_loopw [3, 4, 5] (fun v i _ wr => ∃ (ps : List Str) (A2 : Option Addr) (c2 : Nat), i = .int .i64 ps.length ∧ v = .slice A2 ps.length c2 ∧ ps.length ≤ ls.length ∧ ps.length ≤ 20 ∧ (∀ p ∈ ps, isPart p) ∧ (∀ p ∈ ps, p.length ≤ 402) ∧
      OwnS wr w.heap.size 9 A2 ps.length c2 (strs ps) ∧ Below w.heap.size w wr) (fun _ i _ _ => 20 - (intOf i).toNat)
  case atStart => exact ⟨[], none, 0, rfl, rfl, by simp, by simp, by simp, by simp, OwnS.nil _ _ _, Below.refl _ _⟩
  case round =>
    obtain ⟨ps, A2, c2, rfl, rfl, hk1, hk2, hpp, hpl, hown, hbel⟩ := hrel
    have HPP := Lib.hid hpp
    have HPL := Lib.hid hpl
    clear hpp hpl
    by_cases hgo : ps.length < ls.length ∧ ps.length < 20
    · obtain ⟨hlt, hlt2⟩ := hgo
      have hlt2' : (ps.length : Int) < 20 := by omega
      obtain ⟨b, off, hA, hb, hx⟩ := HC.out (by rw [strs_length]; omega)
      subst hA
      have hcell : wr.cell? ⟨b, off + ps.length, none⟩ = some (.string (B (ls.getD ps.length []))) := (hbel.cell (p := ⟨b, off + ps.length, none⟩) hb).trans (hx _ _ (strs_get ls ps.length hlt))
      have hm := HS.out (ls.getD ps.length []) (by rw [List.getD_eq_getElem?_getD, List.getElem?_eq_getElem hlt]; exact List.getElem_mem hlt)
      generalize ls.getD ps.length [] = x at *
      unfold maxLen at hm
      have hbw : b < wr.heap.size := Nat.lt_of_lt_of_le hb hbel.size
      clear hx
      by_cases h100 : 100 < x.length
      · have h100' : (100 : Int) < (x.length : Int) := by omega
        go_wp2_with fail
        refine (awake_any wr (ht.below hbel) (he.below hbel)).mono ?_
        rintro e w1 ⟨rfl, hb1⟩
        go_wp2_with fail
        go_ret
        exact ⟨rfl, hbel.trans (hb1.mono hbel.size)⟩
      · have h100' : ¬ (100 : Int) < (x.length : Int) := by omega
        have HQ := Lib.hid (isPart_partOf x)
        have hql : (quote x).length ≤ 4 * x.length + 2 := by rw [quote_len]; have := forms_len x; omega
        have HNX := Lib.hid (fun h : nameOK x = true => (show partOf x = x from if_pos h))
        have HNQ := Lib.hid (fun h : nameOK x = false => (show partOf x = quote x from if_neg (by rw [h]; decide)))
        go_wp2_with fail
        refine (quote_any x wr (by omega)).mono ?_
        rintro e w1 ⟨rfl, hb1⟩
        have hcell1 := (hb1.cell (p := ⟨b, off + ps.length, none⟩) hbw).trans hcell
        have hown1 := hown.below hb1
        have hbel1 := hbel.trans (hb1.mono hbel.size)
        clear hcell hown hbel hb1
        go_wp2_with fail
        refine (name_any x w1 (by unfold maxLen; omega)).mono ?_
        rintro e w' ⟨rfl, h⟩; obtain rfl := h.symm
        have step : ∀ (p : Str), isPart p → p.length ≤ 402 → (∀ q ∈ ps ++ [p], isPart q) ∧ (∀ q ∈ ps ++ [p], q.length ≤ 402) := by
          intro p h1 h2
          refine ⟨fun q hq => ?_, fun q hq => ?_⟩
          · rcases List.mem_append.1 hq with h | h
            · exact HPP.out q h
            · simp at h; rw [h]; exact h1
          · rcases List.mem_append.1 hq with h | h
            · exact HPL.out q h
            · simp at h; rw [h]; exact h2
        have HST := Lib.hid step
        clear step
        cases hN : nameOK x
        · have HP := Lib.hid (HST.out (quote x) (by rw [← HNQ.out hN]; exact HQ.out) (by omega))
          clear hN
          go_wp2_with (at_builtin; refine wp_app1 el_string rfl _ _ rfl w.heap.size _ _ _ (strs ps) _ (.string (B (quote x))) rfl hown1 rfl rfl (by unfold maxLen; omega) (by omega) hbel1.size ?_; intro A3 c3 w3 hown3 hb3)
          go_roundw
          case rel => exact ⟨ps ++ [quote x], A3, c3, by simp, by simp, by simp; omega, by simp; omega, HP.out.1, HP.out.2, by rw [snoc_strs] at hown3; simpa using hown3, hbel1.trans hb3⟩
          case measure => simp [intOf]; omega
        · have HP := Lib.hid (HST.out x (by rw [← HNX.out hN]; exact HQ.out) (by omega))
          clear hN
          go_wp2_with (at_builtin; refine wp_app1 el_string rfl _ _ rfl w.heap.size _ _ _ (strs ps) _ (.string (B x)) rfl hown1 rfl rfl (by unfold maxLen; omega) (by omega) hbel1.size ?_; intro A3 c3 w3 hown3 hb3)
          go_roundw
          case rel => exact ⟨ps ++ [x], A3, c3, by simp, by simp, by simp; omega, by simp; omega, HP.out.1, HP.out.2, by rw [snoc_strs] at hown3; simpa using hown3, hbel1.trans hb3⟩
          case measure => simp [intOf]; omega
    · have hjl := joinP_le 402 ps HPL.out
      have hj0 : (joinP ps).length ≤ 8060 := Nat.le_trans hjl (Nat.mul_le_mul_right 403 hk2)
      have HW := Lib.hid (words_ok (s := joinP ps) (ps := ps) ⟨HPP.out, rfl⟩)
      have hself : (joinP ps == joinP ps) = true := by simp
      have CW := Lib.hid (fun w => words_any (joinP ps) w (by omega))
      have CJ := Lib.hid (fun A c w hc hn => join_any ps A c w hc hn (by omega) (by omega))
      have CR := Lib.hid (fun A c w hc hn => rjoin_any ps A c w hc hn (by omega) (by omega))
      have fin : Calls Tryd.prog 10 #[] wr (fun e w' => e = .returned (.bool true) ∧ Below wr.heap.size wr w') := awake_any wr (ht.below hbel) (he.below hbel)
      clear fin hjl
      have hgo2 : ¬ (ps.length < ls.length) ∨ (ps.length < ls.length ∧ ¬ (ps.length : Int) < 20) := by omega
      clear hgo
      rcases hgo2 with h1 | ⟨h1, h2⟩
      all_goals
        go_wp2_with fail
        refine (CJ.out A2 c2 wr hown.cells hown.cap.1).mono ?_
        rintro e w1 ⟨rfl, hb1⟩
        have a1 := hbel.trans (hb1.mono hbel.size)
        have o1 := hown.below hb1
        go_wp2_with fail
        refine (CW.out w1).mono ?_
        rw [HW.out.1, HW.out.2]
        rintro e w2 ⟨A5, c5, rfl, hown5, hb2⟩
        have a2 := a1.trans (hb2.mono a1.size)
        have o2 := o1.below hb2
        go_wp2_with fail
        refine (same_any ps A5 A2 c5 c2 w2 hown5.cells o2.cells hown5.cap.1 o2.cap.1 (by omega)).mono ?_
        rintro e w3 ⟨rfl, hb3⟩
        have a3 := a2.trans (hb3.mono a2.size)
        have o3 := o2.below hb3
        go_wp2_with fail
        refine (CJ.out A2 c2 w3 o3.cells o3.cap.1).mono ?_
        rintro e w4 ⟨rfl, hb4⟩
        have a4 := a3.trans (hb4.mono a3.size)
        have o4 := o3.below hb4
        go_wp2_with fail
        refine (CR.out A2 c2 w4 o4.cells o4.cap.1).mono ?_
        rintro e w' ⟨rfl, h⟩; obtain rfl := h.symm
        go_wp2_with fail
        refine (awake_any w4 (ht.below a4) (he.below a4)).mono ?_
        rintro e w5 ⟨rfl, hb5⟩
        go_wp2_with fail
        go_ret
        exact ⟨rfl, a4.trans (hb5.mono a4.size)⟩
end Go.Proofs.YtdgnnahkcklepaaDoor
