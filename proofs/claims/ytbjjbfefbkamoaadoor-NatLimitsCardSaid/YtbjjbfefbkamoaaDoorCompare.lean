/- nat.Compare, the reference's Right and Compare. -/
import Derived.Test.YtbjjbfefbkamoaaDoorCmp
import Derived.Test.YtbjjbfefbkamoaaDoorRight
namespace Go.Proofs.YtbjjbfefbkamoaaDoor
open Go.RowKit Num
attribute [local go_sem] B_size B_get B_toList B_mk

theorem bytesLess_val : ∀ (a b : List UInt8), a.length = b.length → a.all isDig = true → b.all isDig = true → Op.bytesLess a b = decide (val a < val b) := by
  intro a
  induction a with
  | nil =>
    intro b h _ _
    have : b = [] := List.eq_nil_of_length_eq_zero h.symm
    subst this
    rw [Op.bytesLess]; simp
  | cons c s ih =>
    intro b h h1 h2
    cases b with
    | nil => simp at h
    | cons d t =>
      simp only [List.all_cons, Bool.and_eq_true] at h1 h2
      have hl : s.length = t.length := by simpa using h
      rw [Op.bytesLess, ih t hl h1.2 h2.2, val_cons, val_cons, hl]
      have b1 := val_lt s h1.2
      have b2 := val_lt t h2.2
      rw [hl] at b1
      have hc : c = d ↔ dv c = dv d := ⟨fun e => by rw [e], fun e => by rw [← dch_dv h1.1, ← dch_dv h2.1, e]⟩
      have hlt : c < d ↔ dv c < dv d := by
        rw [UInt8.lt_iff_toNat_lt]
        have := h1.1; have := h2.1
        unfold isDig at *; simp at *; unfold dv; omega
      rw [Bool.eq_iff_iff]
      simp only [Bool.or_eq_true, decide_eq_true_eq, Bool.and_eq_true, beq_iff_eq, hc, hlt]
      rcases Nat.lt_trichotomy (dv c) (dv d) with h3 | h3 | h3
      · have := Nat.mul_le_mul_right (10 ^ t.length) (show dv c + 1 ≤ dv d by omega)
        rw [Nat.add_mul] at this
        constructor
        · intro _; omega
        · intro _; left; omega
      · rw [h3]
        constructor
        · rintro (h | ⟨_, h⟩) <;> omega
        · intro h; right; exact ⟨rfl, by omega⟩
      · have := Nat.mul_le_mul_right (10 ^ t.length) (show dv d + 1 ≤ dv c by omega)
        rw [Nat.add_mul] at this
        constructor
        · rintro (h | ⟨h, _⟩) <;> omega
        · intro _; omega
theorem val_lt_of_len {a b : List UInt8} (ha : right a = true) (hb : right b = true) (h : a.length < b.length) : val a < val b := by
  have h1 := val_lt_len ha
  have h2 : ¬ val b < 10 ^ a.length := by
    intro h3
    have := (length_dec_le (n := val b) (k := a.length) (List.length_pos_iff.2 (right_ne ha))).2 h3
    rw [dec_val hb] at this
    omega
  omega
theorem val_inj {a b : List UInt8} (ha : right a = true) (hb : right b = true) (h : val a = val b) : a = b := by
  rw [← dec_val ha, ← dec_val hb, h]
/-- the order of two texts: of two numbers, or 0 -/
def cmpT (a b : List UInt8) : Int := if right a = true ∧ right b = true then cmpI (val a) (val b) else 0
theorem cmpT_right {a b : List UInt8} (ha : right a = true) (hb : right b = true) : cmpT a b = cmpI (val a) (val b) := by rw [cmpT, if_pos ⟨ha, hb⟩]
theorem cmpI_cast (a b : Nat) : cmpI (a : Int) (b : Int) = if a < b then -1 else if b < a then 1 else 0 := by
  unfold cmpI; simp only [Int.ofNat_lt]
theorem cmpI_lt {a b : Int} (h : a < b) : cmpI a b = -1 := by rw [cmpI, if_pos h]
theorem cmpI_gt {a b : Int} (h : b < a) : cmpI a b = 1 := by rw [cmpI, if_neg (by omega), if_pos h]
theorem cmpI_eq {a b : Int} (h : a = b) : cmpI a b = 0 := by rw [cmpI, if_neg (by omega), if_neg (by omega)]
theorem cmp_law {a b : List UInt8} (ha : right a = true) (hb : right b = true) : or2 (cmpI a.length b.length) (cmpS a b) = cmpT a b := by
  rw [cmpT_right ha hb, cmpI_cast, cmpI_cast]
  rcases Nat.lt_trichotomy a.length b.length with h | h | h
  · have := val_lt_of_len ha hb h
    rw [if_pos h, if_pos this]; rfl
  · rw [if_neg (by omega), if_neg (by omega)]
    show cmpS a b = _
    rw [cmpS, bytesLess_val a b h (right_all ha) (right_all hb)]
    by_cases h1 : val a < val b
    · simp [h1]
    · by_cases h2 : val b < val a
      · have : a ≠ b := by rintro rfl; omega
        simp [h1, h2, this]
      · have : a = b := val_inj ha hb (by omega)
        simp [this]
  · have := val_lt_of_len hb ha h
    rw [if_neg (by omega), if_pos h, if_neg (by omega), if_pos this]; rfl
theorem cmpT_swap (a b : List UInt8) : cmpT b a = - cmpT a b := by
  unfold cmpT
  by_cases h : right a = true ∧ right b = true
  · rw [if_pos h, if_pos h.symm, cmpI_cast, cmpI_cast]
    rcases Nat.lt_trichotomy (val a) (val b) with h | h | h
    · rw [if_neg (by omega), if_pos h, if_pos h]; rfl
    · rw [if_neg (by omega), if_neg (by omega), if_neg (by omega), if_neg (by omega)]; rfl
    · rw [if_pos h, if_neg (by omega), if_pos h]
  · rw [if_neg h, if_neg (fun h' => h h'.symm)]; rfl

set_option maxHeartbeats 400000 in
theorem ref_right_any (l : List UInt8) (w : World) (hs : l.length ≤ maxLen) :
    Calls Tryd.prog 11 #[.string (B l)] w fun e w' => e = .returned (.bool (right l)) ∧ w' = w := by
  unfold maxLen at hs
  by_cases h0 : l = []
  · subst h0
    go_enter Tryd.func11, Tryd.ntmps11
    go_wp2
    go_ret
    exact ⟨rfl, rfl⟩
  · have hlen : 0 < l.length := List.length_pos_iff.2 h0
    have he : l.isEmpty = false := by simpa using h0
    have hne : ((l.length : Int) == 0) = false := by rw [beq_eq_false_iff_ne]; omega
    have hh := Lib.hid (at8_zero_head l h0)
    have loop : decide ((1 : Int) < l.length) = false ∨ (decide ((1 : Int) < l.length) = true ∧ (((at8 l 0).toNat : Int) == 48) = false) →
        Calls Tryd.prog 11 #[.string (B l)] w fun e w' => e = .returned (.bool (right l)) ∧ w' = w := by
      intro hor
      have hr : right l = l.all isDig := by
        unfold right; rw [he, hh.out]
        rcases hor with h | ⟨h, h1⟩
        · have h1 : l.length = 1 := by simp at h; omega
          match l, h1 with
          | [c], _ => by_cases hc : c = 48 <;> simp [at8, hc]
        · have : at8 l 0 ≠ 48 := by rintro e; rw [e] at h1; simp at h1
          simp [this]
      have HR := Lib.hid hr
      clear hr hh h0
      rcases hor with h1 | ⟨h1, h2⟩
      all_goals
        go_enter Tryd.func11, Tryd.ntmps11
        go_wp2
        go_loop [3] (fun i => ∃ k : Nat, k ≤ l.length ∧ i = .int .i64 k ∧ (l.take k).all isDig = true) (fun i => l.length - (intOf i).toNat)
        case atStart => exact ⟨0, Nat.zero_le _, rfl, by simp⟩
        case round =>
          obtain ⟨k, hk, rfl, hall⟩ := hrel
          have HA := Lib.hid hall
          clear hall h1
          by_cases hlt : k < l.length
          · by_cases hd : isDig (at8 l k) = true
            · have hd' : 48 ≤ ((at8 l k).toNat : Int) ∧ ((at8 l k).toNat : Int) ≤ 57 := by simp [isDig] at hd; omega
              have HT := Lib.hid (all_take_succ hlt HA.out hd)
              clear hd
              go_wp2
              go_round
              case rel => exact ⟨k + 1, by omega, by go_num, HT.out⟩
              case measure => simp [intOf]; omega
            · have HT := Lib.hid (not_all_of (p := isDig) hlt (by simpa using hd))
              by_cases hlo : ((at8 l k).toNat : Int) < 48
              · clear hd
                go_wp2
                go_ret
                exact ⟨ret_bool (by rw [HR.out, HT.out]), rfl⟩
              · have hhi : (57 : Int) < ((at8 l k).toNat : Int) := by simp [isDig] at hd; omega
                clear hd
                go_wp2
                go_ret
                exact ⟨ret_bool (by rw [HR.out, HT.out]), rfl⟩
          · go_wp2
            go_ret
            exact ⟨ret_bool (by rw [HR.out, ← HA.out, List.take_of_length_le (by omega)]), rfl⟩
    by_cases h1 : decide ((1 : Int) < l.length) = true
    · by_cases h2 : (((at8 l 0).toNat : Int) == 48) = false
      · exact loop (.inr ⟨h1, h2⟩)
      · have h2' : (((at8 l 0).toNat : Int) == 48) = true := by simpa using h2
        have hr : right l = false := by
          unfold right; rw [he, hh.out]
          have : at8 l 0 = 48 := by apply UInt8.toNat_inj.1; simp at h2'; simp; omega
          rw [this]
          have : (l == [48]) = false := by
            rw [beq_eq_false_iff_ne]; intro e; rw [e] at h1; simp at h1
          simp [this]
        have HR := Lib.hid hr
        clear hr hh h0 h2 loop
        go_enter Tryd.func11, Tryd.ntmps11
        go_wp2
        go_ret
        exact ⟨ret_bool HR.out.symm, rfl⟩
    · exact loop (.inl (by simpa using h1))

theorem nat_compare_any (a b : List UInt8) (w : World) (ha : a.length ≤ maxLen) (hb : b.length ≤ maxLen) :
    Calls Tryd.prog 12 #[.string (B a), .string (B b)] w fun e w' => e = .returned (.int .i64 (cmpT a b)) ∧ Below w.heap.size w w' := by
  cases h1 : right a
  · have HR := Lib.hid (show cmpT a b = 0 by rw [cmpT, if_neg (by simp [h1])])
    go_enter Tryd.func12, Tryd.ntmps12
    go_wp2_with (go_at_call 10; refine (right_any _ _ ha).mono ?_; rintro e w' ⟨rfl, rfl⟩)
    go_ret
    exact ⟨ret_int HR.out.symm, Below.refl _ _⟩
  · cases h2 : right b
    · have HR := Lib.hid (show cmpT a b = 0 by rw [cmpT, if_neg (by simp [h2])])
      go_enter Tryd.func12, Tryd.ntmps12
      go_wp2_with fail
      refine (right_any _ _ ha).mono ?_; rintro e w' ⟨rfl, rfl⟩
      go_wp2_with fail
      refine (right_any _ _ hb).mono ?_; rintro e w' ⟨rfl, rfl⟩
      go_wp2_with fail
      go_ret
      exact ⟨ret_int HR.out.symm, Below.refl _ _⟩
    · have HR := Lib.hid (cmp_law h1 h2)
      go_enter Tryd.func12, Tryd.ntmps12
      go_wp2_with fail
      refine (right_any _ _ ha).mono ?_; rintro e w' ⟨rfl, rfl⟩
      go_wp2_with fail
      refine (right_any _ _ hb).mono ?_; rintro e w' ⟨rfl, rfl⟩
      go_wp2_with fail
      refine (cmp_int_any _ _ _).mono ?_; rintro e w' ⟨rfl, rfl⟩
      go_wp2_with fail
      refine (cmp_str_any _ _ _).mono ?_; rintro e w' ⟨rfl, rfl⟩
      go_wp2_with fail
      refine (cmp_or_two (cmpI a.length b.length) (cmpS a b) _ _ _ _ (by go_simp) (by go_simp)).mono ?_
      rintro e w' ⟨rfl, rfl⟩
      go_wp2_with fail
      go_ret
      exact ⟨ret_int HR.out, (Below.refl _ _).alloc (Nat.le_refl _) _⟩

theorem ref_compare_any (a b : List UInt8) (w : World) (ha : a.length ≤ maxLen) (hb : b.length ≤ maxLen) :
    Calls Tryd.prog 13 #[.string (B a), .string (B b)] w fun e w' => e = .returned (.int .i64 (cmpT a b)) ∧ w' = w := by
  cases h1 : right a
  · have HR := Lib.hid (show cmpT a b = 0 by rw [cmpT, if_neg (by simp [h1])])
    go_enter Tryd.func13, Tryd.ntmps13
    go_wp2_with fail
    refine (ref_right_any _ _ ha).mono ?_; rintro e w' ⟨rfl, rfl⟩
    go_wp2_with fail
    go_ret
    exact ⟨ret_int HR.out.symm, rfl⟩
  · cases h2 : right b
    · have HR := Lib.hid (show cmpT a b = 0 by rw [cmpT, if_neg (by simp [h2])])
      go_enter Tryd.func13, Tryd.ntmps13
      go_wp2_with fail
      refine (ref_right_any _ _ ha).mono ?_; rintro e w' ⟨rfl, rfl⟩
      go_wp2_with fail
      refine (ref_right_any _ _ hb).mono ?_; rintro e w' ⟨rfl, rfl⟩
      go_wp2_with fail
      go_ret
      exact ⟨ret_int HR.out.symm, rfl⟩
    · have HR := Lib.hid (cmp_law h1 h2)
      unfold maxLen at ha hb
      by_cases e1 : a = b
      · have HQ := Lib.hid (show cmpT a b = 0 by subst e1; rw [cmpT_right h1 h1, cmpI, if_neg (by omega), if_neg (by omega)])
        have e1' : (a == b) = true := by simpa using e1
        clear HR e1
        go_enter Tryd.func13, Tryd.ntmps13
        go_wp2_with fail
        refine (ref_right_any _ _ ha).mono ?_; rintro e w' ⟨rfl, rfl⟩
        go_wp2_with fail
        refine (ref_right_any _ _ hb).mono ?_; rintro e w' ⟨rfl, rfl⟩
        go_wp2_with fail
        go_ret
        exact ⟨ret_int HQ.out.symm, rfl⟩
      · have e1' : (a == b) = false := by simpa using e1
        by_cases e2 : a.length < b.length
        · have HQ := Lib.hid (show cmpT a b = -1 by rw [← HR.out, cmpI_lt (by omega)]; rfl)
          clear HR e1
          go_enter Tryd.func13, Tryd.ntmps13
          go_wp2_with fail
          refine (ref_right_any _ _ ha).mono ?_; rintro e w' ⟨rfl, rfl⟩
          go_wp2_with fail
          refine (ref_right_any _ _ hb).mono ?_; rintro e w' ⟨rfl, rfl⟩
          go_wp2_with fail
          go_ret
          exact ⟨ret_int HQ.out.symm, rfl⟩
        · by_cases e3 : b.length < a.length
          · have HQ := Lib.hid (show cmpT a b = 1 by rw [← HR.out, cmpI_gt (by omega)]; rfl)
            clear HR e1
            go_enter Tryd.func13, Tryd.ntmps13
            go_wp2_with fail
            refine (ref_right_any _ _ ha).mono ?_; rintro e w' ⟨rfl, rfl⟩
            go_wp2_with fail
            refine (ref_right_any _ _ hb).mono ?_; rintro e w' ⟨rfl, rfl⟩
            go_wp2_with fail
            go_ret
            exact ⟨ret_int HQ.out.symm, rfl⟩
          · have HS := Lib.hid (show cmpT a b = if Op.bytesLess a b then -1 else 1 by
              rw [← HR.out, cmpI_eq (by omega), cmpS, or2]; simp [e1])
            clear HR e1
            cases e4 : Op.bytesLess a b
            · have HQ := Lib.hid (show cmpT a b = 1 by rw [HS.out, e4]; rfl)
              go_enter Tryd.func13, Tryd.ntmps13
              go_wp2_with fail
              refine (ref_right_any _ _ ha).mono ?_; rintro e w' ⟨rfl, rfl⟩
              go_wp2_with fail
              refine (ref_right_any _ _ hb).mono ?_; rintro e w' ⟨rfl, rfl⟩
              go_wp2_with fail
              go_ret
              exact ⟨ret_int HQ.out.symm, rfl⟩
            · have HQ := Lib.hid (show cmpT a b = -1 by rw [HS.out, e4]; rfl)
              go_enter Tryd.func13, Tryd.ntmps13
              go_wp2_with fail
              refine (ref_right_any _ _ ha).mono ?_; rintro e w' ⟨rfl, rfl⟩
              go_wp2_with fail
              refine (ref_right_any _ _ hb).mono ?_; rintro e w' ⟨rfl, rfl⟩
              go_wp2_with fail
              go_ret
              exact ⟨ret_int HQ.out.symm, rfl⟩
end Go.Proofs.YtbjjbfefbkamoaaDoor
