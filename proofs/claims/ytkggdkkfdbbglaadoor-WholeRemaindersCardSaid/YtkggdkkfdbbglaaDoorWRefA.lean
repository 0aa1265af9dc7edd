/- The reference of whole: trim, digit, compare, parts, text. -/
import Derived.Test.YtkggdkkfdbbglaaDoorTen
import Derived.Test.YtkggdkkfdbbglaaDoorWhl
import Derived.Test.YtkggdkkfdbbglaaDoorCmpP
import Derived.Test.YtkggdkkfdbbglaaDoorRow
import Derived.Test.YtkggdkkfdbbglaaDoorTwo
import Derived.Deep.QuietTactic
import Derived.BigQuiet
namespace Go.Proofs.YtkggdkkfdbbglaaDoor
open Go.RowKit Num
set_option linter.unusedVariables false
attribute [local go_sem] B_size B_get B_toList B_mk B_extract B_append
attribute [local go_sem high] run_max2

/-- a slice of digits that reads as the number n -/
structure DigAt (w : World) (A : Option Addr) (c n : Nat) : Prop where
  cells : Cells w A (nums (ns n))
  le : (ns n).length ≤ c
  cap : c ≤ maxLen
theorem DigAt.below {w w' : World} {A : Option Addr} {c n : Nat} (h : DigAt w A c n) (hb : Below w.heap.size w w') : DigAt w' A c n := ⟨h.cells.below hb, h.le, h.cap⟩
theorem el_ints : Elem Tryd.prog 48 3 (.int .i64 0) 8 := ⟨Tryd.underlying48, info_parts int_info, rfl⟩

theorem wtrim_any (xs : List Nat) (A : Option Addr) (c : Nat) (w : World) (hx : digl xs) (hl : xs.length ≤ c) (hm : c ≤ maxLen) (hc : Cells w A (nums xs)) :
    Calls Tryd.prog 65 #[.slice A xs.length c] w fun e w' => e = .returned (.slice A (ns (lw xs)).length c) ∧ w' = w := by
  unfold maxLen at hm
  by_cases h0 : xs.length = 0
  · have : xs = [] := List.eq_nil_of_length_eq_zero h0
    subst this
    have hn : (ns (lw [])).length = 0 := by rw [lw, ns_zero]; rfl
    rw [hn]
    go_enter Tryd.func65, Tryd.ntmps65
    go_wp2_with fail
    go_loop [3] (fun v => v = .int .i64 0) (fun _ => 0)
    case atStart => rfl
    case round =>
      subst hrel
      go_wp2_with fail
      go_ret
      exact ⟨rfl, rfl⟩
  · obtain ⟨b, off, rfl, hb, hcell⟩ := hc (by rw [nums_length]; omega)
    have hcells := Cells.num hcell
    go_enter Tryd.func65, Tryd.ntmps65
    go_wp2_with fail
    go_loop [3] (fun v => ∃ k : Nat, k ≤ xs.length ∧ v = .int .i64 k ∧ lw (xs.take k) = lw xs) (fun v => (intOf v).toNat)
    case atStart => exact ⟨xs.length, Nat.le_refl _, rfl, by simp⟩
    case round =>
      obtain ⟨k, hk, rfl, he⟩ := hrel
      have HE := Lib.hid he
      clear he
      by_cases hk0 : k = 0
      · subst hk0
        have HS := Lib.hid (trim_len10 xs 0 hx hk HE.out (.inl rfl)).1
        go_wp2_with fail
        go_ret
        exact ⟨congrArg Ending.returned (by rw [HS.out]; rfl), rfl⟩
      · have hc' : w.cell? ⟨b, off + (k - 1), none⟩ = some (.int .i64 (atN xs (k - 1) : Int)) := hcells (k - 1) (by omega)
        by_cases h1 : atN xs (k - 1) = 0
        · have HS := Lib.hid (take_zero_step10 xs (k - 1) (by omega) h1)
          have h1' : ((atN xs (k - 1) : Int) == 0) = true := by rw [h1]; rfl
          clear h1
          go_wp2_with fail
          go_round
          case rel => exact ⟨k - 1, by omega, by go_num, by rw [HS.out, show k - 1 + 1 = k by omega, HE.out]⟩
          case measure => simp [intOf]; omega
        · have HS := Lib.hid (trim_len10 xs k hx hk HE.out (.inr h1)).1
          have h1' : ((atN xs (k - 1) : Int) == 0) = false := by rw [beq_eq_false_iff_ne]; omega
          clear h1
          go_wp2_with fail
          go_ret
          exact ⟨congrArg Ending.returned (by rw [HS.out]; rfl), rfl⟩
theorem wdigit_any (xs : List Nat) (A : Option Addr) (c k : Nat) (w : World) (hk : k ≤ 9000000000000000000) (hl : xs.length ≤ c) (hm : c ≤ maxLen) (hc : Cells w A (nums xs)) :
    Calls Tryd.prog 66 #[.slice A xs.length c, .int .i64 k] w fun e w' => e = .returned (.int .i64 (atN xs k : Int)) ∧ w' = w := by
  unfold maxLen at hm
  by_cases h : k < xs.length
  · obtain ⟨b, off, rfl, hb, hcell⟩ := hc (by rw [nums_length]; omega)
    have hck := Cells.num hcell k h
    go_enter Tryd.func66, Tryd.ntmps66
    go_wp2_with fail
    go_ret
    exact ⟨rfl, rfl⟩
  · have HZ := Lib.hid (atN_ge (xs := xs) (k := k) (by omega))
    go_enter Tryd.func66, Tryd.ntmps66
    go_wp2_with fail
    go_ret
    exact ⟨ret_int (by rw [HZ.out]; rfl), rfl⟩

theorem lwT_lt {xs : List Nat} (h : digl xs) (k : Nat) : lw (xs.take k) < 10 ^ k := by
  have h1 := lw_lt (xs.take k) (fun x hx => h x (List.mem_of_mem_take hx))
  exact Nat.lt_of_lt_of_le h1 (Nat.pow_le_pow_right (by omega) (by rw [List.length_take]; omega))
theorem cmp_start (xs ys : List Nat) : lw xs + lw (ys.take (max xs.length ys.length)) = lw ys + lw (xs.take (max xs.length ys.length)) := by
  rw [List.take_of_length_le (by omega), List.take_of_length_le (by omega)]; omega
theorem cmp_step {xs ys : List Nat} {k : Nat} (h : lw xs + lw (ys.take (k + 1)) = lw ys + lw (xs.take (k + 1))) (he : atN xs k = atN ys k) : lw xs + lw (ys.take k) = lw ys + lw (xs.take k) := by
  rw [lw_take_succ, lw_take_succ, he] at h; omega
theorem cmp_less {xs ys : List Nat} {k : Nat} (hx : digl xs) (h : lw xs + lw (ys.take (k + 1)) = lw ys + lw (xs.take (k + 1))) (he : atN xs k < atN ys k) : lw xs < lw ys := by
  rw [lw_take_succ, lw_take_succ] at h
  have h1 := lwT_lt hx k
  have h2 : 10 ^ k * (atN xs k + 1) ≤ 10 ^ k * atN ys k := Nat.mul_le_mul_left _ (by omega)
  rw [Nat.mul_add] at h2
  omega
theorem ordI_lt {x y : Nat} (h : x < y) : ordI x y = -1 := by unfold ordI; rw [if_pos (by omega)]
theorem ordI_gt {x y : Nat} (h : y < x) : ordI x y = 1 := by unfold ordI; rw [if_neg (by omega), if_pos (by omega)]
theorem ordI_eq {x y : Nat} (h : x = y) : ordI x y = 0 := by unfold ordI; rw [if_neg (by omega), if_neg (by omega)]

set_option maxHeartbeats 1000000 in
theorem wcompare_any (xs ys : List Nat) (A A' : Option Addr) (c c' : Nat) (w : World) (hx : digl xs) (hy : digl ys) (hl1 : xs.length ≤ 1000000) (hl2 : ys.length ≤ 1000000) (hl : xs.length ≤ c) (hl' : ys.length ≤ c') (hm : c ≤ maxLen) (hm' : c' ≤ maxLen)
    (hc : Cells w A (nums xs)) (hc' : Cells w A' (nums ys)) :
    Calls Tryd.prog 54 #[.slice A xs.length c, .slice A' ys.length c'] w fun e w' => e = .returned (.int .i64 (ordI (lw xs) (lw ys))) ∧ w' = w := by
  have hmx := imax_nat xs.length ys.length
  have HS := Lib.hid (cmp_start xs ys)
  have hmb : max xs.length ys.length ≤ 1000000 := by omega
  generalize max xs.length ys.length = mx at *
  go_enter Tryd.func54, Tryd.ntmps54
  go_wp2_with fail
  go_loop [5] (fun i => ∃ k : Nat, k ≤ mx ∧ i = .int .i64 ((k : Int) - 1) ∧ lw xs + lw (ys.take k) = lw ys + lw (xs.take k)) (fun i => (intOf i + 1).toNat)
  case atStart => exact ⟨mx, Nat.le_refl _, rfl, HS.out⟩
  case round =>
    obtain ⟨k, hk, rfl, hv⟩ := hrel
    clear hmx
    by_cases hk0 : k = 0
    · subst hk0
      have HE := Lib.hid (ordI_eq (x := lw xs) (y := lw ys) (by simpa using hv))
      clear hv
      go_wp2_with fail
      go_ret
      exact ⟨ret_int HE.out.symm, rfl⟩
    · obtain ⟨j, rfl⟩ : ∃ j, k = j + 1 := ⟨k - 1, by omega⟩
      rw [show ((j + 1 : Nat) : Int) - 1 = (j : Int) from by omega]
      clear hk0
      by_cases h1 : atN xs j < atN ys j
      · have HE := Lib.hid (ordI_lt (cmp_less hx hv h1))
        clear hv
        go_wp2_with fail
        refine (wdigit_any xs A c j _ (by omega) hl hm hc).mono ?_; rintro e w' ⟨rfl, rfl⟩
        go_wp2_with fail
        refine (wdigit_any ys A' c' j _ (by omega) hl' hm' hc').mono ?_; rintro e w' ⟨rfl, rfl⟩
        go_wp2_with fail
        go_ret
        exact ⟨ret_int HE.out.symm, rfl⟩
      · by_cases h2 : atN ys j < atN xs j
        · have HE := Lib.hid (ordI_gt (cmp_less hy hv.symm h2))
          clear hv
          go_wp2_with fail
          refine (wdigit_any xs A c j _ (by omega) hl hm hc).mono ?_; rintro e w' ⟨rfl, rfl⟩
          go_wp2_with fail
          refine (wdigit_any ys A' c' j _ (by omega) hl' hm' hc').mono ?_; rintro e w' ⟨rfl, rfl⟩
          go_wp2_with fail
          refine (wdigit_any xs A c j _ (by omega) hl hm hc).mono ?_; rintro e w' ⟨rfl, rfl⟩
          go_wp2_with fail
          refine (wdigit_any ys A' c' j _ (by omega) hl' hm' hc').mono ?_; rintro e w' ⟨rfl, rfl⟩
          go_wp2_with fail
          go_ret
          exact ⟨ret_int HE.out.symm, rfl⟩
        · have HV := Lib.hid (cmp_step hv (by omega))
          clear hv
          go_wp2_with fail
          refine (wdigit_any xs A c j _ (by omega) hl hm hc).mono ?_; rintro e w' ⟨rfl, rfl⟩
          go_wp2_with fail
          refine (wdigit_any ys A' c' j _ (by omega) hl' hm' hc').mono ?_; rintro e w' ⟨rfl, rfl⟩
          go_wp2_with fail
          refine (wdigit_any xs A c j _ (by omega) hl hm hc).mono ?_; rintro e w' ⟨rfl, rfl⟩
          go_wp2_with fail
          refine (wdigit_any ys A' c' j _ (by omega) hl' hm' hc').mono ?_; rintro e w' ⟨rfl, rfl⟩
          go_wp2_with fail
          go_round
          case rel => exact ⟨j, by omega, by go_num, HV.out⟩
          case measure => simp [intOf]
/-- the digits of a text, the least first -/
def rdig (m : Str) : List Nat := m.reverse.map dv
theorem rdig_length (m : Str) : (rdig m).length = m.length := by simp [rdig]
theorem rdig_take_succ (m : Str) (k : Nat) (h : k < m.length) : (rdig m).take (k + 1) = (rdig m).take k ++ [dv (at8 m (m.length - 1 - k))] := by
  rw [List.take_succ_eq_append_getElem (by rw [rdig_length]; exact h)]
  congr 2
  simp only [rdig, List.getElem_map, List.getElem_reverse]
  rw [at8_eq m _ (by omega)]
theorem digl_rdig {m : Str} (h : m.all isDig = true) : digl (rdig m) := digl_dv (by rw [List.all_reverse]; exact h)
theorem neg_at {l : Str} (h : neg? l = true) : at8 l 0 = 45 ∧ 0 < l.length ∧ mag l = l.drop 1 := by
  unfold neg? at h
  cases l with
  | nil => simp at h
  | cons c t => simp at h; subst h; exact ⟨rfl, by simp, rfl⟩
theorem neg_not {l : Str} (h : neg? l = false) : mag l = l ∧ (0 < l.length → at8 l 0 ≠ 45) := by
  refine ⟨by unfold mag; rw [h]; rfl, ?_⟩
  unfold neg? at h
  cases l with
  | nil => simp
  | cons c t => simp at h; intro _; exact h
theorem at8_drop (l : Str) (j : Nat) : at8 (l.drop 1) j = at8 l (j + 1) := by
  unfold at8; simp [List.getD]

set_option maxHeartbeats 1000000 in
theorem wparts_any (l : List UInt8) (w : World) (hl : l.length ≤ 1000000) (h : rightI l = true) :
    Calls Tryd.prog 41 #[.string (B l)] w fun e w' => ∃ A c, e = .returned (.tuple #[.bool (neg? l), .slice A (ns (val (mag l))).length c]) ∧ DigAt w' A c (val (mag l)) ∧ Below w.heap.size w w' := by
  have hr := right_mag h
  have hall := right_all hr
  have hml := mag_length l
  have hpos : 0 < l.length := by
    have := List.length_pos_iff.2 (right_ne hr); omega
  have hD := digl_rdig hall
  have HLW := Lib.hid (show lw (rdig (mag l)) = val (mag l) from lw_dv _)
  have HTS := Lib.hid (rdig_take_succ (mag l))
  have HRL := Lib.hid (rdig_length (mag l))
  -- the first byte
  have loop : ∀ (f : Nat) (g : Bool), (f = 0 ∨ f = 1) → l.length = (mag l).length + f → (((at8 l 0).toNat : Int) == 45) = g → neg? l = g → (f = 1 → ((at8 l 0).toNat : Int) = 45) → (∀ j, j < (mag l).length → at8 (mag l) j = at8 l (j + f)) →
      Calls Tryd.prog 41 #[.string (B l)] w fun e w' => ∃ A c, e = .returned (.tuple #[.bool (neg? l), .slice A (ns (val (mag l))).length c]) ∧ DigAt w' A c (val (mag l)) ∧ Below w.heap.size w w' := by
    intro f g hf hlen h45 hneg hone hat
    have HLEN := Lib.hid hlen
    have HNEG := Lib.hid hneg
    have HAT := Lib.hid hat
    have HONE := Lib.hid hone
    have hdig := Lib.hid (fun j (hj : j < (mag l).length) => dig_of_all hall hj)
    generalize hmm : mag l = m at *
    have hb1 : l.length ≤ m.length + f := by omega
    have hb2 : m.length + f ≤ l.length := by omega
    clear hlen hneg hat hone hall hr hmm
    go_enter Tryd.func41, Tryd.ntmps41
    go_wp2_with fail
    go_loopw [4, 6] (fun v i wr => ∃ (k n : Nat) (A : Option Addr) (c : Nat), k ≤ l.length ∧ i = .int .i64 ((l.length : Int) - 1 - k) ∧ v = .slice A n c ∧ OwnS wr w.heap.size 3 A n c (nums ((rdig m).take k)) ∧ Below w.heap.size w wr) (fun _ i _ => (intOf i + 1).toNat)
    case atStart => exact ⟨0, 0, none, 0, by omega, by go_num, rfl, OwnS.nil _ _ _, Below.refl _ _⟩
    case round =>
      obtain ⟨k, n, A, c, hk, rfl, rfl, hown, hbel⟩ := hrel
      have hn : n = min k m.length := by have := hown.len; rw [nums_length, List.length_take, HRL.out] at this; exact this.symm
      have hn1 : n ≤ m.length := by omega
      have hn2 : k ≤ m.length → n = k := by omega
      have HN := Lib.hid hn2
      clear hn hn2
      by_cases hlt : k < l.length
      · obtain ⟨j, hj⟩ : ∃ j : Nat, j + k + 1 = l.length := ⟨l.length - 1 - k, by omega⟩
        have e0 : (l.length : Int) - 1 - (k : Int) = (j : Int) := by omega
        have hjl : j < l.length := by omega
        have hjk : l.length = j + k + 1 := hj.symm
        have HJ := Lib.hid hjk
        rw [e0]
        clear hj e0 hjk
        by_cases hkm : k < m.length
        · have HTS1 := Lib.hid (HTS.out k hkm)
          have hdj := hdig.out (m.length - 1 - k) (by omega)
          have ha1 : at8 m (m.length - 1 - k) = at8 l j := by
            rw [HAT.out _ (by omega)]; congr 1; have := HJ.out; omega
          rw [ha1] at hdj
          have HA1 := Lib.hid ha1
          have hnk := HN.out (by omega)
          subst hnk
          clear ha1
          have hne : (((at8 l j).toNat : Int) != 45) = true := by simp; omega
          have hd1 : 48 ≤ ((at8 l j).toNat : Int) := by omega
          have hd2 : ((at8 l j).toNat : Int) ≤ 57 := by omega
          go_wp2_with (at_builtin; refine wp_app1 el_ints rfl _ _ rfl w.heap.size _ _ _ _ _ _ rfl hown rfl rfl (by unfold maxLen; omega) (by omega) hbel.size ?_; intro A2 c2 w1 hown1 hb1)
          go_roundw
          case rel =>
            refine ⟨n + 1, n + 1, A2, c2, by omega, ?_, rfl, ?_, hbel.trans hb1⟩
            · have := HJ.out; go_num
            · rw [HTS1.out, nums_snoc, HA1.out]
              have e : ((dv (at8 l j) : Nat) : Int) = ((at8 l j).toNat : Int) - 48 := by unfold dv; omega
              rw [e]; exact hown1
          case measure => simp [intOf]
        · have hj0 : j = 0 := by have := HJ.out; omega
          subst hj0
          have hf1 : f = 1 := by have := HJ.out; omega
          have hne : (((at8 l 0).toNat : Int) != 45) = false := by rw [HONE.out hf1]; rfl
          have HTE := Lib.hid (show (rdig m).take (k + 1) = (rdig m).take k by rw [List.take_of_length_le (by rw [HRL.out]; omega), List.take_of_length_le (by rw [HRL.out]; omega)])
          clear h45
          go_wp2_with fail
          go_roundw
          case rel =>
            refine ⟨k + 1, n, A, c, by omega, ?_, rfl, by rw [HTE.out]; exact hown, hbel⟩
            have := HJ.out; go_num
          case measure => simp [intOf]
      · have HTE := Lib.hid (show (rdig m).take k = rdig m from List.take_of_length_le (by rw [HRL.out]; omega))
        rw [HTE.out] at hown
        have hnl : n = (rdig m).length := by have := hown.len; rw [nums_length] at this; exact this.symm
        have hcap := hown.cap
        subst hnl
        have hi0 : (l.length : Int) - 1 - (k : Int) < 0 := by omega
        have hD' := hD
        have hW := wtrim_any (rdig m) A c wr hD hcap.1 hcap.2 hown.cells
        rw [HLW.out] at hW
        have hle : (ns (val m)).length ≤ (rdig m).length := by
          rw [← HLW.out]
          have := congrArg List.length (take_ns (rdig m) hD)
          rw [List.length_take] at this; omega
        have hcells : Cells wr A (nums (ns (val m))) := by
          rw [← HLW.out, ← take_ns (rdig m) hD]
          have := hown.cells.take (ns (lw (rdig m))).length
          unfold nums at this ⊢
          rw [← List.map_take] at this
          exact this
        clear hD'
        go_wp2_with fail
        refine hW.mono ?_; rintro e w' ⟨rfl, rfl⟩
        go_wp2_with fail
        go_ret2
        exact ⟨A, c, by rw [HNEG.out]; rfl, ⟨hcells, by omega, hcap.2⟩, hbel⟩
  cases hn : neg? l
  · have h1 := neg_not hn
    rw [← hn]
    refine loop 0 false (.inl rfl) (by rw [h1.1]; rfl) ?_ hn (by omega) (fun j _ => by rw [h1.1]; rfl)
    have := h1.2 hpos
    rw [beq_eq_false_iff_ne]
    intro e; apply this; apply UInt8.toNat_inj.1; simp; omega
  · have h1 := neg_at hn
    rw [← hn]
    refine loop 1 true (.inr rfl) (by rw [h1.2.2, List.length_drop]; omega) (by rw [h1.1]; rfl) hn (fun _ => by rw [h1.1]; rfl) (fun j _ => by rw [h1.2.2, at8_drop])
end Go.Proofs.YtkggdkkfdbbglaaDoor
