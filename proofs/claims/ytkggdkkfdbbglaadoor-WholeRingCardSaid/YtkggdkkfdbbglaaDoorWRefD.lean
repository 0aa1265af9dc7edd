/- The reference of whole: plus, minus. -/
import Derived.Test.YtkggdkkfdbbglaaDoorWRefC
namespace Go.Proofs.YtkggdkkfdbbglaaDoor
open Go.RowKit Num
set_option linter.unusedVariables false
attribute [local go_sem] B_size B_get B_toList B_mk B_extract B_append
attribute [local go_sem high] run_max2

theorem DigAt.of_trim {w : World} {xs : List Nat} {v : Nat} {A : Option Addr} {c : Nat} (hx : digl xs) (hv : lw xs = v) (hl : xs.length ≤ c) (hm : c ≤ maxLen) (hc : Cells w A (nums xs)) : DigAt w A c v := by
  subst hv
  have h := take_ns xs hx
  refine ⟨?_, ?_, hm⟩
  · rw [← h]
    have := hc.take (ns (lw xs)).length
    unfold nums at this ⊢
    rw [← List.map_take] at this
    exact this
  · have := congrArg List.length h
    rw [List.length_take] at this; omega
theorem OwnS.fresh {w : World} {Bs : Nat} {e : TypeId} {ad : Addr} {n c : Nat} {xs : List Value} (h : OwnS w Bs e (some ad) n c xs) : Bs ≤ ad.block := by
  rcases h.2 with ⟨hv, _⟩ | ⟨g, cap, cur, hv, hg, _⟩
  · cases hv
  · injection hv with hA _ _
    injection hA with hA
    subst hA
    exact hg
theorem DigAt.setOther {w : World} {A : Option Addr} {c n g : Nat} (h : DigAt w A c n) (hne : ∀ ad, A = some ad → ad.block ≠ g) (j : Nat) (u : Value) : DigAt (w.setCell ⟨g, j, none⟩ u) A c n := by
  refine ⟨fun h0 => ?_, h.le, h.cap⟩
  obtain ⟨b, off, e, hb, hc⟩ := h.cells h0
  have hn := hne _ e
  refine ⟨b, off, e, by simpa [World.setCell] using hb, fun k v hv => ?_⟩
  rw [World.cell?_setCell_other w _ _ u (fun he => by injection he with he _ _; exact hn he.symm)]
  exact hc k v hv
theorem wtrim_num (xs : List Nat) (v : Nat) (A : Option Addr) (n c : Nat) (w : World) (hx : digl xs) (hv : lw xs = v) (hn : xs.length = n) (hl : n ≤ c) (hm : c ≤ maxLen) (hc : Cells w A (nums xs)) :
    Calls Tryd.prog 65 #[.slice A n c] w fun e w' => e = .returned (.slice A (ns v).length c) ∧ DigAt w A c v ∧ w' = w := by
  subst hn
  have h := DigAt.of_trim hx hv hl hm hc
  subst hv
  exact (wtrim_any xs A c w hx hl hm hc).mono fun e w' ⟨h1, h2⟩ => ⟨h1, h, h2⟩

set_option maxHeartbeats 2000000 in
theorem wplus_any (a b : Nat) (A A' : Option Addr) (c c' : Nat) (w : World) (hA : DigAt w A c a) (hB : DigAt w A' c' b) (hla : (ns a).length ≤ 1000000) (hlb : (ns b).length ≤ 1000000) :
    Calls Tryd.prog 43 #[.slice A (ns a).length c, .slice A' (ns b).length c'] w fun e w' => ∃ A2 c2, e = .returned (.slice A2 (ns (a + b)).length c2) ∧ DigAt w' A2 c2 (a + b) ∧ Below w.heap.size w w' := by
  obtain ⟨hcx, hcl, hcm⟩ := hA
  obtain ⟨hcx', hcl', hcm'⟩ := hB
  have hx := digl_ns a
  have hy := digl_ns b
  have HX := Lib.hid (lw_ns a)
  have HY := Lib.hid (lw_ns b)
  generalize ns a = xs at *
  generalize ns b = ys at *
  go_enter Tryd.func43, Tryd.ntmps43
  go_wp2_with fail
  go_loopw [5, 6, 7, 8] (fun v cr i _ wr => ∃ (k : Nat) (zs : List Nat) (A2 : Option Addr) (c2 carry : Nat), k ≤ 1000001 ∧ i = .int .i64 k ∧ v = .slice A2 k c2 ∧ cr = .int .i64 carry ∧ OwnS wr w.heap.size 3 A2 k c2 (nums zs) ∧
      zs.length = k ∧ digl zs ∧ carry ≤ 1 ∧ lw zs + 10 ^ k * carry = lw (xs.take k) + lw (ys.take k) ∧ (k ≤ max xs.length ys.length ∨ carry = 0) ∧ Below w.heap.size w wr)
    (fun _ _ i _ _ => 2000000 - (intOf i).toNat)
  case atStart => exact ⟨0, [], none, 0, 0, by omega, rfl, rfl, rfl, OwnS.nil _ _ _, rfl, digl_nil, by omega, by simp [lw], .inl (by omega), Below.refl _ _⟩
  case round =>
    obtain ⟨k, zs, A2, c2, carry, hk, rfl, rfl, rfl, hown, hzl, hz, hcr, hv, hor, hbel⟩ := hrel
    by_cases hgo : k < xs.length ∨ k < ys.length ∨ 0 < carry
    · have HS := Lib.hid (add_step10 xs ys zs k carry hzl hv)
      have hxk := atD_lt hx k
      have hyk := atD_lt hy k
      have HZ := Lib.hid hzl
      have hkm : k ≤ 1000000 := by rcases hor with h | h <;> omega
      have HN := Lib.hid (show k + 1 ≤ max xs.length ys.length ∨ (atN xs k + atN ys k + carry) / 10 = 0 by
        by_cases h : k < max xs.length ys.length
        · left; omega
        · right
          rw [atN_ge (by omega), atN_ge (by omega)]; omega)
      have hcx1 := hcx.below hbel
      have hcy1 := hcx'.below hbel
      clear hzl hv hor hcx hcx'
      by_cases hlt : k < xs.length
      · clear hgo
        go_wp2_with fail
        refine (wdigit_any xs A c k _ (by omega) hcl hcm hcx1).mono ?_; rintro e w' ⟨rfl, rfl⟩
        go_wp2_with fail
        refine (wdigit_any ys A' c' k _ (by omega) hcl' hcm' hcy1).mono ?_; rintro e w' ⟨rfl, rfl⟩
        go_wp2_with (at_builtin; refine wp_app1 el_ints rfl _ _ rfl w.heap.size _ _ _ _ _ _ rfl hown rfl rfl (by unfold maxLen; omega) (by omega) hbel.size ?_; intro A3 c3 w2 hown1 hb2)
        go_roundw
        case rel =>
          refine ⟨k + 1, zs ++ [(atN xs k + atN ys k + carry) % 10], A3, c3, (atN xs k + atN ys k + carry) / 10, by omega, by go_num, rfl, by go_num, ?_, by simp [HZ.out], digl_snoc hz (by omega), by omega, HS.out, HN.out, hbel.trans hb2⟩
          rw [nums_snoc]
          have e : (((atN xs k + atN ys k + carry) % 10 : Nat) : Int) = ((atN xs k : Int) + (atN ys k : Int) + (carry : Int)) % 10 := by omega
          rw [e]; exact hown1
        case measure => simp [intOf]; omega
      · have hltb : decide (k < xs.length) = false := by simpa using hlt
        by_cases hlt2 : k < ys.length
        · clear hgo hlt
          go_wp2_with fail
          refine (wdigit_any xs A c k _ (by omega) hcl hcm hcx1).mono ?_; rintro e w' ⟨rfl, rfl⟩
          go_wp2_with fail
          refine (wdigit_any ys A' c' k _ (by omega) hcl' hcm' hcy1).mono ?_; rintro e w' ⟨rfl, rfl⟩
          go_wp2_with (at_builtin; refine wp_app1 el_ints rfl _ _ rfl w.heap.size _ _ _ _ _ _ rfl hown rfl rfl (by unfold maxLen; omega) (by omega) hbel.size ?_; intro A3 c3 w2 hown1 hb2)
          go_roundw
          case rel =>
            refine ⟨k + 1, zs ++ [(atN xs k + atN ys k + carry) % 10], A3, c3, (atN xs k + atN ys k + carry) / 10, by omega, by go_num, rfl, by go_num, ?_, by simp [HZ.out], digl_snoc hz (by omega), by omega, HS.out, HN.out, hbel.trans hb2⟩
            rw [nums_snoc]
            have e : (((atN xs k + atN ys k + carry) % 10 : Nat) : Int) = ((atN xs k : Int) + (atN ys k : Int) + (carry : Int)) % 10 := by omega
            rw [e]; exact hown1
          case measure => simp [intOf]; omega
        · have hltc : decide (k < ys.length) = false := by simpa using hlt2
          have hcpos : 0 < (carry : Int) := by omega
          clear hgo hlt hlt2
          go_wp2_with fail
          refine (wdigit_any xs A c k _ (by omega) hcl hcm hcx1).mono ?_; rintro e w' ⟨rfl, rfl⟩
          go_wp2_with fail
          refine (wdigit_any ys A' c' k _ (by omega) hcl' hcm' hcy1).mono ?_; rintro e w' ⟨rfl, rfl⟩
          go_wp2_with (at_builtin; refine wp_app1 el_ints rfl _ _ rfl w.heap.size _ _ _ _ _ _ rfl hown rfl rfl (by unfold maxLen; omega) (by omega) hbel.size ?_; intro A3 c3 w2 hown1 hb2)
          go_roundw
          case rel =>
            refine ⟨k + 1, zs ++ [(atN xs k + atN ys k + carry) % 10], A3, c3, (atN xs k + atN ys k + carry) / 10, by omega, by go_num, rfl, by go_num, ?_, by simp [HZ.out], digl_snoc hz (by omega), by omega, HS.out, HN.out, hbel.trans hb2⟩
            rw [nums_snoc]
            have e : (((atN xs k + atN ys k + carry) % 10 : Nat) : Int) = ((atN xs k : Int) + (atN ys k : Int) + (carry : Int)) % 10 := by omega
            rw [e]; exact hown1
          case measure => simp [intOf]; omega
    · have hc0 : carry = 0 := by omega
      have hval : lw zs = a + b := by
        rw [hc0, Nat.mul_zero, Nat.add_zero, List.take_of_length_le (by omega), List.take_of_length_le (by omega), HX.out, HY.out] at hv
        exact hv
      have HW := Lib.hid (wtrim_num zs (a + b) A2 k c2 wr hz hval hzl hown.cap.1 hown.cap.2 hown.cells)
      have hltb : decide (k < xs.length) = false := by simp; omega
      have hltc : decide (k < ys.length) = false := by simp; omega
      clear hval hzl hv hor hgo
      subst hc0
      go_wp2_with fail
      refine HW.out.mono ?_
      rintro e w3 ⟨rfl, hd, h⟩
      obtain rfl := h.symm
      go_wp2_with fail
      go_ret
      exact ⟨A2, c2, rfl, hd, hbel⟩

set_option maxHeartbeats 2000000 in
theorem wminus_any (a m : Nat) (A Am : Option Addr) (c cm : Nat) (w : World) (hA : DigAt w A c a) (hM : DigAt w Am cm m) (hla : (ns a).length ≤ 1000000) (hma : m ≤ a) :
    Calls Tryd.prog 44 #[.slice A (ns a).length c, .slice Am (ns m).length cm] w fun e w' => ∃ A' c', e = .returned (.slice A' (ns (a - m)).length c') ∧ DigAt w' A' c' (a - m) ∧ (∀ ad, A' = some ad → w.heap.size ≤ ad.block) ∧ Below w.heap.size w w' := by
  obtain ⟨hcells, hle, hcap⟩ := hA
  obtain ⟨hmc, hmle, hmcap⟩ := hM
  have hx := digl_ns a
  have hy := digl_ns m
  have hlm := ns_length_mono hma
  have hxv := Lib.hid (lw_ns a)
  have hyv := Lib.hid (lw_ns m)
  generalize ns a = xs at *
  generalize ns m = us at *
  go_enter Tryd.func44, Tryd.ntmps44
  go_wp2_with fail
  go_loopw [5, 6, 7, 8] (fun v cr i _ wr => ∃ (k : Nat) (ys : List Nat) (A' : Option Addr) (c' borrow : Nat), k ≤ xs.length ∧ i = .int .i64 k ∧ v = .slice A' k c' ∧ cr = .int .i64 borrow ∧ OwnS wr w.heap.size 3 A' k c' (nums ys) ∧
      ys.length = k ∧ digl ys ∧ borrow ≤ 1 ∧ lw ys + lw (us.take k) = lw (xs.take k) + 10 ^ k * borrow ∧ Below w.heap.size w wr)
    (fun _ _ i _ _ => xs.length - (intOf i).toNat)
  case atStart => exact ⟨0, [], none, 0, 0, Nat.zero_le _, rfl, rfl, rfl, OwnS.nil _ _ _, rfl, digl_nil, by omega, by simp [lw], Below.refl _ _⟩
  case round =>
    obtain ⟨k, ys, A', c', borrow, hk, rfl, rfl, rfl, hown, hyl, hyy, hcr, hv, hbel⟩ := hrel
    by_cases hlt : k < xs.length
    · have hxk := atD_lt hx k
      have hyk := atD_lt hy k
      obtain ⟨b, off, rfl, hb, hcell⟩ := (hcells.below hbel) (by rw [nums_length]; omega)
      have hck := Cells.num hcell k hlt
      have HB := Lib.hid hcell
      have hmw := hmc.below hbel
      have HY := Lib.hid hyl
      have HS := Lib.hid (fun d borrow' => sub_step10 xs us ys k borrow d borrow' hyl hv)
      clear hyl hv hcell
      by_cases hneg : atN xs k < atN us k + borrow
      all_goals
        go_wp2_with fail
        go_quiet ((go_at_call 66; exact Calls.quiet_of_same (wdigit_any us Am cm k _ (by omega) hmle hmcap hmw)))
        have hown2 : OwnS (wr.drewN ‹Nat›) w.heap.size 3 A' k c' (nums ys) := hown
        have hbel2 : Below w.heap.size w (wr.drewN ‹Nat›) := below_drewN hbel _
        clear hown hbel hmw hck hcells hmc
        generalize wr.drewN ‹Nat› = w2 at *
      · have hn1 : (atN xs k : Int) - (atN us k : Int) - (borrow : Int) < 0 := by omega
        go_wp2_with (at_builtin; refine wp_app1 el_ints rfl _ _ rfl w.heap.size _ _ _ _ _ _ rfl hown2 rfl rfl (by unfold maxLen; omega) (by omega) hbel2.size ?_; intro A2 c2 w1 hown1 hb1)
        go_roundw
        case rel =>
          refine ⟨k + 1, ys ++ [atN xs k + 10 - atN us k - borrow], A2, c2, 1, by omega, by go_num, rfl, rfl, ?_, by simp [HY.out], digl_snoc hyy (by omega), by omega, HS.out _ 1 (by omega), hbel2.trans hb1⟩
          rw [nums_snoc]
          have e : ((atN xs k + 10 - atN us k - borrow : Nat) : Int) = (atN xs k : Int) - (atN us k : Int) - (borrow : Int) + 10 := by omega
          rw [e]; exact hown1
        case measure => simp [intOf]; omega
      · have hn1 : 0 ≤ (atN xs k : Int) - (atN us k : Int) - (borrow : Int) := by omega
        go_wp2_with (at_builtin; refine wp_app1 el_ints rfl _ _ rfl w.heap.size _ _ _ _ _ _ rfl hown2 rfl rfl (by unfold maxLen; omega) (by omega) hbel2.size ?_; intro A2 c2 w1 hown1 hb1)
        go_roundw
        case rel =>
          refine ⟨k + 1, ys ++ [atN xs k - atN us k - borrow], A2, c2, 0, by omega, by go_num, rfl, rfl, ?_, by simp [HY.out], digl_snoc hyy (by omega), by omega, HS.out _ 0 (by omega), hbel2.trans hb1⟩
          rw [nums_snoc]
          have e : ((atN xs k - atN us k - borrow : Nat) : Int) = (atN xs k : Int) - (atN us k : Int) - (borrow : Int) := by omega
          rw [e]; exact hown1
        case measure => simp [intOf]; omega
    · obtain rfl : k = xs.length := by omega
      have hres : lw ys = a - m := by
        have h1 := hxv.out
        have h2 := hyv.out
        rw [List.take_of_length_le (Nat.le_refl _), List.take_of_length_le (by omega), h1, h2] at hv
        have h3 : borrow = 0 := by
          rcases Nat.eq_zero_or_pos borrow with h | h
          · exact h
          · have h4 := lw_lt ys hyy
            rw [hyl] at h4
            have : borrow = 1 := by omega
            rw [this] at hv; omega
        rw [h3] at hv; omega
      have HW := Lib.hid (wtrim_num ys (a - m) A' xs.length c' wr hyy hres hyl hown.cap.1 hown.cap.2 hown.cells)
      clear hres hyl hv
      go_wp2_with fail
      refine HW.out.mono ?_
      rintro e w3 ⟨rfl, hd, h⟩
      obtain rfl := h.symm
      go_wp2_with fail
      go_ret
      exact ⟨A', c', rfl, hd, fun ad h => by subst h; exact hown.fresh, hbel⟩
end Go.Proofs.YtkggdkkfdbbglaaDoor
