/- The walk of the law LinearChecks. -/
import Derived.Test.YtblihfhbaafdoaaGreatDoorLAwake
import Derived.Test.YtblihfhbaafdoaaGreatDoorG18
import Derived.Test.YtblihfhbaafdoaaGreatDoorLSmall
import Derived.Deep.QuietTactic
import Derived.BigQuiet
namespace Go.Proofs.YtblihfhbaafdoaaGreatDoor
open Go.RowKit Num
set_option linter.unusedVariables false
attribute [local go_sem] B_size B_get B_toList B_mk B_extract B_append
attribute [local go_sem high] run_max2

theorem fault_at {w : World} {Bs : Nat} {F : Option Addr} {c : Nat} {l : List (Int × Str)} {k : Nat} (h : OwnR w Bs 32 2 F l.length c (fcells l)) (hk : k < l.length) :
    ∃ g, F = some ⟨g, 0, none⟩ ∧ w.cell? ⟨g, k * 2, none⟩ = some (.int .i64 l[k].1) ∧ w.cell? ⟨g, k * 2 + 1, none⟩ = some (.string (B l[k].2)) := by
  obtain ⟨g, rfl, _, _, hc, _⟩ := h.at_ (by omega)
  have := fcells_get l k hk
  exact ⟨g, rfl, by rw [hc _ (by omega)]; exact this.1, by rw [hc _ (by omega)]; exact this.2⟩
set_option maxHeartbeats 2000000 in
set_option maxRecDepth 100000 in
theorem linearChecks_walk (cost : List Int) (rs : List RowV) (A : Option Addr) (ca : Nat) (R : Option Addr) (cr : Nat) (w : World) (hp : LinAt w cost rs A ca R cr) (he : Env w) :
    Calls Tryz.prog 3 #[linV A cost.length ca R rs.length cr] w fun e w' => e = .returned (.bool true) ∧ Below w.heap.size w w' := by
  have hla := hp.la
  have hlr := hp.lr
  unfold maxLen at hla hlr
  have b0 := new_below w (linO A cost.length ca R rs.length cr)
  have HP := Lib.hid hp
  have HS := Lib.hid (fun (w : World) (hp : LinAt w cost rs A ca R cr) => small_any cost rs A ca R cr w hp)
  have HA := Lib.hid (fun (w : World) (he : Env w) => lawake_any w he)
  have HBW := Lib.hid (fun wr (h : Below (w.alloc (linO A cost.length ca R rs.length cr)).heap.size (w.alloc (linO A cost.length ca R rs.length cr)) wr) => b0.trans (h.mono b0.size))
  clear hp
  cases hs : smallB cost rs
  · rw [hs] at HS
    clear hs
    go_enter Tryz.func3, Tryz.ntmps3
    go_wp2_with fail
    refine (HS.out _ (HP.out.below b0)).mono ?_
    rintro e w1 ⟨rfl, hb1⟩
    have a1 := HBW.out _ hb1
    go_wp2_with fail
    refine (HA.out w1 (he.below a1)).mono ?_
    rintro e w2 ⟨rfl, hb2⟩
    go_wp2_with fail
    go_ret
    exact ⟨rfl, a1.trans (hb2.mono a1.size)⟩
  · rw [hs] at HS
    have hm : rs.length ≤ 1000000 := by unfold smallB at hs; simp only [Bool.and_eq_true, decide_eq_true_eq] at hs; omega
    have hl := checkK_len (linOf cost rs) rs.length
    have HC := Lib.hid (fun (w : World) (hp : LinAt w cost rs A ca R cr) (ht : Tab w) => lcheck_any cost rs A ca R cr w hm hp ht)
    have HR := Lib.hid (fun (w : World) (hp : LinAt w cost rs A ca R cr) => rlcheck_any cost rs A ca R cr w hm hp)
    generalize checkK (linOf cost rs) rs.length = l at *
    clear hs
    go_enter Tryz.func3, Tryz.ntmps3
    go_wp2_with fail
    refine (HS.out _ (HP.out.below b0)).mono ?_
    rintro e w1 ⟨rfl, hb1⟩
    have a1 := HBW.out _ hb1
    obtain ⟨d0, d1, d2⟩ := lin_cells hb1
    go_wp2_with fail
    refine (HC.out w1 (HP.out.below a1) (he.below a1).1).mono ?_
    rintro e w2 ⟨⟨v2, rfl, F2, c2, rfl, hf2⟩, hb2⟩
    have c2' := hb1.trans (hb2.mono hb1.size)
    have a2 := HBW.out _ c2'
    clear d0 d1 d2
    obtain ⟨d0, d1, d2⟩ := lin_cells c2'
    go_wp2_with fail
    refine (HR.out w2 (HP.out.below a2)).mono ?_
    rintro e w3 ⟨⟨v3, rfl, F3, c3, rfl, hf3⟩, hb3⟩
    have c3' := c2'.trans (hb3.mono c2'.size)
    have a3 := HBW.out _ c3'
    have hf2' := hf2.below hb3
    have HF2 := Lib.hid hf2'
    have HF3 := Lib.hid hf3
    clear d0 d1 d2 hf2 hf3 hf2' hb1 hb2 hb3 c2' a1 a2 c3'
    go_wp2_with fail
    go_loopw [2, 5] (fun _ i wr => ∃ k : Nat, k ≤ l.length ∧ i = .int .i64 k ∧ Below w3.heap.size w3 wr) (fun _ i _ => l.length - (intOf i).toNat)
    case atStart => exact ⟨0, Nat.zero_le _, rfl, Below.refl _ _⟩
    case round =>
      obtain ⟨k, hk, rfl, hbel⟩ := hrel
      by_cases hlt : k < l.length
      · obtain ⟨g2, rfl, e0, e1⟩ := fault_at (HF2.out.below hbel) hlt
        obtain ⟨g3, rfl, e2, e3⟩ := fault_at (HF3.out.below hbel) hlt
        generalize l[k] = f at *
        obtain ⟨f1, f2⟩ := f
        have q1 : (f1 == f1) = true := by simp
        have q2 : (f2 == f2) = true := by simp
        go_wp2_with fail
        go_quiet (fail)
        go_wp2_with fail
        go_roundw
        case rel => exact ⟨k + 1, by omega, by go_num, below_drewN hbel _⟩
        case measure => simp [intOf]; omega
      · go_wp2_with fail
        refine (HA.out wr (he.below (a3.trans (hbel.mono a3.size)))).mono ?_
        rintro e w4 ⟨rfl, hb4⟩
        go_wp2_with fail
        go_ret
        exact ⟨rfl, (a3.trans (hbel.mono a3.size)).trans (hb4.mono (Nat.le_trans a3.size hbel.size))⟩
end Go.Proofs.YtblihfhbaafdoaaGreatDoor
