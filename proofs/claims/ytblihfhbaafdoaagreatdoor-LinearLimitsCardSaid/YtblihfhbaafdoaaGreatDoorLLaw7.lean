/- The walk of the law LinearLimits. -/
import Derived.Test.YtblihfhbaafdoaaGreatDoorLLaw
namespace Go.Proofs.YtblihfhbaafdoaaGreatDoor
open Go.RowKit Num
set_option linter.unusedVariables false
attribute [local go_sem] B_size B_get B_toList B_mk B_extract B_append
attribute [local go_sem high] run_max2

theorem make_ints (n : Nat) (hn : n ≤ 1000000) (w : World) :
    (Instr.makeSlice 22 (.int .i64 (n : Int)) (.int .i64 (n : Int))).run Tryz.prog w = .ok (.slice (some ⟨w.heap.size, 0, none⟩) n n) (w.alloc (.cells (madeCells #[.int .i64 0] n) 3)) := by
  obtain ⟨i, hi, hz, hs, hb⟩ := info_parts lint_info
  have := run_make_rowN (P := Tryz.prog) 22 3 i (.int .i64 0) Tryz.underlying22 hi hz .i64 .i64 n n (Nat.le_refl _) (by rw [hb]; omega) (by omega) w
  rw [hs, Nat.mul_one] at this
  exact this
theorem row_info : (Tryz.prog.info? 34).map (fun i => (i.zero, i.size, i.bytes)) = some (some (.agg #[.slice none 0 0, .int .i64 0, .int .i64 0]), 3, 40) := by kernel_rfl
theorem el_row : ElemR Tryz.prog 23 34 (.agg #[.slice none 0 0, .int .i64 0, .int .i64 0]) 3 40 := ⟨Tryz.underlying23, info_parts row_info, rfl, by decide⟩
theorem made_ints (n : Nat) : madeCells #[.int .i64 0] n = (ints (List.replicate n 0)).toArray := by
  apply Array.ext'
  rw [List.toList_toArray, toList_madeCells_one]; simp [ints]
/-- the row that the law puts in, k times -/
def limR (s n : Nat) : RowV := ⟨some ⟨s, 0, none⟩, n, ⟨List.replicate n 0, 1, 0⟩⟩
def limRs (s n k : Nat) : List RowV := List.replicate k (limR s n)
theorem limRs_snoc (s n k : Nat) : rcells (limRs s n k) ++ [.slice (some ⟨s, 0, none⟩) n n, .int .i64 1, .int .i64 0] = rcells (limRs s n (k + 1)) := by
  unfold limRs rcells
  rw [List.replicate_succ', List.flatMap_append]
  simp [limR]
theorem lim_check (s n m : Nat) : checkK (linOf (List.replicate n 0) (limRs s n m)) m = head1 n ++ head2 m := by
  have h0 := head_eq (List.replicate n 0) (limRs s n m)
  have hl : (limRs s n m).length = m := by simp [limRs]
  rw [hl, List.length_replicate] at h0
  have key : ∀ k, k ≤ m → checkK (linOf (List.replicate n 0) (limRs s n m)) k = head1 n ++ head2 m := by
    intro k
    induction k with
    | zero => intro _; exact h0
    | succ k ih =>
      intro hk
      rw [check_step _ _ _ (by rw [hl]; omega), ih (by omega), List.length_replicate]
      have : (limRs s n m)[k]'(by rw [hl]; omega) = limR s n := by simp [limRs]
      rw [this]
      unfold rowF limR
      simp
  exact key m (Nat.le_refl _)
set_option maxHeartbeats 4000000 in
set_option maxRecDepth 100000 in
theorem limits_core (a b : Int) (n m : Nat) (w : World) (ha0 : 0 ≤ a) (ha1 : a ≤ 255) (hb0 : 0 ≤ b) (hb1 : b ≤ 255) (hn : 8190 + b % 5 = (n : Int)) (hm : 62 + a % 5 = (m : Int)) (hn1 : n ≤ 8194) (hm1 : m ≤ 66) (he : Env w) :
    Calls Tryz.prog 4 #[.int .u8 a, .int .u8 b] w fun e w' => e = .returned (.bool true) ∧ Below w.heap.size w w' := by
  have mk := make_ints n (by omega) w
  have b1 := new_below w (.cells (madeCells #[.int .i64 0] n) 3)
  have b2 := b1.trans ((new_below _ (.cells #[.slice (some ⟨w.heap.size, 0, none⟩) n n, .slice none 0 0] 25)).mono b1.size)
  have r0 := row_on (row_new (w := w) (o := .cells (madeCells #[.int .i64 0] n) 3)) (new_below _ (.cells #[.slice (some ⟨w.heap.size, 0, none⟩) n n, .slice none 0 0] 25))
  have r1 := row_new (w := w.alloc (.cells (madeCells #[.int .i64 0] n) 3)) (o := .cells #[.slice (some ⟨w.heap.size, 0, none⟩) n n, .slice none 0 0] 25)
  have hsz : ((w.alloc (.cells (madeCells #[.int .i64 0] n) 3)).alloc (.cells #[.slice (some ⟨w.heap.size, 0, none⟩) n n, .slice none 0 0] 25)).heap.size = w.heap.size + 1 + 1 := by rw [World.size_alloc, World.size_alloc]
  rw [World.size_alloc] at r1
  generalize hw1 : ((w.alloc (.cells (madeCells #[.int .i64 0] n) 3)).alloc (.cells #[.slice (some ⟨w.heap.size, 0, none⟩) n n, .slice none 0 0] 25)) = w1 at b2 r0 r1 hsz
  have HW1 := Lib.hid hw1
  clear hw1 b1
  have R0 := Lib.hid r0
  clear r0
  have HA := Lib.hid (fun (w : World) (he : Env w) => lawake_any w he)
  have HCK := Lib.hid (lim_check w.heap.size n m)
  go_enter Tryz.func4, Tryz.ntmps4
  go_upto_region 2 with fail
  simp only [HW1.out]
  go_wp2_with fail
  go_loopw [6] (fun i wr => ∃ (k : Nat) (A2 : Option Addr) (c2 : Nat), k ≤ m ∧ i = .int .i64 k ∧ wr.heap[w.heap.size + 1]? = some (.cells #[.slice (some ⟨w.heap.size, 0, none⟩) n n, .slice A2 k c2] 25) ∧
    OwnR wr (w.heap.size + 1 + 1) 34 3 A2 k c2 (rcells (limRs w.heap.size n k)) ∧ wr.heap[w.heap.size]? = some (.cells (madeCells #[.int .i64 0] n) 3) ∧ Below w.heap.size w wr ∧ w.heap.size + 1 + 1 ≤ wr.heap.size) (fun i _ => m - (intOf i).toNat)
  case atStart => exact ⟨0, none, 0, Nat.zero_le _, rfl, r1, OwnR.nil _ _ _ _, R0.out, b2, by omega⟩
  case round =>
    clear b2 r1
    obtain ⟨k, A2, c2, hk, rfl, hq, hown, hz, hbel, hge⟩ := hrel
    have d0 : wr.cell? ⟨w.heap.size + 1, 0, none⟩ = some (.slice (some ⟨w.heap.size, 0, none⟩) n n) := by rw [cell_of_row wr _ 0 _ _ _ hq]; rfl
    have d1 : wr.cell? ⟨w.heap.size + 1, 1, none⟩ = some (.slice A2 k c2) := by rw [cell_of_row wr _ 1 _ _ _ hq]; rfl
    by_cases hlt : k < m
    · have hlt' : (k : Int) < (m : Int) := by omega
      have HSN := Lib.hid (limRs_snoc w.heap.size n k)
      generalize rcells (limRs w.heap.size n k) = xs at *
      have hcap := hown.cap
      go_wp2_with (at_builtin; refine wp_app1r el_row rfl _ _ rfl (w.heap.size + 1 + 1) _ _ _ _ _ #[.slice (some ⟨w.heap.size, 0, none⟩) n n, .int .i64 1, .int .i64 0] rfl hown rfl rfl (by simp [Value.oneCell']) (by unfold maxLen; omega) (by omega) hge ?_; intro A3 c3 w3 hown3 hb3; have hq3 := (hb3.block (w.heap.size + 1) (by omega)).trans hq; have e1 : w3.cell? ⟨w.heap.size + 1, 1, none⟩ = some (.slice A2 k c2) := (by rw [cell_of_row w3 _ 1 _ _ _ hq3]; rfl); have f1 : w3.frozen? ⟨w.heap.size + 1, 1, none⟩ = false := frozen_of_row w3 _ 1 _ _ hq3)
      go_roundw
      case rel =>
        have hs := heap_setCell_same w3 (w.heap.size + 1) 1 _ _ (.slice A3 (k + 1) c3) hq3
        have ho := ownsRow_setCell_below hown3 (a := ⟨w.heap.size + 1, 1, none⟩) (show w.heap.size + 1 < w.heap.size + 1 + 1 by omega) (.slice A3 (k + 1) c3)
        have hz3 := (hb3.block w.heap.size (by omega)).trans hz
        have hzs := (heap_setCell_other w3 ⟨w.heap.size + 1, 1, none⟩ w.heap.size (.slice A3 (k + 1) c3) (show w.heap.size ≠ w.heap.size + 1 by omega)).trans hz3
        refine ⟨k + 1, A3, c3, by omega, by go_num, hs, ?_, hzs, ?_, ?_⟩
        · rw [← HSN.out]; exact ho
        · exact (hbel.trans (hb3.mono (by omega))).setCell (show w.heap.size ≤ w.heap.size + 1 by omega) _
        · rw [World.size_setCell]; exact Nat.le_trans hge hb3.size
      case measure => simp [intOf]; omega
    · have hkx : k = m := by omega
      subst hkx
      have hcap := hown.cap
      have hlz : (List.replicate n (0 : Int)).length = n := List.length_replicate
      have hlr : (limRs w.heap.size n k).length = k := by simp [limRs]
      have hcz : Cells wr (some ⟨w.heap.size, 0, none⟩) (ints (List.replicate n 0)) := cells_row hz (made_ints n)
      have hLA : LinAt wr (List.replicate n 0) (limRs w.heap.size n k) (some ⟨w.heap.size, 0, none⟩) n A2 c2 := by
        refine ⟨hcz, ⟨fun h0 => ?_, fun r hr => ?_⟩, fun z hz => ?_, fun r hr => ?_, ⟨by rw [hlz]; exact Nat.le_refl _, by unfold maxLen; omega⟩, ⟨by rw [hlr]; exact hcap.1, hcap.2⟩⟩
        · rw [hlr] at h0
          obtain ⟨g, rfl, _, hg2, hgc, _⟩ := hown.at_ h0
          refine ⟨g, 0, rfl, hg2, fun i hi => ?_⟩
          have := rcells_get (limRs w.heap.size n k) i hi
          rw [hlr] at hi
          rw [Nat.zero_add, hgc _ (by omega), hgc _ (by omega), hgc _ (by omega)]
          exact this
        · unfold limRs at hr
          rw [List.eq_of_mem_replicate hr]; exact hcz
        · rw [List.eq_of_mem_replicate hz]; exact fits_zero
        · unfold limRs at hr
          rw [List.eq_of_mem_replicate hr]
          refine ⟨by show (List.replicate n (0:Int)).length ≤ n; rw [hlz]; exact Nat.le_refl _, by show n ≤ maxLen; unfold maxLen; omega, fun z hz => ?_, (show fits 1 by decide), fits_zero⟩
          have : z ∈ List.replicate n (0 : Int) := hz
          rw [List.eq_of_mem_replicate this]; exact fits_zero
      have HC := Lib.hid (lcheck_any _ _ _ n _ c2 wr (by rw [hlr]; omega) hLA (he.below hbel).1)
      rw [hlr, hlz, HCK.out] at HC
      have hall : ∀ f ∈ head1 n ++ head2 k, f = (4, []) := by
        intro f hf
        rw [List.mem_append] at hf
        rcases hf with hf | hf
        · unfold head1 at hf; split at hf <;> simp at hf; exact hf
        · unfold head2 at hf; split at hf <;> simp at hf; exact hf
      have HALL := Lib.hid hall
      have HL := show (head1 n ++ head2 k).length = (if 8192 < n then 1 else 0) + (if 64 < k then 1 else 0) by unfold head1 head2; rw [List.length_append]; split <;> split <;> rfl
      clear hcz hLA hall hlz hlr hz hown
      generalize head1 n ++ head2 k = l at *
      by_cases h1 : 8192 < n <;> by_cases h2 : 64 < k
      all_goals
        (first | have t1 : (8192 : Int) < (n : Int) := by omega | have t1 : ¬ (8192 : Int) < (n : Int) := by omega)
        (first | have t2 : (64 : Int) < (k : Int) := by omega | have t2 : ¬ (64 : Int) < (k : Int) := by omega)
        (first | have q1 : ((l.length : Int) == 0) = true := by (rw [HL]; simp [h1, h2]) | have q1 : ((l.length : Int) == 1) = true := by (rw [HL]; simp [h1, h2]) | have q1 : ((l.length : Int) == 2) = true := by (rw [HL]; simp [h1, h2]))
        have hl2 : l.length ≤ 2 := by (rw [HL]; repeat' split); all_goals omega
        clear HL h1 h2
        go_wp2_with fail
        refine HC.out.mono ?_
        rintro e w4 ⟨⟨v4, rfl, F4, c4, rfl, hf4⟩, hb4⟩
        have a4 := hbel.trans (hb4.mono hbel.size)
        have HF4 := Lib.hid hf4
        clear hf4 hb4 hq d0 d1
        go_wp2_with fail
        go_loopw [4, 9] (fun _ i wr => ∃ j : Nat, j ≤ l.length ∧ i = .int .i64 j ∧ Below w4.heap.size w4 wr) (fun _ i _ => l.length - (intOf i).toNat)
        case atStart => exact ⟨0, Nat.zero_le _, rfl, Below.refl _ _⟩
        case round =>
          obtain ⟨j, hj, rfl, hb5⟩ := hrel
          by_cases hlt5 : j < l.length
          · obtain ⟨g2, rfl, e0, e1⟩ := fault_at (HF4.out.below hb5) hlt5
            have hfj := HALL.out l[j] (List.getElem_mem hlt5)
            rw [hfj] at e0 e1
            clear hfj
            go_wp2_with fail
            go_roundw
            case rel => exact ⟨j + 1, by omega, by go_num, hb5⟩
            case measure => simp [intOf]; omega
          · have a5 := a4.trans (hb5.mono a4.size)
            go_wp2_with fail
            refine (HA.out _ (he.below a5)).mono ?_
            rintro e w6 ⟨rfl, hb6⟩
            go_wp2_with fail
            go_ret
            exact ⟨rfl, a5.trans (hb6.mono a5.size)⟩
theorem linearLimits_walk (a b : Int) (w : World) (wa : (Lit.int .u8 a).wf = true) (wb : (Lit.int .u8 b).wf = true) (he : Env w) :
    Calls Tryz.prog 4 #[.int .u8 a, .int .u8 b] w fun e w' => e = .returned (.bool true) ∧ Below w.heap.size w w' := by
  have h1 : IntKind.u8.min ≤ a ∧ a ≤ IntKind.u8.max := by simpa [Lit.wf] using wa
  have h2 : IntKind.u8.min ≤ b ∧ b ≤ IntKind.u8.max := by simpa [Lit.wf] using wb
  have a0 : 0 ≤ a := h1.1
  have a1 : a ≤ 255 := h1.2
  have c0 : 0 ≤ b := h2.1
  have c1 : b ≤ 255 := h2.2
  exact limits_core a b (8190 + b % 5).toNat (62 + a % 5).toNat w a0 a1 c0 c1 (by omega) (by omega) (by omega) (by omega) he
end Go.Proofs.YtblihfhbaafdoaaGreatDoor
