/- The walk of the law RatioLarge. -/
import Derived.Test.YtkloocjmncconaaDoorRLaw
import Derived.Deep.DeepCutAuto
namespace Go.Proofs.YtkloocjmncconaaDoor
open Go.RowKit Num
set_option linter.unusedVariables false
attribute [local go_sem] B_size B_get B_toList B_mk B_extract B_append
attribute [local go_sem high] run_max2

theorem conv_rat (g n c Bs : Nat) (l : List UInt8) (w : World) (hl : l.length = n) (h : OwnS w Bs 5 (some ⟨g, 0, none⟩) n c (bytes l)) :
    (convert 22 23 (.slice (some ⟨g, 0, none⟩) n c)).run Tryd.prog w = .ok (.string (B l)) w := by
  have hc : ∀ i, i < n → w.cell? ⟨g, 0 + i, none⟩ = some (.int .u8 ((l.map fun b => (b.toNat : Int)).getD i 0)) := by
    intro i hi
    have := World.ownsRow.cellAt h i (by omega)
    rw [Nat.zero_add, this]
    simp [bytes, List.getElem?_eq_getElem (show i < l.length by omega)]
  have := run_convert_bytes_arg (P := Tryd.prog) (w := w) 22 5 Tryd.underlying22 Tryd.underlying5 g 0 n c (l.map fun b => (b.toNat : Int)) (by simpa using hl) hc 23 Tryd.underlying23
  have hmap : ∀ l : List UInt8, (l.map fun b => (b.toNat : Int)).map (fun n => UInt8.ofNat n.toNat) = l := by
    intro l
    rw [List.map_map]
    conv => rhs; rw [← List.map_id l]
    apply List.map_congr_left
    intro x _
    simp
  have hs : strOfNums (l.map fun b => (b.toNat : Int)) = B l := by
    unfold strOfNums B
    rw [hmap]
  rw [this, hs]
theorem make_bytes64 (n : Nat) (hn : n ≤ 1000000) (w : World) :
    (Instr.makeSlice 22 (.int .i64 (n : Int)) (.int .i64 (n : Int))).run Tryd.prog w = .ok (.slice (some ⟨w.heap.size, 0, none⟩) n n) (w.alloc (.cells (zeros n) 5)) := by
  obtain ⟨i, hi, hz, hs, hb⟩ := info_parts byte_info
  have := run_make_rowN (P := Tryd.prog) 22 5 i (.int .u8 0) Tryd.underlying22 hi hz .i64 .i64 n n (Nat.le_refl _) (by rw [hb]; omega) (by omega) w
  rw [hs, Nat.mul_one] at this
  exact this
theorem fill7_step (k n : Nat) (h : k < n) : (bytes (sevens k ++ List.replicate (n - k) 0)).set k (.int .u8 55) = bytes (sevens (k + 1) ++ List.replicate (n - (k + 1)) 0) := by
  have h1 : n - k = (n - (k + 1)) + 1 := by omega
  rw [h1, List.replicate_succ]
  unfold bytes
  rw [List.map_append, List.set_append_right _ _ (by simp [sevens])]
  simp [sevens, List.replicate_succ']

set_option maxHeartbeats 2000000 in
set_option maxRecDepth 100000 in
theorem large_core (m : Int) (k : Nat) (w : World) (hm0 : 0 ≤ m) (hm1 : m ≤ 255) (hk1 : 4094 ≤ k) (hk2 : k ≤ 4098) (hkm : 4094 + m % 5 = (k : Int)) (he : Env w) :
    Calls Tryd.prog 3 #[.int .u8 m] w fun e w' => e = .returned (.bool true) ∧ Below w.heap.size w w' := by
  have hk0 : 0 < k := by omega
  have hln := sevens_length k
  have hs0 : OwnS (w.alloc (.cells (zeros k) 5)) w.heap.size 5 (some ⟨w.heap.size, 0, none⟩) k k (bytes (List.replicate k 0)) := OwnS.zeros w k _ (Nat.le_refl _) (by omega)
  have hb0 : Below w.heap.size w (w.alloc (.cells (zeros k) 5)) := (Below.refl _ _).alloc (Nat.le_refl _) _
  have mk := make_bytes64 k (by omega) w
  have HA := Lib.hid (fun w he => awake_any w he)
  have HR := Lib.hid (fun w he => rq_any (sevens k) w (by omega) he)
  have HM := Lib.hid (fun w he => qmul_any (sevens k) [49, 48, 48, 48] w (by omega) (by decide) he)
  have HD := Lib.hid (fun w he => qadd_any (sevens k) [48] w (by omega) (by decide) he)
  have HS := Lib.hid (fun w he => qsign_any (45 :: sevens k) w (by rw [List.length_cons]; omega) he)
  go_enter Tryd.func3, Tryd.ntmps3
  simp only [B_mk]
  go_wp2_with fail
  go_loopw [4] (fun i wr => ∃ j : Nat, j ≤ k ∧ i = .int .i64 j ∧ OwnS wr w.heap.size 5 (some ⟨w.heap.size, 0, none⟩) k k (bytes (sevens j ++ List.replicate (k - j) 0)) ∧ Below w.heap.size w wr) (fun i _ => k - (intOf i).toNat)
  case atStart => exact ⟨0, Nat.zero_le _, rfl, by simpa [sevens] using hs0, hb0⟩
  case round =>
    obtain ⟨j, hj, rfl, ho1, hbelr⟩ := hrel
    clear hs0 hb0 mk
    by_cases hlt : j < k
    · obtain ⟨g', hgg, _, _, hgc, hgf⟩ := ho1.at_ (by omega)
      injection hgg with hgg
      injection hgg with hgg _ _
      subst hgg
      have hlen : j < (bytes (sevens j ++ List.replicate (k - j) 0)).length := by rw [bytes_length, List.length_append, sevens_length, List.length_replicate]; omega
      have hld : wr.cell? ⟨w.heap.size, j, none⟩ = some (bytes (sevens j ++ List.replicate (k - j) 0))[j] := by rw [hgc j hlt, List.getElem?_eq_getElem hlen]
      have hfr := hgf j
      have hst := ho1.stored j (.int .u8 55)
      rw [fill7_step j k hlt] at hst
      have HST := Lib.hid hst
      generalize (bytes (sevens j ++ List.replicate (k - j) 0))[j] = old at hld
      clear hgc hgf hst ho1
      go_wp2_with fail
      go_roundw
      case rel => exact ⟨j + 1, by omega, by go_num, HST.out, hbelr.setCell (Nat.le_refl _) _⟩
      case measure => simp [intOf]; omega
    · have hjk : j = k := by omega
      subst hjk
      have ho1' : OwnS wr w.heap.size 5 (some ⟨w.heap.size, 0, none⟩) j j (bytes (sevens j)) := by simpa using ho1
      have cv := conv_rat w.heap.size j j _ (sevens j) wr (sevens_length j) ho1'
      clear ho1 ho1' hlt
      by_cases hbig : 4096 < j
      · have hb1 : ¬ (j : Int) ≤ 4096 := by omega
        have hb2 : (4096 : Int) < (j : Int) := by omega
        rw [sevens_big hbig] at HR
        rw [(sevens_mul_big hbig).1, (sevens_mul_big hbig).2] at HM
        clear hbig
        go_wp2_with fail
        refine (HR.out wr (he.below hbelr)).mono ?_
        rintro e w1 ⟨rfl, hb⟩
        have h1 := hbelr.trans (hb.mono hbelr.size)
        clear hb
        go_wp2_with fail
        refine (HM.out w1 (he.below h1)).mono ?_
        rintro e w2 ⟨rfl, hb⟩
        have h2 := h1.trans (hb.mono h1.size)
        clear hb
        go_wp2_with fail
        refine (HA.out w2 (he.below h2)).mono ?_
        rintro e w3 ⟨rfl, hb⟩
        have h3 := h2.trans (hb.mono h2.size)
        clear hb
        go_wp2_with fail
        go_ret
        exact ⟨rfl, h3⟩
      · have hb1 : (j : Int) ≤ 4096 := by omega
        have hb2 : ¬ (4096 : Int) < (j : Int) := by omega
        rw [sevens_small hk0 (by omega)] at HR
        rw [(sevens_mul hk1 (by omega)).1, (sevens_mul hk1 (by omega)).2] at HM
        rw [(sevens_add hk1 (by omega)).1, (sevens_add hk1 (by omega)).2] at HD
        rw [sevens_neg hk0 (by omega)] at HS
        have hself : (sevens j == sevens j) = true := by simp
        clear hbig
        go_wp2_with fail
        refine (HR.out wr (he.below hbelr)).mono ?_
        rintro e w1 ⟨rfl, hb⟩
        have h1 := hbelr.trans (hb.mono hbelr.size)
        clear hb
        go_wp2_with fail
        refine (HM.out w1 (he.below h1)).mono ?_
        rintro e w2 ⟨rfl, hb⟩
        have h2 := h1.trans (hb.mono h1.size)
        clear hb
        go_wp2_with fail
        refine (HD.out w2 (he.below h2)).mono ?_
        rintro e w3 ⟨rfl, hb⟩
        have h3 := h2.trans (hb.mono h2.size)
        clear hb
        go_wp2_with fail
        refine (HS.out w3 (he.below h3)).mono ?_
        rintro e w4 ⟨rfl, hb⟩
        have h4 := h3.trans (hb.mono h3.size)
        clear hb
        go_wp2_with fail
        refine (HA.out w4 (he.below h4)).mono ?_
        rintro e w5 ⟨rfl, hb⟩
        have h5 := h4.trans (hb.mono h4.size)
        clear hb
        go_wp2_with fail
        go_ret
        exact ⟨rfl, h5⟩
theorem ratioLarge_walk (m : Int) (w : World) (wm : (Lit.int .u8 m).wf = true) (he : Env w) :
    Calls Tryd.prog 3 #[.int .u8 m] w fun e w' => e = .returned (.bool true) ∧ Below w.heap.size w w' := by
  have h1 : IntKind.u8.min ≤ m ∧ m ≤ IntKind.u8.max := by simpa [Lit.wf] using wm
  have h2 : 0 ≤ m := h1.1
  have h3 : m ≤ 255 := h1.2
  exact large_core m (4094 + m % 5).toNat w h2 h3 (by omega) (by omega) (by omega) he
end Go.Proofs.YtkloocjmncconaaDoor
