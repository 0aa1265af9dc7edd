/- The reference of ratio: Make, Parts, both, over. -/
import Derived.Test.YtmppmdmekomjbaaGreatDoorRRef2
import Derived.Test.YtmppmdmekomjbaaGreatDoorRRefP
import Derived.Test.YtmppmdmekomjbaaGreatDoorRProg3
namespace Go.Proofs.YtmppmdmekomjbaaGreatDoor
open Go.RowKit Num
set_option linter.unusedVariables false
attribute [local go_sem] B_size B_get B_toList B_mk B_extract B_append
attribute [local go_sem high] run_max2

theorem rrparts_any (l : List UInt8) (w : World) (hl : l.length ≤ 1000000) :
    Calls Tryz.prog 97 #[.string (B l)] w fun e w' => e = .returned (.tuple #[.string (B (prtN l)), .string (B (prtD l)), .int .i64 (rightE l)]) ∧ Below w.heap.size w w' := by
  have HR := Lib.hid (rrq_any l w hl)
  have HH := Lib.hid (fun w => rhalves_any l w hl)
  cases h1 : rightQ l
  · have HE := Lib.hid (show prtN l = [] ∧ prtD l = [] ∧ rightE l = 3 by unfold prtN prtD rightE; rw [h1]; exact ⟨rfl, rfl, rfl⟩)
    rw [h1] at HR
    go_enter Tryz.func97, Tryz.ntmps97
    simp only [B_mk]
    go_wp2_with fail
    refine HR.out.mono ?_
    rintro e w1 ⟨rfl, hb1⟩
    go_wp2_with fail
    go_ret3
    exact ⟨by rw [HE.out.1, HE.out.2.1, HE.out.2.2]; rfl, hb1⟩
  · have HE := Lib.hid (show prtN l = numT l ∧ prtD l = denT l ∧ rightE l = 0 by unfold prtN prtD rightE; rw [h1]; exact ⟨rfl, rfl, rfl⟩)
    rw [h1] at HR
    go_enter Tryz.func97, Tryz.ntmps97
    simp only [B_mk]
    go_wp2_with fail
    refine HR.out.mono ?_
    rintro e w1 ⟨rfl, hb1⟩
    go_wp2_with fail
    refine (HH.out w1).mono ?_
    rintro e w2 ⟨rfl, hb2⟩
    go_wp2_with fail
    go_ret3
    exact ⟨by rw [HE.out.1, HE.out.2.1, HE.out.2.2]; rfl, hb1.trans (hb2.mono hb1.size)⟩
theorem row_kept {w w1 w2 : World} {o : Obj} (h1 : Below (w.alloc o).heap.size (w.alloc o) w1) (h2 : Below w1.heap.size w1 w2) : w2.heap[w.heap.size]? = some o := by
  have hs : w.heap.size < (w.alloc o).heap.size := by simp
  rw [h2.block _ (Nat.lt_of_lt_of_le hs h1.size), h1.block _ hs]
  show (w.heap.push o)[w.heap.size]? = _
  simp
theorem cell_set_off {w : World} {b i j : Nat} {v : Value} (h : i ≠ j) : (w.setCell ⟨b, i, none⟩ v).cell? ⟨b, j, none⟩ = w.cell? ⟨b, j, none⟩ :=
  World.cell?_setCell_other _ _ _ _ (by intro e; injection e with _ e _; exact h e)
attribute [local go_sem] cell_set_off
theorem row_cells {w : World} {g : Nat} {x y u v : Value} {t : TypeId} (h : w.heap[g]? = some (.cells #[x, y, u, v] t)) :
    (w.cell? ⟨g, 0, none⟩ = some x ∧ w.cell? ⟨g, 1, none⟩ = some y ∧ w.cell? ⟨g, 2, none⟩ = some u ∧ w.cell? ⟨g, 3, none⟩ = some v) ∧
    w.frozen? ⟨g, 0, none⟩ = false ∧ w.frozen? ⟨g, 1, none⟩ = false ∧ w.frozen? ⟨g, 2, none⟩ = false ∧ w.frozen? ⟨g, 3, none⟩ = false := by
  refine ⟨⟨?_, ?_, ?_, ?_⟩, ?_, ?_, ?_, ?_⟩
  · rw [cell_of_row w g 0 _ _ _ h]; rfl
  · rw [cell_of_row w g 1 _ _ _ h]; rfl
  · rw [cell_of_row w g 2 _ _ _ h]; rfl
  · rw [cell_of_row w g 3 _ _ _ h]; rfl
  all_goals (unfold World.frozen?; simp [h])
theorem row_set4 {w : World} {g : Nat} {x y u v a b c d : Value} {t : TypeId} (h : w.heap[g]? = some (.cells #[x, y, u, v] t)) :
    ((((w.setCell ⟨g, 0, none⟩ a).setCell ⟨g, 1, none⟩ b).setCell ⟨g, 2, none⟩ c).setCell ⟨g, 3, none⟩ d).heap[g]? = some (.cells #[a, b, c, d] t) := by
  have h1 := heap_setCell_same w g 0 _ t a h
  have h2 := heap_setCell_same _ g 1 _ t b h1
  have h3 := heap_setCell_same _ g 2 _ t c h2
  have h4 := heap_setCell_same _ g 3 _ t d h3
  exact h4
set_option maxRecDepth 100000 in
theorem both_res {w : World} {g : Nat} {a b c d : Value} {e : Int} {tmps : Array Value} {t : TypeId} (hrow : w.heap[g]? = some (.cells #[a, b, c, d] t)) (h4 : tmps.getD 4 undef = .pointer (some ⟨g, 0, none⟩)) (h5 : tmps.getD 5 undef = .int .i64 e) :
    (results Tryz.f57 tmps).run Tryz.prog w = .ok (.tuple #[.agg #[a, b, c, d], .int .i64 e]) w := by
  rw [results_cell_tmp (p := 4) (u := 5) (ty := 80) rfl, h4, h5]
  have hl := run_loadVar_row (P := Tryz.prog) w g t 80 #[a, b, c, d] _ _ hrow Tryz.underlying80 rfl (by kernel_rfl)
  show ((loadVar 80 ⟨g, 0, none⟩).run Tryz.prog w).andThen _ = _
  rw [hl]; rfl
set_option maxRecDepth 100000 in
theorem rboth_any (a b : List UInt8) (w : World) (ha : a.length ≤ 1000000) (hb : b.length ≤ 1000000) :
    Calls Tryz.prog 57 #[.string (B a), .string (B b)] w fun e w' => e = .returned (.tuple #[.agg #[.string (B (twoS a b (numT a))), .string (B (twoS a b (denT a))), .string (B (twoS a b (numT b))), .string (B (twoS a b (denT b)))], .int .i64 (errQ a b)]) ∧ Below w.heap.size w w' := by
  have HA := Lib.hid (fun w => rrparts_any a w ha)
  have HB := Lib.hid (fun w => rrparts_any b w hb)
  cases h1 : rightQ a
  · have HE := Lib.hid (show rightE a = 3 by unfold rightE; rw [h1]; rfl)
    have HQ := Lib.hid (show errQ a b = 3 by unfold errQ; rw [h1]; rfl)
    have HT := Lib.hid (show ∀ s, twoS a b s = [] by intro s; unfold twoS; rw [HQ.out]; rfl)
    rw [HE.out] at HA
    go_enter Tryz.func57, Tryz.ntmps57
    go_wp2_with fail
    refine (HA.out _).mono ?_
    rintro e w1 ⟨rfl, hb1⟩
    go_wp2_with fail
    refine (HB.out w1).mono ?_
    rintro e w2 ⟨rfl, hb2⟩
    have b0 : Below w.heap.size w (w.alloc (.cells #[.string (B []), .string (B []), .string (B []), .string (B [])] 80)) := (Below.refl _ _).alloc (Nat.le_refl _) _
    have b1 := b0.trans (hb1.mono b0.size)
    have b2 := b1.trans (hb2.mono b1.size)
    have hrow := row_kept hb1 hb2
    obtain ⟨⟨c0, c1, c2, c3⟩, f0, f1, f2, f3⟩ := row_cells hrow
    have HROW := Lib.hid hrow
    clear hrow
    go_wp2_with fail
    refine bodyPost_ret (both_res (row_set4 HROW.out) rfl rfl) rfl ⟨?_, (((b2.setCell (Nat.le_refl _) _).setCell (Nat.le_refl _) _).setCell (Nat.le_refl _) _).setCell (Nat.le_refl _) _⟩
    rw [HT.out, HT.out, HT.out, HT.out, HQ.out]
  · have HE := Lib.hid (show rightE a = 0 by unfold rightE; rw [h1]; rfl)
    rw [HE.out] at HA
    cases h2 : rightQ b
    · have HE2 := Lib.hid (show rightE b = 3 by unfold rightE; rw [h2]; rfl)
      have HQ := Lib.hid (show errQ a b = 3 by unfold errQ; rw [h1, h2]; rfl)
      have HT := Lib.hid (show ∀ s, twoS a b s = [] by intro s; unfold twoS; rw [HQ.out]; rfl)
      rw [HE2.out] at HB
      go_enter Tryz.func57, Tryz.ntmps57
      go_wp2_with fail
      refine (HA.out _).mono ?_
      rintro e w1 ⟨rfl, hb1⟩
      go_wp2_with fail
      refine (HB.out w1).mono ?_
      rintro e w2 ⟨rfl, hb2⟩
      have b0 : Below w.heap.size w (w.alloc (.cells #[.string (B []), .string (B []), .string (B []), .string (B [])] 80)) := (Below.refl _ _).alloc (Nat.le_refl _) _
      have b1 := b0.trans (hb1.mono b0.size)
      have b2 := b1.trans (hb2.mono b1.size)
      have hrow := row_kept hb1 hb2
      obtain ⟨⟨c0, c1, c2, c3⟩, f0, f1, f2, f3⟩ := row_cells hrow
      have HROW := Lib.hid hrow
      clear hrow
      go_wp2_with fail
      refine bodyPost_ret (both_res (row_set4 HROW.out) rfl rfl) rfl ⟨?_, (((b2.setCell (Nat.le_refl _) _).setCell (Nat.le_refl _) _).setCell (Nat.le_refl _) _).setCell (Nat.le_refl _) _⟩
      rw [HT.out, HT.out, HT.out, HT.out, HQ.out]
    · have HE2 := Lib.hid (show rightE b = 0 by unfold rightE; rw [h2]; rfl)
      have HQ := Lib.hid (show errQ a b = 0 by unfold errQ; rw [h1, h2]; rfl)
      have HT := Lib.hid (show ∀ s, twoS a b s = s by intro s; unfold twoS; rw [HQ.out]; rfl)
      have HP := Lib.hid (show prtN a = numT a ∧ prtD a = denT a ∧ prtN b = numT b ∧ prtD b = denT b by unfold prtN prtD; rw [h1, h2]; exact ⟨rfl, rfl, rfl, rfl⟩)
      rw [HE2.out] at HB
      go_enter Tryz.func57, Tryz.ntmps57
      go_wp2_with fail
      refine (HA.out _).mono ?_
      rintro e w1 ⟨rfl, hb1⟩
      go_wp2_with fail
      refine (HB.out w1).mono ?_
      rintro e w2 ⟨rfl, hb2⟩
      have b0 : Below w.heap.size w (w.alloc (.cells #[.string (B []), .string (B []), .string (B []), .string (B [])] 80)) := (Below.refl _ _).alloc (Nat.le_refl _) _
      have b1 := b0.trans (hb1.mono b0.size)
      have b2 := b1.trans (hb2.mono b1.size)
      have hrow := row_kept hb1 hb2
      obtain ⟨⟨c0, c1, c2, c3⟩, f0, f1, f2, f3⟩ := row_cells hrow
      have HROW := Lib.hid hrow
      clear hrow
      go_wp2_with fail
      refine bodyPost_ret (both_res (row_set4 HROW.out) rfl rfl) rfl ⟨?_, (((b2.setCell (Nat.le_refl _) _).setCell (Nat.le_refl _) _).setCell (Nat.le_refl _) _).setCell (Nat.le_refl _) _⟩
      rw [HT.out, HT.out, HT.out, HT.out, HQ.out, HP.out.1, HP.out.2.1, HP.out.2.2.1, HP.out.2.2.2]
theorem wrmulq_any (x y : Int) (w : World) (hx : dl x ≤ 4096) (hy : dl y ≤ 4096) :
    Calls Tryz.prog 100 #[.string (B (decI x)), .string (B (decI y))] w fun e w' => e = .returned (.tuple #[.string (B (resIS (x * y))), .int .i64 (resIE (x * y))]) ∧ Below w.heap.size w w' := by
  have h1 := dl_len x
  have h2 := dl_len y
  have he := errI_dec hx hy
  have h := wrmul_any (decI x) (decI y) w (by omega) (by omega)
  have e1 : mulIS (decI x) (decI y) = resIS (x * y) := by unfold mulIS; rw [if_pos he, valI_decI, valI_decI]
  have e2 : mulIE (decI x) (decI y) = resIE (x * y) := by unfold mulIE; rw [if_pos he, valI_decI, valI_decI]
  rw [e1, e2] at h; exact h
theorem wraddq_any (x y : Int) (w : World) (hx : dl x ≤ 4096) (hy : dl y ≤ 4096) :
    Calls Tryz.prog 127 #[.string (B (decI x)), .string (B (decI y))] w fun e w' => e = .returned (.tuple #[.string (B (resIS (x + y))), .int .i64 (resIE (x + y))]) ∧ Below w.heap.size w w' := by
  have h1 := dl_len x
  have h2 := dl_len y
  have he := errI_dec hx hy
  have h := wradd_any (decI x) (decI y) w (by omega) (by omega)
  have e1 : addIS (decI x) (decI y) = resIS (x + y) := by unfold addIS; rw [if_pos he, valI_decI, valI_decI]
  have e2 : addIE (decI x) (decI y) = resIE (x + y) := by unfold addIE; rw [if_pos he, valI_decI, valI_decI]
  rw [e1, e2] at h; exact h
theorem res_yes {z : Int} (h : dl z ≤ 4096) : resIS z = decI z ∧ resIE z = 0 := resIS_dec h
theorem res_no {z : Int} (h : ¬ dl z ≤ 4096) : resIS z = [] ∧ resIE z = 4 := ⟨if_neg h, if_neg h⟩
set_option maxRecDepth 100000 in
theorem rover_any (x y u v : Int) (w : World) (hx : dl x ≤ 4096) (hy : dl y ≤ 4096) (hu : dl u ≤ 4096) (hv : dl v ≤ 4096) (h0 : u * v ≠ 0) :
    Calls Tryz.prog 59 #[.string (B (decI x)), .string (B (decI y)), .string (B (decI u)), .string (B (decI v))] w fun e w' =>
      e = .returned (.tuple #[.string (B (if dl (x * y) ≤ 4096 ∧ dl (u * v) ≤ 4096 then quoS (x * y) (u * v) else [])), .int .i64 (if dl (x * y) ≤ 4096 ∧ dl (u * v) ≤ 4096 then 0 else 4)]) ∧ Below w.heap.size w w' := by
  have H1 := Lib.hid (fun w => wrmulq_any x y w hx hy)
  have H2 := Lib.hid (fun w => wrmulq_any u v w hu hv)
  by_cases h1 : dl (x * y) ≤ 4096
  · by_cases h2 : dl (u * v) ≤ 4096
    · rw [(res_yes h1).1, (res_yes h1).2] at H1
      rw [(res_yes h2).1, (res_yes h2).2] at H2
      have HI := Lib.hid (show (if dl (x * y) ≤ 4096 ∧ dl (u * v) ≤ 4096 then quoS (x * y) (u * v) else []) = quoS (x * y) (u * v) ∧ (if dl (x * y) ≤ 4096 ∧ dl (u * v) ≤ 4096 then 0 else 4 : Int) = 0 from ⟨if_pos ⟨h1, h2⟩, if_pos ⟨h1, h2⟩⟩)
      rw [HI.out.1, HI.out.2]
      have HD := Lib.hid (fun w => rreduced_any (x * y) (u * v) w h1 h2 h0)
      clear HI h1 h2
      go_enter Tryz.func59, Tryz.ntmps59
      simp only [B_mk]
      go_wp2_with fail
      refine (H1.out w).mono ?_
      rintro e w1 ⟨rfl, hb1⟩
      go_wp2_with fail
      refine (H2.out w1).mono ?_
      rintro e w2 ⟨rfl, hb2⟩
      have a2 := hb1.trans (hb2.mono hb1.size)
      go_wp2_with fail
      refine (HD.out w2).mono ?_
      rintro e w3 ⟨rfl, hb3⟩
      go_wp2_with fail
      go_ret2
      exact ⟨rfl, a2.trans (hb3.mono a2.size)⟩
    · rw [(res_yes h1).1, (res_yes h1).2] at H1
      rw [(res_no h2).1, (res_no h2).2] at H2
      have HI := Lib.hid (show (if dl (x * y) ≤ 4096 ∧ dl (u * v) ≤ 4096 then quoS (x * y) (u * v) else []) = [] ∧ (if dl (x * y) ≤ 4096 ∧ dl (u * v) ≤ 4096 then 0 else 4 : Int) = 4 from ⟨if_neg (fun h => h2 h.2), if_neg (fun h => h2 h.2)⟩)
      rw [HI.out.1, HI.out.2]
      clear HI h1 h2
      go_enter Tryz.func59, Tryz.ntmps59
      simp only [B_mk]
      go_wp2_with fail
      refine (H1.out w).mono ?_
      rintro e w1 ⟨rfl, hb1⟩
      go_wp2_with fail
      refine (H2.out w1).mono ?_
      rintro e w2 ⟨rfl, hb2⟩
      have a2 := hb1.trans (hb2.mono hb1.size)
      go_wp2_with fail
      go_ret2
      exact ⟨rfl, a2⟩
  · have HI := Lib.hid (show (if dl (x * y) ≤ 4096 ∧ dl (u * v) ≤ 4096 then quoS (x * y) (u * v) else []) = [] ∧ (if dl (x * y) ≤ 4096 ∧ dl (u * v) ≤ 4096 then 0 else 4 : Int) = 4 from ⟨if_neg (fun h => h1 h.1), if_neg (fun h => h1 h.1)⟩)
    rw [HI.out.1, HI.out.2]
    rw [(res_no h1).1, (res_no h1).2] at H1
    generalize resIS (u * v) = s2 at *
    generalize resIE (u * v) = e2 at *
    clear HI h1
    go_enter Tryz.func59, Tryz.ntmps59
    simp only [B_mk]
    go_wp2_with fail
    refine (H1.out w).mono ?_
    rintro e w1 ⟨rfl, hb1⟩
    go_wp2_with fail
    refine (H2.out w1).mono ?_
    rintro e w2 ⟨rfl, hb2⟩
    have a2 := hb1.trans (hb2.mono hb1.size)
    go_wp2_with fail
    go_ret2
    exact ⟨rfl, a2⟩
end Go.Proofs.YtmppmdmekomjbaaGreatDoor
