/- The law SimplexChecks. (Printed by wip/sxks.py.) -/
import Derived.Test.YtmppmdmekomjbaaGreatDoorG37
import Derived.Test.YtmppmdmekomjbaaGreatDoorG40
import Derived.Deep.RegionHeld3
namespace Go.Proofs.YtmppmdmekomjbaaGreatDoor
open Go.RowKit Num
set_option linter.unusedVariables false
attribute [local go_sem] B_size B_get B_toList B_mk B_extract B_append
attribute [local go_sem high] run_max2

theorem keep7 {wb wo wn : World} {p q : Nat} {x0 x1 y0 y1 y2 y3 y4 : Value} (hp : p < wb.heap.size) (hq : q < wb.heap.size)
    (h : Below wb.heap.size wb wo ∧ wo.cell? ⟨p, 0, none⟩ = some x0 ∧ wo.cell? ⟨p, 1, none⟩ = some x1 ∧ wo.cell? ⟨q, 0, none⟩ = some y0 ∧ wo.cell? ⟨q, 1, none⟩ = some y1 ∧ wo.cell? ⟨q, 2, none⟩ = some y2 ∧ wo.cell? ⟨q, 3, none⟩ = some y3 ∧ wo.cell? ⟨q, 4, none⟩ = some y4) (hb : Below wo.heap.size wo wn) :
    Below wb.heap.size wb wn ∧ wn.cell? ⟨p, 0, none⟩ = some x0 ∧ wn.cell? ⟨p, 1, none⟩ = some x1 ∧ wn.cell? ⟨q, 0, none⟩ = some y0 ∧ wn.cell? ⟨q, 1, none⟩ = some y1 ∧ wn.cell? ⟨q, 2, none⟩ = some y2 ∧ wn.cell? ⟨q, 3, none⟩ = some y3 ∧ wn.cell? ⟨q, 4, none⟩ = some y4 := by
  obtain ⟨h0, h1, h2, h3, h4, h5, h6, h7⟩ := h
  have a := Nat.lt_of_lt_of_le hp h0.size
  have b := Nat.lt_of_lt_of_le hq h0.size
  exact ⟨h0.trans (hb.mono h0.size), (hb.cell (p := ⟨p, 0, none⟩) a).trans h1, (hb.cell (p := ⟨p, 1, none⟩) a).trans h2, (hb.cell (p := ⟨q, 0, none⟩) b).trans h3, (hb.cell (p := ⟨q, 1, none⟩) b).trans h4, (hb.cell (p := ⟨q, 2, none⟩) b).trans h5, (hb.cell (p := ⟨q, 3, none⟩) b).trans h6, (hb.cell (p := ⟨q, 4, none⟩) b).trans h7⟩
section
variable (cost : List Int) (rs : List RowV) (A : Option Addr) (ca : Nat) (R : Option Addr) (cr : Nat)
/-- both checks return the same error -/
theorem two_checks (a : AnsL) (X Y Z : Option Addr) (cx cy cz : Nat) (w : World) (hf : fewB cost rs = true) (hp : LinAt w cost rs A ca R cr) (hX : RatsAt w a.X X cx) (hY : RatsAt w a.dual Y cy) (hZ : RatsAt w a.ray Z cz) (hv : a.value.length ≤ 12) (he : Env w) :
    ∃ res : Int, (∀ w', Below w.heap.size w w' → Calls Tryz.prog 13 #[linV A cost.length ca R rs.length cr, ansP a X Y Z cx cy cz] w' fun e w2 => e = .returned (.int .i64 res) ∧ Below w'.heap.size w' w2) ∧
      (∀ w', Below w.heap.size w w' → Calls Tryz.prog 12 #[linV A cost.length ca R rs.length cr, ansP a X Y Z cx cy cz] w' fun e w2 => e = .returned (.int .i64 res) ∧ Below w'.heap.size w' w2) := by
  have hm : rs.length ≤ 1000000 := by have := (few_parts hf).2.1; omega
  cases hc : checkK (linOf cost rs) rs.length with
  | nil =>
    have ho := okp_few hf hc
    exact ⟨chkA (linOf cost rs) rs.length a, fun w' h => sxcheck_any cost rs A ca R cr a X Y Z cx cy cz w' hm hc ho.len ho.kd (hp.below h) (hX.below h) (hY.below h) (hZ.below h) (by omega) (he.below h),
      fun w' h => rxcheck_any cost rs A ca R cr a X Y Z cx cy cz w' hm hc ho.len ho.kd (hp.below h) (hX.below h) (hY.below h) (hZ.below h) (by omega)⟩
  | cons f l =>
    exact ⟨f.1, fun w' h => sxcheck_bad cost rs A ca R cr w' _ _ _ _ _ f l hm hc (hp.below h) (he.below h), fun w' h => rxcheck_bad cost rs A ca R cr w' _ _ _ _ _ f l hm hc (hp.below h)⟩
end
set_option maxHeartbeats 8000000 in
set_option maxRecDepth 100000 in
theorem simplexChecks_walk (cost : List Int) (rs : List RowV) (A : Option Addr) (ca : Nat) (R : Option Addr) (cr : Nat) (k : Int) (X Y Z : Option Addr) (xs ys zs : List Str) (cx cy cz : Nat) (s : Str) (w : World) (hp : LinAt w cost rs A ca R cr) (hk : fits k)
    (hX : xs.length ≤ cx ∧ cx ≤ maxLen ∧ Cells w X (strs xs) ∧ ∀ x ∈ xs, x.length ≤ maxLen) (hY : ys.length ≤ cy ∧ cy ≤ maxLen ∧ Cells w Y (strs ys) ∧ ∀ x ∈ ys, x.length ≤ maxLen) (hZ : zs.length ≤ cz ∧ cz ≤ maxLen ∧ Cells w Z (strs zs) ∧ ∀ x ∈ zs, x.length ≤ maxLen) (hs : s.length ≤ maxLen) (he : Env w) :
    Calls Tryz.prog 4 #[linV A cost.length ca R rs.length cr, .agg #[.int .i64 k, .slice X xs.length cx, .slice Y ys.length cy, .slice Z zs.length cz, .string (B s)]] w fun e w' => e = .returned (.bool true) ∧ Below w.heap.size w w' := by
  have b1 := new_below w (linO A cost.length ca R rs.length cr)
  have b2 := new_below (w.alloc (linO A cost.length ca R rs.length cr)) (.cells #[.int .i64 k, .slice X xs.length cx, .slice Y ys.length cy, .slice Z zs.length cz, .string (B s)] 31)
  have b12 := below_lift3 b1 b2
  have HT := Lib.hid (two_box (w := w) A cost.length ca R rs.length cr k (.slice X xs.length cx) (.slice Y ys.length cy) (.slice Z zs.length cz) s)
  have HLT := Lib.hid (show w.heap.size < ((w.alloc (linO A cost.length ca R rs.length cr)).alloc (.cells #[.int .i64 k, .slice X xs.length cx, .slice Y ys.length cy, .slice Z zs.length cz, .string (B s)] 31)).heap.size ∧ w.heap.size + 1 < ((w.alloc (linO A cost.length ca R rs.length cr)).alloc (.cells #[.int .i64 k, .slice X xs.length cx, .slice Y ys.length cy, .slice Z zs.length cz, .string (B s)] 31)).heap.size by constructor <;> simp <;> omega)
  have HF := Lib.hid (few_any cost rs A ca R cr _ (hp.below b12))
  have HBX := Lib.hid (fun w' (h : Below w.heap.size w w') => brief_any xs X cx w' (hX.2.2.1.below h) ⟨hX.1, hX.2.1⟩ hX.2.2.2)
  have HBY := Lib.hid (fun w' (h : Below w.heap.size w w') => brief_any ys Y cy w' (hY.2.2.1.below h) ⟨hY.1, hY.2.1⟩ hY.2.2.2)
  have HBZ := Lib.hid (fun w' (h : Below w.heap.size w w') => brief_any zs Z cz w' (hZ.2.2.1.below h) ⟨hZ.1, hZ.2.1⟩ hZ.2.2.2)
  have HAW := Lib.hid (fun w' (h : Below w.heap.size w w') => sxawake_any w' (he.below h))
  have HCH := Lib.hid (fun (hf : fewB cost rs = true) (h1 : briefB xs = true) (h2 : briefB ys = true) (h3 : briefB zs = true) (h4 : s.length ≤ 12) => two_checks cost rs A ca R cr ⟨k, xs, ys, zs, s⟩ X Y Z cx cy cz w hf hp (show RatsAt w xs X cx from ⟨hX.2.2.1, fun x hh => by have := (brief_ok h1).2 x hh; omega, ⟨hX.1, hX.2.1⟩⟩) (show RatsAt w ys Y cy from ⟨hY.2.2.1, fun x hh => by have := (brief_ok h2).2 x hh; omega, ⟨hY.1, hY.2.1⟩⟩) (show RatsAt w zs Z cz from ⟨hZ.2.2.1, fun x hh => by have := (brief_ok h3).2 x hh; omega, ⟨hZ.1, hZ.2.1⟩⟩) h4 he)
  have HB := Lib.hid b12
  clear hp hX hY hZ b1 b2 b12 he
  unfold maxLen at hs
  go_enter Tryz.func4, Tryz.ntmps4
  go_upto_region 1 with fail
  generalize (w.alloc (linO A cost.length ca R rs.length cr)).alloc (.cells #[.int .i64 k, .slice X xs.length cx, .slice Y ys.length cy, .slice Z zs.length cz, .string (B s)] 31) = wB at *
  have HBW := Lib.hid (fun wr (h : Below wB.heap.size wB wr) => below_lift3 HB.out h)
  obtain ⟨⟨x0, x1⟩, y0, y1, y2, y3, y4⟩ := HT.out wB (Below.refl _ _)
  rcases hfew : fewB cost rs
  · rw [hfew] at HF
    go_wp2_with fail
    refine HF.out.mono ?_
    rintro e w1 ⟨rfl, hb1⟩
    have a1 := HBW.out _ hb1
    clear x0 x1 y0 y1 y2 y3 y4
    obtain ⟨⟨x0, x1⟩, y0, y1, y2, y3, y4⟩ := HT.out w1 hb1
    go_wp2_with fail
    refine (HAW.out w1 a1).mono ?_
    rintro e w2 ⟨rfl, hb2⟩
    go_wp2_with fail
    go_ret
    exact ⟨rfl, below_lift3 a1 hb2⟩
  rw [hfew] at HF
  rcases hbrX : briefB xs
  · rw [hbrX] at HBX
    go_wp2_with fail
    refine HF.out.mono ?_
    rintro e w1 ⟨rfl, hb1⟩
    have a1 := HBW.out _ hb1
    clear x0 x1 y0 y1 y2 y3 y4
    obtain ⟨⟨x0, x1⟩, y0, y1, y2, y3, y4⟩ := HT.out w1 hb1
    go_wp2_with fail
    refine (HBX.out w1 a1).mono ?_
    rintro e w' ⟨rfl, h⟩; obtain rfl := h.symm
    go_wp2_with fail
    refine (HAW.out w1 a1).mono ?_
    rintro e w2 ⟨rfl, hb2⟩
    go_wp2_with fail
    go_ret
    exact ⟨rfl, below_lift3 a1 hb2⟩
  rw [hbrX] at HBX
  rcases hbrY : briefB ys
  · rw [hbrY] at HBY
    go_wp2_with fail
    refine HF.out.mono ?_
    rintro e w1 ⟨rfl, hb1⟩
    have a1 := HBW.out _ hb1
    clear x0 x1 y0 y1 y2 y3 y4
    obtain ⟨⟨x0, x1⟩, y0, y1, y2, y3, y4⟩ := HT.out w1 hb1
    go_wp2_with fail
    refine (HBX.out w1 a1).mono ?_
    rintro e w' ⟨rfl, h⟩; obtain rfl := h.symm
    go_wp2_with fail
    refine (HBY.out w1 a1).mono ?_
    rintro e w' ⟨rfl, h⟩; obtain rfl := h.symm
    go_wp2_with fail
    refine (HAW.out w1 a1).mono ?_
    rintro e w2 ⟨rfl, hb2⟩
    go_wp2_with fail
    go_ret
    exact ⟨rfl, below_lift3 a1 hb2⟩
  rw [hbrY] at HBY
  rcases hbrZ : briefB zs
  · rw [hbrZ] at HBZ
    go_wp2_with fail
    refine HF.out.mono ?_
    rintro e w1 ⟨rfl, hb1⟩
    have a1 := HBW.out _ hb1
    clear x0 x1 y0 y1 y2 y3 y4
    obtain ⟨⟨x0, x1⟩, y0, y1, y2, y3, y4⟩ := HT.out w1 hb1
    go_wp2_with fail
    refine (HBX.out w1 a1).mono ?_
    rintro e w' ⟨rfl, h⟩; obtain rfl := h.symm
    go_wp2_with fail
    refine (HBY.out w1 a1).mono ?_
    rintro e w' ⟨rfl, h⟩; obtain rfl := h.symm
    go_wp2_with fail
    refine (HBZ.out w1 a1).mono ?_
    rintro e w' ⟨rfl, h⟩; obtain rfl := h.symm
    go_wp2_with fail
    refine (HAW.out w1 a1).mono ?_
    rintro e w2 ⟨rfl, hb2⟩
    go_wp2_with fail
    go_ret
    exact ⟨rfl, below_lift3 a1 hb2⟩
  rw [hbrZ] at HBZ
  by_cases hsl : 12 < s.length
  · have hsi : (12 : Int) < (s.length : Int) := by omega
    go_wp2_with fail
    refine HF.out.mono ?_
    rintro e w1 ⟨rfl, hb1⟩
    have a1 := HBW.out _ hb1
    clear x0 x1 y0 y1 y2 y3 y4
    obtain ⟨⟨x0, x1⟩, y0, y1, y2, y3, y4⟩ := HT.out w1 hb1
    go_wp2_with fail
    refine (HBX.out w1 a1).mono ?_
    rintro e w' ⟨rfl, h⟩; obtain rfl := h.symm
    go_wp2_with fail
    refine (HBY.out w1 a1).mono ?_
    rintro e w' ⟨rfl, h⟩; obtain rfl := h.symm
    go_wp2_with fail
    refine (HBZ.out w1 a1).mono ?_
    rintro e w' ⟨rfl, h⟩; obtain rfl := h.symm
    go_wp2_with fail
    refine (HAW.out w1 a1).mono ?_
    rintro e w2 ⟨rfl, hb2⟩
    go_wp2_with fail
    go_ret
    exact ⟨rfl, below_lift3 a1 hb2⟩
  obtain ⟨res, h1, h2⟩ := HCH.out hfew hbrX hbrY hbrZ (by omega)
  have hsi : ¬ (12 : Int) < (s.length : Int) := by omega
  have F1 := Lib.hid (fun (w' : World) (hs : Below wB.heap.size wB w' ∧ w'.cell? ⟨w.heap.size, 0, none⟩ = some (.slice A cost.length ca) ∧ w'.cell? ⟨w.heap.size, 1, none⟩ = some (.slice R rs.length cr) ∧ w'.cell? ⟨w.heap.size + 1, 0, none⟩ = some (.int .i64 k) ∧ w'.cell? ⟨w.heap.size + 1, 1, none⟩ = some (.slice X xs.length cx) ∧ w'.cell? ⟨w.heap.size + 1, 2, none⟩ = some (.slice Y ys.length cy) ∧ w'.cell? ⟨w.heap.size + 1, 3, none⟩ = some (.slice Z zs.length cz) ∧ w'.cell? ⟨w.heap.size + 1, 4, none⟩ = some (.string (B s))) => h1 w' (HBW.out _ hs.1))
  have F2 := Lib.hid (fun (w' : World) (hs : Below wB.heap.size wB w' ∧ w'.cell? ⟨w.heap.size, 0, none⟩ = some (.slice A cost.length ca) ∧ w'.cell? ⟨w.heap.size, 1, none⟩ = some (.slice R rs.length cr) ∧ w'.cell? ⟨w.heap.size + 1, 0, none⟩ = some (.int .i64 k) ∧ w'.cell? ⟨w.heap.size + 1, 1, none⟩ = some (.slice X xs.length cx) ∧ w'.cell? ⟨w.heap.size + 1, 2, none⟩ = some (.slice Y ys.length cy) ∧ w'.cell? ⟨w.heap.size + 1, 3, none⟩ = some (.slice Z zs.length cz) ∧ w'.cell? ⟨w.heap.size + 1, 4, none⟩ = some (.string (B s))) => h2 w' (HBW.out _ hs.1))
  have AA := Lib.hid (fun (w' : World) (hs : Below wB.heap.size wB w' ∧ w'.cell? ⟨w.heap.size, 0, none⟩ = some (.slice A cost.length ca) ∧ w'.cell? ⟨w.heap.size, 1, none⟩ = some (.slice R rs.length cr) ∧ w'.cell? ⟨w.heap.size + 1, 0, none⟩ = some (.int .i64 k) ∧ w'.cell? ⟨w.heap.size + 1, 1, none⟩ = some (.slice X xs.length cx) ∧ w'.cell? ⟨w.heap.size + 1, 2, none⟩ = some (.slice Y ys.length cy) ∧ w'.cell? ⟨w.heap.size + 1, 3, none⟩ = some (.slice Z zs.length cz) ∧ w'.cell? ⟨w.heap.size + 1, 4, none⟩ = some (.string (B s))) => HAW.out w' (HBW.out _ hs.1))
  have hq : (res == res) = true := by simp
  clear h1 h2 hfew hbrX hbrY hbrZ
  go_wp2_with fail
  refine HF.out.mono ?_
  rintro e w1 ⟨rfl, hb1⟩
  have a1 := HBW.out _ hb1
  clear x0 x1 y0 y1 y2 y3 y4
  obtain ⟨⟨x0, x1⟩, y0, y1, y2, y3, y4⟩ := HT.out w1 hb1
  go_wp2_with fail
  refine (HBX.out w1 a1).mono ?_
  rintro e w' ⟨rfl, h⟩; obtain rfl := h.symm
  go_wp2_with fail
  refine (HBY.out w1 a1).mono ?_
  rintro e w' ⟨rfl, h⟩; obtain rfl := h.symm
  go_wp2_with fail
  refine (HBZ.out w1 a1).mono ?_
  rintro e w' ⟨rfl, h⟩; obtain rfl := h.symm
  go_wp2_with fail
  have hS0 : Below wB.heap.size wB w1.drew ∧ w1.drew.cell? ⟨w.heap.size, 0, none⟩ = some (.slice A cost.length ca) ∧ w1.drew.cell? ⟨w.heap.size, 1, none⟩ = some (.slice R rs.length cr) ∧ w1.drew.cell? ⟨w.heap.size + 1, 0, none⟩ = some (.int .i64 k) ∧ w1.drew.cell? ⟨w.heap.size + 1, 1, none⟩ = some (.slice X xs.length cx) ∧ w1.drew.cell? ⟨w.heap.size + 1, 2, none⟩ = some (.slice Y ys.length cy) ∧ w1.drew.cell? ⟨w.heap.size + 1, 3, none⟩ = some (.slice Z zs.length cz) ∧ w1.drew.cell? ⟨w.heap.size + 1, 4, none⟩ = some (.string (B s)) := ⟨below_drew hb1, x0, x1, y0, y1, y2, y3, y4⟩
  clear x0 x1 y0 y1 y2 y3 y4
  go_region_held3 (fun w' => Below wB.heap.size wB w' ∧ w'.cell? ⟨w.heap.size, 0, none⟩ = some (.slice A cost.length ca) ∧ w'.cell? ⟨w.heap.size, 1, none⟩ = some (.slice R rs.length cr) ∧ w'.cell? ⟨w.heap.size + 1, 0, none⟩ = some (.int .i64 k) ∧ w'.cell? ⟨w.heap.size + 1, 1, none⟩ = some (.slice X xs.length cx) ∧ w'.cell? ⟨w.heap.size + 1, 2, none⟩ = some (.slice Y ys.length cy) ∧ w'.cell? ⟨w.heap.size + 1, 3, none⟩ = some (.slice Z zs.length cz) ∧ w'.cell? ⟨w.heap.size + 1, 4, none⟩ = some (.string (B s)))
    (first | (exact keep7 HLT.out.1 HLT.out.2 (by assumption) hbz) | (with_reducible exact hS0))
    (first | (go_at_call 13; ((with_reducible refine (F1.out _ (by assumption)).mono ?_); rintro e wz ⟨rfl, hbz⟩)) | (go_at_call 12; ((with_reducible refine (F2.out _ (by assumption)).mono ?_); rintro e wz ⟨rfl, hbz⟩)) | (go_at_call 9; ((with_reducible refine (AA.out _ (by assumption)).mono ?_); rintro e wz ⟨rfl, hbz⟩)))
  all_goals
    have hfin := (show Below wB.heap.size wB wz ∧ wz.cell? ⟨w.heap.size, 0, none⟩ = some (.slice A cost.length ca) ∧ wz.cell? ⟨w.heap.size, 1, none⟩ = some (.slice R rs.length cr) ∧ wz.cell? ⟨w.heap.size + 1, 0, none⟩ = some (.int .i64 k) ∧ wz.cell? ⟨w.heap.size + 1, 1, none⟩ = some (.slice X xs.length cx) ∧ wz.cell? ⟨w.heap.size + 1, 2, none⟩ = some (.slice Y ys.length cy) ∧ wz.cell? ⟨w.heap.size + 1, 3, none⟩ = some (.slice Z zs.length cz) ∧ wz.cell? ⟨w.heap.size + 1, 4, none⟩ = some (.string (B s)) from by assumption).1
    go_wp2_with fail
    go_ret
    exact ⟨rfl, HBW.out _ hfin⟩
end Go.Proofs.YtmppmdmekomjbaaGreatDoor
