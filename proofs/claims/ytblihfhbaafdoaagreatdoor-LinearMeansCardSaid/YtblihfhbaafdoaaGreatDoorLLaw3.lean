/- law25.half. -/
import Derived.Test.YtblihfhbaafdoaaGreatDoorLLaw2
import Derived.Deep.RegionHeld3
namespace Go.Proofs.YtblihfhbaafdoaaGreatDoor
open Go.RowKit Num
set_option linter.unusedVariables false
attribute [local go_sem] B_size B_get B_toList B_mk B_extract B_append
attribute [local go_sem high] run_max2

theorem strs_take {xs : List Str} {k : Nat} {x : Str} (h : xs[k]? = some x) : strs (xs.take k) ++ [.string (B x)] = strs (xs.take (k + 1)) := by
  rw [List.take_add_one, h]; unfold strs; rw [List.map_append]; rfl
theorem rat_info : (Tryz.prog.info? 38).map (fun i => (i.zero, i.size, i.bytes)) = some (some (.string (B [])), 1, 16) := by kernel_rfl
theorem el_rat : Elem Tryz.prog 36 38 (.string (B [])) 16 := ⟨Tryz.underlying36, info_parts rat_info, rfl⟩
theorem cells_strs {w : World} {Bs : Nat} {A : Option Addr} {k c : Nat} {xs : List Str} (hk : k = xs.length) (h : OwnS w Bs 38 A k c (strs xs)) : Cells w A (strs xs) := by
  subst hk
  intro h0
  rw [strs_length] at h0
  obtain ⟨g, rfl, hg1, hg2, hgc, hgf⟩ := h.at_ h0
  refine ⟨g, 0, rfl, hg2, fun j u hu => ?_⟩
  have hj := (List.getElem?_eq_some_iff.1 hu).1
  rw [strs_length] at hj
  rw [Nat.zero_add, hgc j hj]; exact hu
theorem keep2c {w wo wn : World} {p q : Addr} {x y : Value} (hp : p.block < w.heap.size) (hq : q.block < w.heap.size) (h : Below w.heap.size w wo ∧ wo.cell? p = some x ∧ wo.cell? q = some y) (hb : Below wo.heap.size wo wn) :
    Below w.heap.size w wn ∧ wn.cell? p = some x ∧ wn.cell? q = some y := keepT hp hq h hb
/-- half of two lists of the same length, of numbers whose means do not err -/
theorem lhalf_any (xs ys : List Str) (X Y : Option Addr) (cx cy : Nat) (w : World) (hl : xs.length = ys.length) (hx : RatsAt w xs X cx) (hy : RatsAt w ys Y cy) (hm : xs.length ≤ 1000)
    (hok : ∀ i (hi : i < xs.length), addQE xs[i] (ys[i]'(by omega)) = 0 ∧ quoQE (addQS xs[i] (ys[i]'(by omega))) [50] = 0) :
    Calls Tryz.prog 26 #[.slice X xs.length cx, .slice Y ys.length cy] w fun e w' => (∃ Z cz, e = .returned (.tuple #[.slice Z (halves xs ys).length cz, .bool true]) ∧ OwnS w' w.heap.size 38 Z (halves xs ys).length cz (strs (halves xs ys))) ∧ Below w.heap.size w w' := by
  have hlx := hx.lx
  have hly := hy.lx
  unfold maxLen at hlx hly
  have HX := Lib.hid hx
  have HY := Lib.hid hy
  have HOK := Lib.hid (show ∀ i (hi : i < xs.length) (hj : i < ys.length), addQE xs[i] ys[i] = 0 ∧ quoQE (addQS xs[i] ys[i]) [50] = 0 from fun i hi hj => hok i hi)
  have HZL := Lib.hid (halves_length xs ys hl)
  have HZG := Lib.hid (show ∀ k (hk : k < xs.length) (hj : k < ys.length), (halves xs ys)[k]? = some (halfS xs[k] ys[k]) by
    intro k hk hj
    rw [List.getElem?_eq_getElem (show k < (halves xs ys).length by rw [halves_length xs ys hl]; exact hk)]
    unfold halves; rw [List.getElem_zipWith])
  have HE := Lib.hid hl
  have hq : ((xs.length : Int) == (ys.length : Int)) = true := by rw [hl]; simp
  clear hx hy hok hl
  go_enter Tryz.func26, Tryz.ntmps26
  go_wp2_with fail
  go_loopw [4, 5, 6, 7, 8, 9, 10, 11] (fun _ _ v i _ _ _ _ wr => ∃ (k : Nat) (A2 : Option Addr) (c2 : Nat), k ≤ xs.length ∧ i = .int .i64 k ∧ v = .slice A2 k c2 ∧ OwnS wr w.heap.size 38 A2 k c2 (strs ((halves xs ys).take k)) ∧ Below w.heap.size w wr) (fun _ _ _ i _ _ _ _ _ => xs.length - (intOf i).toNat)
  case atStart => exact ⟨0, none, 0, Nat.zero_le _, rfl, rfl, OwnS.nil _ _ _, Below.refl _ _⟩
  case round =>
    obtain ⟨k, A2, c2, hk, rfl, rfl, hown, hbel⟩ := hrel
    by_cases hlt : k < xs.length
    · have hlty : k < ys.length := by have := HE.out; omega
      obtain ⟨bX, oX, rfl, hbX, hcX⟩ := HX.out.cells.at (by rw [strs_length]; omega)
      obtain ⟨bY, oY, rfl, hbY, hcY⟩ := HY.out.cells.at (by rw [strs_length]; omega)
      have e0 : wr.cell? ⟨bX, oX + k, none⟩ = some (.string (B xs[k])) := by
        rw [hbel.cell (p := ⟨bX, oX + k, none⟩) hbX, hcX k (by rw [strs_length]; exact hlt)]; simp [strs]
      have e1 : wr.cell? ⟨bY, oY + k, none⟩ = some (.string (B ys[k])) := by
        rw [hbel.cell (p := ⟨bY, oY + k, none⟩) hbY, hcY k (by rw [strs_length]; exact hlty)]; simp [strs]
      clear hcX hcY
      have hlxk := HX.out.len xs[k] (List.getElem_mem hlt)
      have hlyk := HY.out.len ys[k] (List.getElem_mem hlty)
      have hokk := HOK.out k hlt hlty
      have hzk := HZG.out k hlt hlty
      have hal := addQ_len xs[k] ys[k]
      have HD := Lib.hid (fun (w : World) => rqadd_any xs[k] ys[k] w (by omega) (by omega))
      have HQ := Lib.hid (fun (w : World) => rqdiv_any (addQS xs[k] ys[k]) [50] w (by omega) (by decide))
      rw [hokk.1] at HD
      rw [hokk.2] at HQ
      have HTK := Lib.hid (strs_take hzk)
      rw [show halfS xs[k] ys[k] = quoQS (addQS xs[k] ys[k]) [50] from rfl] at HTK
      clear hokk hzk
      generalize quoQS (addQS xs[k] ys[k]) [50] = hh at *
      generalize addQS xs[k] ys[k] = ss at *
      generalize xs[k] = x at *
      generalize ys[k] = y at *
      have hcap := hown.cap
      have hbd := below_drew hbel
      have hS0 : Below w.heap.size w wr.drew ∧ wr.drew.cell? ⟨bX, oX + k, none⟩ = some (.string (B x)) ∧ wr.drew.cell? ⟨bY, oY + k, none⟩ = some (.string (B y)) := ⟨hbd, e0, e1⟩
      have hownd : OwnS wr.drew w.heap.size 38 A2 k c2 (strs ((halves xs ys).take k)) := hown
      go_wp2_with fail
      go_region_held3 (fun w' => Below w.heap.size w w' ∧ w'.cell? ⟨bX, oX + k, none⟩ = some (.string (B x)) ∧ w'.cell? ⟨bY, oY + k, none⟩ = some (.string (B y)))
        (first | (exact keepT hbX hbY (by assumption) hb2) | (with_reducible exact hS0))
        (first | (go_at_call 48; ((with_reducible refine (HD.out _).mono ?_); rintro e w2 ⟨rfl, hb2⟩)))
      all_goals
        have a2 := hbd.trans (hb2.mono hbd.size)
        have hown2 := hownd.below hb2
        go_wp2_with fail
        refine (HQ.out _).mono ?_
        rintro e w3 ⟨rfl, hb3⟩
        have a3 := a2.trans (hb3.mono a2.size)
        have hown3 := hown2.below hb3
        go_wp2_with (at_builtin; refine wp_app1 el_rat rfl _ _ rfl w.heap.size _ _ _ _ _ (.string (B hh)) rfl hown3 rfl rfl (by unfold maxLen; omega) (by omega) a3.size ?_; intro A3 c3 w4 hown4 hb4)
        go_roundw
        case rel => exact ⟨k + 1, A3, c3, by omega, by go_num, rfl, by rw [HTK.out] at hown4; exact hown4, a3.trans hb4⟩
        case measure => simp [intOf]; omega
    · have hkx : k = xs.length := by omega
      have HK := Lib.hid (show k = (halves xs ys).length by rw [HZL.out, hkx])
      have HNS := Lib.hid (show (halves xs ys).take k = halves xs ys by rw [HK.out, List.take_length])
      rw [HNS.out] at hown
      clear hkx
      go_wp2_with fail
      go_ret2
      exact ⟨⟨A2, c2, by rw [← HK.out]; rfl, by rw [← HK.out]; exact hown⟩, hbel⟩
end Go.Proofs.YtblihfhbaafdoaaGreatDoor
