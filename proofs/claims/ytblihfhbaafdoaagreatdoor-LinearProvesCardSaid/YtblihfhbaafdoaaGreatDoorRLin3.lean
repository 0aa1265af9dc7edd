/- lorryref25: signed, rights, column, below, Proves, Refutes. (Printed by wip/rlin3.py.) -/
import Derived.Test.YtblihfhbaafdoaaGreatDoorRLin2
namespace Go.Proofs.YtblihfhbaafdoaaGreatDoor
open Go.RowKit Num
set_option linter.unusedVariables false
attribute [local go_sem] B_size B_get B_toList B_mk B_extract B_append
attribute [local go_sem high] run_max2

set_option maxHeartbeats 2000000 in
set_option maxRecDepth 100000 in
theorem rlsigned_any (cost : List Int) (rs : List RowV) (A : Option Addr) (ca : Nat) (R : Option Addr) (cr : Nat) (xs : List Str) (X : Option Addr) (cx : Nat) (w : World) (hp : LinAt w cost rs A ca R cr) (hx : RatsAt w xs X cx) :
    Calls Tryz.prog 42 #[linV A cost.length ca R rs.length cr, .slice X xs.length cx] w fun e w' => e = .returned (.bool (signsB (linOf cost rs) xs)) ∧ Below w.heap.size w w' := by
  have hla := hp.la
  have hlr := hp.lr
  have hlx := hx.lx
  unfold maxLen at hla hlr hlx
  have b0 := new_below w (linO A cost.length ca R rs.length cr)
  have HP := Lib.hid hp
  have HX := Lib.hid hx
  clear hp hx
  by_cases heq : xs.length = rs.length
  · have HE := Lib.hid heq
    have hq : ((xs.length : Int) != (rs.length : Int)) = false := by rw [heq]; simp
    clear heq
    have HBW := Lib.hid (fun wr (h : Below (w.alloc (linO A cost.length ca R rs.length cr)).heap.size (w.alloc (linO A cost.length ca R rs.length cr)) wr) => b0.trans (h.mono b0.size))
    have HV := Lib.hid (show signsB (linOf cost rs) xs = (rs.zip xs).all (fun q => signB q.1.L q.2) by rw [signs_all, HE.out]; simp)
    go_enter Tryz.func42, Tryz.ntmps42
    go_wp2_with fail
    go_loopw [4, 5, 6] (fun _ i _ wr => ∃ k : Nat, k ≤ rs.length ∧ i = .int .i64 k ∧ ((rs.zip xs).take k).all (fun q => signB q.1.L q.2) = true ∧ Below (w.alloc (linO A cost.length ca R rs.length cr)).heap.size (w.alloc (linO A cost.length ca R rs.length cr)) wr) (fun _ i _ _ => rs.length - (intOf i).toNat)
    case atStart => exact ⟨0, Nat.zero_le _, rfl, rfl, Below.refl _ _⟩
    case round =>
      obtain ⟨k, hk, rfl, hall, hbel0⟩ := hrel
      have HALL := Lib.hid hall
      clear hall
      have hbel := HBW.out wr hbel0
      by_cases hlt : k < rs.length
      · have hlx2 : k < xs.length := by have := HE.out; omega
        have hzl : k < (rs.zip xs).length := by rw [List.length_zip]; omega
        obtain ⟨bA, oA, rfl, hbA, hcA⟩ := HX.out.cells.at (by rw [strs_length]; omega)
        obtain ⟨bR, oR, rfl, hbR, hcR⟩ := HP.out.rows.at (by omega)
        have HK := Lib.hid (fun (w' : World) (h : Below w.heap.size w w') => (h.cell (p := ⟨bR, oR + k * 3 + 1, none⟩) hbR).trans (hcR k hlt).2.1)
        have HC := Lib.hid (fun (w' : World) (h : Below w.heap.size w w') => (show w'.cell? ⟨bA, oA + k, none⟩ = some (.string (B xs[k])) by
          rw [h.cell (p := ⟨bA, oA + k, none⟩) hbA, hcA k (by rw [strs_length]; exact hlx2)]; simp [strs]))
        clear hcR hcA
        have hxl := HX.out.len xs[k] (List.getElem_mem hlx2)
        have HR := Lib.hid (fun (w : World) => rrq_any xs[k] w (by omega))
        have HS := Lib.hid (fun (w : World) => rqsign_any xs[k] w (by omega))
        have hz : (rs.zip xs)[k] = (rs[k], xs[k]) := List.getElem_zip
        have HT := Lib.hid (fun h => all_take (f := fun q : RowV × Str => signB q.1.L q.2) hzl HALL.out (by rw [hz]; exact h))
        have HB := Lib.hid (fun h => all_bad (f := fun q : RowV × Str => signB q.1.L q.2) hzl (by rw [hz]; exact h))
        have HRW := Lib.hid (show signB rs[k].L xs[k] = (rightQ xs[k] && !(decide (rs[k].L.kind = 1) && decide (0 < signQ xs[k])) && !(decide (rs[k].L.kind = 3) && decide (signQ xs[k] < 0))) from rfl)
        clear hz
        generalize xs[k] = x at *
        generalize rs[k] = r at *
        generalize signQ x = sg at *
        generalize hrk : rightQ x = rk at *
        have hbB := hbel
        have hbB0 := hbel0
        have hd1 := HC.out _ hbB
        obtain ⟨d0, d1, d2⟩ := lin_cells hbel0
        cases rk
        · skip
          have HBB := Lib.hid (show signsB _ xs = false by rw [HV.out, HB.out (by rw [HRW.out]; rfl)])
          go_wp2_with fail
          refine (HS.out _).mono ?_
          rintro e w2 ⟨rfl, hb2⟩
          have a2 := hbB.trans (hb2.mono hbB.size)
          have hd2 := HC.out _ a2
          go_wp2_with fail
          refine (HR.out _).mono ?_
          rintro e w3 ⟨rfl, hb3⟩
          have a3 := a2.trans (hb3.mono a2.size)
          have e1 := HK.out w3 a3
          clear hd1 hd2 d0 d1 d2
          obtain ⟨d0, d1, d2⟩ := lin_cells ((hbB0.trans (hb2.mono hbB0.size)).trans (hb3.mono (Nat.le_trans hbB0.size hb2.size)))
          go_wp2_with fail
          go_ret
          exact ⟨ret_bool HBB.out.symm, a3⟩
        · by_cases k1 : r.L.kind = 1
          · have k1b : (r.L.kind == 1) = true := by simpa using k1
            have k3b : (r.L.kind == 3) = false := by rw [k1]; rfl
            by_cases hs : 0 < sg
            · skip
              have HBB := Lib.hid (show signsB _ xs = false by rw [HV.out, HB.out (by rw [HRW.out]; simp [k1, hs])])
              clear k1
              go_wp2_with fail
              refine (HS.out _).mono ?_
              rintro e w2 ⟨rfl, hb2⟩
              have a2 := hbB.trans (hb2.mono hbB.size)
              have hd2 := HC.out _ a2
              go_wp2_with fail
              refine (HR.out _).mono ?_
              rintro e w3 ⟨rfl, hb3⟩
              have a3 := a2.trans (hb3.mono a2.size)
              have e1 := HK.out w3 a3
              clear hd1 hd2 d0 d1 d2
              obtain ⟨d0, d1, d2⟩ := lin_cells ((hbB0.trans (hb2.mono hbB0.size)).trans (hb3.mono (Nat.le_trans hbB0.size hb2.size)))
              go_wp2_with fail
              go_ret
              exact ⟨ret_bool HBB.out.symm, a3⟩
            · skip
              have HBB := Lib.hid (HT.out (by rw [HRW.out]; simp [k1, hs]))
              clear k1
              go_wp2_with fail
              refine (HS.out _).mono ?_
              rintro e w2 ⟨rfl, hb2⟩
              have a2 := hbB.trans (hb2.mono hbB.size)
              have hd2 := HC.out _ a2
              go_wp2_with fail
              refine (HR.out _).mono ?_
              rintro e w3 ⟨rfl, hb3⟩
              have a3 := a2.trans (hb3.mono a2.size)
              have e1 := HK.out w3 a3
              clear hd1 hd2 d0 d1 d2
              obtain ⟨d0, d1, d2⟩ := lin_cells ((hbB0.trans (hb2.mono hbB0.size)).trans (hb3.mono (Nat.le_trans hbB0.size hb2.size)))
              go_wp2_with fail
              go_roundw
              case rel => exact ⟨k + 1, by omega, by go_num, HBB.out, (hbB0.trans (hb2.mono hbB0.size)).trans (hb3.mono (Nat.le_trans hbB0.size hb2.size))⟩
              case measure => simp [intOf]; omega
          · have k1b : (r.L.kind == 1) = false := by simpa using k1
            by_cases k3 : r.L.kind = 3
            · have k3b : (r.L.kind == 3) = true := by simpa using k3
              by_cases hs : sg < 0
              · skip
                have HBB := Lib.hid (show signsB _ xs = false by rw [HV.out, HB.out (by rw [HRW.out]; simp [k3, hs])])
                clear k3
                go_wp2_with fail
                refine (HS.out _).mono ?_
                rintro e w2 ⟨rfl, hb2⟩
                have a2 := hbB.trans (hb2.mono hbB.size)
                have hd2 := HC.out _ a2
                go_wp2_with fail
                refine (HR.out _).mono ?_
                rintro e w3 ⟨rfl, hb3⟩
                have a3 := a2.trans (hb3.mono a2.size)
                have e1 := HK.out w3 a3
                clear hd1 hd2 d0 d1 d2
                obtain ⟨d0, d1, d2⟩ := lin_cells ((hbB0.trans (hb2.mono hbB0.size)).trans (hb3.mono (Nat.le_trans hbB0.size hb2.size)))
                go_wp2_with fail
                go_ret
                exact ⟨ret_bool HBB.out.symm, a3⟩
              · skip
                have HBB := Lib.hid (HT.out (by rw [HRW.out]; simp [k3, hs]))
                clear k3
                go_wp2_with fail
                refine (HS.out _).mono ?_
                rintro e w2 ⟨rfl, hb2⟩
                have a2 := hbB.trans (hb2.mono hbB.size)
                have hd2 := HC.out _ a2
                go_wp2_with fail
                refine (HR.out _).mono ?_
                rintro e w3 ⟨rfl, hb3⟩
                have a3 := a2.trans (hb3.mono a2.size)
                have e1 := HK.out w3 a3
                clear hd1 hd2 d0 d1 d2
                obtain ⟨d0, d1, d2⟩ := lin_cells ((hbB0.trans (hb2.mono hbB0.size)).trans (hb3.mono (Nat.le_trans hbB0.size hb2.size)))
                go_wp2_with fail
                go_roundw
                case rel => exact ⟨k + 1, by omega, by go_num, HBB.out, (hbB0.trans (hb2.mono hbB0.size)).trans (hb3.mono (Nat.le_trans hbB0.size hb2.size))⟩
                case measure => simp [intOf]; omega
            · have k3b : (r.L.kind == 3) = false := by simpa using k3
              have HBB := Lib.hid (HT.out (by rw [HRW.out]; simp [k1, k3]))
              go_wp2_with fail
              refine (HS.out _).mono ?_
              rintro e w2 ⟨rfl, hb2⟩
              have a2 := hbB.trans (hb2.mono hbB.size)
              have hd2 := HC.out _ a2
              go_wp2_with fail
              refine (HR.out _).mono ?_
              rintro e w3 ⟨rfl, hb3⟩
              have a3 := a2.trans (hb3.mono a2.size)
              have e1 := HK.out w3 a3
              clear hd1 hd2 d0 d1 d2
              obtain ⟨d0, d1, d2⟩ := lin_cells ((hbB0.trans (hb2.mono hbB0.size)).trans (hb3.mono (Nat.le_trans hbB0.size hb2.size)))
              go_wp2_with fail
              go_roundw
              case rel => exact ⟨k + 1, by omega, by go_num, HBB.out, (hbB0.trans (hb2.mono hbB0.size)).trans (hb3.mono (Nat.le_trans hbB0.size hb2.size))⟩
              case measure => simp [intOf]; omega
      · have hkx : k = rs.length := by omega
        have HA := Lib.hid (show signsB (linOf cost rs) xs = true by
          rw [HV.out]; have := HALL.out
          rwa [List.take_of_length_le (by rw [List.length_zip]; omega)] at this)
        have hkx2 : ¬ k < xs.length := by have := HE.out; omega
        clear hkx
        obtain ⟨d0, d1, d2⟩ := lin_cells hbel0
        go_wp2_with fail
        go_ret
        exact ⟨ret_bool HA.out.symm, hbel⟩
  · have hne : ((xs.length : Int) != (rs.length : Int)) = true := by rw [bne_iff_ne]; omega
    have HV := Lib.hid (show signsB (linOf cost rs) xs = false by rw [signs_all]; simp [heq])
    clear heq
    go_enter Tryz.func42, Tryz.ntmps42
    go_wp2_with fail
    go_ret
    exact ⟨ret_bool HV.out.symm, b0⟩

set_option maxHeartbeats 2000000 in
set_option maxRecDepth 100000 in
theorem rrights_any (cost : List Int) (rs : List RowV) (A : Option Addr) (ca : Nat) (R : Option Addr) (cr : Nat) (w : World) (hm : rs.length ≤ 1000000) (hp : LinAt w cost rs A ca R cr) :
    Calls Tryz.prog 44 #[linV A cost.length ca R rs.length cr] w fun e w' => (∃ Z c, e = .returned (.slice Z (rightsL (linOf cost rs)).length c) ∧ OwnS w' w.heap.size 3 Z (rightsL (linOf cost rs)).length c (ints (rightsL (linOf cost rs)))) ∧ Below w.heap.size w w' := by
  have hla := hp.la
  have hlr := hp.lr
  unfold maxLen at hla hlr
  have b0 := new_below w (linO A cost.length ca R rs.length cr)
  have HP := Lib.hid hp
  have HRL := Lib.hid (rights_len cost rs)
  have HRA := Lib.hid (rights_at cost rs)
  generalize rightsL (linOf cost rs) = ns at *
  clear hp
  have HBW := Lib.hid (fun wr (h : Below (w.alloc (linO A cost.length ca R rs.length cr)).heap.size (w.alloc (linO A cost.length ca R rs.length cr)) wr) => b0.trans (h.mono b0.size))
  go_enter Tryz.func44, Tryz.ntmps44
  go_wp2_with fail
  go_loopw [3, 4] (fun v i wr => ∃ (k : Nat) (A2 : Option Addr) (c2 : Nat), k ≤ rs.length ∧ i = .int .i64 k ∧ v = .slice A2 k c2 ∧ OwnS wr (w.alloc (linO A cost.length ca R rs.length cr)).heap.size 3 A2 k c2 (ints (ns.take k)) ∧ Below (w.alloc (linO A cost.length ca R rs.length cr)).heap.size (w.alloc (linO A cost.length ca R rs.length cr)) wr) (fun _ i _ => rs.length - (intOf i).toNat)
  case atStart => exact ⟨0, none, 0, Nat.zero_le _, rfl, rfl, OwnS.nil _ _ _, Below.refl _ _⟩
  case round =>
    obtain ⟨k, A2, c2, hk, rfl, rfl, hown, hbel0⟩ := hrel
    have hbel := HBW.out wr hbel0
    obtain ⟨d0, d1, d2⟩ := lin_cells hbel0
    by_cases hlt : k < rs.length
    · obtain ⟨bR, oR, rfl, hbR, hcR⟩ := HP.out.rows.at (by omega)
      have hc2 := (hbel.cell (p := ⟨bR, oR + k * 3 + 2, none⟩) hbR).trans (hcR k hlt).2.2
      clear hcR
      have HTK := Lib.hid (ints_take (HRA.out k hlt))
      generalize rs[k] = r at *
      have hcap := hown.cap
      go_wp2_with (at_builtin; refine wp_app1 el_int rfl _ _ rfl (w.alloc (linO A cost.length ca (some ⟨bR, oR, none⟩) rs.length cr)).heap.size _ _ _ _ _ (.int .i64 r.L.right) rfl hown rfl rfl (by unfold maxLen; omega) (by omega) hbel0.size ?_; intro A3 c3 w3 hown3 hb3)
      go_roundw
      case rel => exact ⟨k + 1, A3, c3, by omega, by go_num, rfl, by rw [HTK.out] at hown3; exact hown3, hbel0.trans hb3⟩
      case measure => simp [intOf]; omega
    · have hkx : k = rs.length := by omega
      have HNS := Lib.hid (show ns.take k = ns by rw [hkx, ← HRL.out, List.take_length])
      rw [HNS.out] at hown
      have HN := Lib.hid (show k = ns.length by have := HRL.out; omega)
      clear hkx
      go_wp2_with fail
      go_ret
      exact ⟨⟨A2, c2, by rw [← HN.out]; rfl, by rw [← HN.out]; exact hown.mono b0.size⟩, hbel⟩
set_option maxHeartbeats 2000000 in
set_option maxRecDepth 100000 in
theorem rcolumn_any (cost : List Int) (rs : List RowV) (A : Option Addr) (ca : Nat) (R : Option Addr) (cr : Nat) (i : Nat) (w : World) (hm : rs.length ≤ 1000000) (hwf : ∀ r ∈ rs, r.L.coef.length = cost.length) (hi : i < cost.length) (hp : LinAt w cost rs A ca R cr) :
    Calls Tryz.prog 71 #[linV A cost.length ca R rs.length cr, .int .i64 i] w fun e w' => (∃ Z c, e = .returned (.slice Z (col (linOf cost rs) i).length c) ∧ OwnS w' w.heap.size 3 Z (col (linOf cost rs) i).length c (ints (col (linOf cost rs) i))) ∧ Below w.heap.size w w' := by
  have hla := hp.la
  have hlr := hp.lr
  unfold maxLen at hla hlr
  have b0 := new_below w (linO A cost.length ca R rs.length cr)
  have HP := Lib.hid hp
  have HWF := Lib.hid hwf
  have HCL := Lib.hid (col_len cost rs i)
  have HCA := Lib.hid (col_at cost rs i)
  generalize col (linOf cost rs) i = ns at *
  clear hp hwf
  have HBW := Lib.hid (fun wr (h : Below (w.alloc (linO A cost.length ca R rs.length cr)).heap.size (w.alloc (linO A cost.length ca R rs.length cr)) wr) => b0.trans (h.mono b0.size))
  go_enter Tryz.func71, Tryz.ntmps71
  go_wp2_with fail
  go_loopw [5, 6, 7] (fun v j _ wr => ∃ (k : Nat) (A2 : Option Addr) (c2 : Nat), k ≤ rs.length ∧ j = .int .i64 k ∧ v = .slice A2 k c2 ∧ OwnS wr (w.alloc (linO A cost.length ca R rs.length cr)).heap.size 3 A2 k c2 (ints (ns.take k)) ∧ Below (w.alloc (linO A cost.length ca R rs.length cr)).heap.size (w.alloc (linO A cost.length ca R rs.length cr)) wr) (fun _ j _ _ => rs.length - (intOf j).toNat)
  case atStart => exact ⟨0, none, 0, Nat.zero_le _, rfl, rfl, OwnS.nil _ _ _, Below.refl _ _⟩
  case round =>
    obtain ⟨k, A2, c2, hk, rfl, rfl, hown, hbel0⟩ := hrel
    have hbel := HBW.out wr hbel0
    obtain ⟨d0, d1, d2⟩ := lin_cells hbel0
    by_cases hlt : k < rs.length
    · obtain ⟨bR, oR, rfl, hbR, hcR⟩ := HP.out.rows.at (by omega)
      have hc0 := (hbel.cell (p := ⟨bR, oR + k * 3, none⟩) hbR).trans (hcR k hlt).1
      clear hcR
      have hmr := List.getElem_mem hlt
      have hrw := HWF.out rs[k] hmr
      have hrc := (HP.out.rows.2 rs[k] hmr).below hbel
      have hrk := HP.out.ok rs[k] hmr
      have htk := HCA.out k hlt
      generalize rs[k] = r at *
      have hil : i < r.L.coef.length := by omega
      have hrl1 := hrk.1
      have hrl2 := hrk.2.1
      unfold maxLen at hrl2
      obtain ⟨bC, oC, hCe, hcc⟩ := ints_at hrc hil
      rw [show r.L.coef.getD i 0 = r.L.coef[i] by rw [List.getD_eq_getElem?_getD, List.getElem?_eq_getElem hil]; rfl] at htk
      have HTK := Lib.hid (ints_take htk)
      clear htk hrk hrc hmr hrw
      generalize r.L.coef[i] = n at *
      rw [hCe] at hc0
      have hcap := hown.cap
      go_wp2_with (at_builtin; refine wp_app1 el_int rfl _ _ rfl (w.alloc (linO A cost.length ca (some ⟨bR, oR, none⟩) rs.length cr)).heap.size _ _ _ _ _ (.int .i64 n) rfl hown rfl rfl (by unfold maxLen; omega) (by omega) hbel0.size ?_; intro A3 c3 w3 hown3 hb3)
      go_roundw
      case rel => exact ⟨k + 1, A3, c3, by omega, by go_num, rfl, by rw [HTK.out] at hown3; exact hown3, hbel0.trans hb3⟩
      case measure => simp [intOf]; omega
    · have hkx : k = rs.length := by omega
      have HNS := Lib.hid (show ns.take k = ns by rw [hkx, ← HCL.out, List.take_length])
      rw [HNS.out] at hown
      have HN := Lib.hid (show k = ns.length by have := HCL.out; omega)
      clear hkx
      go_wp2_with fail
      go_ret
      exact ⟨⟨A2, c2, by rw [← HN.out]; rfl, by rw [← HN.out]; exact hown.mono b0.size⟩, hbel⟩
end Go.Proofs.YtblihfhbaafdoaaGreatDoor
