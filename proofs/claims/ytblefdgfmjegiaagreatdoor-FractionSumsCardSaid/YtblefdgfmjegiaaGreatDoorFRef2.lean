/- The reference of fraction: sum, Used, Together, Served. (Printed by wip/fref2.py.) -/
import Derived.Test.YtblefdgfmjegiaaGreatDoorFRef1
namespace Go.Proofs.YtblefdgfmjegiaaGreatDoor
open Go.RowKit Num
set_option linter.unusedVariables false
attribute [local go_sem] B_size B_get B_toList B_mk B_extract B_append

theorem sum_bad {ns : List Int} {v : List Str} {j : Nat} (h : ¬ v.length < ns.length) (hj : j < ns.length) (hr : rightQ (v.getD j []) = false) : sumQ ns v = ([], 3) := by
  unfold sumQ timesQ
  have hl : (v.take ns.length).length = ns.length := by rw [List.length_take]; omega
  rw [if_neg h, if_pos hl.symm, if_neg]
  intro ha
  have h2 := List.all_eq_true.1 ha _ (List.getElem_mem (show j < (v.take ns.length).length by omega))
  rw [List.getElem_take] at h2
  rw [List.getD_eq_getElem?_getD, List.getElem?_eq_getElem (by omega)] at hr
  have hr : rightQ v[j] = false := hr
  rw [hr] at h2; cases h2
set_option maxRecDepth 100000 in
theorem frsum_any (ns : List Int) (N : Option Addr) (cn : Nat) (v : List Str) (V : Option Addr) (cv : Nat) (w : World) (hN : Cells w N (ints ns)) (hV : Cells w V (strs v)) (hl : ns.length ≤ 1000) (hf : ∀ n ∈ ns, fits n) (hvl : v.length ≤ cv ∧ cv ≤ maxLen) (hvx : ∀ x ∈ v, x.length ≤ 100000) :
    Calls Tryz.prog 22 #[.slice N ns.length cn, .slice V v.length cv] w fun e w' => e = .returned (.tuple #[.string (B (sumQ ns v).1), .int .i64 (sumQ ns v).2]) ∧ Below w.heap.size w w' := by
  unfold maxLen at hvl
  have HN := Lib.hid hN
  have HV := Lib.hid hV
  have HX := Lib.hid hvx
  clear hN hV
  by_cases hlt : v.length < ns.length
  · have hlt' : (v.length : Int) < (ns.length : Int) := by omega
    have HS := Lib.hid (sum_less hlt)
    go_enter Tryz.func22, Tryz.ntmps22
    simp only [B_mk]
    go_wp2_with fail
    go_ret2
    exact ⟨by rw [HS.out]; rfl, Below.refl _ _⟩
  · have hlt' : ¬ (v.length : Int) < (ns.length : Int) := by omega
    have HB := Lib.hid (fun j h1 h2 => sum_bad (ns := ns) (v := v) (j := j) hlt h1 h2)
    have htl : (v.take ns.length).length = ns.length := by rw [List.length_take]; omega
    have HT := Lib.hid (fun (w' : World) (hN : Cells w' N (ints ns)) (hA : Cells w' V (strs (v.take ns.length))) => show Calls Tryz.prog 36 #[.slice N ns.length cn, .slice V ns.length cv] w' fun e w2 => e = .returned (.tuple #[.string (B (sumQ ns v).1), .int .i64 (sumQ ns v).2]) ∧ Below w'.heap.size w' w2 from by
      have h := rqtimes_any ns (v.take ns.length) N V cn cv w' hN hA (by unfold maxLen; omega) (by unfold maxLen; omega) hf (fun x hx => hvx x (List.mem_of_mem_take hx))
      rw [htl, ← sum_more hlt] at h
      exact h)
    clear htl hvx hlt
    generalize sumQ ns v = sq at *
    go_enter Tryz.func22, Tryz.ntmps22
    simp only [B_mk]
    go_wp2_with fail
    go_loopw [6] (fun i wr => ∃ j : Nat, j ≤ ns.length ∧ i = .int .i64 j ∧ Below w.heap.size w wr) (fun i _ => ns.length - (intOf i).toNat)
    case atStart => exact ⟨0, Nat.zero_le _, rfl, Below.refl _ _⟩
    case round =>
      obtain ⟨j, hj, rfl, hbel⟩ := hrel
      by_cases hlj : j < ns.length
      · have hjv : j < v.length := by omega
        obtain ⟨b, off, rfl, hb, hc⟩ := (HV.out.below hbel) (by rw [strs_length]; omega)
        have hcj := hc j _ (strs_get _ _ hjv)
        have hxl : (v.getD j []).length ≤ 100000 := by rw [List.getD_eq_getElem?_getD, List.getElem?_eq_getElem hjv]; exact HX.out _ (List.getElem_mem hjv)
        have HR := Lib.hid (fun w => rrq_any (v.getD j []) w (by omega))
        have HBJ := Lib.hid (fun h => HB.out j hlj h)
        generalize v.getD j [] = x at *
        clear hc
        cases hr : rightQ x
        · rw [hr] at HR
          have HN := Lib.hid (HBJ.out hr)
          go_wp2_with fail
          refine (HR.out wr).mono ?_
          rintro e w2 ⟨rfl, hb2⟩
          go_wp2_with fail
          go_ret2
          exact ⟨by rw [HN.out]; rfl, fbelow3 hbel hb2⟩
        · rw [hr] at HR
          go_wp2_with fail
          refine (HR.out wr).mono ?_
          rintro e w2 ⟨rfl, hb2⟩
          go_wp2_with fail
          go_roundw
          case rel => exact ⟨j + 1, by omega, by go_num, fbelow3 hbel hb2⟩
          case measure => simp [intOf]; omega
      · have HV2 := Lib.hid (show Cells wr V (strs (v.take ns.length)) by
          have := (HV.out.below hbel).take ns.length
          unfold strs at this ⊢
          rw [← List.map_take] at this
          exact this)
        go_wp2_with fail
        refine (HT.out wr (HN.out.below hbel) HV2.out).mono ?_
        rintro e w2 ⟨rfl, hb2⟩
        go_wp2_with fail
        go_ret2
        exact ⟨rfl, fbelow3 hbel hb2⟩
theorem ints_set (xs : List Int) (j : Nat) (n : Int) : (ints xs).set j (.int .i64 n) = ints (xs.set j n) := by unfold ints; rw [List.map_set]
theorem ints_rep (n : Nat) : List.replicate n (Value.int .i64 0) = ints (List.replicate n 0) := by unfold ints; rw [List.map_replicate]
theorem ones_getD {f : Int → Int → Bool} {cs : List ColV} {j : Nat} (hj : j < cs.length) : (ones f (colL cs)).getD j 0 = if f cs[j].t cs[j].s then 1 else 0 := by
  have hl : j < (ones f (colL cs)).length := by rw [ones_len, colL_len]; exact hj
  rw [List.getD_eq_getElem?_getD, List.getElem?_eq_getElem hl]
  simp [ones, colL]
theorem zero_getD (n j : Nat) : (List.replicate n (0 : Int)).getD j 0 = 0 := by
  rw [List.getD_eq_getElem?_getD, List.getElem?_replicate]
  split <;> rfl
set_option maxHeartbeats 1000000 in
set_option maxRecDepth 100000 in
theorem frused_any (cs : List ColV) (A : Option Addr) (c : Nat) (v : List Str) (V : Option Addr) (cv : Nat) (k : Int) (w : World) (hC : ColsAt w A cs) (hV : Cells w V (strs v)) (hl : cs.length ≤ 1000) (hvl : v.length ≤ cv ∧ cv ≤ maxLen) (hvx : ∀ x ∈ v, x.length ≤ 100000)  :
    Calls Tryz.prog 9 #[.slice A cs.length c, .slice V v.length cv, .int .i64 k] w fun e w' => e = .returned (.tuple #[.string (B (usedQ (colL cs) v k).1), .int .i64 (usedQ (colL cs) v k).2]) ∧ Below w.heap.size w w' := by
  have hol : (ones (isType k) (colL cs)).length = cs.length := by rw [ones_len, colL_len]
  have hrl : (List.replicate cs.length (0 : Int)).length = cs.length := List.length_replicate
  have HS := Lib.hid (fun (w' : World) (N : Option Addr) (cn : Nat) (hN : Cells w' N (ints (ones (isType k) (colL cs)))) (hb : Below w.heap.size w w') => show Calls Tryz.prog 22 #[.slice N cs.length cn, .slice V v.length cv] w' fun e w2 => e = .returned (.tuple #[.string (B (usedQ (colL cs) v k).1), .int .i64 (usedQ (colL cs) v k).2]) ∧ Below w'.heap.size w' w2 from by
    have h := frsum_any (ones (isType k) (colL cs)) N cn v V cv w' hN (hV.below hb) (by omega) (ones_fits _ _) hvl hvx
    rw [hol] at h
    exact h)
  have HSUC := Lib.hid (fun (j : Nat) (hj : j < cs.length) => mixR_succ (n := ones (isType k) (colL cs)) (r := List.replicate cs.length (0 : Int)) (by rw [hol, hrl]) (j := j) (by rw [hrl]; exact hj) 0)
  have HSKIP := Lib.hid (fun (j : Nat) (hj : j < cs.length) h => mixR_skip (n := ones (isType k) (colL cs)) (r := List.replicate cs.length (0 : Int)) (by rw [hol, hrl]) (j := j) (by rw [hrl]; exact hj) 0 h)
  have HFULL := Lib.hid (mixR_full (n := ones (isType k) (colL cs)) (r := List.replicate cs.length (0 : Int)) (by rw [hol, hrl]) (j := cs.length) hrl.symm)
  have HZERO := Lib.hid (mixR_zero (ones (isType k) (colL cs)) (List.replicate cs.length (0 : Int)))
  have HMG := Lib.hid (fun (j i : Nat) => mixR_get? (n := ones (isType k) (colL cs)) (r := List.replicate cs.length (0 : Int)) (by rw [hol, hrl]) j i)
  have HC := Lib.hid hC

  clear hC hV hvx hol hrl
  generalize usedQ (colL cs) v k = sq at *
  go_enter Tryz.func9, Tryz.ntmps9
  simp only [B_mk]
  go_wp2_with (refine wp_mkn el_fint rfl _ _ rfl w.heap.size _ .i64 .i64 _ _ cs.length rfl rfl rfl rfl (by omega) (by unfold maxLen; omega) (Nat.le_refl _) rfl ?_; intro N wq hown hbq)
  go_loopw [9] (fun i wr => ∃ j : Nat, j ≤ cs.length ∧ i = .int .i64 j ∧ OwnS wr w.heap.size 3 N cs.length cs.length (ints (mixR (ones (isType k) (colL cs)) (List.replicate cs.length 0) j)) ∧ Below w.heap.size w wr) (fun i _ => cs.length - (intOf i).toNat)
  case atStart => exact ⟨0, Nat.zero_le _, rfl, by rw [HZERO.out, ← ints_rep]; exact hown, hbq⟩
  case round =>
    clear hown hbq
    obtain ⟨j, hj, rfl, hown, hbel⟩ := hrel
    by_cases hlj : j < cs.length
    · obtain ⟨b, off, rfl, hb, hc⟩ := (HC.out.below hbel) (by omega)
      have hcj := hc j hlj
      have d0 := hcj 0 _ rfl
      have d1 := hcj 1 _ rfl
      simp only [Nat.add_zero] at d0
      have HG := Lib.hid (ones_getD (f := (isType k)) (cs := cs) hlj)

      generalize cs[j] = r at *
      obtain ⟨g, rfl, hg1, hg2, hgc, hgf⟩ := hown.at_ (by omega)
      have hex : wr.cell? ⟨g, j, none⟩ = (ints (mixR (ones (isType k) (colL cs)) (List.replicate cs.length 0) j))[j]? := hgc j hlj
      have hval : (ints (mixR (ones (isType k) (colL cs)) (List.replicate cs.length 0) j))[j]? = some (.int .i64 0) := by
        unfold ints
        rw [List.getElem?_map, HMG.out, if_neg (Nat.lt_irrefl _), List.getElem?_replicate, if_pos hlj]; rfl
      rw [hval] at hex
      have hgf1 := hgf j
      have HOWN := Lib.hid hown
      clear hcj hc hgc hgf hval hown
      cases hf : (isType k) r.t r.s
      · rw [hf] at HG
        have HN := Lib.hid (HSKIP.out j hlj (by rw [HG.out, zero_getD]; rfl))
        have hk : (r.t == k) = false := by unfold isType at hf; simpa using hf
        clear hf
        go_wp2_with fail
        go_roundw
        case rel => exact ⟨j + 1, by omega, by go_num, by rw [HN.out]; exact HOWN.out, hbel⟩
        case measure => simp [intOf]; omega
      · rw [hf] at HG
        have HN := Lib.hid (HSUC.out j hlj)
        rw [HG.out] at HN
        have HO2 := Lib.hid (show OwnS (wr.setCell ⟨g, j, none⟩ (.int .i64 1)) w.heap.size 3 (some ⟨g, 0, none⟩) cs.length cs.length (ints (mixR (ones (isType k) (colL cs)) (List.replicate cs.length 0) (j + 1))) from by
          have := HOWN.out.stored j (.int .i64 1)
          rw [ints_set] at this
          rw [← HN.out]; exact this)
        have HB2 := Lib.hid (hbel.setCell (p := ⟨g, j, none⟩) hg1 (.int .i64 1))
        have hk : (r.t == k) = true := by unfold isType at hf; simpa using hf
        clear hf
        go_wp2_with fail
        go_roundw
        case rel => exact ⟨j + 1, by omega, by go_num, HO2.out, HB2.out⟩
        case measure => simp [intOf]; omega
    · obtain rfl : j = cs.length := by omega
      have HN := Lib.hid (show Cells wr N (ints (ones (isType k) (colL cs))) by rw [HFULL.out] at hown; exact hown.cells)
      clear hown
      go_wp2_with fail
      refine (HS.out wr N cs.length HN.out hbel).mono ?_
      rintro e w2 ⟨rfl, hb2⟩
      go_wp2_with fail
      go_ret2
      exact ⟨rfl, fbelow3 hbel hb2⟩
set_option maxHeartbeats 1000000 in
set_option maxRecDepth 100000 in
theorem frtog_any (cs : List ColV) (A : Option Addr) (c : Nat) (v : List Str) (V : Option Addr) (cv : Nat) (k1 k2 : Int) (w : World) (hC : ColsAt w A cs) (hV : Cells w V (strs v)) (hl : cs.length ≤ 1000) (hvl : v.length ≤ cv ∧ cv ≤ maxLen) (hvx : ∀ x ∈ v, x.length ≤ 100000) (hset : ∀ r ∈ cs, 0 ≤ r.s ∧ fits r.s) :
    Calls Tryz.prog 11 #[.slice A cs.length c, .slice V v.length cv, .int .i64 k1, .int .i64 k2] w fun e w' => e = .returned (.tuple #[.string (B (togQ (colL cs) v k1 k2).1), .int .i64 (togQ (colL cs) v k1 k2).2]) ∧ Below w.heap.size w w' := by
  have hol : (ones (bothIn k1 k2) (colL cs)).length = cs.length := by rw [ones_len, colL_len]
  have hrl : (List.replicate cs.length (0 : Int)).length = cs.length := List.length_replicate
  have HS := Lib.hid (fun (w' : World) (N : Option Addr) (cn : Nat) (hN : Cells w' N (ints (ones (bothIn k1 k2) (colL cs)))) (hb : Below w.heap.size w w') => show Calls Tryz.prog 22 #[.slice N cs.length cn, .slice V v.length cv] w' fun e w2 => e = .returned (.tuple #[.string (B (togQ (colL cs) v k1 k2).1), .int .i64 (togQ (colL cs) v k1 k2).2]) ∧ Below w'.heap.size w' w2 from by
    have h := frsum_any (ones (bothIn k1 k2) (colL cs)) N cn v V cv w' hN (hV.below hb) (by omega) (ones_fits _ _) hvl hvx
    rw [hol] at h
    exact h)
  have HSUC := Lib.hid (fun (j : Nat) (hj : j < cs.length) => mixR_succ (n := ones (bothIn k1 k2) (colL cs)) (r := List.replicate cs.length (0 : Int)) (by rw [hol, hrl]) (j := j) (by rw [hrl]; exact hj) 0)
  have HSKIP := Lib.hid (fun (j : Nat) (hj : j < cs.length) h => mixR_skip (n := ones (bothIn k1 k2) (colL cs)) (r := List.replicate cs.length (0 : Int)) (by rw [hol, hrl]) (j := j) (by rw [hrl]; exact hj) 0 h)
  have HFULL := Lib.hid (mixR_full (n := ones (bothIn k1 k2) (colL cs)) (r := List.replicate cs.length (0 : Int)) (by rw [hol, hrl]) (j := cs.length) hrl.symm)
  have HZERO := Lib.hid (mixR_zero (ones (bothIn k1 k2) (colL cs)) (List.replicate cs.length (0 : Int)))
  have HMG := Lib.hid (fun (j i : Nat) => mixR_get? (n := ones (bothIn k1 k2) (colL cs)) (r := List.replicate cs.length (0 : Int)) (by rw [hol, hrl]) j i)
  have HC := Lib.hid hC
  have HSET := Lib.hid hset
  clear hC hV hvx hol hrl hset
  generalize togQ (colL cs) v k1 k2 = sq at *
  go_enter Tryz.func11, Tryz.ntmps11
  simp only [B_mk]
  go_wp2_with (refine wp_mkn el_fint rfl _ _ rfl w.heap.size _ .i64 .i64 _ _ cs.length rfl rfl rfl rfl (by omega) (by unfold maxLen; omega) (Nat.le_refl _) rfl ?_; intro N wq hown hbq)
  go_loopw [11] (fun i wr => ∃ j : Nat, j ≤ cs.length ∧ i = .int .i64 j ∧ OwnS wr w.heap.size 3 N cs.length cs.length (ints (mixR (ones (bothIn k1 k2) (colL cs)) (List.replicate cs.length 0) j)) ∧ Below w.heap.size w wr) (fun i _ => cs.length - (intOf i).toNat)
  case atStart => exact ⟨0, Nat.zero_le _, rfl, by rw [HZERO.out, ← ints_rep]; exact hown, hbq⟩
  case round =>
    clear hown hbq
    obtain ⟨j, hj, rfl, hown, hbel⟩ := hrel
    by_cases hlj : j < cs.length
    · obtain ⟨b, off, rfl, hb, hc⟩ := (HC.out.below hbel) (by omega)
      have hcj := hc j hlj
      have d0 := hcj 0 _ rfl
      have d1 := hcj 1 _ rfl
      simp only [Nat.add_zero] at d0
      have HG := Lib.hid (ones_getD (f := (bothIn k1 k2)) (cs := cs) hlj)
      have hst := HSET.out _ (List.getElem_mem hlj)
      have H1 := Lib.hid (fun w => frhas_any cs[j].s k1 w hst.1 hst.2)
      have H2 := Lib.hid (fun w => frhas_any cs[j].s k2 w hst.1 hst.2)
      clear hst
      generalize cs[j] = r at *
      obtain ⟨g, rfl, hg1, hg2, hgc, hgf⟩ := hown.at_ (by omega)
      have hex : wr.cell? ⟨g, j, none⟩ = (ints (mixR (ones (bothIn k1 k2) (colL cs)) (List.replicate cs.length 0) j))[j]? := hgc j hlj
      have hval : (ints (mixR (ones (bothIn k1 k2) (colL cs)) (List.replicate cs.length 0) j))[j]? = some (.int .i64 0) := by
        unfold ints
        rw [List.getElem?_map, HMG.out, if_neg (Nat.lt_irrefl _), List.getElem?_replicate, if_pos hlj]; rfl
      rw [hval] at hex
      have hgf1 := hgf j
      have HOWN := Lib.hid hown
      clear hcj hc hgc hgf hval hown
      cases hf : (bothIn k1 k2) r.t r.s
      · rw [hf] at HG
        have HN := Lib.hid (HSKIP.out j hlj (by rw [HG.out, zero_getD]; rfl))
        cases ha : hasB r.s k1
        · rw [ha] at H1
          clear hf ha
          go_wp2_with fail
          refine (H1.out _).mono ?_
          rintro e w1 ⟨rfl, h9⟩
          obtain rfl := h9.symm
          go_wp2_with fail
          go_roundw
          case rel => exact ⟨j + 1, by omega, by go_num, by rw [HN.out]; exact HOWN.out, hbel⟩
          case measure => simp [intOf]; omega
        · have hb2 : hasB r.s k2 = false := by unfold bothIn at hf; rw [ha] at hf; exact hf
          rw [ha] at H1
          rw [hb2] at H2
          clear hf ha hb2
          go_wp2_with fail
          refine (H1.out _).mono ?_
          rintro e w1 ⟨rfl, h9⟩
          obtain rfl := h9.symm
          go_wp2_with fail
          refine (H2.out _).mono ?_
          rintro e w1 ⟨rfl, h9⟩
          obtain rfl := h9.symm
          go_wp2_with fail
          go_roundw
          case rel => exact ⟨j + 1, by omega, by go_num, by rw [HN.out]; exact HOWN.out, hbel⟩
          case measure => simp [intOf]; omega
      · rw [hf] at HG
        have HN := Lib.hid (HSUC.out j hlj)
        rw [HG.out] at HN
        have HO2 := Lib.hid (show OwnS (wr.setCell ⟨g, j, none⟩ (.int .i64 1)) w.heap.size 3 (some ⟨g, 0, none⟩) cs.length cs.length (ints (mixR (ones (bothIn k1 k2) (colL cs)) (List.replicate cs.length 0) (j + 1))) from by
          have := HOWN.out.stored j (.int .i64 1)
          rw [ints_set] at this
          rw [← HN.out]; exact this)
        have HB2 := Lib.hid (hbel.setCell (p := ⟨g, j, none⟩) hg1 (.int .i64 1))
        cases ha : hasB r.s k1
        · unfold bothIn at hf; rw [ha] at hf; cases hf
        have hb2 : hasB r.s k2 = true := by unfold bothIn at hf; rw [ha] at hf; exact hf
        rw [ha] at H1
        rw [hb2] at H2
        clear hf ha hb2
        go_wp2_with fail
        refine (H1.out _).mono ?_
        rintro e w1 ⟨rfl, h9⟩
        obtain rfl := h9.symm
        go_wp2_with fail
        refine (H2.out _).mono ?_
        rintro e w1 ⟨rfl, h9⟩
        obtain rfl := h9.symm
        go_wp2_with fail
        go_roundw
        case rel => exact ⟨j + 1, by omega, by go_num, HO2.out, HB2.out⟩
        case measure => simp [intOf]; omega
    · obtain rfl : j = cs.length := by omega
      have HN := Lib.hid (show Cells wr N (ints (ones (bothIn k1 k2) (colL cs))) by rw [HFULL.out] at hown; exact hown.cells)
      clear hown
      go_wp2_with fail
      refine (HS.out wr N cs.length HN.out hbel).mono ?_
      rintro e w2 ⟨rfl, hb2⟩
      go_wp2_with fail
      go_ret2
      exact ⟨rfl, fbelow3 hbel hb2⟩
theorem frserved_any (cs : List ColV) (A : Option Addr) (c : Nat) (v : List Str) (V : Option Addr) (cv : Nat) (a : Int) (w : World) (hC : ColsAt w A cs) (hV : Cells w V (strs v)) (hl : cs.length ≤ 1000) (hvl : v.length ≤ cv ∧ cv ≤ maxLen) (hvx : ∀ x ∈ v, x.length ≤ 100000) (hset : ∀ r ∈ cs, 0 ≤ r.s ∧ fits r.s) :
    Calls Tryz.prog 13 #[.slice A cs.length c, .slice V v.length cv, .int .i64 a] w fun e w' => e = .returned (.tuple #[.string (B (togQ (colL cs) v a a).1), .int .i64 (togQ (colL cs) v a a).2]) ∧ Below w.heap.size w w' := by
  have HS := Lib.hid (frtog_any cs A c v V cv a a w hC hV hl hvl hvx hset)
  generalize togQ (colL cs) v a a = sq at *
  clear hC hV hvx hset
  go_enter Tryz.func13, Tryz.ntmps13
  simp only [B_mk]
  go_wp2_with fail
  refine HS.out.mono ?_
  rintro e w1 ⟨rfl, hb1⟩
  go_wp2_with fail
  go_ret2
  exact ⟨rfl, hb1⟩
end Go.Proofs.YtblefdgfmjegiaaGreatDoor
