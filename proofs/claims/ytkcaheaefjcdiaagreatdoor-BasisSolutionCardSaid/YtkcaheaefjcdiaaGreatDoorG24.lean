/- basis.solve with each of its closures. (Printed by wip/bprog8.py.) -/
import Derived.Test.YtkcaheaefjcdiaaGreatDoorG23
namespace Go.Proofs.YtkcaheaefjcdiaaGreatDoor
open Go.ChangeShapes Go.WideShapes Go.RowKit Num
set_option linter.unusedVariables false
attribute [local go_sem] B_size B_get B_toList B_mk B_extract B_append

/-- there is no single solution -/
def badP (piv : List Nat) (n : Nat) : Prop := piv.length < n ∨ (0 < n ∧ piv.getD (n - 1) 0 ≠ n - 1)
instance (piv : List Nat) (n : Nat) : Decidable (badP piv n) := by unfold badP; exact inferInstance
def solE (piv : List Nat) (n : Nat) : Int := if badP piv n then 7 else 0
def solM (W : List (List Str)) (n : Nat) : List (List Str) := if badP (reduceM W).2 n then [] else (reduceM W).1.map (·.drop n)
def blk (A : Option Addr) : Nat := match A with | some a => a.block | none => 0
/-- the rows behind their first n numbers -/
def tails (hA : Nat → Option Addr) (hC : Nat → Nat) (M : List (List Str)) (n : Nat) : List VecV := (List.range M.length).map fun i => ⟨some ⟨blk (hA i), n, none⟩, hC i - n, (M.getD i []).drop n⟩
theorem tails_len (hA : Nat → Option Addr) (hC : Nat → Nat) (M : List (List Str)) (n : Nat) : (tails hA hC M n).length = M.length := by unfold tails; simp
theorem tails_get (hA : Nat → Option Addr) (hC : Nat → Nat) (M : List (List Str)) (n : Nat) {i : Nat} (hi : i < M.length) : (tails hA hC M n)[i]'(by rw [tails_len]; exact hi) = ⟨some ⟨blk (hA i), n, none⟩, hC i - n, (M.getD i []).drop n⟩ := by unfold tails; simp
theorem tails_texts (hA : Nat → Option Addr) (hC : Nat → Nat) (M : List (List Str)) (n : Nat) : texts (tails hA hC M n) = M.map (·.drop n) := by
  apply List.ext_getElem?
  intro i
  unfold texts tails
  by_cases hi : i < M.length
  · rw [List.map_map, List.getElem?_map, List.getElem?_range hi, List.getElem?_map, List.getElem?_eq_getElem hi]
    simp [List.getD_eq_getElem?_getD, List.getElem?_eq_getElem hi]
  · rw [List.getElem?_eq_none (by simp; omega), List.getElem?_eq_none (by simp; omega)]
theorem tails_at {w : World} {Bs gA c2 : Nat} {hA : Nat → Option Addr} {hC : Nat → Nat} {M : List (List Str)} {n k : Nat} (hn : n ≤ k) (hk0 : 0 < k) (h : OwnS w Bs 23 (some ⟨gA, 0, none⟩) M.length c2 ((tails hA hC M n).map hdrV))
    (hr : ∀ i, i < M.length → OwnS w Bs 36 (hA i) (M.getD i []).length (hC i) (strs (M.getD i []))) (hk : ∀ i, i < M.length → (M.getD i []).length = k) : MatAt w (some ⟨gA, 0, none⟩) (tails hA hC M n) := by
  refine mat_of_hdr h.cells fun r hm => ?_
  obtain ⟨i, hi, rfl⟩ := List.getElem_of_mem hm
  rw [tails_len] at hi
  rw [tails_get _ _ _ _ hi]
  show Cells w (some ⟨blk (hA i), n, none⟩) (strs ((M.getD i []).drop n))
  intro h0
  have hl := hk i hi
  obtain ⟨g, e, hg1, hg2, hc, _⟩ := (hr i hi).at_ (by omega)
  rw [e]
  refine ⟨g, n, rfl, hg2, fun j u hu => ?_⟩
  have hj := (List.getElem?_eq_some_iff.1 hu).1
  rw [strs_length, List.length_drop] at hj
  rw [hc (n + j) (by omega), ← hu]
  unfold strs
  rw [List.getElem?_map, List.getElem?_map, List.getElem?_drop]

set_option maxHeartbeats 4000000 in
set_option maxRecDepth 100000 in
theorem bsolve1_any {D k : Nat} (rs : List VecV) (A : Option Addr) (c : Nat) (bs : List Str) (V : Option Addr) (cv q : Nat) (w : World) (hM : MatAt w A rs) (hl : rs.length ≤ 500) (hrl : ∀ r ∈ rs, r.xs.length ≤ 1000) (hV : Cells w V (strs bs)) (hlb : bs.length = rs.length) (hcv : bs.length ≤ cv ∧ cv ≤ maxLen) (hq : w.heap[q]? = some (.cells #[.slice V bs.length cv] 23)) (hD : D ≤ 4096) (hk : k ≤ 1000) (hnk : rs.length < k)
    (hO : RedOK D k (wideM (texts rs) (oneMore bs))) (he : Env w) :
    Calls Tryz.prog 31 #[.slice A rs.length c, .func (Fn.func 32) #[] #[.pointer (some ⟨q, 0, none⟩)]] w fun e w' => ∃ (O : Option Addr) (co : Nat) (rs' : List VecV), e = .returned (.tuple #[.slice O rs'.length co, .int .i64 (solE (reduceM (wideM (texts rs) (oneMore bs))).2 rs.length)]) ∧ MatAt w' O rs' ∧
      texts rs' = solM (wideM (texts rs) (oneMore bs)) rs.length ∧ Below w.heap.size w w' := by
  have HCL := Lib.hid (bclone1_any rs A c bs V cv q w hM (by omega) hrl hV hlb hcv hq)
  have hwl : (wideM (texts rs) (oneMore bs)).length = rs.length := by rw [wideM_len, texts_length]
  have hrdl := redOK_len hO
  have hR0 : ∀ i, i < rs.length → ((reduceM (wideM (texts rs) (oneMore bs))).1.getD i []).length = k := by
    intro i hi
    have h0 : 0 < (wideM (texts rs) (oneMore bs)).length := by omega
    have hm := hO.mat k (Nat.le_refl _)
    rw [reduceM_st, hO.width h0]
    exact (hm.row (by rw [hO.len k (Nat.le_refl _)]; omega)).1
  have HRD := Lib.hid (fun (A : Option Addr) (c : Nat) (hA : Nat → Option Addr) (hC : Nat → Nat) (w1 : World) (hb : Below w.heap.size w w1) (hM : MatO w1 w.heap.size A c hA hC (wideM (texts rs) (oneMore bs))) => breduce_any hO hD A c hA hC w w1 hb hM (by omega) hk he)
  have HE := Lib.hid (show solM (wideM (texts rs) (oneMore bs)) rs.length = if badP (reduceM (wideM (texts rs) (oneMore bs))).2 rs.length then [] else (reduceM (wideM (texts rs) (oneMore bs))).1.map (·.drop rs.length) from rfl)
  rw [hwl] at HRD hrdl
  generalize solM (wideM (texts rs) (oneMore bs)) rs.length = sm at *
  generalize reduceM (wideM (texts rs) (oneMore bs)) = res at *
  generalize wideM (texts rs) (oneMore bs) = W at *
  obtain ⟨R, piv⟩ := res
  have hrdl : R.length = rs.length := hrdl
  have HRL := Lib.hid hrdl
  have HR0 := Lib.hid (show ∀ i, i < rs.length → (R.getD i []).length = k from hR0)
  have HSE := Lib.hid (show solE piv rs.length = if badP piv rs.length then 7 else 0 from rfl)
  have HBAD := Lib.hid (show badP piv rs.length ↔ piv.length < rs.length ∨ (0 < rs.length ∧ piv.getD (rs.length - 1) 0 ≠ rs.length - 1) from Iff.rfl)
  clear hM hrl hO hwl hrdl hR0 hV hq
  show Calls _ _ _ _ fun e w' => ∃ (O : Option Addr) (co : Nat) (rs' : List VecV), e = .returned (.tuple #[.slice O rs'.length co, .int .i64 (solE piv rs.length)]) ∧ MatAt w' O rs' ∧ texts rs' = sm ∧ Below w.heap.size w w'
  generalize solE piv rs.length = se at *
  go_enter Tryz.func31, Tryz.ntmps31
  go_wp2_with fail
  refine HCL.out.mono ?_
  rintro e w1 ⟨A1, c1, rfl, ⟨hA, hC, hM1⟩, hb1⟩
  go_wp2_with fail
  refine (HRD.out A1 c1 hA hC w1 hb1 hM1).mono ?_
  rintro e w2 ⟨P, cp, hA2, hC2, rfl, hP, hM2, hb2⟩
  have hP : OwnS w2 w.heap.size 3 P piv.length cp (nums piv) := hP
  have hM2 : MatO w2 w.heap.size A1 c1 hA2 hC2 R := hM2
  have hcapP := hP.cap
  unfold maxLen at hcapP
  clear hM1 hb1
  go_upto_region 6 with fail
  go_cut [41] (fun s wx => ∃ t : Bool, s = .bool t ∧ (t = true ↔ badP piv rs.length) ∧ wx = w2)
  case first =>
    by_cases h1 : piv.length < rs.length
    · have h1' : (piv.length : Int) < (rs.length : Int) := by omega
      have HB := Lib.hid (show badP piv rs.length from HBAD.out.2 (.inl h1))
      go_wp2_with fail
      go_meet
      exact ⟨true, rfl, ⟨fun _ => HB.out, fun _ => rfl⟩, rfl⟩
    · have h1' : ¬ (piv.length : Int) < (rs.length : Int) := by omega
      by_cases h0 : 0 < rs.length
      · have h0' : (0 : Int) < (rs.length : Int) := by omega
        obtain ⟨gp, rfl, _, hgp, hgc, _⟩ := hP.at_ (by omega)
        have hcl := hgc (rs.length - 1) (by omega)
        rw [nums_get _ _ (by omega)] at hcl
        have hpx : atN piv (rs.length - 1) = piv.getD (rs.length - 1) 0 := rfl
        rw [hpx] at hcl
        have hsub : ((rs.length : Int) - 1) = ((rs.length - 1 : Nat) : Int) := by omega
        clear hgc hpx
        by_cases hx : piv.getD (rs.length - 1) 0 = rs.length - 1
        · have HB := Lib.hid (show ¬ badP piv rs.length from fun h => (HBAD.out.1 h).elim h1 (fun h => h.2 hx))
          rw [hx] at hcl
          clear hx
          go_wp2_with fail
          go_meet
          exact ⟨false, rfl, ⟨fun h => (by cases h), fun h => absurd h HB.out⟩, rfl⟩
        · have HB := Lib.hid (show badP piv rs.length from HBAD.out.2 (.inr ⟨h0, hx⟩))
          have hx' : (((piv.getD (rs.length - 1) 0 : Nat) : Int) != ((rs.length - 1 : Nat) : Int)) = true := by rw [bne_iff_ne]; omega
          generalize piv.getD (rs.length - 1) 0 = x at *
          clear hx
          go_wp2_with fail
          go_meet
          exact ⟨true, rfl, ⟨fun _ => HB.out, fun _ => rfl⟩, rfl⟩
      · have h0' : ¬ (0 : Int) < (rs.length : Int) := by omega
        have HB := Lib.hid (show ¬ badP piv rs.length from fun h => (HBAD.out.1 h).elim h1 (fun h => h0 h.1))
        go_wp2_with fail
        go_meet
        exact ⟨false, rfl, ⟨fun h => (by cases h), fun h => absurd h HB.out⟩, rfl⟩
  case rest =>
    obtain ⟨t, rfl, htb, hw⟩ := hcut
    obtain rfl := hw.symm
    cases t
    · have HB := Lib.hid (show ¬ badP piv rs.length from fun h => absurd (htb.2 h) (by decide))
      have HS := Lib.hid (show se = 0 by rw [HSE.out, if_neg HB.out])
      have HM := Lib.hid (show sm = R.map (·.drop rs.length) by rw [HE.out, if_neg HB.out])
      clear htb HSE HE
      by_cases h0 : 0 < rs.length
      · have hcapO := hM2.outer.cap
        unfold maxLen at hcapO
        obtain ⟨gA, rfl, hgA1, hgA2, _, _⟩ := hM2.hdr (by rw [HRL.out]; exact h0)
        have hold : OwnS w2 w.heap.size 23 (some ⟨gA, 0, none⟩) rs.length c1 (mixR ((tails hA2 hC2 R rs.length).map hdrV) (hdrs hA2 hC2 R) 0) := by rw [mixR_zero, ← HRL.out]; exact hM2.outer
        have HROW := Lib.hid hM2.rows
        have HAP := Lib.hid hM2.apart0
        have hmixl : ((tails hA2 hC2 R rs.length).map hdrV).length = (hdrs hA2 hC2 R).length := by rw [List.length_map, tails_len, hdrs_length]
        have HML := Lib.hid hmixl
        have hrows : ∀ i, i < R.length → OwnS w2 w.heap.size 36 (hA2 i) (R.getD i []).length (hC2 i) (strs (R.getD i [])) := hM2.rows
        clear hM2 hP hmixl
        go_wp2_with fail
        go_loopw [10, 44] (fun _ i wr => ∃ j : Nat, j ≤ rs.length ∧ i = .int .i64 j ∧ OwnS wr w.heap.size 23 (some ⟨gA, 0, none⟩) rs.length c1 (mixR ((tails hA2 hC2 R rs.length).map hdrV) (hdrs hA2 hC2 R) j) ∧ (∀ i, i < R.length → OwnS wr w.heap.size 36 (hA2 i) (R.getD i []).length (hC2 i) (strs (R.getD i []))) ∧ Below w.heap.size w wr) (fun _ i _ => rs.length - (intOf i).toNat)
        case atStart => exact ⟨0, Nat.zero_le _, rfl, hold, hrows, hb2⟩
        case round =>
          clear hold hrows hb2
          obtain ⟨j, hj, rfl, hown, hrows, hbel⟩ := hrel
          have HRW := Lib.hid hrows
          clear hrows
          obtain ⟨g2, e2, _, _, hgc, hgf⟩ := hown.at_ h0
          obtain rfl : gA = g2 := by injection e2 with e2; injection e2
          by_cases hlt : j < rs.length
          · have hjR : j < R.length := by rw [HRL.out]; exact hlt
            have hfj := hgf j
            have hcj := hgc j hlt
            rw [mixR_get? HML.out, if_neg (by omega), hdrs_get _ _ _ hjR, HR0.out j hlt] at hcj
            have hcap := (HRW.out j hjR).cap
            rw [HR0.out j hlt] at hcap
            unfold maxLen at hcap
            obtain ⟨gr, hgr⟩ := (HRW.out j hjR).form' (by rw [HR0.out j hlt]; omega)
            rw [hgr] at hcj
            have hset := mixR_succ HML.out (j := j) (by rw [hdrs_length]; exact hjR) (.slice none 0 0)
            have hnew : ((tails hA2 hC2 R rs.length).map hdrV).getD j (.slice none 0 0) = .slice (some ⟨gr, rs.length, none⟩) (k - rs.length) (hC2 j - rs.length) := by
              rw [List.getD_eq_getElem?_getD, List.getElem?_map, List.getElem?_eq_getElem (by rw [tails_len]; exact hjR), tails_get _ _ _ _ hjR]
              show Value.slice _ _ _ = _
              rw [hgr, List.length_drop, HR0.out j hlt]; rfl
            rw [hnew] at hset
            have HN := Lib.hid (hown.stored j (.slice (some ⟨gr, rs.length, none⟩) (k - rs.length) (hC2 j - rs.length)))
            rw [hset] at HN
            have HRN := Lib.hid (show ∀ i, i < R.length → OwnS (wr.setCell ⟨gA, j, none⟩ (.slice (some ⟨gr, rs.length, none⟩) (k - rs.length) (hC2 j - rs.length))) w.heap.size 36 (hA2 i) (R.getD i []).length (hC2 i) (strs (R.getD i [])) from fun i hi => (HRW.out i hi).other (fun e => HAP.out i hi _ e rfl))
            have hcne : ¬ hC2 j = rs.length := by omega
            clear hgc hgf hown hset hnew
            go_wp2_with fail
            go_roundw
            case rel => exact ⟨j + 1, by omega, by go_num, HN.out, HRN.out, hbel.setCell hgA1 _⟩
            case measure => simp [intOf]; omega
          · have hjn : j = rs.length := by omega
            have hfin : OwnS wr w.heap.size 23 (some ⟨gA, 0, none⟩) R.length c1 ((tails hA2 hC2 R rs.length).map hdrV) := by
              rw [mixR_full HML.out (by rw [hdrs_length, HRL.out]; exact hjn)] at hown
              rw [HRL.out]; exact hown
            have HT := Lib.hid (tails_at (n := rs.length) (Nat.le_of_lt hnk) (by omega) hfin HRW.out (fun i hi => HR0.out i (by rw [← HRL.out]; exact hi)))
            have HTL := Lib.hid (show (tails hA2 hC2 R rs.length).length = rs.length by rw [tails_len, HRL.out])
            have hj' : ¬ (j : Int) < (rs.length : Int) := by omega
            clear hgc hgf hown hfin hjn
            go_wp2_with fail
            go_ret2
            refine ⟨some ⟨gA, 0, none⟩, c1, tails hA2 hC2 R rs.length, by rw [HTL.out, HS.out]; rfl, HT.out, ?_, hbel⟩
            rw [tails_texts, HM.out]
      · have hr0 : rs.length = 0 := by omega
        have hRn : R = [] := List.eq_nil_of_length_eq_zero (by rw [HRL.out]; exact hr0)
        have HR := Lib.hid hRn
        have HR2 := Lib.hid hr0
        have h0' : ¬ (0 : Int) < (rs.length : Int) := by omega
        clear hRn hr0
        go_wp2_with fail
        go_loopw [10, 44] (fun _ i wr => i = .int .i64 0 ∧ wr = w2) (fun _ _ _ => 0)
        case atStart => exact ⟨rfl, rfl⟩
        case round =>
          obtain ⟨rfl, h⟩ := hrel
          obtain rfl := h.symm
          go_wp2_with fail
          go_ret2
          refine ⟨A1, c1, [], by rw [HS.out, HR2.out]; rfl, ⟨fun h => absurd h (by simp), fun r hr => absurd hr (by simp)⟩, ?_, hb2⟩
          rw [HM.out, HR.out]; rfl
    · have HB := Lib.hid (show badP piv rs.length from htb.1 rfl)
      have HS := Lib.hid (show se = 7 by rw [HSE.out, if_pos HB.out])
      have HM := Lib.hid (show sm = [] by rw [HE.out, if_pos HB.out])
      go_wp2_with fail
      go_ret2
      refine ⟨none, 0, [], by rw [HS.out]; rfl, ⟨fun h => absurd h (by simp), fun r hr => absurd hr (by simp)⟩, ?_, hb2⟩
      rw [HM.out]; rfl

set_option maxHeartbeats 4000000 in
set_option maxRecDepth 100000 in
theorem bsolve2_any {D k : Nat} (rs : List VecV) (A : Option Addr) (c : Nat) (q : Nat) (w : World) (hM : MatAt w A rs) (hl : rs.length ≤ 500) (hrl : ∀ r ∈ rs, r.xs.length ≤ 1000) (hq : w.heap[q]? = some (.cells #[.slice A rs.length c] 22)) (hD : D ≤ 4096) (hk : k ≤ 1000) (hnk : rs.length < k)
    (hO : RedOK D k (wideM (texts rs) (unitR rs.length))) (he : Env w) :
    Calls Tryz.prog 31 #[.slice A rs.length c, .func (Fn.func 50) #[] #[.pointer (some ⟨q, 0, none⟩)]] w fun e w' => ∃ (O : Option Addr) (co : Nat) (rs' : List VecV), e = .returned (.tuple #[.slice O rs'.length co, .int .i64 (solE (reduceM (wideM (texts rs) (unitR rs.length))).2 rs.length)]) ∧ MatAt w' O rs' ∧
      texts rs' = solM (wideM (texts rs) (unitR rs.length)) rs.length ∧ Below w.heap.size w w' := by
  have HCL := Lib.hid (bclone2_any rs A c q w hM (by omega) hrl hq)
  have hwl : (wideM (texts rs) (unitR rs.length)).length = rs.length := by rw [wideM_len, texts_length]
  have hrdl := redOK_len hO
  have hR0 : ∀ i, i < rs.length → ((reduceM (wideM (texts rs) (unitR rs.length))).1.getD i []).length = k := by
    intro i hi
    have h0 : 0 < (wideM (texts rs) (unitR rs.length)).length := by omega
    have hm := hO.mat k (Nat.le_refl _)
    rw [reduceM_st, hO.width h0]
    exact (hm.row (by rw [hO.len k (Nat.le_refl _)]; omega)).1
  have HRD := Lib.hid (fun (A : Option Addr) (c : Nat) (hA : Nat → Option Addr) (hC : Nat → Nat) (w1 : World) (hb : Below w.heap.size w w1) (hM : MatO w1 w.heap.size A c hA hC (wideM (texts rs) (unitR rs.length))) => breduce_any hO hD A c hA hC w w1 hb hM (by omega) hk he)
  have HE := Lib.hid (show solM (wideM (texts rs) (unitR rs.length)) rs.length = if badP (reduceM (wideM (texts rs) (unitR rs.length))).2 rs.length then [] else (reduceM (wideM (texts rs) (unitR rs.length))).1.map (·.drop rs.length) from rfl)
  rw [hwl] at HRD hrdl
  generalize solM (wideM (texts rs) (unitR rs.length)) rs.length = sm at *
  generalize reduceM (wideM (texts rs) (unitR rs.length)) = res at *
  generalize wideM (texts rs) (unitR rs.length) = W at *
  obtain ⟨R, piv⟩ := res
  have hrdl : R.length = rs.length := hrdl
  have HRL := Lib.hid hrdl
  have HR0 := Lib.hid (show ∀ i, i < rs.length → (R.getD i []).length = k from hR0)
  have HSE := Lib.hid (show solE piv rs.length = if badP piv rs.length then 7 else 0 from rfl)
  have HBAD := Lib.hid (show badP piv rs.length ↔ piv.length < rs.length ∨ (0 < rs.length ∧ piv.getD (rs.length - 1) 0 ≠ rs.length - 1) from Iff.rfl)
  clear hM hrl hO hwl hrdl hR0 hq
  show Calls _ _ _ _ fun e w' => ∃ (O : Option Addr) (co : Nat) (rs' : List VecV), e = .returned (.tuple #[.slice O rs'.length co, .int .i64 (solE piv rs.length)]) ∧ MatAt w' O rs' ∧ texts rs' = sm ∧ Below w.heap.size w w'
  generalize solE piv rs.length = se at *
  go_enter Tryz.func31, Tryz.ntmps31
  go_wp2_with fail
  refine HCL.out.mono ?_
  rintro e w1 ⟨A1, c1, rfl, ⟨hA, hC, hM1⟩, hb1⟩
  go_wp2_with fail
  refine (HRD.out A1 c1 hA hC w1 hb1 hM1).mono ?_
  rintro e w2 ⟨P, cp, hA2, hC2, rfl, hP, hM2, hb2⟩
  have hP : OwnS w2 w.heap.size 3 P piv.length cp (nums piv) := hP
  have hM2 : MatO w2 w.heap.size A1 c1 hA2 hC2 R := hM2
  have hcapP := hP.cap
  unfold maxLen at hcapP
  clear hM1 hb1
  go_upto_region 6 with fail
  go_cut [41] (fun s wx => ∃ t : Bool, s = .bool t ∧ (t = true ↔ badP piv rs.length) ∧ wx = w2)
  case first =>
    by_cases h1 : piv.length < rs.length
    · have h1' : (piv.length : Int) < (rs.length : Int) := by omega
      have HB := Lib.hid (show badP piv rs.length from HBAD.out.2 (.inl h1))
      go_wp2_with fail
      go_meet
      exact ⟨true, rfl, ⟨fun _ => HB.out, fun _ => rfl⟩, rfl⟩
    · have h1' : ¬ (piv.length : Int) < (rs.length : Int) := by omega
      by_cases h0 : 0 < rs.length
      · have h0' : (0 : Int) < (rs.length : Int) := by omega
        obtain ⟨gp, rfl, _, hgp, hgc, _⟩ := hP.at_ (by omega)
        have hcl := hgc (rs.length - 1) (by omega)
        rw [nums_get _ _ (by omega)] at hcl
        have hpx : atN piv (rs.length - 1) = piv.getD (rs.length - 1) 0 := rfl
        rw [hpx] at hcl
        have hsub : ((rs.length : Int) - 1) = ((rs.length - 1 : Nat) : Int) := by omega
        clear hgc hpx
        by_cases hx : piv.getD (rs.length - 1) 0 = rs.length - 1
        · have HB := Lib.hid (show ¬ badP piv rs.length from fun h => (HBAD.out.1 h).elim h1 (fun h => h.2 hx))
          rw [hx] at hcl
          clear hx
          go_wp2_with fail
          go_meet
          exact ⟨false, rfl, ⟨fun h => (by cases h), fun h => absurd h HB.out⟩, rfl⟩
        · have HB := Lib.hid (show badP piv rs.length from HBAD.out.2 (.inr ⟨h0, hx⟩))
          have hx' : (((piv.getD (rs.length - 1) 0 : Nat) : Int) != ((rs.length - 1 : Nat) : Int)) = true := by rw [bne_iff_ne]; omega
          generalize piv.getD (rs.length - 1) 0 = x at *
          clear hx
          go_wp2_with fail
          go_meet
          exact ⟨true, rfl, ⟨fun _ => HB.out, fun _ => rfl⟩, rfl⟩
      · have h0' : ¬ (0 : Int) < (rs.length : Int) := by omega
        have HB := Lib.hid (show ¬ badP piv rs.length from fun h => (HBAD.out.1 h).elim h1 (fun h => h0 h.1))
        go_wp2_with fail
        go_meet
        exact ⟨false, rfl, ⟨fun h => (by cases h), fun h => absurd h HB.out⟩, rfl⟩
  case rest =>
    obtain ⟨t, rfl, htb, hw⟩ := hcut
    obtain rfl := hw.symm
    cases t
    · have HB := Lib.hid (show ¬ badP piv rs.length from fun h => absurd (htb.2 h) (by decide))
      have HS := Lib.hid (show se = 0 by rw [HSE.out, if_neg HB.out])
      have HM := Lib.hid (show sm = R.map (·.drop rs.length) by rw [HE.out, if_neg HB.out])
      clear htb HSE HE
      by_cases h0 : 0 < rs.length
      · have hcapO := hM2.outer.cap
        unfold maxLen at hcapO
        obtain ⟨gA, rfl, hgA1, hgA2, _, _⟩ := hM2.hdr (by rw [HRL.out]; exact h0)
        have hold : OwnS w2 w.heap.size 23 (some ⟨gA, 0, none⟩) rs.length c1 (mixR ((tails hA2 hC2 R rs.length).map hdrV) (hdrs hA2 hC2 R) 0) := by rw [mixR_zero, ← HRL.out]; exact hM2.outer
        have HROW := Lib.hid hM2.rows
        have HAP := Lib.hid hM2.apart0
        have hmixl : ((tails hA2 hC2 R rs.length).map hdrV).length = (hdrs hA2 hC2 R).length := by rw [List.length_map, tails_len, hdrs_length]
        have HML := Lib.hid hmixl
        have hrows : ∀ i, i < R.length → OwnS w2 w.heap.size 36 (hA2 i) (R.getD i []).length (hC2 i) (strs (R.getD i [])) := hM2.rows
        clear hM2 hP hmixl
        go_wp2_with fail
        go_loopw [10, 44] (fun _ i wr => ∃ j : Nat, j ≤ rs.length ∧ i = .int .i64 j ∧ OwnS wr w.heap.size 23 (some ⟨gA, 0, none⟩) rs.length c1 (mixR ((tails hA2 hC2 R rs.length).map hdrV) (hdrs hA2 hC2 R) j) ∧ (∀ i, i < R.length → OwnS wr w.heap.size 36 (hA2 i) (R.getD i []).length (hC2 i) (strs (R.getD i []))) ∧ Below w.heap.size w wr) (fun _ i _ => rs.length - (intOf i).toNat)
        case atStart => exact ⟨0, Nat.zero_le _, rfl, hold, hrows, hb2⟩
        case round =>
          clear hold hrows hb2
          obtain ⟨j, hj, rfl, hown, hrows, hbel⟩ := hrel
          have HRW := Lib.hid hrows
          clear hrows
          obtain ⟨g2, e2, _, _, hgc, hgf⟩ := hown.at_ h0
          obtain rfl : gA = g2 := by injection e2 with e2; injection e2
          by_cases hlt : j < rs.length
          · have hjR : j < R.length := by rw [HRL.out]; exact hlt
            have hfj := hgf j
            have hcj := hgc j hlt
            rw [mixR_get? HML.out, if_neg (by omega), hdrs_get _ _ _ hjR, HR0.out j hlt] at hcj
            have hcap := (HRW.out j hjR).cap
            rw [HR0.out j hlt] at hcap
            unfold maxLen at hcap
            obtain ⟨gr, hgr⟩ := (HRW.out j hjR).form' (by rw [HR0.out j hlt]; omega)
            rw [hgr] at hcj
            have hset := mixR_succ HML.out (j := j) (by rw [hdrs_length]; exact hjR) (.slice none 0 0)
            have hnew : ((tails hA2 hC2 R rs.length).map hdrV).getD j (.slice none 0 0) = .slice (some ⟨gr, rs.length, none⟩) (k - rs.length) (hC2 j - rs.length) := by
              rw [List.getD_eq_getElem?_getD, List.getElem?_map, List.getElem?_eq_getElem (by rw [tails_len]; exact hjR), tails_get _ _ _ _ hjR]
              show Value.slice _ _ _ = _
              rw [hgr, List.length_drop, HR0.out j hlt]; rfl
            rw [hnew] at hset
            have HN := Lib.hid (hown.stored j (.slice (some ⟨gr, rs.length, none⟩) (k - rs.length) (hC2 j - rs.length)))
            rw [hset] at HN
            have HRN := Lib.hid (show ∀ i, i < R.length → OwnS (wr.setCell ⟨gA, j, none⟩ (.slice (some ⟨gr, rs.length, none⟩) (k - rs.length) (hC2 j - rs.length))) w.heap.size 36 (hA2 i) (R.getD i []).length (hC2 i) (strs (R.getD i [])) from fun i hi => (HRW.out i hi).other (fun e => HAP.out i hi _ e rfl))
            have hcne : ¬ hC2 j = rs.length := by omega
            clear hgc hgf hown hset hnew
            go_wp2_with fail
            go_roundw
            case rel => exact ⟨j + 1, by omega, by go_num, HN.out, HRN.out, hbel.setCell hgA1 _⟩
            case measure => simp [intOf]; omega
          · have hjn : j = rs.length := by omega
            have hfin : OwnS wr w.heap.size 23 (some ⟨gA, 0, none⟩) R.length c1 ((tails hA2 hC2 R rs.length).map hdrV) := by
              rw [mixR_full HML.out (by rw [hdrs_length, HRL.out]; exact hjn)] at hown
              rw [HRL.out]; exact hown
            have HT := Lib.hid (tails_at (n := rs.length) (Nat.le_of_lt hnk) (by omega) hfin HRW.out (fun i hi => HR0.out i (by rw [← HRL.out]; exact hi)))
            have HTL := Lib.hid (show (tails hA2 hC2 R rs.length).length = rs.length by rw [tails_len, HRL.out])
            have hj' : ¬ (j : Int) < (rs.length : Int) := by omega
            clear hgc hgf hown hfin hjn
            go_wp2_with fail
            go_ret2
            refine ⟨some ⟨gA, 0, none⟩, c1, tails hA2 hC2 R rs.length, by rw [HTL.out, HS.out]; rfl, HT.out, ?_, hbel⟩
            rw [tails_texts, HM.out]
      · have hr0 : rs.length = 0 := by omega
        have hRn : R = [] := List.eq_nil_of_length_eq_zero (by rw [HRL.out]; exact hr0)
        have HR := Lib.hid hRn
        have HR2 := Lib.hid hr0
        have h0' : ¬ (0 : Int) < (rs.length : Int) := by omega
        clear hRn hr0
        go_wp2_with fail
        go_loopw [10, 44] (fun _ i wr => i = .int .i64 0 ∧ wr = w2) (fun _ _ _ => 0)
        case atStart => exact ⟨rfl, rfl⟩
        case round =>
          obtain ⟨rfl, h⟩ := hrel
          obtain rfl := h.symm
          go_wp2_with fail
          go_ret2
          refine ⟨A1, c1, [], by rw [HS.out, HR2.out]; rfl, ⟨fun h => absurd h (by simp), fun r hr => absurd hr (by simp)⟩, ?_, hb2⟩
          rw [HM.out, HR.out]; rfl
    · have HB := Lib.hid (show badP piv rs.length from htb.1 rfl)
      have HS := Lib.hid (show se = 7 by rw [HSE.out, if_pos HB.out])
      have HM := Lib.hid (show sm = [] by rw [HE.out, if_pos HB.out])
      go_wp2_with fail
      go_ret2
      refine ⟨none, 0, [], by rw [HS.out]; rfl, ⟨fun h => absurd h (by simp), fun r hr => absurd hr (by simp)⟩, ?_, hb2⟩
      rw [HM.out]; rfl
end Go.Proofs.YtkcaheaefjcdiaaGreatDoor
/- basis.Solve, basis.Inverse. -/
namespace Go.Proofs.YtkcaheaefjcdiaaGreatDoor
open Go.RowKit Num
set_option linter.unusedVariables false
attribute [local go_sem] B_size B_get B_toList B_mk B_extract B_append

theorem chk_zero {M : List (List Str)} {wd : Int} {sq : Bool} {vs : List (List Str)} (h : chkE M wd sq vs = 0) : M.length ≤ 64 ∧ (∀ r ∈ M, r.length ≤ 64) ∧ (∀ r ∈ M, (r.length : Int) = widthE M wd) ∧ (sq = true → ∀ r ∈ M, r.length = M.length) ∧ (sq = true → ∀ v ∈ vs, v.length = M.length) ∧ ∀ r ∈ M ++ vs, ∀ a ∈ r, rightQ a = true := by
  rw [chk_eq] at h
  by_cases h1 : 64 < M.length ∨ M.any (fun r => decide (64 < r.length)) = true
  · rw [if_pos h1] at h; cases h
  rw [if_neg h1] at h
  by_cases h2 : M.any (badW M wd sq) = true
  · rw [if_pos h2] at h; cases h
  rw [if_neg h2] at h
  by_cases h3 : vs.any (badV M.length sq) = true
  · rw [if_pos h3] at h; cases h
  rw [if_neg h3] at h
  by_cases h4 : (M ++ vs).any badR = true
  · rw [if_pos h4] at h; cases h
  have h1a : ¬ 64 < M.length := fun e => h1 (.inl e)
  have h1b : ∀ r ∈ M, ¬ 64 < r.length := fun r hr e => h1 (.inr (List.any_eq_true.2 ⟨r, hr, by simpa using e⟩))
  have h2a : ∀ r ∈ M, badW M wd sq r = false := fun r hr => by
    cases hb : badW M wd sq r
    · rfl
    · exact absurd (List.any_eq_true.2 ⟨r, hr, hb⟩) h2
  have h3a : ∀ r ∈ vs, badV M.length sq r = false := fun r hr => by
    cases hb : badV M.length sq r
    · rfl
    · exact absurd (List.any_eq_true.2 ⟨r, hr, hb⟩) h3
  have h4a : ∀ r ∈ M ++ vs, badR r = false := fun r hr => by
    cases hb : badR r
    · rfl
    · exact absurd (List.any_eq_true.2 ⟨r, hr, hb⟩) h4
  refine ⟨by omega, fun r hr => by have := h1b r hr; omega, fun r hr => ?_, fun hs r hr => ?_, fun hs r hr => ?_, fun r hr a ha => ?_⟩
  · have := h2a r hr; unfold badW at this; rw [Bool.or_eq_false_iff] at this; simpa using this.1
  · have := h2a r hr; unfold badW at this; rw [Bool.or_eq_false_iff, hs] at this; simpa using this.2
  · have := h3a r hr; unfold badV at this; rw [hs] at this; simpa using this
  · have := h4a r hr
    unfold badR at this
    have h5 := List.any_eq_false.1 this a ha
    simpa using h5
def slvE (M : List (List Str)) (b : List Str) : Int := if chkE M (-1) true [b] = 0 then solE (reduceM (wideM M (oneMore b))).2 M.length else chkE M (-1) true [b]
def slvM (M : List (List Str)) (b : List Str) : List Str := if slvE M b = 0 then (solM (wideM M (oneMore b)) M.length).map (·.getD 0 []) else []
def invE (M : List (List Str)) : Int := if chkE M (-1) true [] = 0 then solE (reduceM (wideM M (unitR M.length))).2 M.length else chkE M (-1) true []
def invM (M : List (List Str)) : List (List Str) := if invE M = 0 then solM (wideM M (unitR M.length)) M.length else []
theorem sol_bad {W : List (List Str)} {n : Nat} (h : solE (reduceM W).2 n ≠ 0) : solM W n = [] := by
  unfold solE at h
  unfold solM
  split at h
  · rename_i hb; rw [if_pos hb]
  · exact absurd rfl h
set_option maxRecDepth 100000 in
theorem binverseT_any (rs : List VecV) (A : Option Addr) (c : Nat) (w : World) (hM : MatAt w A rs) (hR : RsOK rs) (hl5 : rs.length ≤ 500) (hred : chkE (texts rs) (-1) true [] = 0 → ∃ D k, D ≤ 4096 ∧ k ≤ 1000 ∧ rs.length < k ∧ RedOK D k (wideM (texts rs) (unitR rs.length))) (he : Env w) :
    Calls Tryz.prog 26 #[.slice A rs.length c] w fun e w' => ∃ (O : Option Addr) (co : Nat) (rs' : List VecV), e = .returned (.tuple #[.slice O rs'.length co, .int .i64 (invE (texts rs))]) ∧ MatAt w' O rs' ∧ texts rs' = invM (texts rs) ∧ Below w.heap.size w w' := by
  have hlr := hR.len
  have b0 := new_below w (.cells #[.slice A rs.length c] 22)
  have hM1 := hM.below b0
  have hq := row_new (w := w) (o := .cells #[.slice A rs.length c] 22)
  have HC := Lib.hid (bcheck_any rs A c (-1) true [] none 0 _ hM1 ⟨fun h => absurd h (by simp), fun r hr => absurd hr (by simp)⟩ (by decide) (fun _ => rfl) (by omega) (by simp) (fun r hr => by have := hR.row r (by simpa using hr); unfold maxLen; omega) (fun r hr => hR.txt r (by simpa using hr)) (he.below b0))
  have HIE := Lib.hid (show invE (texts rs) = if chkE (texts rs) (-1) true [] = 0 then solE (reduceM (wideM (texts rs) (unitR rs.length))).2 rs.length else chkE (texts rs) (-1) true [] by unfold invE; rw [texts_length])
  have HIM := Lib.hid (show invM (texts rs) = if invE (texts rs) = 0 then solM (wideM (texts rs) (unitR rs.length)) rs.length else [] by unfold invM; rw [texts_length])
  have HSB := Lib.hid (fun h => sol_bad (W := wideM (texts rs) (unitR rs.length)) (n := rs.length) h)
  rw [show chkE (texts rs) (-1) true (texts []) = chkE (texts rs) (-1) true [] from rfl] at HC
  have HM := Lib.hid hM
  have HR := Lib.hid hR
  have HRED := Lib.hid hred
  have c0 : (w.alloc (.cells #[.slice A rs.length c] 22)).cell? ⟨w.heap.size, 0, none⟩ = some (.slice A rs.length c) := by rw [cell_of_row _ w.heap.size 0 _ _ _ hq]; rfl
  have HQ := Lib.hid hq
  clear hM hR hred hM1 hq
  by_cases h0 : chkE (texts rs) (-1) true [] = 0
  · obtain ⟨D, k, hD, hk, hnk, hO⟩ := HRED.out h0
    have HS := Lib.hid (fun (w : World) (q : Nat) (hM : MatAt w A rs) (hq : w.heap[q]? = some (.cells #[.slice A rs.length c] 22)) (he : Env w) => bsolve2_any rs A c q w hM hl5 HR.out.row hq hD hk hnk hO he)
    have hie : invE (texts rs) = solE (reduceM (wideM (texts rs) (unitR rs.length))).2 rs.length := by rw [HIE.out, if_pos h0]
    have hsm : solM (wideM (texts rs) (unitR rs.length)) rs.length = invM (texts rs) := by
      rw [HIM.out]
      by_cases h1 : invE (texts rs) = 0
      · rw [if_pos h1]
      · rw [if_neg h1]; exact HSB.out (by rw [← hie]; exact h1)
    rw [← hie, hsm] at HS
    rw [h0] at HC
    clear h0 hie hsm hO HRED HIE HIM HSB
    generalize invE (texts rs) = q at *
    generalize invM (texts rs) = im at *
    go_enter Tryz.func26, Tryz.ntmps26
    go_wp2_with fail
    refine HC.out.mono ?_
    rintro e w1 ⟨rfl, hb1⟩
    have b1 := b0.trans (hb1.mono b0.size)
    have hq1 := row_on HQ.out hb1
    have e0 : w1.cell? ⟨w.heap.size, 0, none⟩ = some (.slice A rs.length c) := by rw [cell_of_row _ w.heap.size 0 _ _ _ hq1]; rfl
    clear c0
    go_wp2_with fail
    refine (HS.out w1 w.heap.size (HM.out.below b1) hq1 (he.below b1)).mono ?_
    rintro e w2 ⟨O, co, rs', rfl, hM2, ht2, hb2⟩
    go_wp2_with fail
    go_ret2
    exact ⟨O, co, rs', rfl, hM2, ht2, below_lift3 b1 hb2⟩
  · have h0' : (chkE (texts rs) (-1) true [] != 0) = true := by simpa using h0
    have HE := Lib.hid (show invE (texts rs) = chkE (texts rs) (-1) true [] by rw [HIE.out, if_neg h0])
    have HE2 := Lib.hid (show invM (texts rs) = [] by rw [HIM.out, if_neg (by rw [HE.out]; exact h0)])
    generalize chkE (texts rs) (-1) true [] = q at *
    clear h0
    go_enter Tryz.func26, Tryz.ntmps26
    go_wp2_with fail
    refine HC.out.mono ?_
    rintro e w1 ⟨rfl, hb1⟩
    go_wp2_with fail
    go_ret2
    exact ⟨none, 0, [], by rw [HE.out]; rfl, ⟨fun h => absurd h (by simp), fun r hr => absurd hr (by simp)⟩, by rw [HE2.out]; rfl, b0.trans (hb1.mono b0.size)⟩
theorem cells_lit1 {w : World} {e : TypeId} {v : Value} : Cells (w.alloc (.cells #[v] e)) (some ⟨w.heap.size, 0, none⟩) [v] := (OwnS.lit w e #[v] w.heap.size 1 (Nat.le_refl _) rfl (by unfold maxLen; omega)).cells
theorem heads_snoc {M : List (List Str)} {j : Nat} (hj : j < M.length) : (M.take j).map (·.getD 0 []) ++ [(M.getD j []).getD 0 []] = (M.take (j + 1)).map (·.getD 0 []) := by
  rw [List.take_succ_eq_append_getElem hj, List.map_append, getD_eq hj]; rfl
set_option maxHeartbeats 1000000 in
set_option maxRecDepth 100000 in
theorem bsolveT_any (rs : List VecV) (A : Option Addr) (c : Nat) (bs : List Str) (V : Option Addr) (cv : Nat) (w : World) (hM : MatAt w A rs) (hV : Cells w V (strs bs)) (hR : RsOK rs) (hl5 : rs.length ≤ 500) (hcv : bs.length ≤ cv ∧ cv ≤ maxLen) (hbl : bs.length ≤ 1000) (hbx : ∀ x ∈ bs, x.length ≤ 100000)
    (hred : chkE (texts rs) (-1) true [bs] = 0 → ∃ D, D ≤ 4096 ∧ RedOK D (rs.length + 1) (wideM (texts rs) (oneMore bs))) (he : Env w) :
    Calls Tryz.prog 12 #[.slice A rs.length c, .slice V bs.length cv] w fun e w' => ∃ (X : Option Addr) (cx : Nat), e = .returned (.tuple #[.slice X (slvM (texts rs) bs).length cx, .int .i64 (slvE (texts rs) bs)]) ∧ OwnS w' w.heap.size 36 X (slvM (texts rs) bs).length cx (strs (slvM (texts rs) bs)) ∧ Below w.heap.size w w' := by
  have hlr := hR.len
  have b0 := new_below w (.cells #[.slice V bs.length cv] 23)
  have b1 := b0.trans ((new_below (w.alloc (.cells #[.slice V bs.length cv] 23)) (.cells #[.slice V bs.length cv] 23)).mono b0.size)
  have hM1 := hM.below b1
  have hV1 := hV.below b1
  have hq := row_new (w := w) (o := .cells #[.slice V bs.length cv] 23)
  have hq2 := row_on hq (new_below _ (.cells #[.slice V bs.length cv] 23))
  have hvs : MatAt ((w.alloc (.cells #[.slice V bs.length cv] 23)).alloc (.cells #[.slice V bs.length cv] 23)) (some ⟨w.heap.size + 1, 0, none⟩) [⟨V, cv, bs⟩] := by
    have := cells_lit1 (w := w.alloc (.cells #[.slice V bs.length cv] 23)) (e := 23) (v := .slice V bs.length cv)
    rw [World.size_alloc] at this
    exact mat_of_hdr this (fun r hr => by rw [List.mem_singleton.1 hr]; exact hV1)
  have HC := Lib.hid (bcheck_any rs A c (-1) true [⟨V, cv, bs⟩] (some ⟨w.heap.size + 1, 0, none⟩) 1 _ hM1 hvs (by decide) (fun h => by cases h) (by omega) (by simp) (fun r hr => by
    rcases List.mem_append.1 hr with h | h
    · have := hR.row r h; unfold maxLen; omega
    · rw [List.mem_singleton.1 h]; show bs.length ≤ maxLen; omega) (fun r hr => by
    rcases List.mem_append.1 hr with h | h
    · exact hR.txt r h
    · rw [List.mem_singleton.1 h]; exact hbx) (he.below b1))
  rw [show chkE (texts rs) (-1) true (texts [⟨V, cv, bs⟩]) = chkE (texts rs) (-1) true [bs] from rfl] at HC
  have HIE := Lib.hid (show slvE (texts rs) bs = if chkE (texts rs) (-1) true [bs] = 0 then solE (reduceM (wideM (texts rs) (oneMore bs))).2 rs.length else chkE (texts rs) (-1) true [bs] by unfold slvE; rw [texts_length])
  have HIM := Lib.hid (show slvM (texts rs) bs = if slvE (texts rs) bs = 0 then (solM (wideM (texts rs) (oneMore bs)) rs.length).map (·.getD 0 []) else [] by unfold slvM; rw [texts_length])
  have HSB := Lib.hid (fun h => sol_bad (W := wideM (texts rs) (oneMore bs)) (n := rs.length) h)
  have hzero := fun h => chk_zero (M := texts rs) (wd := -1) (sq := true) (vs := [bs]) h
  have HM := Lib.hid hM
  have HV := Lib.hid hV
  have HR := Lib.hid hR
  have HRED := Lib.hid hred
  have c0 : (w.alloc (.cells #[.slice V bs.length cv] 23)).cell? ⟨w.heap.size, 0, none⟩ = some (.slice V bs.length cv) := by rw [cell_of_row _ w.heap.size 0 _ _ _ hq]; rfl
  have HQ := Lib.hid hq2
  clear hM hV hR hred hM1 hV1 hq hvs hq2
  by_cases h0 : chkE (texts rs) (-1) true [bs] = 0
  · obtain ⟨_, _, _, hz4, hz5, _⟩ := hzero h0
    have hbn : bs.length = rs.length := by have := hz5 rfl bs (by simp); rw [texts_length] at this; exact this
    have hrown : ∀ r ∈ texts rs, r.length = rs.length := fun r hr => by have := hz4 rfl r hr; rw [texts_length] at this; exact this
    obtain ⟨D, hD, hO⟩ := HRED.out h0
    have HS := Lib.hid (fun (w : World) (q : Nat) (hM : MatAt w A rs) (hV : Cells w V (strs bs)) (hq : w.heap[q]? = some (.cells #[.slice V bs.length cv] 23)) (he : Env w) => bsolve1_any rs A c bs V cv q w hM hl5 HR.out.row hV hbn hcv hq hD (by omega) (by omega) hO he)
    have hie : slvE (texts rs) bs = solE (reduceM (wideM (texts rs) (oneMore bs))).2 rs.length := by rw [HIE.out, if_pos h0]
    have hsm : slvM (texts rs) bs = (solM (wideM (texts rs) (oneMore bs)) rs.length).map (·.getD 0 []) := by
      rw [HIM.out]
      by_cases h1 : slvE (texts rs) bs = 0
      · rw [if_pos h1]
      · rw [if_neg h1, HSB.out (by rw [← hie]; exact h1)]; rfl
    have hsl : ∀ r ∈ solM (wideM (texts rs) (oneMore bs)) rs.length, r.length = 1 := by
      intro r hr
      unfold solM at hr
      split at hr
      · cases hr
      · obtain ⟨x, hx, rfl⟩ := List.mem_map.1 hr
        have hwl : (wideM (texts rs) (oneMore bs)).length = rs.length := by rw [wideM_len, texts_length]
        by_cases hn0 : 0 < rs.length
        · rw [reduceM_st, hO.width (by omega)] at hx
          have := (hO.mat _ (Nat.le_refl _) x hx).1
          rw [List.length_drop]; omega
        · have hwn : wideM (texts rs) (oneMore bs) = [] := List.eq_nil_of_length_eq_zero (by omega)
          rw [hwn] at hx
          cases hx
    rw [← hie] at HS
    have hbad : slvE (texts rs) bs ≠ 0 → solM (wideM (texts rs) (oneMore bs)) rs.length = [] := fun h => HSB.out (by rw [← hie]; exact h)
    have hsll : (solM (wideM (texts rs) (oneMore bs)) rs.length).length ≤ 1000 := by
      unfold solM
      split
      · simp
      · rw [List.length_map, redOK_len hO, wideM_len, texts_length]; omega
    rw [h0] at HC
    have HSM := Lib.hid hsm
    have HSL := Lib.hid hsl
    have HBAD := Lib.hid hbad
    have HSLL := Lib.hid hsll
    clear h0 hie hsm hO HRED HIE HIM HSB hsl hbad hzero hz4 hz5 hrown hsll hbn
    generalize slvE (texts rs) bs = q at *
    generalize slvM (texts rs) bs = sv at *
    generalize solM (wideM (texts rs) (oneMore bs)) rs.length = sm at *
    go_enter Tryz.func12, Tryz.ntmps12
    go_wp2_with fail
    refine HC.out.mono ?_
    rintro e w1 ⟨rfl, hb1⟩
    have b2 := b1.trans (hb1.mono b1.size)
    have hq1 := row_on HQ.out hb1
    clear c0
    go_wp2_with fail
    refine (HS.out w1 w.heap.size (HM.out.below b2) (HV.out.below b2) hq1 (he.below b2)).mono ?_
    rintro e w2 ⟨O, co, rs', rfl, hM2, ht2, hb2⟩
    have b3 := below_lift3 b2 hb2
    by_cases hq0 : q = 0
    · have HT2 := Lib.hid ht2
      have hrl : rs'.length = sm.length := by rw [← ht2, texts_length]
      have HRL := Lib.hid hrl
      have hrl2 : rs'.length ≤ 1000 := by rw [hrl]; exact HSLL.out
      have HMM := Lib.hid hM2
      have HQ0 := Lib.hid hq0
      have hq0' : (q != 0) = false := by simpa using hq0
      clear ht2 hrl hM2 hq0
      go_wp2_with fail
      go_loopw [9, 11, 30] (fun v _ i wr => ∃ (j : Nat) (X : Option Addr) (cx : Nat), j ≤ rs'.length ∧ i = .int .i64 j ∧ v = .slice X j cx ∧ OwnS wr w2.heap.size 36 X j cx (strs ((sm.take j).map (·.getD 0 []))) ∧ Below w2.heap.size w2 wr) (fun _ _ i _ => rs'.length - (intOf i).toNat)
      case atStart => exact ⟨0, none, 0, Nat.zero_le _, rfl, rfl, OwnS.nil _ _ _, Below.refl _ _⟩
      case round =>
        obtain ⟨j, X, cx, hj, rfl, rfl, hown, hbel⟩ := hrel
        have hcapX := hown.cap
        unfold maxLen at hcapX
        by_cases hlt : j < rs'.length
        · have hjs : j < sm.length := by rw [← HRL.out]; exact hlt
          obtain ⟨b, off, rfl, hb, hc⟩ := (HMM.out.below hbel).1 (by omega)
          have hcj := hc j hlt
          have hxs : rs'[j].xs = sm.getD j [] := by rw [← texts_getD hlt, HT2.out]
          have hx1 : rs'[j].xs.length = 1 := by rw [hxs, getD_eq hjs]; exact HSL.out _ (List.getElem_mem hjs)
          obtain ⟨b2', o2, hA2, hb2', hc2⟩ := (HMM.out.below hbel).2 rs'[j] (List.getElem_mem hlt) (by rw [strs_length]; omega)
          have hc0 : wr.cell? ⟨b2', o2, none⟩ = some (.string (B ((sm.getD j []).getD 0 []))) := by
            have := hc2 0 _ (strs_get _ _ (by omega))
            rw [hxs] at this; exact this
          rw [hA2, hx1] at hcj
          have HSN := Lib.hid (heads_snoc hjs)
          generalize (sm.getD j []).getD 0 [] = x at *
          generalize rs'[j].c = cj at *
          clear hc hc2 hxs hx1 hA2
          go_wp2_with (at_builtin; refine wp_app1 el_mrat rfl _ _ rfl w2.heap.size _ _ _ _ _ (.string (B x)) rfl hown rfl rfl (by unfold maxLen; omega) (by omega) hbel.size ?_; intro A3 c3 w3 hown3 hb3)
          go_roundw
          case rel =>
            exact ⟨j + 1, A3, c3, by omega, by go_num, rfl, by rw [snoc_strs, HSN.out] at hown3; exact hown3, hbel.trans hb3⟩
          case measure => simp [intOf]; omega
        · have HF := Lib.hid (show OwnS wr w.heap.size 36 X sv.length cx (strs sv) ∧ j = sv.length by
            have hjn : j = sm.length := by rw [← HRL.out]; omega
            rw [hjn, List.take_length, ← HSM.out] at hown
            have e : sm.length = sv.length := by rw [HSM.out, List.length_map]
            rw [e] at hown
            exact ⟨hown.mono b3.size, hjn.trans e⟩)
          clear hown
          go_wp2_with fail
          go_ret2
          exact ⟨X, cx, by rw [← HF.out.2, HQ0.out]; rfl, HF.out.1, b3.trans (hbel.mono b3.size)⟩
    · have hq0' : (q != 0) = true := by simpa using hq0
      have HSV := Lib.hid (show sv = [] by rw [HSM.out, HBAD.out hq0]; rfl)
      clear hq0
      go_wp2_with fail
      go_ret2
      exact ⟨none, 0, by rw [HSV.out]; rfl, by rw [HSV.out]; exact OwnS.nil _ _ _, b3⟩
  · have h0' : (chkE (texts rs) (-1) true [bs] != 0) = true := by simpa using h0
    have HE := Lib.hid (show slvE (texts rs) bs = chkE (texts rs) (-1) true [bs] by rw [HIE.out, if_neg h0])
    have HE2 := Lib.hid (show slvM (texts rs) bs = [] by rw [HIM.out, if_neg (by rw [HE.out]; exact h0)])
    generalize chkE (texts rs) (-1) true [bs] = q at *
    clear h0 hzero
    go_enter Tryz.func12, Tryz.ntmps12
    go_wp2_with fail
    refine HC.out.mono ?_
    rintro e w1 ⟨rfl, hb1⟩
    go_wp2_with fail
    go_ret2
    exact ⟨none, 0, by rw [HE.out, HE2.out]; rfl, by rw [HE2.out]; exact OwnS.nil _ _ _, b1.trans (hb1.mono b1.size)⟩
end Go.Proofs.YtkcaheaefjcdiaaGreatDoor
/- basis.Times. -/
namespace Go.Proofs.YtkcaheaefjcdiaaGreatDoor
open Go.RowKit Num
set_option linter.unusedVariables false
attribute [local go_sem] B_size B_get B_toList B_mk B_extract B_append

/-- the sum of the first j products -/
def dotN (r x : List Str) : Nat → Str
  | 0 => [48]
  | j + 1 => addQS (dotN r x j) (mulQS (r.getD j []) (x.getD j []))
def DotOK (r x : List Str) : Prop := ∀ j, j < r.length → mulQE (r.getD j []) (x.getD j []) = 0 ∧ addQE (dotN r x j) (mulQS (r.getD j []) (x.getD j [])) = 0 ∧ (dotN r x j).length ≤ 100000 ∧ (mulQS (r.getD j []) (x.getD j [])).length ≤ 100000
def timE (M : List (List Str)) (x : List Str) : Int := chkE M x.length false [x]
def timM (M : List (List Str)) (x : List Str) : List Str := if timE M x = 0 then M.map (fun r => dotN r x r.length) else []
theorem dots_snoc {M : List (List Str)} {f : List Str → Str} {j : Nat} (hj : j < M.length) : (M.take j).map f ++ [f (M.getD j [])] = (M.take (j + 1)).map f := by
  rw [List.take_succ_eq_append_getElem hj, List.map_append, getD_eq hj]; rfl
set_option maxHeartbeats 1000000 in
set_option maxRecDepth 100000 in
theorem btimesT_any (rs : List VecV) (A : Option Addr) (c : Nat) (xs : List Str) (X : Option Addr) (cx : Nat) (w : World) (hM : MatAt w A rs) (hX : Cells w X (strs xs)) (hR : RsOK rs) (hcx : xs.length ≤ cx ∧ cx ≤ maxLen) (hxl : xs.length ≤ 1000) (hxx : ∀ x ∈ xs, x.length ≤ 100000)
    (hok : timE (texts rs) xs = 0 → ∀ r ∈ rs, DotOK r.xs xs) (he : Env w) :
    Calls Tryz.prog 24 #[.slice A rs.length c, .slice X xs.length cx] w fun e w' => ∃ (Z : Option Addr) (cz : Nat), e = .returned (.tuple #[.slice Z (timM (texts rs) xs).length cz, .int .i64 (timE (texts rs) xs)]) ∧ OwnS w' w.heap.size 36 Z (timM (texts rs) xs).length cz (strs (timM (texts rs) xs)) ∧ Below w.heap.size w w' := by
  have hlr := hR.len
  have b0 := new_below w (.cells #[.slice X xs.length cx] 23)
  have hM1 := hM.below b0
  have hX1 := hX.below b0
  have hvs : MatAt (w.alloc (.cells #[.slice X xs.length cx] 23)) (some ⟨w.heap.size, 0, none⟩) [⟨X, cx, xs⟩] :=
    mat_of_hdr cells_lit1 (fun r hr => by rw [List.mem_singleton.1 hr]; exact hX1)
  have HC := Lib.hid (bcheck_any rs A c (xs.length : Int) false [⟨X, cx, xs⟩] (some ⟨w.heap.size, 0, none⟩) 1 _ hM1 hvs (by constructor <;> omega) (fun h => by cases h) (by omega) (by simp) (fun r hr => by
    rcases List.mem_append.1 hr with h | h
    · have := hR.row r h; unfold maxLen; omega
    · rw [List.mem_singleton.1 h]; show xs.length ≤ maxLen; omega) (fun r hr => by
    rcases List.mem_append.1 hr with h | h
    · exact hR.txt r h
    · rw [List.mem_singleton.1 h]; exact hxx) (he.below b0))
  rw [show chkE (texts rs) (xs.length : Int) false (texts [⟨X, cx, xs⟩]) = timE (texts rs) xs from rfl] at HC
  have HIM := Lib.hid (show timM (texts rs) xs = if timE (texts rs) xs = 0 then (texts rs).map (fun r => dotN r xs r.length) else [] from rfl)
  have hzero := fun h => chk_zero (M := texts rs) (wd := (xs.length : Int)) (sq := false) (vs := [xs]) h
  have HM := Lib.hid hM
  have HX := Lib.hid hX
  have HR := Lib.hid hR
  have HXX := Lib.hid hxx
  have HOK := Lib.hid hok
  clear hM hX hR hM1 hX1 hvs hok hxx
  by_cases h0 : timE (texts rs) xs = 0
  · have hz := hzero h0
    have HW := Lib.hid (show ∀ r ∈ rs, r.xs.length = xs.length from fun r hr => by
      have h1 := hz.2.2.1 r.xs (by unfold texts; exact List.mem_map.2 ⟨r, hr, rfl⟩)
      unfold widthE at h1
      rw [if_neg (by omega)] at h1
      omega)
    have HDOT := Lib.hid (HOK.out h0)
    have HSM := Lib.hid (show timM (texts rs) xs = (texts rs).map (fun r => dotN r xs r.length) by rw [HIM.out, if_pos h0])
    rw [h0] at HC ⊢
    clear h0 hzero hz HIM HOK
    generalize timM (texts rs) xs = sv at *
    go_enter Tryz.func24, Tryz.ntmps24
    simp only [B_mk]
    go_wp2_with fail
    refine HC.out.mono ?_
    rintro e w1 ⟨rfl, hb1⟩
    have b1 := b0.trans (hb1.mono b0.size)
    have b2 := below_lift3 b1 (new_below w1 (.cells #[.int .i64 0] 63))
    have hq := row_new (w := w1) (o := .cells #[.int .i64 0] 63)
    have hq1 : w1.heap.size < (w1.alloc (.cells #[.int .i64 0] 63)).heap.size := by simp
    have e0 : (w1.alloc (.cells #[.int .i64 0] 63)).cell? ⟨w1.heap.size, 0, none⟩ = some (.int .i64 0) := by rw [cell_of_row _ w1.heap.size 0 _ _ _ hq]; rfl
    have HE0 := Lib.hid e0
    have HQ1 := Lib.hid hq1
    clear e0 hq hq1
    go_wp2_with fail
    obtain ⟨w2, hw2⟩ : ∃ w2, w2 = w1.alloc (.cells #[.int .i64 0] 63) := ⟨_, rfl⟩
    rw [← hw2] at b2 HE0 HQ1 ⊢
    clear hw2
    go_loopw [8, 10, 11, 12, 13, 27] (fun v _ _ _ _ i wr => ∃ (j : Nat) (Z : Option Addr) (cz : Nat), j ≤ rs.length ∧ i = .int .i64 j ∧ v = .slice Z j cz ∧ OwnS wr w2.heap.size 36 Z j cz (strs (((texts rs).take j).map (fun r => dotN r xs r.length))) ∧ Below w2.heap.size w2 wr) (fun _ _ _ _ _ i _ => rs.length - (intOf i).toNat)
    case atStart => exact ⟨0, none, 0, Nat.zero_le _, rfl, rfl, OwnS.nil _ _ _, Below.refl _ _⟩
    case round =>
      obtain ⟨j, Z, cz, hj, rfl, rfl, hown, hbel⟩ := hrel
      have b3 := b2.trans (hbel.mono b2.size)
      by_cases hlt : j < rs.length
      · obtain ⟨b, off, rfl, hb, hc⟩ := (HM.out.below b3).1 (by omega)
        have hcj := hc j hlt
        have hrw := HW.out rs[j] (List.getElem_mem hlt)
        have HDR := Lib.hid (HDOT.out rs[j] (List.getElem_mem hlt))
        have HRX := Lib.hid (fun wr hb => (HM.out.below (w' := wr) hb).2 rs[j] (List.getElem_mem hlt))
        have HRT := Lib.hid (HR.out.txt rs[j] (List.getElem_mem hlt))
        have HSN := Lib.hid (dots_snoc (M := texts rs) (f := fun r => dotN r xs r.length) (j := j) (by rw [texts_length]; exact hlt))
        rw [texts_getD hlt] at HSN
        generalize rs[j] = r at *
        have HRW := Lib.hid hrw
        clear hc hrw
        go_wp2_with fail
        clear hcj
        go_loopw [11, 12, 13, 33] (fun s _ _ i wr => ∃ k : Nat, k ≤ r.xs.length ∧ i = .int .i64 k ∧ s = .string (B (dotN r.xs xs k)) ∧ OwnS wr w2.heap.size 36 Z j cz (strs (((texts rs).take j).map (fun r => dotN r xs r.length))) ∧ Below w2.heap.size w2 wr) (fun _ _ _ i _ => r.xs.length - (intOf i).toNat)
        case atStart => exact ⟨0, Nat.zero_le _, rfl, rfl, hown, hbel⟩
        case round =>
          clear hown hbel b3 hb
          obtain ⟨k, hk, rfl, rfl, hown, hbel⟩ := hrel
          have b3 := b2.trans (hbel.mono b2.size)
          have hcapZ := hown.cap
          unfold maxLen at hcapZ
          by_cases hlk : k < r.xs.length
          · have hkx : k < xs.length := by have := HRW.out; omega
            obtain ⟨bx, ox, hXe, hbx, hcx'⟩ := (HX.out.below b3) (by rw [strs_length]; omega)
            obtain ⟨br, orr, hRe, hbr, hcr⟩ := (HRX.out _ b3) (by rw [strs_length]; omega)
            have d0 := hcx' k _ (strs_get _ _ hkx)
            have d1 := hcr k _ (strs_get _ _ hlk)
            obtain ⟨q1, q2, q3, q4⟩ := HDR.out k hlk
            have hrt : (r.xs.getD k []).length ≤ 100000 := by rw [List.getD_eq_getElem?_getD, List.getElem?_eq_getElem hlk]; exact HRT.out _ (List.getElem_mem hlk)
            have hxt : (xs.getD k []).length ≤ 100000 := by rw [List.getD_eq_getElem?_getD, List.getElem?_eq_getElem hkx]; exact HXX.out _ (List.getElem_mem hkx)
            have HN := Lib.hid (show addQS (dotN r.xs xs k) (mulQS (r.xs.getD k []) (xs.getD k [])) = dotN r.xs xs (k + 1) from rfl)
            have HM1 := Lib.hid (fun w he => bmul_any ⟨w1.heap.size, 0, none⟩ (r.xs.getD k []) (xs.getD k []) w (by omega) (by omega) q1 he)
            have HM2 := Lib.hid (fun w he => badd_any ⟨w1.heap.size, 0, none⟩ (dotN r.xs xs k) (mulQS (r.xs.getD k []) (xs.getD k [])) w (by omega) (by omega) q2 he)
            rw [HN.out] at HM2
            generalize hsn : dotN r.xs xs (k + 1) = sn at *
            have HSN2 := Lib.hid hsn
            clear hsn
            generalize dotN r.xs xs k = so at *
            generalize mulQS (r.xs.getD k []) (xs.getD k []) = z at *
            generalize r.xs.getD k [] = a at *
            generalize xs.getD k [] = x at *
            clear hcx' hcr q1 q2 q3 q4 hrt hxt
            rw [hXe, hRe]
            go_wp2_with fail
            refine (HM1.out _ (he.below b3)).mono ?_
            rintro e w3 ⟨rfl, hb3⟩
            go_wp2_with fail
            refine (HM2.out _ (he.below (below_lift3 b3 hb3))).mono ?_
            rintro e w4 ⟨rfl, hb4⟩
            have hb5 := below_lift3 hb3 hb4
            have hown5 := hown.below hb5
            have hbel5 := below_lift3 hbel hb5
            go_wp2_with fail
            go_roundw
            case rel => exact ⟨k + 1, by omega, by go_num, by rw [HSN2.out], hown5, hbel5⟩
            case measure => simp [intOf]; omega
          · have hkn : k = r.xs.length := by omega
            have HKN := Lib.hid (show dotN r.xs xs k = dotN r.xs xs r.xs.length by rw [hkn])
            have hk' : ¬ (k : Int) < (r.xs.length : Int) := by omega
            rw [HKN.out]
            clear hkn
            go_wp2_with (at_builtin; refine wp_app1 el_mrat rfl _ _ rfl w2.heap.size _ _ _ _ _ (.string (B (dotN r.xs xs r.xs.length))) rfl hown rfl rfl (by unfold maxLen; omega) (by omega) hbel.size ?_; intro A3 c3 w3 hown3 hb3)
            go_roundw
            case rel => exact ⟨j + 1, A3, c3, by omega, by go_num, rfl, by rw [snoc_strs, HSN.out] at hown3; exact hown3, hbel.trans hb3⟩
            case measure => simp [intOf]; omega
      · have HF := Lib.hid (show OwnS wr w2.heap.size 36 Z sv.length cz (strs sv) ∧ j = sv.length by
          have hjn : j = (texts rs).length := by rw [texts_length]; omega
          rw [hjn, List.take_length, ← HSM.out] at hown
          have e : (texts rs).length = sv.length := by rw [HSM.out, List.length_map]
          rw [e] at hown
          exact ⟨hown, hjn.trans e⟩)
        have e0 : wr.cell? ⟨w1.heap.size, 0, none⟩ = some (.int .i64 0) := (hbel.cell (p := ⟨w1.heap.size, 0, none⟩) HQ1.out).trans HE0.out
        clear hown
        go_wp2_with fail
        go_ret2
        exact ⟨Z, cz, by rw [← HF.out.2]; rfl, HF.out.1.mono b2.size, b3⟩
  · have h0' : (timE (texts rs) xs != 0) = true := by simpa using h0
    have HE2 := Lib.hid (show timM (texts rs) xs = [] by rw [HIM.out, if_neg h0])
    generalize timE (texts rs) xs = q at *
    generalize timM (texts rs) xs = sv at *
    clear h0 hzero
    go_enter Tryz.func24, Tryz.ntmps24
    simp only [B_mk]
    go_wp2_with fail
    refine HC.out.mono ?_
    rintro e w1 ⟨rfl, hb1⟩
    go_wp2_with fail
    go_ret2
    exact ⟨none, 0, by rw [HE2.out]; rfl, by rw [HE2.out]; exact OwnS.nil _ _ _, b0.trans (hb1.mono b0.size)⟩
end Go.Proofs.YtkcaheaefjcdiaaGreatDoor
