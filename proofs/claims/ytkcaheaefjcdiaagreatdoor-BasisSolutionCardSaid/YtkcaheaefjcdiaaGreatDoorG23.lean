/- basis.reduce. -/
import Derived.Test.YtkcaheaefjcdiaaGreatDoorBProg2
import Derived.Test.YtkcaheaefjcdiaaGreatDoorG22
import Derived.Test.YtkcaheaefjcdiaaGreatDoorG19
import Derived.Test.YtkcaheaefjcdiaaGreatDoorRRef4
import Derived.Test.YtkcaheaefjcdiaaGreatDoorG20
import Derived.BigRegion
import Derived.BigQuiet
namespace Go.Proofs.YtkcaheaefjcdiaaGreatDoor
open Go.RowKit Num
set_option linter.unusedVariables false
attribute [local go_sem] B_size B_get B_toList B_mk B_extract B_append

theorem bint_info : (Tryz.prog.info? 3).map (fun i => (i.zero, i.size, i.bytes)) = some (some (.int .i64 0), 1, 8) := by kernel_rfl
theorem el_bint : Elem Tryz.prog 33 3 (.int .i64 0) 8 := ⟨Tryz.underlying33, info_parts bint_info, rfl⟩
theorem nums_snoc_b (ys : List Nat) (x : Nat) : nums ys ++ [.int .i64 (x : Int)] = nums (ys ++ [x]) := by simp [nums]
theorem mat_get0 {D k : Nat} {M : List (List Str)} (h : Mat D D k M) {i : Nat} (hi : i < M.length) : (M.getD i []).length = k := (h.row hi).1
set_option maxHeartbeats 4000000 in
set_option maxRecDepth 100000 in
theorem breduce_any {D k : Nat} {M : List (List Str)} (hO : RedOK D k M) (hD : D ≤ 4096) (A : Option Addr) (c : Nat) (hA : Nat → Option Addr) (hC : Nat → Nat) (w0 w : World) (h0 : Below w0.heap.size w0 w) (hM : MatO w w0.heap.size A c hA hC M)
    (hm : M.length ≤ 1000) (hk : k ≤ 1000) (he : Env w0) :
    Calls Tryz.prog 39 #[.slice A M.length c] w fun e w' => ∃ (P : Option Addr) (cp : Nat) (hA' : Nat → Option Addr) (hC' : Nat → Nat), e = .returned (.tuple #[.slice P (reduceM M).2.length cp, .int .i64 0]) ∧ OwnS w' w0.heap.size 3 P (reduceM M).2.length cp (nums (reduceM M).2) ∧
      MatO w' w0.heap.size A c hA' hC' (reduceM M).1 ∧ Below w0.heap.size w0 w' := by
  by_cases hm0 : M.length = 0
  · have hM0 : M = [] := List.eq_nil_of_length_eq_zero hm0
    subst hM0
    have HR := Lib.hid (show reduceM [] = ([], []) from rfl)
    go_enter Tryz.func39, Tryz.ntmps39
    go_wp2_with fail
    go_ret2
    exact ⟨none, 0, hA, hC, rfl, OwnS.nil _ _ _, hM.below ((Below.refl _ _).alloc (Nat.le_refl _) _), h0.alloc h0.size _⟩
  · have hm1 : 0 < M.length := by omega
    have hkw := hO.width hm1
    have hm0' : ((M.length : Int) == 0) = false := by rw [beq_eq_false_iff_ne]; omega
    have HRM := Lib.hid (show reduceM M = stN M k by rw [reduceM_st, hkw])
    have hcap := hM.outer.cap
    unfold maxLen at hcap
    obtain ⟨gA, rfl, hgA1, hgA2, hhdr, hfz⟩ := hM.hdr hm1
    have c0 := hhdr 0 hm1
    rw [hkw] at c0
    have b1 := new_below w (.cells #[.int .i64 0] 63)
    have hMn := hM.below b1
    have hbn := below_lift h0 b1
    have row1 := row_new (w := w) (o := .cells #[.int .i64 0] 63)
    have hcapr : ∀ i, i < M.length → ∀ g, hA i = some ⟨g, 0, none⟩ → g < w.heap.size := by
      intro i hi g hg
      have hr := hM.rows i hi
      rcases hr.2 with ⟨hv, _⟩ | ⟨g', cap, cur, hv, _, hh, _⟩
      · injection hv with hv _ _; rw [hg] at hv; cases hv
      · injection hv with hv _ _
        rw [hg] at hv
        injection hv with hv
        injection hv with hv _ _
        subst hv
        rcases Nat.lt_or_ge g w.heap.size with h' | h'
        · exact h'
        · rw [Array.getElem?_eq_none h'] at hh; cases hh
    have hkA : ∀ i, i < M.length → hA i ≠ some ⟨w.heap.size, 0, none⟩ := fun i hi e => absurd (hcapr i hi _ e) (by omega)
    have hh0 : Cells w (some ⟨gA, 0, none⟩) [] := Cells.nil _ _
    clear hm0 hhdr hfz hcapr hh0
    go_enter Tryz.func39, Tryz.ntmps39
    go_wp2_with fail
    clear c0 hMn hbn b1 row1
    go_loopw [4, 6, 7, 8, 18] (fun p _ _ _ i wr => ∃ (col : Nat) (P : Option Addr) (cp : Nat) (hA' : Nat → Option Addr) (hC' : Nat → Nat), col ≤ k ∧ i = .int .i64 col ∧ p = .slice P (stN M col).2.length cp ∧ OwnS wr w0.heap.size 3 P (stN M col).2.length cp (nums (stN M col).2) ∧ MatO wr w0.heap.size (some ⟨gA, 0, none⟩) c hA' hC' (stN M col).1 ∧
      Below w0.heap.size w0 wr ∧ w.heap.size < wr.heap.size ∧ wr.heap[w.heap.size]? = some (.cells #[.int .i64 0] 63) ∧ ∀ i, i < M.length → hA' i ≠ some ⟨w.heap.size, 0, none⟩) (fun _ _ _ _ i _ => k - (intOf i).toNat)
    case atStart =>
      exact ⟨0, none, 0, hA, hC, Nat.zero_le _, rfl, rfl, OwnS.nil _ _ _, hM.below (new_below _ _), below_lift3 h0 (new_below _ _), by simp, row_new, hkA⟩
    case round =>
      clear hM hkA
      obtain ⟨col, P, cp, hA', hC', hcol, rfl, rfl, hP, hMc, hb0, hsz, hkb, hkA⟩ := hrel
      have hlen := hO.len col hcol
      have hmat := hO.mat col hcol
      have hfew := hO.few col hcol
      by_cases hlt : col < k
      · have HOPS := Lib.hid (hO.ops col hlt)
        have HHIT := Lib.hid (stN_hit (M := M) (c := col) (st := stN M col) rfl)
        have HMISS := Lib.hid (stN_miss (M := M) (c := col) (st := stN M col) rfl)
        generalize stN M col = st at *
        obtain ⟨M1, piv⟩ := st
        have hlen : M1.length = M.length := hlen
        have HLEN := Lib.hid hlen
        have hmat : Mat D D k M1 := hmat
        have hfew : piv.length ≤ M.length := hfew
        have hMc : MatO wr w0.heap.size (some ⟨gA, 0, none⟩) c hA' hC' M1 := hMc
        have hP : OwnS wr w0.heap.size 3 P piv.length cp (nums piv) := hP
        obtain ⟨gA', e1, _, hgw, hhdr, hfzA⟩ := hMc.hdr (by omega)
        obtain rfl : gA = gA' := by injection e1 with e1; injection e1
        have HHDR := Lib.hid hhdr
        have HMAT := Lib.hid hmat
        clear hhdr hlen hmat
        go_wp2_with fail
        go_loop [8] (fun i => ∃ a : Nat, piv.length ≤ a ∧ a ≤ M.length ∧ i = .int .i64 a ∧ ∀ j, piv.length ≤ j → j < a → cellM M1 j col = [48]) (fun i => M.length - (intOf i).toNat)
        case atStart => exact ⟨piv.length, Nat.le_refl _, hfew, rfl, fun j h1 h2 => absurd h2 (by omega)⟩
        case round =>
          obtain ⟨a, ha1, ha2, rfl, hall⟩ := hrel
          have HA := Lib.hid hall
          clear hall
          by_cases ha : a < M.length
          · have hal : a < M1.length := by rw [HLEN.out]; exact ha
            have hrl := mat_get0 HMAT.out hal
            obtain ⟨gr, hgr, hgr1, hgr2, hrc, hfzr⟩ := hMc.row hal (by rw [hrl]; omega)
            have d0 := HHDR.out a hal
            rw [hrl, hgr] at d0
            have d1 := hrc col (by rw [hrl]; exact hlt)
            have hcr := (hMc.rows a hal).cap
            rw [hrl] at hcr
            unfold maxLen at hcr
            clear hrc
            by_cases hz : cellM M1 a col = [48]
            · have HN := Lib.hid (show ∀ j, piv.length ≤ j → j < a + 1 → cellM M1 j col = [48] from fun j h1 h2 => by
                by_cases e : j = a
                · rw [e]; exact hz
                · exact HA.out j h1 (by omega))
              rw [hz] at d1
              clear hz
              go_wp2_with fail
              go_round
              case rel => exact ⟨a + 1, by omega, by omega, by go_num, HN.out⟩
              case measure => simp [intOf]; omega
            · have hz' : (cellM M1 a col == [48]) = false := by simpa using hz
              have hF : findM M1 piv.length col = a := findM_eq ha1 (by omega) HA.out (.inr hz)
              have HF := Lib.hid hF
              have hane : ((a : Int) == (M.length : Int)) = false := by rw [beq_eq_false_iff_ne]; omega
              clear hz hF
              generalize cellM M1 a col = x at *
              have hpl : piv.length < M1.length := by rw [HLEN.out]; omega
              have f0 := HHDR.out piv.length hpl
              rw [mat_get0 HMAT.out hpl] at f0
              have hfa := hfzA a
              have hfp := hfzA piv.length
              have hsw := hMc.swap hpl hal rfl
              rw [mat_get0 HMAT.out hpl, mat_get0 HMAT.out hal, hgr] at hsw
              have hPA : P ≠ some ⟨gA, 0, none⟩ := by
                have := hMc.outer.ne hP (by decide)
                exact this
              have hPs := (hP.other (g := gA) (j := piv.length) (u := .slice (some ⟨gr, 0, none⟩) k (hC' a)) hPA).other (g := gA) (j := a) (u := .slice (hA' piv.length) k (hC' piv.length)) hPA
              have hgk : w.heap.size ≠ gA := by
                obtain ⟨_, _, cur, h3⟩ := hMc.outer.typ
                intro e
                rw [← e, hkb] at h3
                injection h3 with h3
                injection h3 with _ h3 _
                exact absurd h3 (by decide)
              have HSW := Lib.hid hsw
              have HPS := Lib.hid hPs
              have HKB := Lib.hid hkb
              have HB0 := Lib.hid hb0
              have HKA := Lib.hid hkA
              have HGK := Lib.hid hgk
              have HMC := Lib.hid hMc
              clear hsw hPs hMc hP hkb hkA hgk hPA
              go_upto_region 13 with fail
              go_cut [44] (fun _ wx => MatO wx w0.heap.size (some ⟨gA, 0, none⟩) c (swF hA' piv.length a) (swF hC' piv.length a) (swapM M1 piv.length a) ∧ OwnS wx w0.heap.size 3 P piv.length cp (nums piv) ∧ Below w0.heap.size w0 wx ∧ w.heap.size < wx.heap.size ∧ wx.heap[w.heap.size]? = some (.cells #[.int .i64 0] 63))
              case first =>
                by_cases hra : piv.length = a
                · subst hra
                  have h1 := HSW.out
                  have h2 := HPS.out
                  rw [hgr] at h1 h2
                  have HSW := Lib.hid h1
                  have HPS := Lib.hid h2
                  clear h1 h2
                  go_wp2_with fail
                  go_region
                  all_goals
                    go_wp2_with fail
                    go_meet
                    refine ⟨HSW.out.below ((Below.refl _ _).drew), HPS.out.below ((Below.refl _ _).drew), ((HB0.out.setCell hgA1 _).setCell hgA1 _).drew, ?_, ?_⟩
                    · show w.heap.size < (World.setCell _ _ _).heap.size
                      rw [World.size_setCell, World.size_setCell]; exact hsz
                    · show (World.setCell _ _ _).heap[w.heap.size]? = _
                      rw [Below.heap_setCell _ _ _ _ HGK.out, Below.heap_setCell _ _ _ _ HGK.out]; exact HKB.out
                · have hra' : a ≠ piv.length := fun e => hra e.symm
                  go_wp2_with fail
                  go_region
                  all_goals
                    go_wp2_with fail
                    go_meet
                    refine ⟨HSW.out.below ((Below.refl _ _).drew), HPS.out.below ((Below.refl _ _).drew), ((HB0.out.setCell hgA1 _).setCell hgA1 _).drew, ?_, ?_⟩
                    · show w.heap.size < (World.setCell _ _ _).heap.size
                      rw [World.size_setCell, World.size_setCell]; exact hsz
                    · show (World.setCell _ _ _).heap[w.heap.size]? = _
                      rw [Below.heap_setCell _ _ _ _ HGK.out, Below.heap_setCell _ _ _ _ HGK.out]; exact HKB.out
              case rest =>
                obtain ⟨hMs, hP, hb1, hsz1, hkb1⟩ := hcut
                clear d0 d1 f0 hfa hfp HSW HPS hgw hgr2 hgr hfzA hfzr
                have hne : findM M1 piv.length col ≠ M.length := by rw [HF.out]; omega
                have hops : ClearOps D k (swapM M1 piv.length (findM M1 piv.length col)) piv.length col := HOPS.out hne
                rw [HF.out] at hops
                have HST := Lib.hid (show stN M (col + 1) = (clearM (swapM M1 piv.length a) piv.length col, piv ++ [col]) by
                  have := HHIT.out (show findM M1 piv.length col ≠ M1.length by rw [HLEN.out]; exact hne)
                  rw [this]; show (clearM (swapM M1 piv.length (findM M1 piv.length col)) piv.length col, piv ++ [col]) = _
                  rw [HF.out])
                have hkA2 : ∀ i, i < M.length → swF hA' piv.length a i ≠ some ⟨w.heap.size, 0, none⟩ := by
                  intro i hi
                  unfold swF
                  split
                  · exact HKA.out a ha
                  · split
                    · exact HKA.out piv.length (by omega)
                    · exact HKA.out i hi
                have hsl : (swapM M1 piv.length a).length = M.length := by rw [swapM_len]; exact HLEN.out
                have HCLR := Lib.hid (bclear_any hops hD ⟨w.heap.size, 0, none⟩ (some ⟨gA, 0, none⟩) c _ _ w0 _ hb1 hMs (by omega) hk he)
                have HSL := Lib.hid hsl
                have HKA2 := Lib.hid hkA2
                rw [hsl] at HCLR
                have HNP := Lib.hid (show ∀ g, P = some ⟨g, 0, none⟩ → ∀ i, i < M.length → swF hA' piv.length a i ≠ some ⟨g, 0, none⟩ from fun g h i hi => by
                  have hP' := hP
                  rw [h] at hP'
                  exact hP'.ne (hMs.rows i (by rw [hsl]; exact hi)) (by decide))
                have hPk : P ≠ some ⟨w.heap.size, 0, none⟩ := by
                  intro e
                  have hP' := hP
                  rw [e] at hP'
                  obtain ⟨_, _, cur, h3⟩ := hP'.typ
                  rw [hkb1] at h3
                  injection h3 with h3
                  injection h3 with _ h3 _
                  exact absurd h3 (by decide)
                clear hne hops hsl hkA2
                generalize swF hA' piv.length a = hA2 at *
                generalize swF hC' piv.length a = hC2 at *
                generalize swapM M1 piv.length a = Ms at *
                clear hMs
                have hcapP := hP.cap
                unfold maxLen at hcapP
                go_wp2_with fail
                refine HCLR.out.mono ?_
                rintro e w2 ⟨rfl, hM2, hb2, hsz2, hkept⟩
                have hkb2 := (hkept _ hsz1 HKA2.out).trans hkb1
                have hP2 := hP.keep (w' := w2) (fun b hb => hkept b (by have hP' := hP; rw [hb] at hP'; exact hP'.typ.2.1) (HNP.out b hb))
                have e0 : w2.cell? ⟨w.heap.size, 0, none⟩ = some (.int .i64 0) := by rw [cell_of_row w2 _ 0 _ _ _ hkb2]; rfl
                have hsz3 := Nat.lt_of_lt_of_le hsz1 hsz2
                clear hkb1 hkept hP hb1 hsz1
                go_wp2_with (at_builtin; refine wp_app1k el_bint rfl _ _ rfl w0.heap.size _ _ _ _ _ (.int .i64 col) rfl hP2 rfl rfl (by unfold maxLen; omega) (by omega) hb2.size ?_; intro A3 c3 w3 hown3 hb3 hk3)
                go_roundw
                case rel =>
                  refine ⟨col + 1, A3, c3, hA2, hC2, by omega, by go_num, by rw [HST.out]; simp, by rw [HST.out]; rw [nums_snoc_b] at hown3; simpa using hown3, by rw [HST.out]; exact hM2.keep hP2 hk3, hb2.trans hb3, Nat.lt_of_lt_of_le hsz3 hb3.size, (hk3 _ hsz3 hPk).trans hkb2, HKA2.out⟩
                case measure => simp [intOf]; omega
          · have hae : a = M.length := by omega
            have HF := Lib.hid (show stN M (col + 1) = (M1, piv) from HMISS.out (show findM M1 piv.length col = M1.length from (findM_eq (a := a) ha1 (by rw [HLEN.out]; exact ha2) HA.out (.inl (by rw [HLEN.out]; exact hae))).trans (by rw [HLEN.out]; exact hae)))
            have hane : ((a : Int) == (M.length : Int)) = true := by rw [hae]; simp
            have ha' : ¬ (a : Int) < (M.length : Int) := by omega
            clear hae
            go_wp2_with fail
            go_roundw
            case rel => exact ⟨col + 1, P, cp, hA', hC', by omega, by go_num, by rw [HF.out], by rw [HF.out]; exact hP, by rw [HF.out]; exact hMc, hb0, hsz, hkb, hkA⟩
            case measure => simp [intOf]; omega
      · have hck : col = k := by omega
        have HN := Lib.hid (show reduceM M = stN M col by rw [HRM.out, hck])
        clear hck
        go_wp2_with fail
        go_ret2
        exact ⟨P, cp, hA', hC', by rw [HN.out]; rfl, by rw [HN.out]; exact hP, by rw [HN.out]; exact hMc, hb0⟩
end Go.Proofs.YtkcaheaefjcdiaaGreatDoor
/- basis.clone with each of its closures. (Printed by wip/bprog6.py.) -/
namespace Go.Proofs.YtkcaheaefjcdiaaGreatDoor
open Go.ChangeShapes Go.WideShapes Go.RowKit Num
set_option linter.unusedVariables false
attribute [local go_sem] B_size B_get B_toList B_mk B_extract B_append

section
variable {P : Program} {ops : Array Oper} {rest : List Oper} {o : Oper} {a : Act} {Q : Exit → Act → World → Prop}
/-- append of a slice that may be nil to a slice of the call's own -/
theorem wp_appm {t e : TypeId} {z : Value} {bytes : Nat} (he : Elem P t e z bytes) (hgd : o.guard = none) (s x : Operand) (ho : o.op = .call { callee := .builtin .append, args := #[s, x], argTypes := #[t, t] })
    (Bs : Nat) (A : Option Addr) (n c : Nat) (xs : List Value) (w : World) (X : Option Addr) (m cx : Nat) (news : List Value) (hs : a.eval s = .slice A n c) (hown : OwnS w Bs e A n c xs)
    (hx : a.eval x = .slice X m cx) (hX : Cells w X news) (hX0 : X = none → cx = 0) (hm : news.length = m) (h1 : ∀ u ∈ news, u.oneCell' = true) (h63 : n + m ≤ maxLen) (hby : (n + m) * bytes ≤ 140737488355328) (hbase : Bs ≤ w.heap.size)
    (h : ∀ A' c' w', OwnS w' Bs e A' (n + m) c' (xs ++ news) → Below Bs w w' → wpList P ops Q rest (a.put o.dst (.slice A' (n + m) c')) w') :
    wpList P ops Q (o :: rest) a w := by
  obtain ⟨ht, ⟨i, hi, hz, hsz, hb⟩, hzs⟩ := he
  cases X with
  | none =>
    have hv : news = [] := by
      cases news with
      | nil => rfl
      | cons x xs => obtain ⟨b, off, e, _⟩ := hX (by simp); cases e
    have hcx := hX0 rfl
    subst hcx hv
    obtain rfl : m = 0 := by simpa using hm.symm
    refine wpList_append_own_none hgd s x t ho Bs e i 1 ht hi (.slice A n c) n xs hs hown hx ?_
    exact h A c w (by rw [List.append_nil]; exact hown) (Below.refl _ _)
  | some ad =>
    have hcell : ∀ j u, news[j]? = some u → w.cell? (ad.add j) = some u := by
      intro j u hu
      have hj := (List.getElem?_eq_some_iff.1 hu).1
      obtain ⟨b, off, e, hb, h2⟩ := hX (by omega)
      injection e with e
      subst e
      rw [add_plain]
      exact h2 j u hu
    refine wpList_append_own _ hgd s x t ho Bs e i z 1 bytes ht hi hz hsz hb hzs (by decide) (.slice A n c) n xs hs hown ad m cx news hx (by omega) hcell h1 h63 hby hbase ?_
    intro v' w' h2 h3 _
    obtain ⟨A2, c2, rfl⟩ := owns_slice h2
    exact h A2 c2 w' h2 ((Below.refl _ _).grown h3 hbase hown.row)
end
theorem MatO.add {w1 w2 : World} {Bs : Nat} {A : Option Addr} {c : Nat} {hA : Nat → Option Addr} {hC : Nat → Nat} {M : List (List Str)} (h : MatO w1 Bs A c hA hC M) (hb : Below w1.heap.size w1 w2) {i g : Nat} {row : List Str} {X : Option Addr} {cx : Nat}
    (hr : OwnS w2 w1.heap.size 36 X row.length cx (strs row)) (hi : i < M.length) (hg : A = some ⟨g, 0, none⟩) :
    MatO (w2.setCell ⟨g, i, none⟩ (.slice X row.length cx)) Bs A c (fun j => if j = i then X else hA j) (fun j => if j = i then cx else hC j) (M.set i row) := by
  have h2 := h.below hb
  have hlow : ∀ {e : TypeId} {Y : Option Addr} {n cy : Nat} {xs : List Value}, OwnS w1 Bs e Y n cy xs → ∀ b, Y = some b → X ≠ some b := by
    intro e Y n cy xs hy b hb2 hx
    rcases hy.2 with ⟨hv, _⟩ | ⟨g1, cap, cur, hv, _, hh, _⟩
    · injection hv with hv _ _; rw [hv] at hb2; cases hb2
    · injection hv with hv _ _
      rw [hv] at hb2
      injection hb2 with hb2
      subst hb2
      have hlt : g1 < w1.heap.size := by
        rcases Nat.lt_or_ge g1 w1.heap.size with h' | h'
        · exact h'
        · rw [Array.getElem?_eq_none h'] at hh; cases hh
      subst hx
      exact absurd hr.typ.1 (by omega)
  have hxg : X ≠ some ⟨g, 0, none⟩ := hlow h.outer _ hg
  have hw1 := h.rows
  have hBs : Bs ≤ w1.heap.size := by
    have := h.outer
    rw [hg] at this
    have h3 := this.typ
    omega
  refine ⟨?_, fun k hk => ?_, ?_, ?_⟩
  · rw [List.length_set]
    have ho := h2.outer
    rw [hg] at ho ⊢
    have hs := ho.stored i (.slice X row.length cx)
    have : (hdrs hA hC M).set i (.slice X row.length cx) = hdrs (fun j => if j = i then X else hA j) (fun j => if j = i then cx else hC j) (M.set i row) := by
      apply List.ext_getElem?
      intro k
      by_cases hk : k < M.length
      · rw [List.getElem?_set, hdrs_get hA hC M hk, hdrs_get _ _ (M.set i row) (by rw [List.length_set]; exact hk), hdrs_length, getD_set hi]
        by_cases e : i = k
        · subst e; simp [hi]
        · rw [if_neg e, if_neg (fun h => e h.symm), if_neg (fun h => e h.symm), if_neg (fun h => e h.symm)]
      · rw [List.getElem?_eq_none (by rw [List.length_set, hdrs_length]; omega), List.getElem?_eq_none (by rw [hdrs_length, List.length_set]; omega)]
    rw [← this]
    exact hs
  · rw [List.length_set] at hk
    rw [getD_set hi]
    by_cases e : k = i
    · rw [if_pos e, if_pos e, if_pos e]
      exact (hr.mono hBs).other hxg
    · rw [if_neg e, if_neg e, if_neg e]
      exact (h2.rows k hk).other (fun hh => h2.apart0 k hk _ hh hg)
  · intro a b ha hb2 hab x hx
    rw [List.length_set] at ha hb2
    by_cases e1 : a = i
    · rw [if_pos e1] at hx
      rw [if_neg (fun e2 => hab (e1.trans e2.symm))]
      intro hbx
      exact hlow (hw1 b hb2) x hbx hx
    · rw [if_neg e1] at hx
      by_cases e2 : b = i
      · rw [if_pos e2]
        exact hlow (hw1 a ha) x hx
      · rw [if_neg e2]
        exact h.apart a b ha hb2 hab x hx
  · intro a ha x hx
    rw [List.length_set] at ha
    by_cases e1 : a = i
    · rw [if_pos e1] at hx
      intro hA2
      exact hlow h.outer x hA2 hx
    · rw [if_neg e1] at hx
      exact h.apart0 a ha x hx
theorem hdrs_nil (n : Nat) : hdrs (fun _ => none) (fun _ => 0) (List.replicate n []) = List.replicate n (.slice none 0 0) := by
  apply List.ext_getElem?
  intro i
  by_cases hi : i < n
  · rw [hdrs_get _ _ _ (by simpa using hi), List.getElem?_replicate, if_pos hi]; simp [hi]
  · rw [List.getElem?_eq_none (by rw [hdrs_length]; simp; omega), List.getElem?_eq_none (by simp; omega)]
/-- the rows with what is added to each -/
def wideM (M : List (List Str)) (more : Nat → List Str) : List (List Str) := (List.range M.length).map fun i => M.getD i [] ++ more i
theorem wideM_len (M : List (List Str)) (more : Nat → List Str) : (wideM M more).length = M.length := by unfold wideM; simp
theorem wideM_get (M : List (List Str)) (more : Nat → List Str) {i : Nat} (hi : i < M.length) : (wideM M more).getD i [] = M.getD i [] ++ more i := by
  unfold wideM; rw [List.getD_eq_getElem?_getD, List.getElem?_map, List.getElem?_range hi]; rfl
def noMore (i : Nat) : List Str := []
def oneMore (b : List Str) (i : Nat) : List Str := [b.getD i []]
def unitR (n at_ : Nat) : List Str := (List.replicate n [48]).set at_ [49]
theorem bred1_any (i : Nat) (w : World) : Calls Tryz.prog 38 #[.int .i64 i] w fun e w' => e = .returned (.slice none 0 0) ∧ w' = w := by
  go_enter Tryz.func38, Tryz.ntmps38
  go_wp2_with fail
  go_ret
  exact ⟨rfl, rfl⟩
theorem bsol1_any (i q bV oV n cv : Nat) (w : World) (hi : i < n) (hn : n ≤ cv ∧ cv ≤ maxLen) (hq : w.heap[q]? = some (.cells #[.slice (some ⟨bV, oV, none⟩) n cv] 23)) :
    Calls Tryz.prog 32 #[.int .i64 i, .pointer (some ⟨q, 0, none⟩)] w fun e w' => e = .returned (.slice (some ⟨bV, oV + i, none⟩) 1 (cv - i)) ∧ w' = w := by
  unfold maxLen at hn
  have c0 : w.cell? ⟨q, 0, none⟩ = some (.slice (some ⟨bV, oV, none⟩) n cv) := by rw [cell_of_row w q 0 _ _ _ hq]; rfl
  go_enter Tryz.func32, Tryz.ntmps32
  go_wp2_with fail
  go_ret
  exact ⟨rfl, rfl⟩
theorem strs_rep (n : Nat) : List.replicate n (Value.string (B [])) = strs (List.replicate n []) := by unfold strs; rw [List.map_replicate]
set_option maxRecDepth 100000 in
theorem binv1_any (i q n c : Nat) (A : Option Addr) (w : World) (hi : i < n) (hn : n ≤ 1000000) (hq : w.heap[q]? = some (.cells #[.slice A n c] 22)) :
    Calls Tryz.prog 50 #[.int .i64 i, .pointer (some ⟨q, 0, none⟩)] w fun e w' => ∃ X cx, e = .returned (.slice X n cx) ∧ OwnS w' w.heap.size 36 X n cx (strs (unitR n i)) ∧ Below w.heap.size w w' := by
  have c0 : w.cell? ⟨q, 0, none⟩ = some (.slice A n c) := by rw [cell_of_row w q 0 _ _ _ hq]; rfl
  go_enter Tryz.func50, Tryz.ntmps50
  simp only [B_mk]
  go_wp2_with (refine wp_mkn el_mrat rfl _ _ rfl w.heap.size _ .i64 .i64 _ _ n rfl rfl rfl rfl (by omega) (by unfold maxLen; omega) (Nat.le_refl _) rfl ?_; intro X0 w1 hown0 hb1)
  rw [strs_rep] at hown0
  go_loopw [5, 11] (fun _ j wr => ∃ k : Nat, k ≤ n ∧ j = .int .i64 k ∧ OwnS wr w.heap.size 36 X0 n n (strs (mixR (List.replicate n [48]) (List.replicate n []) k)) ∧ Below w.heap.size w wr) (fun _ j _ => n - (intOf j).toNat)
  case atStart => exact ⟨0, Nat.zero_le _, rfl, by rw [mixR_zero]; exact hown0, hb1⟩
  case round =>
    clear hown0 hb1 c0
    obtain ⟨k, hk, rfl, hown, hbel⟩ := hrel
    obtain ⟨g, rfl, hg1, hg2, hgc, hgf⟩ := hown.at_ (by omega)
    by_cases hlt : k < n
    · have hfk := hgf k
      have hck := hgc k hlt
      have hml : (mixR (List.replicate n [48]) (List.replicate n ([] : Str)) k).length = n := by rw [mixR_len (by simp)]; simp
      rw [strs_get _ _ (by rw [hml]; exact hlt)] at hck
      have HN := Lib.hid (hown.stored k (.string (B [48])))
      rw [strs_set, show (mixR (List.replicate n [48]) (List.replicate n ([] : Str)) k).set k [48] = mixR (List.replicate n [48]) (List.replicate n []) (k + 1) by
        have := mixR_succ (n := List.replicate n [48]) (r := List.replicate n ([] : Str)) (by simp) (j := k) (by simpa using hlt) []
        rw [← this]; congr 1; rw [List.getD_eq_getElem?_getD, List.getElem?_replicate, if_pos hlt]; rfl] at HN
      clear hgc hgf hml
      generalize (mixR (List.replicate n [48]) (List.replicate n ([] : Str)) k).getD k [] = x at *
      go_wp2_with fail
      go_roundw
      case rel => exact ⟨k + 1, by omega, by go_num, HN.out, hbel.setCell hg1 _⟩
      case measure => simp [intOf]; omega
    · have hkn : k = n := by omega
      have hown2 : OwnS wr w.heap.size 36 (some ⟨g, 0, none⟩) n n (strs (List.replicate n [48])) := by
        rw [mixR_full (by simp) (by simpa using hkn)] at hown; exact hown
      have hfi := hgf i
      obtain ⟨g', e1, _, _, hgc2, _⟩ := hown2.at_ (by omega)
      obtain rfl : g = g' := by injection e1 with e1; injection e1
      have hci := hgc2 i hi
      rw [strs_get _ _ (by simpa using hi)] at hci
      have HN := Lib.hid (hown2.stored i (.string (B [49])))
      rw [strs_set] at HN
      have hk' : ¬ (k : Int) < (n : Int) := by omega
      clear hgc hgf hgc2 hown hown2 hkn
      generalize (List.replicate n ([48] : Str)).getD i [] = x at *
      go_wp2_with fail
      go_ret
      exact ⟨_, _, rfl, HN.out, hbel.setCell hg1 _⟩
theorem strs_append (a b : List Str) : strs (a ++ b) = strs a ++ strs b := by unfold strs; rw [List.map_append]
/-- a matrix of the call's own, wherever its rows lie -/
def MatE (w : World) (Bs : Nat) (A : Option Addr) (c : Nat) (M : List (List Str)) : Prop := ∃ hA hC, MatO w Bs A c hA hC M
theorem none_cap : (none : Option Addr) = none → 0 = 0 := fun _ => rfl
theorem OwnS.cap0 {w : World} {Bs : Nat} {e : TypeId} {A : Option Addr} {n c : Nat} {xs : List Value} (h : OwnS w Bs e A n c xs) : A = none → c = 0 := by
  intro hA
  rcases h.2 with ⟨hv, _⟩ | ⟨g, cap, cur, hv, _⟩
  · injection hv
  · injection hv with hv _ _; rw [hA] at hv; cases hv
theorem lt_of_heap {w : World} {q : Nat} {o : Obj} (h : w.heap[q]? = some o) : q < w.heap.size := by
  rcases Nat.lt_or_ge q w.heap.size with h' | h'
  · exact h'
  · rw [Array.getElem?_eq_none h'] at h; cases h
theorem rep_get (n i : Nat) : (List.replicate n ([] : List Str)).getD i [] = [] := by
  rw [List.getD_eq_getElem?_getD, List.getElem?_replicate]; split <;> rfl
theorem matO_nil {w : World} {Bs : Nat} {A : Option Addr} {c n : Nat} (h : OwnS w Bs 23 A n c (hdrs (fun _ => none) (fun _ => 0) (List.replicate n []))) : MatO w Bs A c (fun _ => none) (fun _ => 0) (List.replicate n []) := by
  refine ⟨by simpa using h, fun i hi => ?_, fun a b ha hb hab g hg => ?_, fun a ha g hg => ?_⟩
  · rw [rep_get]; exact OwnS.nil _ _ _
  · cases hg
  · cases hg


set_option maxHeartbeats 4000000 in
set_option maxRecDepth 100000 in
theorem bclone0_any (rs : List VecV) (A : Option Addr) (c : Nat)  (w : World) (hM : MatAt w A rs) (hl : rs.length ≤ 1000) (hrl : ∀ r ∈ rs, r.xs.length ≤ 1000)  :
    Calls Tryz.prog 37 #[.slice A rs.length c, .func (Fn.func 38) #[] #[]] w fun e w' => ∃ A' c', e = .returned (.slice A' rs.length c') ∧ MatE w' w.heap.size A' c' (wideM (texts rs) (noMore)) ∧ Below w.heap.size w w' := by
  have HM := Lib.hid hM
  have HRL := Lib.hid hrl
  clear hM hrl
  have hwl := wideM_len (texts rs) (noMore)
  rw [texts_length] at hwl
  have HWL := Lib.hid hwl
  have HWG := Lib.hid (fun i (hi : i < rs.length) => show (wideM (texts rs) (noMore)).getD i [] = rs[i].xs ++ (noMore) i by rw [wideM_get _ _ (by rw [texts_length]; exact hi), texts_getD hi])
  generalize wideM (texts rs) (noMore) = W at *
  clear hwl
  go_enter Tryz.func37, Tryz.ntmps37
  go_wp2_with (refine wp_mkn el_mrow rfl _ _ rfl w.heap.size _ .i64 .i64 _ _ rs.length rfl rfl rfl rfl (by omega) (by unfold maxLen; omega) (Nat.le_refl _) rfl ?_; intro A0 w1 hown0 hb1)
  rw [← hdrs_nil] at hown0
  go_loopw [6, 7, 13] (fun _ _ i wr => ∃ (k : Nat) (hA : Nat → Option Addr) (hC : Nat → Nat), k ≤ rs.length ∧ i = .int .i64 k ∧ MatO wr w.heap.size A0 rs.length hA hC (mixR W (List.replicate rs.length []) k) ∧ Below w.heap.size w wr) (fun _ _ i _ => rs.length - (intOf i).toNat)
  case atStart => exact ⟨0, fun _ => none, fun _ => 0, Nat.zero_le _, rfl, by rw [mixR_zero]; exact matO_nil hown0, hb1⟩
  case round =>
    clear hown0 hb1
    obtain ⟨k, hA, hC, hk, rfl, hMk, hbel⟩ := hrel
    have hml : (mixR W (List.replicate rs.length ([] : List Str)) k).length = rs.length := by rw [mixR_len (by rw [HWL.out]; simp)]; simp
    by_cases hlt : k < rs.length
    · obtain ⟨b, off, rfl, hb, hc⟩ := (HM.out.below hbel).1 (by omega)
      have hck := hc k hlt
      have hrk := HRL.out rs[k] (List.getElem_mem hlt)
      have hxk := (HM.out.below hbel).2 rs[k] (List.getElem_mem hlt)
      have HWK := Lib.hid (HWG.out k hlt)
      have HCL := Lib.hid (bcloner_any (strs rs[k].xs) rs[k].A rs[k].c wr hxk (fun u hu => by obtain ⟨s, _, rfl⟩ := List.mem_map.1 hu; rfl) (by rw [strs_length]; omega))
      rw [strs_length] at HCL
      obtain ⟨gA, rfl, hgA1, hgA2, hhdr, hfz⟩ := hMk.hdr (by omega)
      have hfk := hfz k
      have hhk := hhdr k (by omega)
      have HADD := Lib.hid (fun (w2 : World) (X : Option Addr) (cx : Nat) (hb : Below wr.heap.size wr w2) (hr : OwnS w2 wr.heap.size 36 X ((noMore) k).length.succ cx []) => hb)
      have hmix := mixR_succ (n := W) (r := List.replicate rs.length ([] : List Str)) (by rw [HWL.out]; simp) (j := k) (by simpa using hlt) []
      have HMK := Lib.hid hMk
      clear hc hxk hhdr hfz HADD hMk
      rw [HWK.out] at hmix
      have HMIX := Lib.hid hmix
      clear hmix
      generalize rs[k] = r at *
      generalize hmk : (mixR W (List.replicate rs.length ([] : List Str)) k).getD k [] = mk at *
      clear hmk
      go_wp2_with fail
      refine HCL.out.mono ?_
      rintro e w2 ⟨A2, c2, rfl, hown2, hb2⟩
      have b2 := below_lift3 hbel hb2
      go_wp2_with fail
      refine (bred1_any k w2).mono ?_
      rintro e w3 ⟨rfl, h3⟩
      obtain rfl := h3.symm
      have hX : Cells w2 none (strs (noMore k)) := Cells.nil _ _
      have hown3 := hown2
      have hb3 := hb2
      go_wp2_with (at_builtin; refine wp_appm el_mrat rfl _ _ rfl wr.heap.size _ _ _ _ _ none 0 0 (strs ((noMore) k)) rfl hown3 rfl hX none_cap rfl (fun u hu => by obtain ⟨s, _, rfl⟩ := List.mem_map.1 hu; rfl) (by unfold maxLen; omega) (by omega) hb3.size ?_; intro A4 c4 w4 hown4 hb4; have hb5 := hb3.trans hb4; have e4 := (hb5.cell (p := ⟨gA, k, none⟩) hgA2).trans hhk; have f4 := (hb5.frozen (p := ⟨gA, k, none⟩) hgA2).trans hfk)
      have hM5 := HMK.out.add (i := k) hb5 (row := r.xs ++ (noMore) k) (X := A4) (cx := c4) (by rw [List.length_append, strs_append]; exact hown4) (by omega) rfl
      rw [HMIX.out, List.length_append, show (noMore k).length = 0 from rfl, Nat.add_zero] at hM5

      go_roundw
      case rel => exact ⟨k + 1, _, _, by omega, by go_num, hM5, (below_lift3 hbel hb5).setCell hgA1 _⟩
      case measure => simp [intOf]; omega
    · have hkn : k = rs.length := by omega
      have HE := Lib.hid (show MatO wr w.heap.size A0 rs.length hA hC W by rw [mixR_full (by rw [HWL.out]; simp) (by simpa using hkn)] at hMk; exact hMk)
      have hk' : ¬ (k : Int) < (rs.length : Int) := by omega
      clear hMk hkn hml
      go_wp2_with fail
      go_ret
      exact ⟨A0, rs.length, rfl, ⟨hA, hC, HE.out⟩, hbel⟩


set_option maxHeartbeats 4000000 in
set_option maxRecDepth 100000 in
theorem bclone1_any (rs : List VecV) (A : Option Addr) (c : Nat) (bs : List Str) (V : Option Addr) (cv q : Nat) (w : World) (hM : MatAt w A rs) (hl : rs.length ≤ 1000) (hrl : ∀ r ∈ rs, r.xs.length ≤ 1000) (hV : Cells w V (strs bs)) (hlb : bs.length = rs.length) (hcv : bs.length ≤ cv ∧ cv ≤ maxLen) (hq : w.heap[q]? = some (.cells #[.slice V bs.length cv] 23)) :
    Calls Tryz.prog 37 #[.slice A rs.length c, .func (Fn.func 32) #[] #[.pointer (some ⟨q, 0, none⟩)]] w fun e w' => ∃ A' c', e = .returned (.slice A' rs.length c') ∧ MatE w' w.heap.size A' c' (wideM (texts rs) (oneMore bs)) ∧ Below w.heap.size w w' := by
  have HM := Lib.hid hM
  have HRL := Lib.hid hrl
  have HV := Lib.hid hV
  have HLB := Lib.hid hlb
  have HCV := Lib.hid hcv
  have HQ := Lib.hid (show q < w.heap.size ∧ w.heap[q]? = some (.cells #[.slice V bs.length cv] 23) from ⟨lt_of_heap hq, hq⟩)
  clear hV hlb hcv hq
  clear hM hrl
  have hwl := wideM_len (texts rs) (oneMore bs)
  rw [texts_length] at hwl
  have HWL := Lib.hid hwl
  have HWG := Lib.hid (fun i (hi : i < rs.length) => show (wideM (texts rs) (oneMore bs)).getD i [] = rs[i].xs ++ (oneMore bs) i by rw [wideM_get _ _ (by rw [texts_length]; exact hi), texts_getD hi])
  generalize wideM (texts rs) (oneMore bs) = W at *
  clear hwl
  go_enter Tryz.func37, Tryz.ntmps37
  go_wp2_with (refine wp_mkn el_mrow rfl _ _ rfl w.heap.size _ .i64 .i64 _ _ rs.length rfl rfl rfl rfl (by omega) (by unfold maxLen; omega) (Nat.le_refl _) rfl ?_; intro A0 w1 hown0 hb1)
  rw [← hdrs_nil] at hown0
  go_loopw [6, 7, 13] (fun _ _ i wr => ∃ (k : Nat) (hA : Nat → Option Addr) (hC : Nat → Nat), k ≤ rs.length ∧ i = .int .i64 k ∧ MatO wr w.heap.size A0 rs.length hA hC (mixR W (List.replicate rs.length []) k) ∧ Below w.heap.size w wr) (fun _ _ i _ => rs.length - (intOf i).toNat)
  case atStart => exact ⟨0, fun _ => none, fun _ => 0, Nat.zero_le _, rfl, by rw [mixR_zero]; exact matO_nil hown0, hb1⟩
  case round =>
    clear hown0 hb1
    obtain ⟨k, hA, hC, hk, rfl, hMk, hbel⟩ := hrel
    have hml : (mixR W (List.replicate rs.length ([] : List Str)) k).length = rs.length := by rw [mixR_len (by rw [HWL.out]; simp)]; simp
    by_cases hlt : k < rs.length
    · obtain ⟨b, off, rfl, hb, hc⟩ := (HM.out.below hbel).1 (by omega)
      have hck := hc k hlt
      have hrk := HRL.out rs[k] (List.getElem_mem hlt)
      have hxk := (HM.out.below hbel).2 rs[k] (List.getElem_mem hlt)
      have HWK := Lib.hid (HWG.out k hlt)
      have HCL := Lib.hid (bcloner_any (strs rs[k].xs) rs[k].A rs[k].c wr hxk (fun u hu => by obtain ⟨s, _, rfl⟩ := List.mem_map.1 hu; rfl) (by rw [strs_length]; omega))
      rw [strs_length] at HCL
      obtain ⟨gA, rfl, hgA1, hgA2, hhdr, hfz⟩ := hMk.hdr (by omega)
      have hfk := hfz k
      have hhk := hhdr k (by omega)
      have HADD := Lib.hid (fun (w2 : World) (X : Option Addr) (cx : Nat) (hb : Below wr.heap.size wr w2) (hr : OwnS w2 wr.heap.size 36 X ((oneMore bs) k).length.succ cx []) => hb)
      have hmix := mixR_succ (n := W) (r := List.replicate rs.length ([] : List Str)) (by rw [HWL.out]; simp) (j := k) (by simpa using hlt) []
      have HMK := Lib.hid hMk
      clear hc hxk hhdr hfz HADD hMk
      rw [HWK.out] at hmix
      have HMIX := Lib.hid hmix
      clear hmix
      generalize rs[k] = r at *
      generalize hmk : (mixR W (List.replicate rs.length ([] : List Str)) k).getD k [] = mk at *
      clear hmk
      go_wp2_with fail
      refine HCL.out.mono ?_
      rintro e w2 ⟨A2, c2, rfl, hown2, hb2⟩
      have b2 := below_lift3 hbel hb2
      go_wp2_with fail
      have hkb : k < bs.length := by have := HLB.out; omega
      obtain ⟨bV, oV, hVe, hbV, hcV⟩ := HV.out (by rw [strs_length]; omega)
      have hq2 : w2.heap[q]? = some (.cells #[.slice (some ⟨bV, oV, none⟩) bs.length cv] 23) := by
        have h1 := (b2.block q HQ.out.1).trans HQ.out.2
        rw [hVe] at h1; exact h1
      refine (bsol1_any k q bV oV bs.length cv w2 hkb HCV.out hq2).mono ?_
      rintro e w3 ⟨rfl, h3⟩
      obtain rfl := h3.symm
      have hX : Cells w2 (some ⟨bV, oV + k, none⟩) (strs (oneMore bs k)) := by
        intro _
        refine ⟨bV, oV + k, rfl, Nat.lt_of_lt_of_le hbV b2.size, fun j u hu => ?_⟩
        have hj : j = 0 := by
          have := (List.getElem?_eq_some_iff.1 hu).1
          simp [oneMore, strs] at this; exact this
        subst hj
        have := (b2.cell (p := ⟨bV, oV + k, none⟩) hbV).trans (hcV k _ (strs_get _ _ hkb))
        simp only [oneMore, strs, List.map_cons, List.getElem?_cons_zero, Option.some.injEq] at hu
        rw [← hu]; exact this
      have HX0 := Lib.hid (show (some (⟨bV, oV + k, none⟩ : Addr)) = none → cv - k = 0 from fun h => by cases h)
      have hown3 := hown2
      have hb3 := hb2
      clear hcV hq2
      go_wp2_with (at_builtin; refine wp_appm el_mrat rfl _ _ rfl wr.heap.size _ _ _ _ _ (some ⟨bV, oV + k, none⟩) _ (cv - k) (strs ((oneMore bs) k)) rfl hown3 rfl hX HX0.out (by simp [oneMore, strs]) (fun u hu => by obtain ⟨s, _, rfl⟩ := List.mem_map.1 hu; rfl) (by unfold maxLen; omega) (by omega) hb3.size ?_; intro A4 c4 w4 hown4 hb4; have hb5 := hb3.trans hb4; have e4 := (hb5.cell (p := ⟨gA, k, none⟩) hgA2).trans hhk; have f4 := (hb5.frozen (p := ⟨gA, k, none⟩) hgA2).trans hfk)
      have hM5 := HMK.out.add (i := k) hb5 (row := r.xs ++ (oneMore bs) k) (X := A4) (cx := c4) (by rw [List.length_append, strs_append]; exact hown4) (by omega) rfl
      rw [HMIX.out, List.length_append, show (oneMore bs k).length = 1 from rfl] at hM5

      go_roundw
      case rel => exact ⟨k + 1, _, _, by omega, by go_num, hM5, (below_lift3 hbel hb5).setCell hgA1 _⟩
      case measure => simp [intOf]; omega
    · have hkn : k = rs.length := by omega
      have HE := Lib.hid (show MatO wr w.heap.size A0 rs.length hA hC W by rw [mixR_full (by rw [HWL.out]; simp) (by simpa using hkn)] at hMk; exact hMk)
      have hk' : ¬ (k : Int) < (rs.length : Int) := by omega
      clear hMk hkn hml
      go_wp2_with fail
      go_ret
      exact ⟨A0, rs.length, rfl, ⟨hA, hC, HE.out⟩, hbel⟩


set_option maxHeartbeats 4000000 in
set_option maxRecDepth 100000 in
theorem bclone2_any (rs : List VecV) (A : Option Addr) (c : Nat) (q : Nat) (w : World) (hM : MatAt w A rs) (hl : rs.length ≤ 1000) (hrl : ∀ r ∈ rs, r.xs.length ≤ 1000) (hq : w.heap[q]? = some (.cells #[.slice A rs.length c] 22)) :
    Calls Tryz.prog 37 #[.slice A rs.length c, .func (Fn.func 50) #[] #[.pointer (some ⟨q, 0, none⟩)]] w fun e w' => ∃ A' c', e = .returned (.slice A' rs.length c') ∧ MatE w' w.heap.size A' c' (wideM (texts rs) (unitR rs.length)) ∧ Below w.heap.size w w' := by
  have HM := Lib.hid hM
  have HRL := Lib.hid hrl
  have HQ := Lib.hid (show q < w.heap.size ∧ w.heap[q]? = some (.cells #[.slice A rs.length c] 22) from ⟨lt_of_heap hq, hq⟩)
  clear hq
  clear hM hrl
  have hwl := wideM_len (texts rs) (unitR rs.length)
  rw [texts_length] at hwl
  have HWL := Lib.hid hwl
  have HWG := Lib.hid (fun i (hi : i < rs.length) => show (wideM (texts rs) (unitR rs.length)).getD i [] = rs[i].xs ++ (unitR rs.length) i by rw [wideM_get _ _ (by rw [texts_length]; exact hi), texts_getD hi])
  generalize wideM (texts rs) (unitR rs.length) = W at *
  clear hwl
  go_enter Tryz.func37, Tryz.ntmps37
  go_wp2_with (refine wp_mkn el_mrow rfl _ _ rfl w.heap.size _ .i64 .i64 _ _ rs.length rfl rfl rfl rfl (by omega) (by unfold maxLen; omega) (Nat.le_refl _) rfl ?_; intro A0 w1 hown0 hb1)
  rw [← hdrs_nil] at hown0
  go_loopw [6, 7, 13] (fun _ _ i wr => ∃ (k : Nat) (hA : Nat → Option Addr) (hC : Nat → Nat), k ≤ rs.length ∧ i = .int .i64 k ∧ MatO wr w.heap.size A0 rs.length hA hC (mixR W (List.replicate rs.length []) k) ∧ Below w.heap.size w wr) (fun _ _ i _ => rs.length - (intOf i).toNat)
  case atStart => exact ⟨0, fun _ => none, fun _ => 0, Nat.zero_le _, rfl, by rw [mixR_zero]; exact matO_nil hown0, hb1⟩
  case round =>
    clear hown0 hb1
    obtain ⟨k, hA, hC, hk, rfl, hMk, hbel⟩ := hrel
    have hml : (mixR W (List.replicate rs.length ([] : List Str)) k).length = rs.length := by rw [mixR_len (by rw [HWL.out]; simp)]; simp
    by_cases hlt : k < rs.length
    · obtain ⟨b, off, rfl, hb, hc⟩ := (HM.out.below hbel).1 (by omega)
      have hck := hc k hlt
      have hrk := HRL.out rs[k] (List.getElem_mem hlt)
      have hxk := (HM.out.below hbel).2 rs[k] (List.getElem_mem hlt)
      have HWK := Lib.hid (HWG.out k hlt)
      have HCL := Lib.hid (bcloner_any (strs rs[k].xs) rs[k].A rs[k].c wr hxk (fun u hu => by obtain ⟨s, _, rfl⟩ := List.mem_map.1 hu; rfl) (by rw [strs_length]; omega))
      rw [strs_length] at HCL
      obtain ⟨gA, rfl, hgA1, hgA2, hhdr, hfz⟩ := hMk.hdr (by omega)
      have hfk := hfz k
      have hhk := hhdr k (by omega)
      have HADD := Lib.hid (fun (w2 : World) (X : Option Addr) (cx : Nat) (hb : Below wr.heap.size wr w2) (hr : OwnS w2 wr.heap.size 36 X ((unitR rs.length) k).length.succ cx []) => hb)
      have hmix := mixR_succ (n := W) (r := List.replicate rs.length ([] : List Str)) (by rw [HWL.out]; simp) (j := k) (by simpa using hlt) []
      have HMK := Lib.hid hMk
      clear hc hxk hhdr hfz HADD hMk
      rw [HWK.out] at hmix
      have HMIX := Lib.hid hmix
      clear hmix
      generalize rs[k] = r at *
      generalize hmk : (mixR W (List.replicate rs.length ([] : List Str)) k).getD k [] = mk at *
      clear hmk
      go_wp2_with fail
      refine HCL.out.mono ?_
      rintro e w2 ⟨A2, c2, rfl, hown2, hb2⟩
      have b2 := below_lift3 hbel hb2
      go_wp2_with fail
      have hq2 := (b2.block q HQ.out.1).trans HQ.out.2
      refine (binv1_any k q rs.length c _ w2 hlt (by omega) hq2).mono ?_
      rintro e w3 ⟨X, cx, rfl, hownX, hbx⟩
      have hX := hownX.cells
      have HX0 := Lib.hid hownX.cap0
      have hown3 := hown2.below hbx
      have hb3 := below_lift3 hb2 hbx
      clear hq2
      go_wp2_with (at_builtin; refine wp_appm el_mrat rfl _ _ rfl wr.heap.size _ _ _ _ _ X _ cx (strs ((unitR rs.length) k)) rfl hown3 rfl hX HX0.out (by simp [unitR, strs]) (fun u hu => by obtain ⟨s, _, rfl⟩ := List.mem_map.1 hu; rfl) (by unfold maxLen; omega) (by omega) hb3.size ?_; intro A4 c4 w4 hown4 hb4; have hb5 := hb3.trans hb4; have e4 := (hb5.cell (p := ⟨gA, k, none⟩) hgA2).trans hhk; have f4 := (hb5.frozen (p := ⟨gA, k, none⟩) hgA2).trans hfk)
      have hM5 := HMK.out.add (i := k) hb5 (row := r.xs ++ (unitR rs.length) k) (X := A4) (cx := c4) (by rw [List.length_append, strs_append]; exact (show OwnS _ _ _ A4 (r.xs.length + (unitR rs.length k).length) c4 _ by rw [show (unitR rs.length k).length = rs.length by simp [unitR]]; exact hown4)) (by omega) rfl
      rw [HMIX.out, List.length_append, show (unitR rs.length k).length = rs.length by simp [unitR]] at hM5

      go_roundw
      case rel => exact ⟨k + 1, _, _, by omega, by go_num, hM5, (below_lift3 hbel hb5).setCell hgA1 _⟩
      case measure => simp [intOf]; omega
    · have hkn : k = rs.length := by omega
      have HE := Lib.hid (show MatO wr w.heap.size A0 rs.length hA hC W by rw [mixR_full (by rw [HWL.out]; simp) (by simpa using hkn)] at hMk; exact hMk)
      have hk' : ¬ (k : Int) < (rs.length : Int) := by omega
      clear hMk hkn hml
      go_wp2_with fail
      go_ret
      exact ⟨A0, rs.length, rfl, ⟨hA, hC, HE.out⟩, hbel⟩
end Go.Proofs.YtkcaheaefjcdiaaGreatDoor
/- basis.Reduce, basis.Rank. -/
namespace Go.Proofs.YtkcaheaefjcdiaaGreatDoor
open Go.RowKit Num
set_option linter.unusedVariables false
attribute [local go_sem] B_size B_get B_toList B_mk B_extract B_append

theorem wide_no (M : List (List Str)) : wideM M noMore = M := by
  apply List.ext_getElem?
  intro i
  unfold wideM noMore
  by_cases hi : i < M.length
  · rw [List.getElem?_map, List.getElem?_range hi, List.getElem?_eq_getElem hi]
    simp [hi]
  · rw [List.getElem?_eq_none (by simp; omega), List.getElem?_eq_none (by omega)]
theorem MatE.nil (w : World) (Bs : Nat) : MatE w Bs none 0 [] := ⟨fun _ => none, fun _ => 0, OwnS.nil _ _ _, fun i hi => absurd hi (by simp), fun a b ha => absurd ha (by simp), fun a ha => absurd ha (by simp)⟩
theorem MatE.below {w w' : World} {Bs : Nat} {A : Option Addr} {c : Nat} {M : List (List Str)} (h : MatE w Bs A c M) (hb : Below w.heap.size w w') : MatE w' Bs A c M := by
  obtain ⟨hA, hC, h⟩ := h; exact ⟨hA, hC, h.below hb⟩
/-- what Reduce says -/
def redE (M : List (List Str)) : Int := chkE M (-1) false []
def redM (M : List (List Str)) : List (List Str) × List Nat := if redE M = 0 then reduceM M else ([], [])
theorem redOK_len {D k : Nat} {M : List (List Str)} (h : RedOK D k M) : (reduceM M).1.length = M.length := by
  by_cases h0 : 0 < M.length
  · rw [reduceM_st, h.width h0]; exact h.len k (Nat.le_refl _)
  · obtain rfl : M = [] := List.eq_nil_of_length_eq_zero (by omega)
    rfl
/-- what is asked of a matrix' lists that came in -/
structure RsOK (rs : List VecV) : Prop where
  len : rs.length ≤ 1000
  row : ∀ r ∈ rs, r.xs.length ≤ 1000
  txt : ∀ r ∈ rs, ∀ x ∈ r.xs, x.length ≤ 100000
theorem breduceT_any (rs : List VecV) (A : Option Addr) (c : Nat) (w : World) (hM : MatAt w A rs) (hR : RsOK rs) (hred : redE (texts rs) = 0 → ∃ D k, D ≤ 4096 ∧ k ≤ 1000 ∧ RedOK D k (texts rs)) (he : Env w) :
    Calls Tryz.prog 17 #[.slice A rs.length c] w fun e w' => ∃ (O : Option Addr) (co : Nat) (P : Option Addr) (cp : Nat), e = .returned (.tuple #[.slice O (redM (texts rs)).1.length co, .slice P (redM (texts rs)).2.length cp, .int .i64 (redE (texts rs))]) ∧
      MatE w' w.heap.size O co (redM (texts rs)).1 ∧ OwnS w' w.heap.size 3 P (redM (texts rs)).2.length cp (nums (redM (texts rs)).2) ∧ Below w.heap.size w w' := by
  have hlr := hR.len
  have HC := Lib.hid (bcheck_any rs A c (-1) false [] none 0 w hM ⟨fun h => absurd h (by simp), fun r hr => absurd hr (by simp)⟩ (by decide) (fun _ => rfl) (by omega) (by simp) (fun r hr => by have := hR.row r (by simpa using hr); unfold maxLen; omega) (fun r hr => hR.txt r (by simpa using hr)) he)
  rw [show chkE (texts rs) (-1) false (texts []) = redE (texts rs) from rfl] at HC
  have HRM := Lib.hid (show redM (texts rs) = if redE (texts rs) = 0 then reduceM (texts rs) else ([], []) from rfl)
  have HCL := Lib.hid (fun (w : World) (hM : MatAt w A rs) => bclone0_any rs A c w hM hR.len hR.row)
  rw [wide_no] at HCL
  have HM := Lib.hid hM
  have HRED := Lib.hid hred
  have htl := texts_length rs
  clear hM hred
  generalize redM (texts rs) = res at *
  by_cases h0 : redE (texts rs) = 0
  · have hres : res = reduceM (texts rs) := by rw [HRM.out, if_pos h0]
    obtain ⟨D, k, hD, hk, hO⟩ := HRED.out h0
    have HRD := Lib.hid (fun (A : Option Addr) (c : Nat) (hA : Nat → Option Addr) (hC : Nat → Nat) (w1 : World) (hb : Below w.heap.size w w1) (hM : MatO w1 w.heap.size A c hA hC (texts rs)) => breduce_any hO hD A c hA hC w w1 hb hM (by omega) hk he)
    have hrl : res.1.length = rs.length := by rw [hres, redOK_len hO, htl]
    have HRL := Lib.hid hrl
    rw [← hres] at HRD
    rw [h0] at HC ⊢
    generalize texts rs = M at *
    clear h0 hres hO HRED HRM hrl
    rw [htl] at HRD
    go_enter Tryz.func17, Tryz.ntmps17
    go_wp2_with fail
    refine HC.out.mono ?_
    rintro e w1 ⟨rfl, hb1⟩
    go_wp2_with fail
    refine (HCL.out w1 (HM.out.below hb1)).mono ?_
    rintro e w2 ⟨A2, c2, rfl, ⟨hA, hC, hM2⟩, hb2⟩
    have b2 := below_lift3 hb1 hb2
    go_wp2_with fail
    refine (HRD.out A2 c2 hA hC w2 b2 (hM2.mono hb1.size)).mono ?_
    rintro e w3 ⟨P, cp, hA', hC', rfl, hP, hM3, hb3⟩
    go_wp2_with fail
    go_ret3
    exact ⟨A2, c2, P, cp, by rw [HRL.out]; rfl, ⟨hA', hC', hM3⟩, hP, hb3⟩
  · have hres : res = ([], []) := by rw [HRM.out, if_neg h0]
    have h0' : (redE (texts rs) != 0) = true := by simpa using h0
    subst hres
    generalize redE (texts rs) = q at *
    clear h0
    go_enter Tryz.func17, Tryz.ntmps17
    go_wp2_with fail
    refine HC.out.mono ?_
    rintro e w1 ⟨rfl, hb1⟩
    go_wp2_with fail
    go_ret3
    exact ⟨none, 0, none, 0, rfl, MatE.nil _ _, OwnS.nil _ _ _, hb1⟩
theorem brank_any (rs : List VecV) (A : Option Addr) (c : Nat) (w : World) (hM : MatAt w A rs) (hR : RsOK rs) (hred : redE (texts rs) = 0 → ∃ D k, D ≤ 4096 ∧ k ≤ 1000 ∧ RedOK D k (texts rs)) (he : Env w) :
    Calls Tryz.prog 20 #[.slice A rs.length c] w fun e w' => e = .returned (.tuple #[.int .i64 ((redM (texts rs)).2.length : Int), .int .i64 (redE (texts rs))]) ∧ Below w.heap.size w w' := by
  have HR := Lib.hid (breduceT_any rs A c w hM hR hred he)
  generalize redM (texts rs) = res at *
  generalize redE (texts rs) = q at *
  clear hM
  go_enter Tryz.func20, Tryz.ntmps20
  go_wp2_with fail
  refine HR.out.mono ?_
  rintro e w1 ⟨O, co, P, cp, rfl, _, _, hb1⟩
  go_wp2_with fail
  go_ret2
  exact ⟨rfl, hb1⟩
end Go.Proofs.YtkcaheaefjcdiaaGreatDoor
