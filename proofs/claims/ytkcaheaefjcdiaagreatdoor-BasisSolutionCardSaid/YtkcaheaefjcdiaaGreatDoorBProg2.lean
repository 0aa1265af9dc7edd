/- basis.clear. -/
import Derived.Test.YtkcaheaefjcdiaaGreatDoorG22
import Derived.Test.YtkcaheaefjcdiaaGreatDoorG20
import Derived.Test.YtkcaheaefjcdiaaGreatDoorG19
import Derived.Deep.RegionHeld3
namespace Go.Proofs.YtkcaheaefjcdiaaGreatDoor
open Go.RowKit Num
set_option linter.unusedVariables false
attribute [local go_sem] B_size B_get B_toList B_mk B_extract B_append

theorem frd_len {D : Nat} {s : Str} (h : FrD D D s) : s.length ≤ 2 * D + 2 := by
  obtain ⟨p, q, h1, h2, h3, h4⟩ := h
  exact FrT.len ⟨p, q, ⟨h1, h2, h3⟩, h4⟩
theorem below_lift {w0 w1 w2 : World} (h1 : Below w0.heap.size w0 w1) (h2 : Below w1.heap.size w1 w2) : Below w0.heap.size w0 w2 := h1.trans (h2.mono h1.size)
/-- every block but those of the rows is as it was -/
def Kept (hA : Nat → Option Addr) (h : Nat) (w w' : World) : Prop := ∀ b, b < w.heap.size → (∀ i, i < h → hA i ≠ some ⟨b, 0, none⟩) → w'.heap[b]? = w.heap[b]?
theorem Kept.refl (hA : Nat → Option Addr) (h : Nat) (w : World) : Kept hA h w w := fun _ _ _ => rfl
theorem Kept.below {hA : Nat → Option Addr} {h : Nat} {w w1 w2 : World} (k : Kept hA h w w1) (hs : w.heap.size ≤ w1.heap.size) (hb : Below w1.heap.size w1 w2) : Kept hA h w w2 := fun b hbl hn => (hb.block b (Nat.lt_of_lt_of_le hbl hs)).trans (k b hbl hn)
theorem Kept.store {hA : Nat → Option Addr} {h : Nat} {w w1 : World} (k : Kept hA h w w1) {i g : Nat} (hi : i < h) (hg : hA i = some ⟨g, 0, none⟩) (j : Nat) (u : Value) : Kept hA h w (w1.setCell ⟨g, j, none⟩ u) := fun b hbl hn => by
  rw [Below.heap_setCell _ _ _ _ (fun e => hn i hi (by rw [hg, e]))]; exact k b hbl hn
theorem set_self (M : List (List Str)) (i : Nat) : M.set i (M.getD i []) = M := by
  apply List.ext_getElem?
  intro j
  rw [List.getElem?_set]
  by_cases e : i = j
  · subst e
    rw [if_pos rfl]
    split
    · rename_i h; rw [List.getD_eq_getElem?_getD, List.getElem?_eq_getElem h]; rfl
    · rename_i h; rw [List.getElem?_eq_none (by omega)]
  · rw [if_neg e]
set_option maxHeartbeats 4000000 in
set_option maxRecDepth 100000 in
theorem bclear_any {D k : Nat} {M : List (List Str)} {row col : Nat} (hO : ClearOps D k M row col) (hD : D ≤ 4096) (kb : Addr) (A : Option Addr) (c : Nat) (hA : Nat → Option Addr) (hC : Nat → Nat) (w0 w : World) (h0 : Below w0.heap.size w0 w) (hM : MatO w w0.heap.size A c hA hC M)
    (hm : M.length ≤ 1000) (hk : k ≤ 1000) (he : Env w0) :
    Calls Tryz.prog 59 #[.pointer (some kb), .slice A M.length c, .int .i64 row, .int .i64 col] w fun e w' => e = .returned (.tuple #[]) ∧ MatO w' w0.heap.size A c hA hC (clearM M row col) ∧ Below w0.heap.size w0 w' ∧ w.heap.size ≤ w'.heap.size ∧ Kept hA M.length w w' := by
  have hr := hO.row_lt
  have hc := hO.col_lt
  have hcap := hM.outer.cap
  unfold maxLen at hcap
  obtain ⟨gA, rfl, hgA1, hgA2, hhdr, hfzA⟩ := hM.hdr (by omega)
  have hrl := hO.rowlen hr
  obtain ⟨gr, hgr, hgr1, hgr2, hrc, hfzr⟩ := hM.row hr (by omega)
  have hcr := (hM.rows row hr).cap
  rw [hrl] at hrc hcr
  unfold maxLen at hcr
  have c0 := hhdr row hr
  rw [hrl, hgr] at c0
  have c1 := hrc col hc
  have hgAr : gA ≠ gr := fun e => hM.apart0 row hr _ hgr (by rw [e])
  have HM := Lib.hid hM
  clear hhdr hrc
  go_enter Tryz.func59, Tryz.ntmps59
  go_wp2_with fail
  clear c0 c1
  go_loopw [9, 10, 27] (fun _ _ i wr => ∃ j : Nat, j ≤ k ∧ i = .int .i64 j ∧ MatO wr w0.heap.size (some ⟨gA, 0, none⟩) c hA hC (M.set row (mixR (scaleR (M.getD row []) (cellM M row col)) (M.getD row []) j)) ∧ Below w0.heap.size w0 wr ∧ w.heap.size ≤ wr.heap.size ∧ Kept hA M.length w wr) (fun _ _ i _ => k - (intOf i).toNat)
  case atStart => exact ⟨0, Nat.zero_le _, rfl, by rw [mixR_zero, set_self]; exact hM, h0, Nat.le_refl _, Kept.refl _ _ _⟩
  case round =>
    obtain ⟨j, hj, rfl, hMj, hb0, hsz, hkk⟩ := hrel
    by_cases hlt : j < k
    · have hlen2 : (M.set row (mixR (scaleR (M.getD row []) (cellM M row col)) (M.getD row []) j)).length = M.length := List.length_set ..
      have hfl := hO.firstlen
      have hml : (mixR (scaleR (M.getD row []) (cellM M row col)) (M.getD row []) j).length = k := by rw [mixR_len (by omega), hrl]
      have hrow : (M.set row (mixR (scaleR (M.getD row []) (cellM M row col)) (M.getD row []) j)).getD row [] = mixR (scaleR (M.getD row []) (cellM M row col)) (M.getD row []) j := by rw [getD_set hr, if_pos rfl]
      obtain ⟨gA', e1, _, _, hhdr, _⟩ := hMj.hdr (by omega)
      obtain rfl : gA = gA' := by injection e1 with e1; injection e1
      obtain ⟨gr', e2, _, hgrw, hrc, hfz⟩ := hMj.row (i := row) (by omega) (by rw [hrow, hml]; omega)
      obtain rfl : gr = gr' := by rw [hgr] at e2; injection e2 with e2; injection e2
      have d0 := hhdr row (by omega)
      rw [hrow, hml, hgr] at d0
      have d1 := hrc j (by rw [hrow, hml]; exact hlt)
      have hcell : cellM (M.set row (mixR (scaleR (M.getD row []) (cellM M row col)) (M.getD row []) j)) row j = cellM M row j := by
        show (List.getD (M.set row _) row []).getD j [] = _
        rw [hrow, mixR_getD (by omega), if_neg (by omega)]; rfl
      rw [hcell] at d1
      have HS := Lib.hid (fun (w2 : World) (h : MatO w2 w0.heap.size (some ⟨gA, 0, none⟩) c hA hC (M.set row (mixR (scaleR (M.getD row []) (cellM M row col)) (M.getD row []) j))) => show MatO (w2.setCell ⟨gr, j, none⟩ (.string (B (quoQS (cellM M row j) (cellM M row col))))) w0.heap.size (some ⟨gA, 0, none⟩) c hA hC (M.set row (mixR (scaleR (M.getD row []) (cellM M row col)) (M.getD row []) (j + 1))) by
        have := h.store (i := row) (j := j) (by omega) hgr (quoQS (cellM M row j) (cellM M row col))
        rw [hrow, List.set_set] at this
        rw [← mixR_succ (by omega) (by omega) [], hO.first_get hlt]
        exact this)
      obtain ⟨q1, q2⟩ := hO.quo j hlt
      have HQ := Lib.hid (fun (w : World) (he : Env w) => bdiv_any kb (cellM M row j) (cellM M row col) w (by have := frd_len (hO.mat.cell hr hlt); omega) (by have := frd_len (hO.mat.cell hr hc); omega) q1 he)
      generalize quoQS (cellM M row j) (cellM M row col) = q at *
      generalize cellM M row j = a at *
      generalize cellM M row col = p at *
      clear hhdr hrc
      generalize hMn : M.set row (mixR (scaleR (M.getD row []) p) (M.getD row []) (j + 1)) = Mn at *
      have HMN := Lib.hid hMn
      clear hMn
      generalize M.set row (mixR (scaleR (M.getD row []) p) (M.getD row []) j) = Mo at *
      have hbd := below_drew hb0
      have hed := he.below hbd
      have hgw : gA < wr.drew.heap.size := by show gA < wr.heap.size; omega
      have hgrw' : gr < wr.drew.heap.size := hgrw
      have HL := Lib.hid (fun (w2 : World) (hb2 : Below wr.drew.heap.size wr.drew w2) => show w2.cell? ⟨gA, row, none⟩ = some (.slice (some ⟨gr, 0, none⟩) k (hC row)) ∧ w2.cell? ⟨gr, j, none⟩ = some (.string (B a)) ∧ w2.frozen? ⟨gr, j, none⟩ = false from
        ⟨(hb2.cell (p := ⟨gA, row, none⟩) hgw).trans d0, (hb2.cell (p := ⟨gr, j, none⟩) hgrw').trans d1, (hb2.frozen (p := ⟨gr, j, none⟩) hgrw').trans (hfz j)⟩)
      go_wp2_with fail
      go_region_with (go_at_call 94; refine (HQ.out _ hed).mono ?_; rintro e w2 ⟨rfl, hb2⟩; obtain ⟨l0, l1, l2⟩ := HL.out w2 hb2)
      all_goals
        have b2 := below_lift hbd hb2
        have hM2 := HS.out w2 ((hMj.below (below_drew (Below.refl _ _))).below hb2)
        go_wp2_with fail
        go_roundw
        case rel => exact ⟨j + 1, by omega, by go_num, by rw [HMN.out]; exact hM2, b2.setCell hgr1 _, Nat.le_trans (show w.heap.size ≤ wr.drew.heap.size from hsz) (by rw [World.size_setCell]; exact hb2.size), (hkk.below hsz ((Below.refl _ wr).drew.trans hb2)).store hr hgr _ _⟩
        case measure => simp [intOf]; omega
    · have hjk : j = k := by omega
      have hM1 : MatO wr w0.heap.size (some ⟨gA, 0, none⟩) c hA hC (clrM M row col 0) := by
        rw [clr_zero]
        rw [mixR_full (by rw [hO.firstlen, hrl]) (by rw [hrl]; exact hjk)] at hMj
        exact hMj
      clear hMj
      have hkx : ¬ (j : Int) < (k : Int) := by omega
      clear hjk
      go_wp2_with fail
      go_loopw [11, 12, 13, 14, 45] (fun _ _ _ _ i wr => ∃ l : Nat, l ≤ M.length ∧ i = .int .i64 l ∧ MatO wr w0.heap.size (some ⟨gA, 0, none⟩) c hA hC (clrM M row col l) ∧ Below w0.heap.size w0 wr ∧ w.heap.size ≤ wr.heap.size ∧ Kept hA M.length w wr) (fun _ _ _ _ i _ => M.length - (intOf i).toNat)
      case atStart => exact ⟨0, Nat.zero_le _, rfl, hM1, hb0, hsz, hkk⟩
      case round =>
        clear hM1 hb0 hsz hkk hlt hj hkx
        obtain ⟨l, hl, rfl, hMl, hb0, hsz, hkk⟩ := hrel
        by_cases hlt : l < M.length
        · have hlenl := clrM_len M row col l
          have hrll := hO.clr_rowlen l hlt
          have hrl0 := hO.rowlen hlt
          obtain ⟨gA', e1, _, hgAw, hhdr, hfzA'⟩ := hMl.hdr (by omega)
          obtain rfl : gA = gA' := by injection e1 with e1; injection e1
          obtain ⟨gl, hgl, hgl1, hgl2, hlc, hfl⟩ := hMl.row (i := l) (by omega) (by omega)
          rw [hrll] at hlc
          have d0 := hhdr l (by omega)
          rw [hrll, hgl] at d0
          have d1 := hlc col hc
          have HHDR := Lib.hid hhdr
          have HLC := Lib.hid hlc
          clear hhdr hlc
          by_cases hlr : l = row
          · have HSK := Lib.hid (hO.clr_skip hlt (.inl hlr))
            have hlr' : ((l : Int) == (row : Int)) = true := by rw [hlr]; simp
            clear hlr
            generalize cellM (clrM M row col l) l col = f at *
            go_wp2_with fail
            go_roundw
            case rel => exact ⟨l + 1, by omega, by go_num, by rw [HSK.out]; exact hMl, hb0, hsz, hkk⟩
            case measure => simp [intOf]; omega
          · have hlr' : ((l : Int) == (row : Int)) = false := by simp; omega
            have hold : (clrM M row col l).getD l [] = M.getD l [] := by rw [hO.clr_row l hlt, if_neg (fun h => h.elim (by omega) hlr)]
            have hf : cellM (clrM M row col l) l col = cellM M l col := by unfold cellM at hold ⊢; rw [hold]
            rw [hf] at d1
            by_cases hz : cellM M l col = [48]
            · have HSK := Lib.hid (hO.clr_skip hlt (.inr hz))
              rw [hz] at d1
              clear hz hlr hf
              go_wp2_with fail
              go_roundw
              case rel => exact ⟨l + 1, by omega, by go_num, by rw [HSK.out]; exact hMl, hb0, hsz, hkk⟩
              case measure => simp [intOf]; omega
            · have hz' : (cellM M l col == [48]) = false := by simpa using hz
              obtain ⟨gr', e2, _, hgrw, hrcw, hfrw⟩ := hMl.row (i := row) (by omega) (by rw [hO.clr_rowlen l hr]; omega)
              obtain rfl : gr = gr' := by rw [hgr] at e2; injection e2 with e2; injection e2
              have d2 := HHDR.out row (by omega)
              rw [hO.clr_rowlen l hr, hgr] at d2
              have hgne : gl ≠ gr := fun e => hMl.apart l row (by omega) (by omega) hlr _ hgl (by rw [hgr, e])
              have hMs : MatO wr w0.heap.size (some ⟨gA, 0, none⟩) c hA hC ((clrM M row col l).set l (mixR ((clearM M row col).getD l []) (M.getD l []) 0)) := by rw [mixR_zero, ← hold, set_self]; exact hMl
              have HCL := Lib.hid (hMl.rows l (by omega)).cap
              have HCR := Lib.hid (hMl.rows row (by omega)).cap
              have HLF := Lib.hid (show (cellM M l col).length ≤ 10000 from by have := frd_len (hO.mat.cell hlt hc); omega)
              clear hrcw hz hf

              generalize hfe : cellM M l col = f at *
              have HFE := Lib.hid hfe
              clear hfe
              go_wp2_with fail
              clear d0 d1 d2
              go_loopw [13, 14, 67] (fun _ _ i wr => ∃ j : Nat, j ≤ k ∧ i = .int .i64 j ∧ MatO wr w0.heap.size (some ⟨gA, 0, none⟩) c hA hC ((clrM M row col l).set l (mixR ((clearM M row col).getD l []) (M.getD l []) j)) ∧ Below w0.heap.size w0 wr ∧ w.heap.size ≤ wr.heap.size ∧ Kept hA M.length w wr) (fun _ _ i _ => k - (intOf i).toNat)
              case atStart => exact ⟨0, Nat.zero_le _, rfl, hMs, hb0, hsz, hkk⟩
              case round =>
                clear hMs hMl hb0 hsz hkk hgAw hgl2 hgrw hfl hfrw hfzA'
                obtain ⟨j, hj, rfl, hMj, hb0, hsz, hkk⟩ := hrel
                have hnl := hO.newlen hlt
                by_cases hlj : j < k
                · have hlen2 : ((clrM M row col l).set l (mixR ((clearM M row col).getD l []) (M.getD l []) j)).length = M.length := by rw [List.length_set, hlenl]
                  have hml : (mixR ((clearM M row col).getD l []) (M.getD l []) j).length = k := by rw [mixR_len (by omega), hrl0]
                  have hrowl : ((clrM M row col l).set l (mixR ((clearM M row col).getD l []) (M.getD l []) j)).getD l [] = mixR ((clearM M row col).getD l []) (M.getD l []) j := by rw [getD_set (by omega), if_pos rfl]
                  have hrowr : ((clrM M row col l).set l (mixR ((clearM M row col).getD l []) (M.getD l []) j)).getD row [] = (clearM M row col).getD row [] := by rw [getD_set (by omega), if_neg (fun e => hlr e.symm), hO.clr_row l hr, if_pos (.inr rfl)]
                  obtain ⟨gA', e1, _, hgAw, hhdr, _⟩ := hMj.hdr (by omega)
                  obtain rfl : gA = gA' := by injection e1 with e1; injection e1
                  obtain ⟨gl', e2, _, hglw, hlc, hfl⟩ := hMj.row (i := l) (by omega) (by rw [hrowl, hml]; omega)
                  obtain rfl : gl = gl' := by rw [hgl] at e2; injection e2 with e2; injection e2
                  obtain ⟨gr', e3, _, hgrw, hrc, hfr⟩ := hMj.row (i := row) (by omega) (by rw [hrowr, hO.newlen hr]; omega)
                  obtain rfl : gr = gr' := by rw [hgr] at e3; injection e3 with e3; injection e3
                  have d0 := hhdr l (by omega)
                  rw [hrowl, hml, hgl] at d0
                  have d2 := hhdr row (by omega)
                  rw [hrowr, hO.newlen hr, hgr] at d2
                  have d1 := hlc j (by rw [hrowl, hml]; exact hlj)
                  have d3 := hrc j (by rw [hrowr, hO.newlen hr]; exact hlj)
                  have hx : cellM ((clrM M row col l).set l (mixR ((clearM M row col).getD l []) (M.getD l []) j)) l j = cellM M l j := by
                    show (List.getD ((clrM M row col l).set l _) l []).getD j [] = _
                    rw [hrowl, mixR_getD (by omega), if_neg (by omega)]; rfl
                  have ha : cellM ((clrM M row col l).set l (mixR ((clearM M row col).getD l []) (M.getD l []) j)) row j = quoQS (cellM M row j) (cellM M row col) := by
                    show (List.getD ((clrM M row col l).set l _) row []).getD j [] = _
                    rw [hrowr]
                    have := clearM_cell hO.mat hr hr hlj (col := col)
                    rw [if_pos rfl] at this
                    exact this
                  rw [hx] at d1
                  rw [ha] at d3
                  have hng := hO.new_get hlt hlr hlj
                  obtain ⟨q1, q2, q3, q4⟩ := hO.less l hlt hlr j hlj
                  have q5 := hO.skip l hlt hlr j hlj
                  have hqf := frd_len (hO.quo j hlj).2
                  have hmf := frd_len q2
                  have hxf := frd_len (hO.mat.cell hlt hlj)
                  rw [HFE.out] at hng q1 q2 q3 q4 q5 hmf
                  have HST := Lib.hid (show ∀ (w2 : World), MatO w2 w0.heap.size (some ⟨gA, 0, none⟩) c hA hC ((clrM M row col l).set l (mixR ((clearM M row col).getD l []) (M.getD l []) j)) → MatO (w2.setCell ⟨gl, j, none⟩ (.string (B (subQS (cellM M l j) (mulQS f (quoQS (cellM M row j) (cellM M row col))))))) w0.heap.size (some ⟨gA, 0, none⟩) c hA hC ((clrM M row col l).set l (mixR ((clearM M row col).getD l []) (M.getD l []) (j + 1))) by
                    intro w2 h
                    have := h.store (i := l) (j := j) (by omega) hgl (subQS (cellM M l j) (mulQS f (quoQS (cellM M row j) (cellM M row col))))
                    rw [hrowl, List.set_set] at this
                    rw [← mixR_succ (by omega) (by omega) [], hng]
                    exact this)
                  have HSKIP := Lib.hid (show quoQS (cellM M row j) (cellM M row col) = [48] → mixR ((clearM M row col).getD l []) (M.getD l []) (j + 1) = mixR ((clearM M row col).getD l []) (M.getD l []) j from fun h => mixR_skip (by omega) (by omega) [] (by rw [hng, q5 (.inr h)]; rfl))
                  clear hng q2 q4 q5 hx ha hhdr hlc hrc hrowl hrowr hml hlen2
                  have HM1 := Lib.hid (fun (w : World) (he : Env w) => bmul_any kb f (quoQS (cellM M row j) (cellM M row col)) w (by have := HLF.out; omega) (by omega) q1 he)
                  have HM2 := Lib.hid (fun (w : World) (he : Env w) => bsub_any kb (cellM M l j) (mulQS f (quoQS (cellM M row j) (cellM M row col))) w (by omega) (by omega) q3 he)
                  clear q1 q3 hqf hmf hxf
                  generalize subQS (cellM M l j) (mulQS f (quoQS (cellM M row j) (cellM M row col))) = y at *
                  generalize mulQS f (quoQS (cellM M row j) (cellM M row col)) = z at *
                  generalize quoQS (cellM M row j) (cellM M row col) = a at *
                  generalize cellM M l j = x at *
                  by_cases haz : a = [48]
                  · have HSK := Lib.hid (HSKIP.out haz)
                    rw [haz] at d3
                    clear haz HST HM1 HM2 HSKIP
                    go_wp2_with fail
                    go_roundw
                    case rel => exact ⟨j + 1, by omega, by go_num, by rw [HSK.out]; exact hMj, hb0, hsz, hkk⟩
                    case measure => simp [intOf]; omega
                  · have haz' : (a == [48]) = false := by simpa using haz
                    clear haz HSKIP
                    have hbd := below_drew hb0
                    have hed := he.below hbd
                    have HED := Lib.hid (fun (w2 : World) (hb2 : Below wr.drew.heap.size wr.drew w2) => hed.below hb2)
                    have hgAw' : gA < wr.drew.heap.size := hgAw
                    have hglw' : gl < wr.drew.heap.size := hglw
                    have HL := Lib.hid (fun (w2 : World) (hb2 : Below wr.drew.heap.size wr.drew w2) => show w2.cell? ⟨gA, l, none⟩ = some (.slice (some ⟨gl, 0, none⟩) k (hC l)) ∧ w2.cell? ⟨gl, j, none⟩ = some (.string (B x)) ∧ w2.frozen? ⟨gl, j, none⟩ = false from
                      ⟨(hb2.cell (p := ⟨gA, l, none⟩) hgAw').trans d0, (hb2.cell (p := ⟨gl, j, none⟩) hglw').trans d1, (hb2.frozen (p := ⟨gl, j, none⟩) hglw').trans (hfl j)⟩)
                    go_wp2_with fail
                    go_region_with (first
                      | (go_at_call 48; refine (HM1.out _ hed).mono ?_; rintro e w2 ⟨rfl, hb2⟩; obtain ⟨l0, l1, l2⟩ := HL.out w2 hb2)
                      | (go_at_call 95; refine (HM2.out _ (HED.out _ hb2)).mono ?_; rintro e w3 ⟨rfl, hb3⟩; have hb4 := below_lift hb2 hb3; obtain ⟨m0, m1, m2⟩ := HL.out w3 hb4))
                    all_goals
                      have b2 := below_lift hbd hb4
                      have hM2 := HST.out w3 ((hMj.below (below_drew (Below.refl _ _))).below hb4)
                      go_wp2_with fail
                      go_roundw
                      case rel => exact ⟨j + 1, by omega, by go_num, hM2, b2.setCell hgl1 _, Nat.le_trans (show w.heap.size ≤ wr.drew.heap.size from hsz) (by rw [World.size_setCell]; exact hb4.size), (hkk.below hsz ((Below.refl _ wr).drew.trans hb4)).store hlt hgl _ _⟩
                      case measure => simp [intOf]; omega
                · have hjk : j = k := by omega
                  have HE := Lib.hid (show MatO wr w0.heap.size (some ⟨gA, 0, none⟩) c hA hC (clrM M row col (l + 1)) by
                    rw [mixR_full (by omega) (by omega), clr_succ hlt] at hMj; exact hMj)
                  have hkx : ¬ (j : Int) < (k : Int) := by omega
                  clear hjk hMj
                  go_wp2_with fail
                  go_roundw
                  case rel => exact ⟨l + 1, by omega, by go_num, HE.out, hb0, hsz, hkk⟩
                  case measure => simp [intOf]; omega
        · have HE := Lib.hid (show MatO wr w0.heap.size (some ⟨gA, 0, none⟩) c hA hC (clearM M row col) by rw [show l = M.length by omega, clr_full] at hMl; exact hMl)
          clear hMl
          go_wp2_with fail
          go_end0
          exact ⟨rfl, HE.out, hb0, hsz, hkk⟩
end Go.Proofs.YtkcaheaefjcdiaaGreatDoor
