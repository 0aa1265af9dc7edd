/- The laws of basis: short, few, asked, right, same, rows. -/
import Derived.Test.YtkcaheaefjcdiaaGreatDoorG26
import Derived.Test.YtkcaheaefjcdiaaGreatDoorG24
namespace Go.Proofs.YtkcaheaefjcdiaaGreatDoor
open Go.RowKit Num
set_option linter.unusedVariables false
attribute [local go_sem] B_size B_get B_toList B_mk B_extract B_append

def shortB (n : Nat) (xs : List Str) : Bool := xs.all fun x => decide (x.length ≤ n)
def rowB' (m n : Nat) (xs : List Str) : Bool := decide (xs.length ≤ m) && shortB n xs
def fewB (n : Nat) (M : List (List Str)) : Bool := decide (M.length ≤ 4) && M.all (rowB' 5 n)
def askB (M : List (List Str)) : Bool := fewB 20 M || (decide (M.length ≤ 70) && M.all (rowB' 70 20) && decide (rchkE M = 4))
def rightB (M : List (List Str)) : Bool := decide (rchkE M = 0) && allR M
/-- a matrix as it may come in -/
structure RsIn (rs : List VecV) : Prop where
  len : rs.length ≤ maxLen
  row : ∀ r ∈ rs, r.xs.length ≤ maxLen
  txt : ∀ r ∈ rs, ∀ x ∈ r.xs, x.length ≤ maxLen
set_option maxRecDepth 100000 in
theorem bshort_any (xs : List Str) (X : Option Addr) (cx n : Nat) (w : World) (hX : Cells w X (strs xs)) (hl : xs.length ≤ maxLen) (hx : ∀ x ∈ xs, x.length ≤ maxLen) (hn : n ≤ 1000) :
    Calls Tryz.prog 10 #[.slice X xs.length cx, .int .i64 n] w fun e w' => e = .returned (.bool (shortB n xs)) ∧ w' = w := by
  unfold maxLen at hl hx
  have HX := Lib.hid hX
  have HXX := Lib.hid hx
  clear hX hx
  go_enter Tryz.func10, Tryz.ntmps10
  go_wp2_with fail
  go_loop [6, 9] (fun _ i => ∃ k : Nat, k ≤ xs.length ∧ i = .int .i64 k ∧ (xs.take k).all (fun x => decide (x.length ≤ n)) = true) (fun _ i => xs.length - (intOf i).toNat)
  case atStart => exact ⟨0, Nat.zero_le _, rfl, rfl⟩
  case round =>
    obtain ⟨k, hk, rfl, hall⟩ := hrel
    have HA := Lib.hid hall
    clear hall
    by_cases hlt : k < xs.length
    · obtain ⟨b, off, rfl, hb, hc⟩ := HX.out (by rw [strs_length]; omega)
      have hck := hc k _ (strs_get _ _ hlt)
      have hxg : xs.getD k [] = xs[k] := by rw [List.getD_eq_getElem?_getD, List.getElem?_eq_getElem hlt]; rfl
      rw [hxg] at hck
      have hxl := HXX.out _ (List.getElem_mem hlt)
      have HS := Lib.hid (fun h => all_take_s (f := fun x : Str => decide (x.length ≤ n)) hlt HA.out h)
      have HB := Lib.hid (fun h => all_miss (f := fun x : Str => decide (x.length ≤ n)) hlt h)
      generalize xs[k] = x at *
      clear hc hxg
      by_cases hr : x.length ≤ n
      · have hr' : ¬ (n : Int) < (x.length : Int) := by omega
        have HV := Lib.hid (HS.out (by simpa using hr))
        go_wp2_with fail
        go_round
        case rel => exact ⟨k + 1, by omega, by go_num, HV.out⟩
        case measure => simp [intOf]; omega
      · have hr' : (n : Int) < (x.length : Int) := by omega
        have HV := Lib.hid (show shortB n xs = false from HB.out (by simpa using hr))
        go_wp2_with fail
        go_ret
        exact ⟨ret_bool HV.out.symm, rfl⟩
    · have HV := Lib.hid (show shortB n xs = true from all_full (show k = xs.length by omega) HA.out)
      go_wp2_with fail
      go_ret
      exact ⟨ret_bool HV.out.symm, rfl⟩
set_option maxRecDepth 100000 in
theorem bfew_any (rs : List VecV) (A : Option Addr) (c n : Nat) (w : World) (hM : MatAt w A rs) (hI : RsIn rs) (hn : n ≤ 1000) :
    Calls Tryz.prog 15 #[.slice A rs.length c, .int .i64 n] w fun e w' => e = .returned (.bool (fewB n (texts rs))) ∧ w' = w := by
  have hlr := hI.len
  unfold maxLen at hlr
  have HM := Lib.hid hM
  have HI := Lib.hid hI
  have HV0 := Lib.hid (show fewB n (texts rs) = (decide (rs.length ≤ 4) && rs.all (fun r => rowB' 5 n r.xs)) by unfold fewB; rw [texts_length]; unfold texts; rw [List.all_map]; rfl)
  rw [HV0.out]
  clear hM hI
  by_cases h4 : rs.length ≤ 4
  · have h4' : ¬ (4 : Int) < (rs.length : Int) := by omega
    rw [show decide (rs.length ≤ 4) = true by simpa using h4, Bool.true_and]
    go_enter Tryz.func15, Tryz.ntmps15
    go_wp2_with fail
    go_loop [6, 12] (fun _ i => ∃ k : Nat, k ≤ rs.length ∧ i = .int .i64 k ∧ (rs.take k).all (fun r => rowB' 5 n r.xs) = true) (fun _ i => rs.length - (intOf i).toNat)
    case atStart => exact ⟨0, Nat.zero_le _, rfl, rfl⟩
    case round =>
      obtain ⟨k, hk, rfl, hall⟩ := hrel
      have HA := Lib.hid hall
      clear hall
      by_cases hlt : k < rs.length
      · obtain ⟨b, off, rfl, hb, hc⟩ := HM.out.1 (by omega)
        have hck := hc k hlt
        have hrl := HI.out.row _ (List.getElem_mem hlt)
        unfold maxLen at hrl
        have HC := Lib.hid (bshort_any rs[k].xs rs[k].A rs[k].c n w (HM.out.2 _ (List.getElem_mem hlt)) (HI.out.row _ (List.getElem_mem hlt)) (HI.out.txt _ (List.getElem_mem hlt)) hn)
        have HS := Lib.hid (fun h => all_take_s (f := fun r : VecV => rowB' 5 n r.xs) hlt HA.out h)
        have HB := Lib.hid (fun h => all_miss (f := fun r : VecV => rowB' 5 n r.xs) hlt h)
        generalize rs[k] = r at *
        clear hc
        by_cases h5 : r.xs.length ≤ 5
        · have h5' : ¬ (5 : Int) < (r.xs.length : Int) := by omega
          have HRB := Lib.hid (show rowB' 5 n r.xs = shortB n r.xs by unfold rowB'; rw [show decide (r.xs.length ≤ 5) = true by simpa using h5]; rfl)
          cases hs : shortB n r.xs
          · have HV := Lib.hid (HB.out (by rw [HRB.out]; exact hs))
            rw [hs] at HC
            go_wp2_with fail
            refine HC.out.mono ?_
            rintro e w1 ⟨rfl, h1⟩
            obtain rfl := h1.symm
            go_wp2_with fail
            go_ret
            exact ⟨ret_bool HV.out.symm, rfl⟩
          · have HV := Lib.hid (HS.out (by rw [HRB.out]; exact hs))
            rw [hs] at HC
            go_wp2_with fail
            refine HC.out.mono ?_
            rintro e w1 ⟨rfl, h1⟩
            obtain rfl := h1.symm
            go_wp2_with fail
            go_round
            case rel => exact ⟨k + 1, by omega, by go_num, HV.out⟩
            case measure => simp [intOf]; omega
        · have h5' : (5 : Int) < (r.xs.length : Int) := by omega
          have HV := Lib.hid (HB.out (by unfold rowB'; rw [show decide (r.xs.length ≤ 5) = false by simpa using h5]; rfl))
          go_wp2_with fail
          go_ret
          exact ⟨ret_bool HV.out.symm, rfl⟩
      · have HV := Lib.hid (all_full (show k = rs.length by omega) HA.out)
        go_wp2_with fail
        go_ret
        exact ⟨ret_bool HV.out.symm, rfl⟩
  · have h4' : (4 : Int) < (rs.length : Int) := by omega
    rw [show decide (rs.length ≤ 4) = false by simpa using h4, Bool.false_and]
    go_enter Tryz.func15, Tryz.ntmps15
    go_wp2_with fail
    go_ret
    exact ⟨rfl, rfl⟩
end Go.Proofs.YtkcaheaefjcdiaaGreatDoor
/- The laws of basis: asked, right, same, rows. -/
namespace Go.Proofs.YtkcaheaefjcdiaaGreatDoor
open Go.RowKit Num
set_option linter.unusedVariables false
attribute [local go_sem] B_size B_get B_toList B_mk B_extract B_append

set_option maxRecDepth 100000 in
theorem basked_any (rs : List VecV) (A : Option Addr) (c : Nat) (w : World) (hM : MatAt w A rs) (hI : RsIn rs) :
    Calls Tryz.prog 9 #[.slice A rs.length c] w fun e w' => e = .returned (.bool (askB (texts rs))) ∧ Below w.heap.size w w' := by
  have hlr := hI.len
  unfold maxLen at hlr
  have HF := Lib.hid (bfew_any rs A c 20 w hM hI (by omega))
  have HM := Lib.hid hM
  have HI := Lib.hid hI
  have HV0 := Lib.hid (show askB (texts rs) = (fewB 20 (texts rs) || (decide (rs.length ≤ 70) && rs.all (fun r => rowB' 70 20 r.xs) && decide (rchkE (texts rs) = 4))) by unfold askB; rw [texts_length]; unfold texts; rw [List.all_map]; rfl)
  rw [HV0.out]
  clear hM hI
  cases hf : fewB 20 (texts rs)
  · rw [hf] at HF
    rw [Bool.false_or]
    by_cases h4 : rs.length ≤ 70
    · have h4' : ¬ (70 : Int) < (rs.length : Int) := by omega
      rw [show decide (rs.length ≤ 70) = true by simpa using h4, Bool.true_and]
      go_enter Tryz.func9, Tryz.ntmps9
      go_wp2_with fail
      refine HF.out.mono ?_
      rintro e w1 ⟨rfl, h1⟩
      obtain rfl := h1.symm
      go_wp2_with fail
      go_loop [4, 12] (fun _ i => ∃ k : Nat, k ≤ rs.length ∧ i = .int .i64 k ∧ (rs.take k).all (fun r => rowB' 70 20 r.xs) = true) (fun _ i => rs.length - (intOf i).toNat)
      case atStart => exact ⟨0, Nat.zero_le _, rfl, rfl⟩
      case round =>
        obtain ⟨k, hk, rfl, hall⟩ := hrel
        have HA := Lib.hid hall
        clear hall
        by_cases hlt : k < rs.length
        · obtain ⟨b, off, rfl, hb, hc⟩ := HM.out.1 (by omega)
          have hck := hc k hlt
          have hrl := HI.out.row _ (List.getElem_mem hlt)
          unfold maxLen at hrl
          have HC := Lib.hid (bshort_any rs[k].xs rs[k].A rs[k].c 20 w (HM.out.2 _ (List.getElem_mem hlt)) (HI.out.row _ (List.getElem_mem hlt)) (HI.out.txt _ (List.getElem_mem hlt)) (by omega))
          have HS := Lib.hid (fun h => all_take_s (f := fun r : VecV => rowB' 70 20 r.xs) hlt HA.out h)
          have HB := Lib.hid (fun h => all_miss (f := fun r : VecV => rowB' 70 20 r.xs) hlt h)
          generalize rs[k] = r at *
          clear hc
          by_cases h5 : r.xs.length ≤ 70
          · have h5' : ¬ (70 : Int) < (r.xs.length : Int) := by omega
            have HRB := Lib.hid (show rowB' 70 20 r.xs = shortB 20 r.xs by unfold rowB'; rw [show decide (r.xs.length ≤ 70) = true by simpa using h5]; rfl)
            cases hs : shortB 20 r.xs
            · have HV := Lib.hid (HB.out (by rw [HRB.out]; exact hs))
              rw [hs] at HC
              go_wp2_with fail
              refine HC.out.mono ?_
              rintro e w1 ⟨rfl, h1⟩
              obtain rfl := h1.symm
              go_wp2_with fail
              go_ret
              exact ⟨ret_bool (by rw [HV.out]; rfl), Below.refl _ _⟩
            · have HV := Lib.hid (HS.out (by rw [HRB.out]; exact hs))
              rw [hs] at HC
              go_wp2_with fail
              refine HC.out.mono ?_
              rintro e w1 ⟨rfl, h1⟩
              obtain rfl := h1.symm
              go_wp2_with fail
              go_round
              case rel => exact ⟨k + 1, by omega, by go_num, HV.out⟩
              case measure => simp [intOf]; omega
          · have h5' : (70 : Int) < (r.xs.length : Int) := by omega
            have HV := Lib.hid (HB.out (by unfold rowB'; rw [show decide (r.xs.length ≤ 70) = false by simpa using h5]; rfl))
            go_wp2_with fail
            go_ret
            exact ⟨ret_bool (by rw [HV.out]; rfl), Below.refl _ _⟩
        · have hall2 := all_full (show k = rs.length by omega) HA.out
          have HV := Lib.hid hall2
          have hrow : ∀ r ∈ rs, r.xs.length ≤ 70 := fun r hr => by
            have := List.all_eq_true.1 hall2 r hr
            unfold rowB' at this
            rw [Bool.and_eq_true, decide_eq_true_iff] at this
            exact this.1
          have HCK := Lib.hid (brcheck_any rs A c w HM.out (by omega) (fun r hr => by have := hrow r hr; omega))
          clear hall2 hrow
          generalize hqe : rchkE (texts rs) = q at *
          have HQE := Lib.hid hqe
          clear hqe
          by_cases hq : q = 4
          · have hq' : (q == 4) = true := by simpa using hq
            have HD := Lib.hid (show decide (q = 4) = true by simpa using hq)
            clear hq
            go_wp2_with fail
            refine HCK.out.mono ?_
            rintro e w1 ⟨rfl, hb1⟩
            go_wp2_with fail
            go_ret
            exact ⟨ret_bool (by rw [HV.out, HQE.out, HD.out]; rfl), hb1⟩
          · have hq' : (q == 4) = false := by simpa using hq
            have HD := Lib.hid (show decide (q = 4) = false by simpa using hq)
            clear hq
            go_wp2_with fail
            refine HCK.out.mono ?_
            rintro e w1 ⟨rfl, hb1⟩
            go_wp2_with fail
            go_ret
            exact ⟨ret_bool (by rw [HV.out, HQE.out, HD.out]; rfl), hb1⟩
    · have h4' : (70 : Int) < (rs.length : Int) := by omega
      rw [show decide (rs.length ≤ 70) = false by simpa using h4, Bool.false_and, Bool.false_and]
      go_enter Tryz.func9, Tryz.ntmps9
      go_wp2_with fail
      refine HF.out.mono ?_
      rintro e w1 ⟨rfl, h1⟩
      obtain rfl := h1.symm
      go_wp2_with fail
      go_ret
      exact ⟨rfl, Below.refl _ _⟩
  · rw [hf] at HF
    rw [Bool.true_or]
    go_enter Tryz.func9, Tryz.ntmps9
    go_wp2_with fail
    refine HF.out.mono ?_
    rintro e w1 ⟨rfl, h1⟩
    obtain rfl := h1.symm
    go_wp2_with fail
    go_ret
    exact ⟨rfl, Below.refl _ _⟩
theorem lsame_any (xs ys : List Str) (X Y : Option Addr) (cx cy : Nat) (w : World) (hX : Cells w X (strs xs)) (hY : Cells w Y (strs ys)) (hl : xs.length ≤ 1000000) (hl2 : ys.length ≤ 1000000) :
    Calls Tryz.prog 14 #[.slice X xs.length cx, .slice Y ys.length cy] w fun e w' => e = .returned (.bool (decide (xs = ys))) ∧ Below w.heap.size w w' := by
  have HS := Lib.hid (bsame_any xs ys X Y cx cy w hX hY hl hl2)
  generalize decide (xs = ys) = b at *
  clear hX hY
  go_enter Tryz.func14, Tryz.ntmps14
  go_wp2_with fail
  refine HS.out.mono ?_
  rintro e w1 ⟨rfl, hb1⟩
  go_wp2_with fail
  go_ret
  exact ⟨rfl, hb1⟩
theorem lrows_any (rs ss : List VecV) (A C : Option Addr) (ca cc : Nat) (w : World) (hM : MatAt w A rs) (hN : MatAt w C ss) (hl : rs.length ≤ 1000000) (hl2 : ss.length ≤ 1000000) (hr : ∀ r ∈ rs, r.xs.length ≤ 1000000) (hs : ∀ r ∈ ss, r.xs.length ≤ 1000000) :
    Calls Tryz.prog 18 #[.slice A rs.length ca, .slice C ss.length cc] w fun e w' => e = .returned (.bool (decide (texts rs = texts ss))) ∧ Below w.heap.size w w' := by
  have HS := Lib.hid (bsamerows_any rs ss A C ca cc w hM hN hl hl2 hr hs)
  generalize decide (texts rs = texts ss) = b at *
  clear hM hN
  go_enter Tryz.func18, Tryz.ntmps18
  go_wp2_with fail
  refine HS.out.mono ?_
  rintro e w1 ⟨rfl, hb1⟩
  go_wp2_with fail
  go_ret
  exact ⟨rfl, hb1⟩
set_option maxRecDepth 100000 in
theorem bright_any (rs : List VecV) (A : Option Addr) (c : Nat) (w : World) (hM : MatAt w A rs) (hl : rs.length ≤ 1000000) (hrl : ∀ r ∈ rs, r.xs.length ≤ 1000000) (hx : ∀ r ∈ rs, ∀ x ∈ r.xs, x.length ≤ 100000) :
    Calls Tryz.prog 16 #[.slice A rs.length c] w fun e w' => e = .returned (.bool (rightB (texts rs))) ∧ Below w.heap.size w w' := by
  have HCK := Lib.hid (brcheck_any rs A c w hM hl hrl)
  have HM := Lib.hid hM
  have HRL := Lib.hid hrl
  have HXX := Lib.hid hx
  have HV0 := Lib.hid (show rightB (texts rs) = (decide (rchkE (texts rs) = 0) && rs.all (fun r => r.xs.all rightQ)) by unfold rightB allR; unfold texts; rw [List.all_map]; rfl)
  rw [HV0.out]
  clear hM hrl hx
  generalize rchkE (texts rs) = q at *
  by_cases hq : q = 0
  · have hq' : (q != 0) = false := by simpa using hq
    rw [show decide (q = 0) = true by simpa using hq, Bool.true_and]
    clear hq
    go_enter Tryz.func16, Tryz.ntmps16
    go_wp2_with fail
    refine HCK.out.mono ?_
    rintro e w1 ⟨rfl, hb1⟩
    go_wp2_with fail
    go_loopw [4, 10] (fun _ i wr => ∃ k : Nat, k ≤ rs.length ∧ i = .int .i64 k ∧ (rs.take k).all (fun r => r.xs.all rightQ) = true ∧ Below w.heap.size w wr) (fun _ i _ => rs.length - (intOf i).toNat)
    case atStart => exact ⟨0, Nat.zero_le _, rfl, rfl, hb1⟩
    case round =>
      clear hb1
      obtain ⟨k, hk, rfl, hall, hbel⟩ := hrel
      have HA := Lib.hid hall
      clear hall
      by_cases hlt : k < rs.length
      · obtain ⟨b, off, rfl, hb, hc⟩ := (HM.out.below hbel).1 (by omega)
        have hck := hc k hlt
        have hrk := HRL.out _ (List.getElem_mem hlt)
        have HR := Lib.hid (brright_any rs[k].xs rs[k].A rs[k].c wr ((HM.out.below hbel).2 _ (List.getElem_mem hlt)) (by omega) (HXX.out _ (List.getElem_mem hlt)))
        have HS := Lib.hid (fun h => all_take_s (f := fun r : VecV => r.xs.all rightQ) hlt HA.out h)
        have HB := Lib.hid (fun h => all_miss (f := fun r : VecV => r.xs.all rightQ) hlt h)
        generalize rs[k] = r at *
        clear hc
        cases hr : r.xs.all rightQ
        · have HV := Lib.hid (HB.out hr)
          rw [hr] at HR
          go_wp2_with fail
          refine HR.out.mono ?_
          rintro e w2 ⟨rfl, hb2⟩
          go_wp2_with fail
          go_ret
          exact ⟨ret_bool HV.out.symm, below_lift3 hbel hb2⟩
        · have HV := Lib.hid (HS.out hr)
          rw [hr] at HR
          go_wp2_with fail
          refine HR.out.mono ?_
          rintro e w2 ⟨rfl, hb2⟩
          go_wp2_with fail
          go_roundw
          case rel => exact ⟨k + 1, by omega, by go_num, HV.out, below_lift3 hbel hb2⟩
          case measure => simp [intOf]; omega
      · have HV := Lib.hid (all_full (show k = rs.length by omega) HA.out)
        go_wp2_with fail
        go_ret
        exact ⟨ret_bool HV.out.symm, hbel⟩
  · have hq' : (q != 0) = true := by simpa using hq
    rw [show decide (q = 0) = false by simpa using hq, Bool.false_and]
    clear hq
    go_enter Tryz.func16, Tryz.ntmps16
    go_wp2_with fail
    refine HCK.out.mono ?_
    rintro e w1 ⟨rfl, hb1⟩
    go_wp2_with fail
    go_ret
    exact ⟨rfl, hb1⟩
end Go.Proofs.YtkcaheaefjcdiaaGreatDoor
/- The laws of basis: the examples. -/
namespace Go.Proofs.YtkcaheaefjcdiaaGreatDoor
open Go.RowKit Num
set_option linter.unusedVariables false
attribute [local go_sem] B_size B_get B_toList B_mk B_extract B_append

theorem mate_at {w : World} {Bs : Nat} {A : Option Addr} {c : Nat} {M : List (List Str)} (h : MatE w Bs A c M) : ∃ rs : List VecV, rs.length = M.length ∧ texts rs = M ∧ MatAt w A rs := by
  obtain ⟨hA, hC, h⟩ := h
  refine ⟨(List.range M.length).map fun i => ⟨hA i, hC i, M.getD i []⟩, by simp, ?_, ?_⟩
  · apply List.ext_getElem?
    intro i
    unfold texts
    by_cases hi : i < M.length
    · rw [List.map_map, List.getElem?_map, List.getElem?_range hi, List.getElem?_eq_getElem hi]
      simp [List.getD_eq_getElem?_getD, List.getElem?_eq_getElem hi]
    · rw [List.getElem?_eq_none (by simp; omega), List.getElem?_eq_none (by omega)]
  · refine mat_of_hdr ?_ fun r hr => ?_
    · rw [List.map_map]
      exact h.outer.cells
    · obtain ⟨i, hi, rfl⟩ := List.mem_map.1 hr
      exact (h.rows i (List.mem_range.1 hi)).cells
theorem lit2 (w : World) (e : TypeId) (a b : Value) : Cells (w.alloc (.cells #[a, b] e)) (some ⟨w.heap.size, 0, none⟩) [a, b] := (OwnS.lit w e #[a, b] w.heap.size 2 (Nat.le_refl _) rfl (by unfold maxLen; omega)).cells
/-- two rows of two numbers that are written out -/
abbrev mat2W (w : World) (a b c d : Str) : World := ((w.alloc (.cells #[.string (B a), .string (B b)] 36)).alloc (.cells #[.string (B c), .string (B d)] 36)).alloc (.cells #[.slice (some ⟨w.heap.size, 0, none⟩) 2 2, .slice (some ⟨w.heap.size + 1, 0, none⟩) 2 2] 23)
abbrev mat2R (n : Nat) (a b c d : Str) : List VecV := [⟨some ⟨n, 0, none⟩, 2, [a, b]⟩, ⟨some ⟨n + 1, 0, none⟩, 2, [c, d]⟩]
theorem mat2_at (w : World) (a b c d : Str) : MatAt (mat2W w a b c d) (some ⟨w.heap.size + 1 + 1, 0, none⟩) (mat2R w.heap.size a b c d) := by
  have h1 := lit2 w 36 (.string (B a)) (.string (B b))
  have h2 := lit2 (w.alloc (.cells #[.string (B a), .string (B b)] 36)) 36 (.string (B c)) (.string (B d))
  have h3 := lit2 ((w.alloc (.cells #[.string (B a), .string (B b)] 36)).alloc (.cells #[.string (B c), .string (B d)] 36)) 23 (.slice (some ⟨w.heap.size, 0, none⟩) 2 2) (.slice (some ⟨w.heap.size + 1, 0, none⟩) 2 2)
  rw [World.size_alloc] at h2 h3
  rw [World.size_alloc] at h3
  refine mat_of_hdr h3 fun r hr => ?_
  rcases List.mem_cons.1 hr with rfl | hr
  · exact (h1.below (new_below _ _)).below (new_below _ _)
  · rw [List.mem_singleton.1 hr]
    exact h2.below (new_below _ _)
theorem mat2_below (w : World) (a b c d : Str) : Below w.heap.size w (mat2W w a b c d) := below_lift3 (below_lift3 (new_below _ _) (new_below _ _)) (new_below _ _)
theorem rsok2 (n : Nat) (a b c d : Str) (h : a.length ≤ 10 ∧ b.length ≤ 10 ∧ c.length ≤ 10 ∧ d.length ≤ 10) : RsOK (mat2R n a b c d) := by
  refine ⟨by show 2 ≤ 1000; omega, fun r hr => ?_, fun r hr x hx => ?_⟩
  · rcases List.mem_cons.1 hr with rfl | hr
    · show 2 ≤ 1000; omega
    · rw [List.mem_singleton.1 hr]; show 2 ≤ 1000; omega
  · rcases List.mem_cons.1 hr with rfl | hr
    · rcases List.mem_cons.1 hx with rfl | hx
      · omega
      · rw [List.mem_singleton.1 hx]; omega
    · rw [List.mem_singleton.1 hr] at hx
      rcases List.mem_cons.1 hx with rfl | hx
      · omega
      · rw [List.mem_singleton.1 hx]; omega
/-- a matrix whose rows' numbers are right texts of few digits -/
theorem mat_of_right {g k : Nat} {M : List (List Str)} (h : M.all (fun r => decide (r.length = k) && r.all fun a => rightQ a && decide (a.length ≤ g)) = true) : Mat g g k M := by
  intro r hr
  have := List.all_eq_true.1 h r hr
  rw [Bool.and_eq_true, decide_eq_true_iff] at this
  refine ⟨this.1, fun a ha => ?_⟩
  have h2 := List.all_eq_true.1 this.2 a ha
  rw [Bool.and_eq_true, decide_eq_true_iff] at h2
  have h3 := frD_of h2.1
  have h4 := text_digits h2.1
  have h5 : 1 ≤ dl (qn a) := by unfold dl; exact Nat.pos_of_ne_zero (fun e => dec_ne_nil _ (List.eq_nil_of_length_eq_zero e))
  have h6 : 1 ≤ dl ((qd a : Nat) : Int) := by unfold dl; exact Nat.pos_of_ne_zero (fun e => dec_ne_nil _ (List.eq_nil_of_length_eq_zero e))
  exact h3.mono (by omega) (by omega)
theorem ex_red : redE (texts (mat2R 0 [48] [50] [48] [49])) = 0 ∧ redM (texts (mat2R 0 [48] [50] [48] [49])) = ([[[48], [49]], [[48], [48]]], [1]) := by decide +kernel
theorem ex_sol : slvE (texts (mat2R 0 [50] [49] [49] [45, 49])) [[53], [49]] = 0 ∧ slvM (texts (mat2R 0 [50] [49] [49] [45, 49])) [[53], [49]] = [[50], [49]] := by decide +kernel
theorem ex_inv : invE (texts (mat2R 0 [50] [49] [49] [49])) = 0 ∧ invM (texts (mat2R 0 [50] [49] [49] [49])) = [[[49], [45, 49]], [[45, 49], [50]]] := by decide +kernel
theorem ex_none : invE [[[48]]] = 7 ∧ invM [[[48]]] = [] := by decide +kernel
theorem red_some {g k : Nat} {M : List (List Str)} (h : Mat g g k M) (hE : 3 * gr (M.length - 1) (1 + k * g) + 1 ≤ 4096) (hg : g ≤ 1 + k * g) : ∃ D, D ≤ 4096 ∧ RedOK D k M := ⟨_, by omega, redOK_of h hE hg⟩
theorem ex_red_ok : ∃ D, D ≤ 4096 ∧ RedOK D 2 (texts (mat2R 0 [48] [50] [48] [49])) := red_some (g := 20) (mat_of_right (by decide +kernel)) (by decide +kernel) (by decide)
theorem ex_sol_ok : ∃ D, D ≤ 4096 ∧ RedOK D 3 (wideM (texts (mat2R 0 [50] [49] [49] [45, 49])) (oneMore [[53], [49]])) := red_some (g := 20) (mat_of_right (by decide +kernel)) (by decide +kernel) (by decide)
theorem ex_inv_ok : ∃ D, D ≤ 4096 ∧ RedOK D 4 (wideM (texts (mat2R 0 [50] [49] [49] [49])) (unitR 2)) := red_some (g := 20) (mat_of_right (by decide +kernel)) (by decide +kernel) (by decide)
theorem ex_none_ok : ∃ D, D ≤ 4096 ∧ RedOK D 2 (wideM [[[48]]] (unitR 1)) := red_some (g := 20) (mat_of_right (by decide +kernel)) (by decide +kernel) (by decide)
theorem ex1_any (n c : Nat) (A : Option Addr) (w : World) (hM : MatAt w A (mat2R n [48] [50] [48] [49])) (he : Env w) :
    Calls Tryz.prog 17 #[.slice A 2 c] w fun e w' => ∃ (O : Option Addr) (co : Nat) (P : Option Addr) (cp : Nat) (rs : List VecV), e = .returned (.tuple #[.slice O rs.length co, .slice P 1 cp, .int .i64 0]) ∧ MatAt w' O rs ∧ texts rs = [[[48], [49]], [[48], [48]]] ∧ OwnS w' w.heap.size 3 P 1 cp (nums [1]) ∧ Below w.heap.size w w' := by
  have h := breduceT_any (mat2R n [48] [50] [48] [49]) A c w hM (rsok2 _ _ _ _ _ (by decide)) (fun _ => ⟨_, 2, ex_red_ok.choose_spec.1, by omega, ex_red_ok.choose_spec.2⟩) he
  have h1 : redM (texts (mat2R n [48] [50] [48] [49])) = ([[[48], [49]], [[48], [48]]], [1]) := ex_red.2
  have h2 : redE (texts (mat2R n [48] [50] [48] [49])) = 0 := ex_red.1
  rw [h1, h2] at h
  refine Calls.mono h ?_
  rintro e w' ⟨O, co, P, cp, rfl, hM, hP, hb⟩
  obtain ⟨rs, hl, ht, hA⟩ := mate_at hM
  exact ⟨O, co, P, cp, rs, by rw [hl]; rfl, hA, ht, hP, hb⟩
theorem ex2_any (n c : Nat) (A V : Option Addr) (w : World) (hM : MatAt w A (mat2R n [50] [49] [49] [45, 49])) (hV : Cells w V (strs [[53], [49]])) (he : Env w) :
    Calls Tryz.prog 12 #[.slice A 2 c, .slice V 2 2] w fun e w' => ∃ (X : Option Addr) (cx : Nat), e = .returned (.tuple #[.slice X 2 cx, .int .i64 0]) ∧ Cells w' X (strs [[50], [49]]) ∧ Below w.heap.size w w' := by
  have h := bsolveT_any (mat2R n [50] [49] [49] [45, 49]) A c [[53], [49]] V 2 w hM hV (rsok2 _ _ _ _ _ (by decide)) (by show 2 ≤ 500; omega) (by constructor; exact Nat.le_refl 2; unfold maxLen; omega) (by show 2 ≤ 1000; omega) (by intro x hx; rcases List.mem_cons.1 hx with rfl | hx; decide; rw [List.mem_singleton.1 hx]; decide) (fun _ => ex_sol_ok) he
  have h1 : slvM (texts (mat2R n [50] [49] [49] [45, 49])) [[53], [49]] = [[50], [49]] := ex_sol.2
  have h2 : slvE (texts (mat2R n [50] [49] [49] [45, 49])) [[53], [49]] = 0 := ex_sol.1
  rw [h1, h2] at h
  refine Calls.mono h ?_
  rintro e w' ⟨X, cx, rfl, hX, hb⟩
  exact ⟨X, cx, rfl, hX.cells, hb⟩
theorem ex3_any (n c : Nat) (A : Option Addr) (w : World) (hM : MatAt w A (mat2R n [50] [49] [49] [49])) (he : Env w) :
    Calls Tryz.prog 26 #[.slice A 2 c] w fun e w' => ∃ (O : Option Addr) (co : Nat) (rs : List VecV), e = .returned (.tuple #[.slice O rs.length co, .int .i64 0]) ∧ MatAt w' O rs ∧ texts rs = [[[49], [45, 49]], [[45, 49], [50]]] ∧ Below w.heap.size w w' := by
  have h := binverseT_any (mat2R n [50] [49] [49] [49]) A c w hM (rsok2 _ _ _ _ _ (by decide)) (by show 2 ≤ 500; omega) (fun _ => ⟨_, 4, ex_inv_ok.choose_spec.1, by omega, by show 2 < 4; omega, ex_inv_ok.choose_spec.2⟩) he
  have h1 : invM (texts (mat2R n [50] [49] [49] [49])) = [[[49], [45, 49]], [[45, 49], [50]]] := ex_inv.2
  have h2 : invE (texts (mat2R n [50] [49] [49] [49])) = 0 := ex_inv.1
  rw [h1, h2] at h
  exact h
theorem ex4_any (n c : Nat) (A : Option Addr) (w : World) (hM : MatAt w A [⟨some ⟨n, 0, none⟩, 1, [[48]]⟩]) (he : Env w) :
    Calls Tryz.prog 26 #[.slice A 1 c] w fun e w' => e = .returned (.tuple #[.slice none 0 0, .int .i64 7]) ∧ Below w.heap.size w w' ∨ ∃ O co, e = .returned (.tuple #[.slice O 0 co, .int .i64 7]) ∧ Below w.heap.size w w' := by
  have h := binverseT_any [⟨some ⟨n, 0, none⟩, 1, [[48]]⟩] A c w hM ⟨by show 1 ≤ 1000; omega, fun r hr => by rw [List.mem_singleton.1 hr]; show 1 ≤ 1000; omega, fun r hr x hx => by rw [List.mem_singleton.1 hr] at hx; rw [List.mem_singleton.1 hx]; decide⟩ (by show 1 ≤ 500; omega) (fun _ => ⟨_, 2, ex_none_ok.choose_spec.1, by omega, by show 1 < 2; omega, ex_none_ok.choose_spec.2⟩) he
  have h1 : invM (texts [⟨some ⟨n, 0, none⟩, 1, [[48]]⟩]) = [] := ex_none.2
  have h2 : invE (texts [⟨some ⟨n, 0, none⟩, 1, [[48]]⟩]) = 7 := ex_none.1
  rw [h1, h2] at h
  refine Calls.mono h ?_
  rintro e w' ⟨O, co, rs, rfl, hM, ht, hb⟩
  have hl : rs.length = 0 := by rw [← texts_length, ht]; rfl
  exact .inr ⟨O, co, by rw [hl], hb⟩
end Go.Proofs.YtkcaheaefjcdiaaGreatDoor
/- The laws of basis: the examples hold. -/
namespace Go.Proofs.YtkcaheaefjcdiaaGreatDoor
open Go.RowKit Num
set_option linter.unusedVariables false
attribute [local go_sem] B_size B_get B_toList B_mk B_extract B_append

theorem ex4_any' (w1 : World) (he : Env w1) :
    Calls Tryz.prog 26 #[.slice (some ⟨w1.heap.size + 1, 0, none⟩) 1 1] ((w1.alloc (.cells #[.string (B [48])] 36)).alloc (.cells #[.slice (some ⟨w1.heap.size, 0, none⟩) 1 1] 23)) fun e w' => ∃ O co, e = .returned (.tuple #[.slice O 0 co, .int .i64 7]) ∧ Below w1.heap.size w1 w' := by
  have b1 := below_lift3 (new_below w1 (.cells #[.string (B [48])] 36)) (new_below _ (.cells #[.slice (some ⟨w1.heap.size, 0, none⟩) 1 1] 23))
  have h1 := (cells_lit1 (w := w1) (e := 36) (v := .string (B [48])))
  have h2 := (cells_lit1 (w := w1.alloc (.cells #[.string (B [48])] 36)) (e := 23) (v := .slice (some ⟨w1.heap.size, 0, none⟩) 1 1))
  rw [World.size_alloc] at h2
  refine Calls.mono (ex4_any w1.heap.size 1 (some ⟨w1.heap.size + 1, 0, none⟩) _ (mat_of_hdr h2 fun r hr => by rw [List.mem_singleton.1 hr]; exact h1.below (new_below _ _)) (he.below b1)) ?_
  rintro e w' (⟨rfl, hb⟩ | ⟨O, co, rfl, hb⟩)
  · exact ⟨none, 0, rfl, below_lift3 b1 hb⟩
  · exact ⟨O, co, rfl, below_lift3 b1 hb⟩
theorem rows_lit (rs : List VecV) (O : Option Addr) (co : Nat) (w1 : World) (a b c d : Str) (hM : MatAt w1 O rs) (ht : texts rs = [[a, b], [c, d]]) :
    Calls Tryz.prog 18 #[.slice O rs.length co, .slice (some ⟨w1.heap.size + 1 + 1, 0, none⟩) 2 2] (mat2W w1 a b c d) fun e w' => e = .returned (.bool true) ∧ Below w1.heap.size w1 w' := by
  have hl : rs.length = 2 := by rw [← texts_length, ht]; rfl
  have hrl : ∀ r ∈ rs, r.xs.length ≤ 1000000 := by
    intro r hr
    have : r.xs ∈ texts rs := List.mem_map.2 ⟨r, hr, rfl⟩
    rw [ht] at this
    rcases List.mem_cons.1 this with e | e
    · rw [e]; show 2 ≤ 1000000; omega
    · rw [List.mem_singleton.1 e]; show 2 ≤ 1000000; omega
  have hb := mat2_below w1 a b c d
  have h := lrows_any rs (mat2R w1.heap.size a b c d) O (some ⟨w1.heap.size + 1 + 1, 0, none⟩) co 2 (mat2W w1 a b c d) (hM.below hb) (mat2_at w1 a b c d) (by omega) (by show 2 ≤ 1000000; omega) hrl (fun r hr => by
    rcases List.mem_cons.1 hr with rfl | hr
    · show 2 ≤ 1000000; omega
    · rw [List.mem_singleton.1 hr]; show 2 ≤ 1000000; omega)
  refine Calls.mono h ?_
  rintro e w' ⟨rfl, hb2⟩
  refine ⟨ret_bool ?_, hb.trans (hb2.mono hb.size)⟩
  rw [decide_eq_true_iff, ht]; rfl
set_option maxHeartbeats 4000000 in
set_option maxRecDepth 100000 in
theorem bexamples_any (w : World) (he : Env w) : Calls Tryz.prog 11 #[] w fun e w' => e = .returned (.bool true) ∧ Below w.heap.size w w' := by
  have H1 := Lib.hid (fun (w1 : World) (he : Env w1) => ex1_any w1.heap.size 2 (some ⟨w1.heap.size + 1 + 1, 0, none⟩) (mat2W w1 [48] [50] [48] [49]) (mat2_at w1 _ _ _ _) (he.below (mat2_below w1 _ _ _ _)))
  have H2 := Lib.hid (fun (w1 : World) (he : Env w1) => ex2_any w1.heap.size 2 (some ⟨w1.heap.size + 1 + 1, 0, none⟩) (some ⟨w1.heap.size + 1 + 1 + 1, 0, none⟩) ((mat2W w1 [50] [49] [49] [45, 49]).alloc (.cells #[.string (B [53]), .string (B [49])] 36)) ((mat2_at w1 _ _ _ _).below (new_below _ _)) (by
    have := lit2 (mat2W w1 [50] [49] [49] [45, 49]) 36 (.string (B [53])) (.string (B [49]))
    rw [World.size_alloc, World.size_alloc, World.size_alloc] at this
    exact this) (he.below (below_lift3 (mat2_below w1 _ _ _ _) (new_below _ _))))
  have H3 := Lib.hid (fun (w1 : World) (he : Env w1) => ex3_any w1.heap.size 2 (some ⟨w1.heap.size + 1 + 1, 0, none⟩) (mat2W w1 [50] [49] [49] [49]) (mat2_at w1 _ _ _ _) (he.below (mat2_below w1 _ _ _ _)))
  go_enter Tryz.func11, Tryz.ntmps11
  simp only [B_mk]
  go_wp2_with fail
  refine (H1.out w he).mono ?_
  rintro e w1 ⟨O1, co1, P1, cp1, rs1, rfl, hM1, ht1, hP1, hb1⟩
  have b1 := (mat2_below w [48] [50] [48] [49]).trans (hb1.mono (mat2_below w [48] [50] [48] [49]).size)
  go_wp2_with fail
  refine (H2.out w1 (he.below b1)).mono ?_
  rintro e w2 ⟨X2, cx2, rfl, hX2, hb2⟩
  have c2 := below_lift3 (mat2_below w1 [50] [49] [49] [45, 49]) (new_below _ (.cells #[.string (B [53]), .string (B [49])] 36))
  have c2' := c2.trans (hb2.mono c2.size)
  have b2 := below_lift3 b1 c2'
  go_wp2_with fail
  refine (H3.out w2 (he.below b2)).mono ?_
  rintro e w3 ⟨O3, co3, rs3, rfl, hM3, ht3, hb3⟩
  have c3 := (mat2_below w2 [50] [49] [49] [49]).trans (hb3.mono (mat2_below w2 [50] [49] [49] [49]).size)
  have b3 := below_lift3 b2 c3
  go_wp2_with fail
  refine (ex4_any' w3 (he.below b3)).mono ?_
  rintro e w4 ⟨O4, co4, rfl, hb4⟩
  have HM1 := Lib.hid (hM1.below (below_lift3 (below_lift3 c2' c3) hb4))
  have HX2 := Lib.hid (hX2.below (below_lift3 c3 hb4))
  have HM3 := Lib.hid (hM3.below hb4)
  have hP4 := hP1.below (below_lift3 (below_lift3 c2' c3) hb4)
  have b4 := below_lift3 b3 hb4
  obtain ⟨gp, rfl, hgp1, hgp2, hgc, _⟩ := hP4.at_ (by omega)
  have hp0 : w4.cell? ⟨gp, 0, none⟩ = some (.int .i64 1) := hgc 0 (by omega)
  have HR1 := Lib.hid (rows_lit rs1 O1 co1 w4 [48] [49] [48] [48] HM1.out ht1)
  have HR3 := Lib.hid (fun (w : World) (h : MatAt w O3 rs3) => rows_lit rs3 O3 co3 w [49] [45, 49] [45, 49] [50] h ht3)
  have HS2 := Lib.hid (fun (w : World) (h : Cells w X2 (strs [[50], [49]])) => show Calls Tryz.prog 14 #[.slice X2 2 cx2, .slice (some ⟨w.heap.size, 0, none⟩) 2 2] (w.alloc (.cells #[.string (B [50]), .string (B [49])] 36)) fun e w' => e = .returned (.bool true) ∧ Below w.heap.size w w' from by
    refine Calls.mono (lsame_any [[50], [49]] [[50], [49]] X2 (some ⟨w.heap.size, 0, none⟩) cx2 2 _ (h.below (new_below _ _)) (lit2 w 36 (.string (B [50])) (.string (B [49]))) (by show 2 ≤ 1000000; omega) (by show 2 ≤ 1000000; omega)) ?_
    rintro e w' ⟨rfl, hb⟩
    exact ⟨rfl, below_lift3 (new_below _ _) hb⟩)
  clear hM1 ht1 hP1 hb1 b1 hX2 hb2 c2 c2' b2 hM3 ht3 hb3 c3 b3 hb4 hP4 hgc
  go_wp2_with fail
  refine HR1.out.mono ?_
  rintro e w5 ⟨rfl, hb5⟩
  have e0 := (hb5.cell (p := ⟨gp, 0, none⟩) hgp2).trans hp0
  have b5 := below_lift3 b4 hb5
  go_wp2_with fail
  refine (HS2.out w5 (HX2.out.below hb5)).mono ?_
  rintro e w6 ⟨rfl, hb6⟩
  have b6 := below_lift3 b5 hb6
  go_wp2_with fail
  refine (HR3.out w6 (HM3.out.below (below_lift3 hb5 hb6))).mono ?_
  rintro e w7 ⟨rfl, hb7⟩
  go_wp2_with fail
  go_ret
  exact ⟨rfl, below_lift3 b6 hb7⟩
end Go.Proofs.YtkcaheaefjcdiaaGreatDoor
/- The laws of basis: BasisReduces. -/
namespace Go.Proofs.YtkcaheaefjcdiaaGreatDoor
open Go.RowKit Num
set_option linter.unusedVariables false
attribute [local go_sem] B_size B_get B_toList B_mk B_extract B_append

theorem any_congr' {α : Type} {l : List α} {f g : α → Bool} (h : ∀ x ∈ l, f x = g x) : l.any f = l.any g := by
  induction l with
  | nil => rfl
  | cons x l ih => rw [List.any_cons, List.any_cons, h x (by simp), ih fun y hy => h y (by simp [hy])]
/-- the program's first errors and the reference's are the same -/
theorem red_same (M : List (List Str)) : redE M = rredE M := by
  unfold redE rredE
  rw [chk_eq]
  unfold rchkE
  by_cases h1 : 64 < M.length ∨ M.any (fun r => decide (64 < r.length)) = true
  · rw [if_pos h1, if_pos h1]; rfl
  rw [if_neg h1, if_neg h1]
  have h2 : M.any (badW M (-1) false) = M.any (fun r => decide (r.length ≠ (M.getD 0 []).length)) := by
    refine any_congr' fun r hr => ?_
    have h0 : 0 < M.length := List.length_pos_of_mem hr
    unfold badW widthE
    rw [if_pos ⟨by omega, h0⟩, Bool.false_and, Bool.or_false]
    congr 1
    rw [eq_iff_iff]
    omega
  rw [h2]
  by_cases h3 : M.any (fun r => decide (r.length ≠ (M.getD 0 []).length)) = true
  · rw [if_pos h3, if_pos h3]; rfl
  rw [if_neg h3, if_neg h3, if_pos rfl, List.append_nil]
  have h4 : M.any badR = !allR M := by
    unfold allR badR
    rw [List.not_all_eq_any_not]
    refine any_congr' fun r _ => ?_
    rw [List.not_all_eq_any_not]
  rw [h4, List.any_nil]
  cases allR M <;> rfl
theorem few_row {M : List (List Str)} (h : fewB 20 M = true) : M.length ≤ 4 ∧ ∀ r ∈ M, r.length ≤ 5 ∧ ∀ x ∈ r, x.length ≤ 20 := by
  unfold fewB at h
  rw [Bool.and_eq_true, decide_eq_true_iff] at h
  refine ⟨h.1, fun r hr => ?_⟩
  have h2 := List.all_eq_true.1 h.2 r hr
  unfold rowB' shortB at h2
  rw [Bool.and_eq_true, decide_eq_true_iff] at h2
  exact ⟨h2.1, fun x hx => by simpa using List.all_eq_true.1 h2.2 x hx⟩
theorem gr_le' {h h' d d' : Nat} (h1 : h ≤ h') (h2 : d ≤ d') : gr h d ≤ gr h' d' := Nat.le_trans (gr_mono h h2) (gr_more h1 d')
/-- few right numbers are reckoned without an error -/
theorem few_red {M : List (List Str)} (h : fewB 20 M = true) (h0 : redE M = 0) : ∃ D k, D ≤ 4096 ∧ k ≤ 1000 ∧ RedOK D k M ∧ k ≤ 5 ∧ Mat 20 20 k M ∧ D ≤ 815 := by
  obtain ⟨h1, h2⟩ := few_row h
  obtain ⟨_, _, hw, _, _, hr⟩ := chk_zero h0
  by_cases hm : 0 < M.length
  · have hk5 : (M.getD 0 []).length ≤ 5 := by rw [getD_eq hm]; exact (h2 _ (List.getElem_mem hm)).1
    have hmat : Mat 20 20 (M.getD 0 []).length M := mat_of_right (List.all_eq_true.2 fun r hrm => by
      rw [Bool.and_eq_true, decide_eq_true_iff]
      refine ⟨?_, List.all_eq_true.2 fun a ha => ?_⟩
      · have := hw r hrm
        unfold widthE at this
        rw [if_pos ⟨by omega, hm⟩] at this
        omega
      · rw [Bool.and_eq_true, decide_eq_true_iff]
        exact ⟨hr r (List.mem_append_left _ hrm) a ha, (h2 r hrm).2 a ha⟩)
    have hg : gr (M.length - 1) (1 + (M.getD 0 []).length * 20) ≤ gr 3 101 := gr_le' (by omega) (by omega)
    rw [show gr 3 101 = 815 by decide] at hg
    by_cases hk0 : (M.getD 0 []).length = 0
    · rw [hk0] at hmat
      have hm1 : Mat 1 1 0 M := fun r hr => ⟨(hmat r hr).1, fun a ha => by have := List.eq_nil_of_length_eq_zero (hmat r hr).1; rw [this] at ha; cases ha⟩
      have hg2 : gr (M.length - 1) (1 + 0 * 1) ≤ gr 3 101 := gr_le' (by omega) (by omega)
      rw [show gr 3 101 = 815 by decide] at hg2
      exact ⟨_, 0, by omega, by omega, redOK_of (g := 1) hm1 (by omega) (by omega), by omega, hmat, hg2⟩
    · exact ⟨_, _, by omega, by omega, redOK_of hmat (by omega) (by omega), hk5, hmat, hg⟩
  · obtain rfl : M = [] := List.eq_nil_of_length_eq_zero (by omega)
    have hm1 : Mat 1 1 1 ([] : List (List Str)) := fun r hr => absurd hr (by simp)
    exact ⟨gr 0 (1 + 1 * 1), 1, by decide, by omega, redOK_of (g := 1) hm1 (by decide) (by omega), by omega, fun r hr => absurd hr (by simp), by decide⟩
end Go.Proofs.YtkcaheaefjcdiaaGreatDoor
