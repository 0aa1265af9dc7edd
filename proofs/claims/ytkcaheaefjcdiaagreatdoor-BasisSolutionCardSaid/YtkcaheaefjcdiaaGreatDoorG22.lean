/- basis: the reckoner's steps that do not err. -/
import Derived.Test.YtkcaheaefjcdiaaGreatDoorG19
import Derived.Test.YtkcaheaefjcdiaaGreatDoorRProg7
import Derived.Test.YtkcaheaefjcdiaaGreatDoorRProg8
import Derived.Test.YtkcaheaefjcdiaaGreatDoorG20
import Derived.Laws.AppendOwnNone
import Derived.Lib.SliceRun
namespace Go.Proofs.YtkcaheaefjcdiaaGreatDoor
open Go.RowKit Num
set_option linter.unusedVariables false
attribute [local go_sem] B_size B_get B_toList B_mk B_extract B_append

theorem bkeep_any (kb : Addr) (a : Str) (w : World) :
    Calls Tryz.prog 77 #[.pointer (some kb), .string (B a), .int .i64 0] w fun e w' => e = .returned (.string (B a)) ∧ w' = w := by
  go_enter Tryz.func77, Tryz.ntmps77
  simp only [B_mk]
  go_wp2_with fail
  go_ret
  exact ⟨rfl, rfl⟩
theorem bdiv_any (kb : Addr) (a b : Str) (w : World) (ha : a.length ≤ 1000000) (hb : b.length ≤ 1000000) (h0 : quoQE a b = 0) (he : Env w) :
    Calls Tryz.prog 94 #[.pointer (some kb), .string (B a), .string (B b)] w fun e w' => e = .returned (.string (B (quoQS a b))) ∧ Below w.heap.size w w' := by
  have HQ := Lib.hid (qdiv_any a b w ha hb he)
  rw [h0] at HQ
  clear h0
  generalize quoQS a b = v at *
  go_enter Tryz.func94, Tryz.ntmps94
  simp only [B_mk]
  go_wp2_with fail
  refine HQ.out.mono ?_
  rintro e w1 ⟨rfl, hb1⟩
  go_wp2_with fail
  refine (bkeep_any kb v w1).mono ?_
  rintro e w2 ⟨rfl, rfl⟩
  go_wp2_with fail
  go_ret
  exact ⟨rfl, hb1⟩
theorem bmul_any (kb : Addr) (a b : Str) (w : World) (ha : a.length ≤ 1000000) (hb : b.length ≤ 1000000) (h0 : mulQE a b = 0) (he : Env w) :
    Calls Tryz.prog 48 #[.pointer (some kb), .string (B a), .string (B b)] w fun e w' => e = .returned (.string (B (mulQS a b))) ∧ Below w.heap.size w w' := by
  have HQ := Lib.hid (qmul_any a b w ha hb he)
  rw [h0] at HQ
  clear h0
  generalize mulQS a b = v at *
  go_enter Tryz.func48, Tryz.ntmps48
  simp only [B_mk]
  go_wp2_with fail
  refine HQ.out.mono ?_
  rintro e w1 ⟨rfl, hb1⟩
  go_wp2_with fail
  refine (bkeep_any kb v w1).mono ?_
  rintro e w2 ⟨rfl, rfl⟩
  go_wp2_with fail
  go_ret
  exact ⟨rfl, hb1⟩
theorem bsub_any (kb : Addr) (a b : Str) (w : World) (ha : a.length ≤ 1000000) (hb : b.length ≤ 1000000) (h0 : subQE a b = 0) (he : Env w) :
    Calls Tryz.prog 95 #[.pointer (some kb), .string (B a), .string (B b)] w fun e w' => e = .returned (.string (B (subQS a b))) ∧ Below w.heap.size w w' := by
  have HQ := Lib.hid (qsub_any a b w ha hb he)
  rw [h0] at HQ
  clear h0
  generalize subQS a b = v at *
  go_enter Tryz.func95, Tryz.ntmps95
  simp only [B_mk]
  go_wp2_with fail
  refine HQ.out.mono ?_
  rintro e w1 ⟨rfl, hb1⟩
  go_wp2_with fail
  refine (bkeep_any kb v w1).mono ?_
  rintro e w2 ⟨rfl, rfl⟩
  go_wp2_with fail
  go_ret
  exact ⟨rfl, hb1⟩
theorem badd_any (kb : Addr) (a b : Str) (w : World) (ha : a.length ≤ 1000000) (hb : b.length ≤ 1000000) (h0 : addQE a b = 0) (he : Env w) :
    Calls Tryz.prog 47 #[.pointer (some kb), .string (B a), .string (B b)] w fun e w' => e = .returned (.string (B (addQS a b))) ∧ Below w.heap.size w w' := by
  have HQ := Lib.hid (qadd_any a b w ha hb he)
  rw [h0] at HQ
  clear h0
  generalize addQS a b = v at *
  go_enter Tryz.func47, Tryz.ntmps47
  simp only [B_mk]
  go_wp2_with fail
  refine HQ.out.mono ?_
  rintro e w1 ⟨rfl, hb1⟩
  go_wp2_with fail
  refine (bkeep_any kb v w1).mono ?_
  rintro e w2 ⟨rfl, rfl⟩
  go_wp2_with fail
  go_ret
  exact ⟨rfl, hb1⟩
end Go.Proofs.YtkcaheaefjcdiaaGreatDoor
/- slices.Clone of rows and of numbers; basis.check. -/
namespace Go.Proofs.YtkcaheaefjcdiaaGreatDoor
open Go.ChangeShapes Go.WideShapes Go.RowKit Num
set_option linter.unusedVariables false
attribute [local go_sem] B_size B_get B_toList B_mk B_extract B_append

def hdrV (r : VecV) : Value := .slice r.A r.xs.length r.c
theorem MatAt.hdr {w : World} {A : Option Addr} {rs : List VecV} (h : MatAt w A rs) : Cells w A (rs.map hdrV) := by
  intro h0
  obtain ⟨b, off, e, hb, hc⟩ := h.1 (by simpa using h0)
  refine ⟨b, off, e, hb, fun j u hu => ?_⟩
  have hj : j < rs.length := by simpa using (List.getElem?_eq_some_iff.1 hu).1
  rw [hc j hj, ← hu, List.getElem?_map, List.getElem?_eq_getElem hj]; rfl
theorem mat_of_hdr {w : World} {A : Option Addr} {rs : List VecV} (h : Cells w A (rs.map hdrV)) (hr : ∀ r ∈ rs, Cells w r.A (strs r.xs)) : MatAt w A rs := by
  refine ⟨fun h0 => ?_, hr⟩
  obtain ⟨b, off, e, hb, hc⟩ := h (by simpa using h0)
  exact ⟨b, off, e, hb, fun i hi => hc i _ (by rw [List.getElem?_map, List.getElem?_eq_getElem hi]; rfl)⟩
theorem OwnS.made0 (w : World) (e : TypeId) : OwnS (w.alloc (.cells #[] e)) w.heap.size e (some ⟨w.heap.size, 0, none⟩) 0 0 [] := World.ownsRow_made w #[] 0 (Nat.le_refl _) (Nat.zero_le _) rfl
theorem bclonem_any (xs : List Value) (A : Option Addr) (c : Nat) (w : World) (hc : Cells w A xs) (h1 : ∀ u ∈ xs, u.oneCell' = true) (hl : xs.length ≤ 1000000) :
    Calls Tryz.prog 53 #[.slice A xs.length c] w fun e w' => ∃ A' c', e = .returned (.slice A' xs.length c') ∧ OwnS w' w.heap.size 23 A' xs.length c' xs ∧ Below w.heap.size w w' := by
  have q22 : ∀ (w : World) (a : Option Addr) (n c n' c' : Nat), (binOp .eql 22 (.slice a n c) (.slice none n' c')).run Tryz.prog w = .ok (.bool a.isNone) w := fun w a n c n' c' => Lib.run_eql_slice_nil w _ _ a n c n' c' Tryz.underlying22
  have u22 : ∀ w, Sem.run Tryz.prog (underlying 22) w = .ok (TypeDesc.slice 23) w := run_underlying Tryz.underlying22
  cases A with
  | none =>
    have h0 : xs = [] := by
      cases xs with
      | nil => rfl
      | cons x xs => obtain ⟨b, off, e, _⟩ := hc (by simp); cases e
    subst h0
    go_enter Tryz.func53, Tryz.ntmps53
    go_wp2_with fail
    go_ret
    exact ⟨none, 0, rfl, OwnS.nil _ _ _, Below.refl _ _⟩
  | some a =>
    have hcell : ∀ j u, xs[j]? = some u → w.cell? (a.add j) = some u := by
      intro j u hu
      have hj := (List.getElem?_eq_some_iff.1 hu).1
      obtain ⟨b, off, e, hb, h2⟩ := hc (by omega)
      injection e with e
      subst e
      rw [add_plain]
      exact h2 j u hu
    have HC := Lib.hid hcell
    clear hcell hc
    go_enter Tryz.func53, Tryz.ntmps53
    obtain ⟨ht, ⟨i, hi, hz, hsz, hb⟩, hzs⟩ := el_mrow
    go_wp2_with (at_builtin; refine wpList_append_own _ rfl _ _ 22 rfl w.heap.size 23 i (.slice none 0 0) 1 24 ht hi hz hsz hb hzs (by decide) _ 0 [] rfl (OwnS.made0 w 23) a xs.length c xs rfl (by omega) ?qc2 h1 (by unfold maxLen; omega) (by omega) (by simp) ?_)
    case qc2 => intro j u hu; exact Lib.cell?_alloc_some _ (HC.out j u hu)
    intro v' w1 hown hgrow hnil
    go_wp2_with fail
    go_ret
    have hne : v' ≠ .slice none 0 0 := hnil
    obtain ⟨g, cap, hv⟩ : ∃ g cap, v' = .slice (some ⟨g, 0, none⟩) xs.length cap := by
      rcases hown.2 with ⟨hv, _⟩ | ⟨g, cap, cur, hv, _⟩
      · exact absurd hv hne
      · exact ⟨g, cap, hv⟩
    subst hv
    refine ⟨_, _, rfl, hown, ((Below.refl _ w).alloc (Nat.le_refl _) _).grown hgrow (by simp) (by intro k hk; simp [Value.ownBlock] at hk; omega)⟩
theorem bcloner_any (xs : List Value) (A : Option Addr) (c : Nat) (w : World) (hc : Cells w A xs) (h1 : ∀ u ∈ xs, u.oneCell' = true) (hl : xs.length ≤ 1000000) :
    Calls Tryz.prog 58 #[.slice A xs.length c] w fun e w' => ∃ A' c', e = .returned (.slice A' xs.length c') ∧ OwnS w' w.heap.size 36 A' xs.length c' xs ∧ Below w.heap.size w w' := by
  have q22 : ∀ (w : World) (a : Option Addr) (n c n' c' : Nat), (binOp .eql 23 (.slice a n c) (.slice none n' c')).run Tryz.prog w = .ok (.bool a.isNone) w := fun w a n c n' c' => Lib.run_eql_slice_nil w _ _ a n c n' c' Tryz.underlying23
  have u22 : ∀ w, Sem.run Tryz.prog (underlying 23) w = .ok (TypeDesc.slice 36) w := run_underlying Tryz.underlying23
  cases A with
  | none =>
    have h0 : xs = [] := by
      cases xs with
      | nil => rfl
      | cons x xs => obtain ⟨b, off, e, _⟩ := hc (by simp); cases e
    subst h0
    go_enter Tryz.func58, Tryz.ntmps58
    go_wp2_with fail
    go_ret
    exact ⟨none, 0, rfl, OwnS.nil _ _ _, Below.refl _ _⟩
  | some a =>
    have hcell : ∀ j u, xs[j]? = some u → w.cell? (a.add j) = some u := by
      intro j u hu
      have hj := (List.getElem?_eq_some_iff.1 hu).1
      obtain ⟨b, off, e, hb, h2⟩ := hc (by omega)
      injection e with e
      subst e
      rw [add_plain]
      exact h2 j u hu
    have HC := Lib.hid hcell
    clear hcell hc
    go_enter Tryz.func58, Tryz.ntmps58
    obtain ⟨ht, ⟨i, hi, hz, hsz, hb⟩, hzs⟩ := el_mrat
    go_wp2_with (at_builtin; refine wpList_append_own _ rfl _ _ 23 rfl w.heap.size 36 i (.string (B [])) 1 16 ht hi hz hsz hb hzs (by decide) _ 0 [] rfl (OwnS.made0 w 36) a xs.length c xs rfl (by omega) ?qc2 h1 (by unfold maxLen; omega) (by omega) (by simp) ?_)
    case qc2 => intro j u hu; exact Lib.cell?_alloc_some _ (HC.out j u hu)
    intro v' w1 hown hgrow hnil
    go_wp2_with fail
    go_ret
    have hne : v' ≠ .slice none 0 0 := hnil
    obtain ⟨g, cap, hv⟩ : ∃ g cap, v' = .slice (some ⟨g, 0, none⟩) xs.length cap := by
      rcases hown.2 with ⟨hv, _⟩ | ⟨g, cap, cur, hv, _⟩
      · exact absurd hv hne
      · exact ⟨g, cap, hv⟩
    subst hv
    refine ⟨_, _, rfl, hown, ((Below.refl _ w).alloc (Nat.le_refl _) _).grown hgrow (by simp) (by intro k hk; simp [Value.ownBlock] at hk; omega)⟩
end Go.Proofs.YtkcaheaefjcdiaaGreatDoor
/- basis.check. -/
namespace Go.Proofs.YtkcaheaefjcdiaaGreatDoor
open Go.ChangeShapes Go.WideShapes Go.RowKit Num
set_option linter.unusedVariables false
attribute [local go_sem] B_size B_get B_toList B_mk B_extract B_append

def texts (rs : List VecV) : List (List Str) := rs.map (·.xs)
theorem texts_length (rs : List VecV) : (texts rs).length = rs.length := by unfold texts; simp
theorem texts_get {rs : List VecV} {i : Nat} (h : i < rs.length) : (texts rs)[i]'(by rw [texts_length]; exact h) = rs[i].xs := by unfold texts; simp
theorem texts_getD {rs : List VecV} {i : Nat} (h : i < rs.length) : (texts rs).getD i [] = rs[i].xs := by rw [List.getD_eq_getElem?_getD, List.getElem?_eq_getElem (by rw [texts_length]; exact h), texts_get h]; rfl
/-- the width that counts -/
def widthE (M : List (List Str)) (w : Int) : Int := if w < 0 ∧ 0 < M.length then ((M.getD 0 []).length : Int) else w
def badW (M : List (List Str)) (w : Int) (sq : Bool) (r : List Str) : Bool := decide ((r.length : Int) ≠ widthE M w) || (sq && decide (r.length ≠ M.length))
def badV (n : Nat) (sq : Bool) (v : List Str) : Bool := sq && decide (v.length ≠ n)
def badR (r : List Str) : Bool := r.any fun a => !rightQ a
theorem chk_eq (M : List (List Str)) (w : Int) (sq : Bool) (vs : List (List Str)) : chkE M w sq vs =
    if 64 < M.length ∨ M.any (fun r => decide (64 < r.length)) = true then 4 else if M.any (badW M w sq) = true then 2 else if vs.any (badV M.length sq) = true then 2 else if (M ++ vs).any badR = true then 3 else 0 := rfl
theorem below_lift3 {w0 w1 w2 : World} (h1 : Below w0.heap.size w0 w1) (h2 : Below w1.heap.size w1 w2) : Below w0.heap.size w0 w2 := h1.trans (h2.mono h1.size)
theorem owns_slice {w : World} {Bs : Nat} {e : TypeId} {v : Value} {n : Nat} {xs : List Value} (h : w.ownsRow Bs e 1 v n xs) : ∃ A c, v = .slice A n c := by
  rcases h.2 with ⟨hv, h0⟩ | ⟨g, cap, cur, hv, _⟩
  · exact ⟨none, 0, by rw [hv, h0]⟩
  · exact ⟨_, _, hv⟩
theorem OwnS.row {w : World} {Bs : Nat} {e : TypeId} {A : Option Addr} {n c : Nat} {xs : List Value} (h : OwnS w Bs e A n c xs) : ∀ k, (Value.slice A n c).ownBlock = some k → Bs ≤ k := by
  intro k hk
  rcases h.2 with ⟨hv, _⟩ | ⟨g', cap', cur', hv, hg', _⟩
  · rw [hv] at hk; simp [Value.ownBlock] at hk
  · rw [hv] at hk; simp [Value.ownBlock] at hk; omega
set_option maxHeartbeats 4000000 in
set_option maxRecDepth 100000 in
theorem bcheck_any (rs : List VecV) (A : Option Addr) (c : Nat) (wd : Int) (sq : Bool) (vs : List VecV) (V : Option Addr) (cv : Nat) (w : World) (hM : MatAt w A rs) (hV : MatAt w V vs) (hwd : fits wd) (hV0 : V = none → cv = 0)
    (hlr : rs.length ≤ 1000000) (hlv : vs.length ≤ 1000000) (hrl : ∀ r ∈ rs ++ vs, r.xs.length ≤ maxLen) (hx : ∀ r ∈ rs ++ vs, ∀ x ∈ r.xs, x.length ≤ 100000) (he : Env w) :
    Calls Tryz.prog 30 #[.slice A rs.length c, .int .i64 wd, .bool sq, .slice V vs.length cv] w fun e w' => e = .returned (.int .i64 (chkE (texts rs) wd sq (texts vs))) ∧ Below w.heap.size w w' := by
  unfold maxLen at hrl
  have HQ := Lib.hid (chk_eq (texts rs) wd sq (texts vs))
  have HM := Lib.hid hM
  have HV := Lib.hid hV
  have HRL := Lib.hid hrl
  have HX := Lib.hid hx
  clear hM hV hrl hx
  generalize chkE (texts rs) wd sq (texts vs) = q at *
  by_cases h1 : 64 < rs.length
  · have h1' : (64 : Int) < (rs.length : Int) := by omega
    have HR := Lib.hid (show q = 4 by rw [HQ.out, if_pos (.inl (by rw [texts_length]; exact h1))])
    go_enter Tryz.func30, Tryz.ntmps30
    go_wp2_with fail
    go_ret
    exact ⟨ret_int HR.out.symm, Below.refl _ _⟩
  have h1' : ¬ (64 : Int) < (rs.length : Int) := by omega
  go_enter Tryz.func30, Tryz.ntmps30
  go_wp2_with fail
  go_loop [10, 24] (fun _ i => ∃ k : Nat, k ≤ rs.length ∧ i = .int .i64 k ∧ ((texts rs).take k).any (fun r => decide (64 < r.length)) = false) (fun _ i => rs.length - (intOf i).toNat)
  case atStart => exact ⟨0, Nat.zero_le _, rfl, rfl⟩
  case round =>
    obtain ⟨k, hk, rfl, hall⟩ := hrel
    have HA := Lib.hid hall
    clear hall
    by_cases hlt : k < rs.length
    · obtain ⟨b, off, rfl, hb, hc⟩ := HM.out.1 (by omega)
      have hck := hc k hlt
      have hkl := HRL.out rs[k] (List.mem_append_left _ (List.getElem_mem hlt))
      have HT := Lib.hid (texts_get hlt)
      have hkT : k < (texts rs).length := by rw [texts_length]; exact hlt
      have HS := Lib.hid (fun h => any_take_succ (f := fun r : List Str => decide (64 < r.length)) hkT HA.out h)
      have HB := Lib.hid (fun h => any_hit (f := fun r : List Str => decide (64 < r.length)) hkT h)
      rw [HT.out] at HS HB
      generalize rs[k] = r at *
      clear hc hkT
      by_cases hr : 64 < r.xs.length
      · have hr' : (64 : Int) < (r.xs.length : Int) := by omega
        have HR := Lib.hid (show q = 4 by rw [HQ.out, if_pos (.inr (HB.out (by simpa using hr)))])
        go_wp2_with fail
        go_ret
        exact ⟨ret_int HR.out.symm, Below.refl _ _⟩
      · have hr' : ¬ (64 : Int) < (r.xs.length : Int) := by omega
        have HN := Lib.hid (HS.out (by simpa using hr))
        go_wp2_with fail
        go_round
        case rel => exact ⟨k + 1, by omega, by go_num, HN.out⟩
        case measure => simp [intOf]; omega
    · have HN := Lib.hid (any_full (by rw [texts_length]; omega) HA.out)
      have HQ2 := Lib.hid (show q = if (texts rs).any (badW (texts rs) wd sq) = true then 2 else if (texts vs).any (badV (texts rs).length sq) = true then 2 else if (texts rs ++ texts vs).any badR = true then 3 else 0 by
        rw [HQ.out, if_neg (fun h => h.elim (by rw [texts_length]; exact h1) (by rw [HN.out]; decide))])
      go_upto_region 9 with fail
      go_cut [38] (fun s wx => ∃ t : Bool, s = .bool t ∧ (t = true ↔ wd < 0 ∧ 0 < rs.length) ∧ wx = w)
      case first =>
        by_cases hw : wd < 0
        · by_cases h0 : 0 < rs.length
          · have h0' : (0 : Int) < (rs.length : Int) := by omega
            go_wp2_with fail
            go_meet
            exact ⟨true, rfl, ⟨fun _ => ⟨hw, h0⟩, fun _ => rfl⟩, rfl⟩
          · have h0' : ¬ (0 : Int) < (rs.length : Int) := by omega
            have H0 := Lib.hid h0
            go_wp2_with fail
            go_meet
            exact ⟨false, rfl, ⟨fun h => (by cases h), fun h => absurd h.2 H0.out⟩, rfl⟩
        · have H0 := Lib.hid hw
          go_wp2_with fail
          go_meet
          exact ⟨false, rfl, ⟨fun h => (by cases h), fun h => (by have := H0.out; have := h.1; omega)⟩, rfl⟩
      case rest =>
        obtain ⟨t, rfl, htw, hw⟩ := hcut
        obtain rfl := hw.symm
        go_upto_if 38 with fail
        go_cut [1] (fun s wx => s = .int .i64 (widthE (texts rs) wd) ∧ wx = w)
        case first =>
          cases t
          · have HWD := Lib.hid (show widthE (texts rs) wd = wd by unfold widthE; rw [if_neg (fun h => by rw [texts_length] at h; exact absurd (htw.2 h) (by decide))])
            clear htw
            go_wp2_with fail
            go_meet
            rw [HWD.out]
            exact ⟨rfl, rfl⟩
          · have hwh := htw.1 rfl
            have HWD := Lib.hid (show widthE (texts rs) wd = (((rs[0]'hwh.2).xs.length : Nat) : Int) by unfold widthE; rw [if_pos (by rw [texts_length]; exact hwh), texts_getD hwh.2])
            obtain ⟨b, off, rfl, hb, hc⟩ := HM.out.1 hwh.2
            have hc0 : w.cell? ⟨b, off, none⟩ = some (.slice (rs[0]'hwh.2).A (rs[0]'hwh.2).xs.length (rs[0]'hwh.2).c) := hc 0 hwh.2
            have h0' : (0 : Int) < (rs.length : Int) := by omega
            generalize rs[0]'hwh.2 = r at *
            clear hc htw hwh
            go_wp2_with fail
            go_meet
            rw [HWD.out]
            exact ⟨rfl, rfl⟩
        case rest =>
          obtain ⟨rfl, hw⟩ := hcut
          obtain rfl := hw.symm
          clear htw
          have HBW := Lib.hid (show ∀ r : List Str, badW (texts rs) wd sq r = (decide ((r.length : Int) ≠ widthE (texts rs) wd) || (sq && decide (r.length ≠ rs.length))) from fun r => by unfold badW; rw [texts_length])
          generalize widthE (texts rs) wd = W at *
          generalize badW (texts rs) wd sq = bw at *
          go_wp2_with fail
          go_loop [12, 45] (fun _ i => ∃ k : Nat, k ≤ rs.length ∧ i = .int .i64 k ∧ ((texts rs).take k).any bw = false) (fun _ i => rs.length - (intOf i).toNat)
          case atStart => exact ⟨0, Nat.zero_le _, rfl, rfl⟩
          case round =>
            clear hk hlt
            obtain ⟨k, hk, rfl, hall⟩ := hrel
            have HA := Lib.hid hall
            clear hall
            by_cases hlt : k < rs.length
            · obtain ⟨b, off, rfl, hb, hc⟩ := HM.out.1 (by omega)
              have hck := hc k hlt
              have hkl := HRL.out rs[k] (List.mem_append_left _ (List.getElem_mem hlt))
              have hkT : k < (texts rs).length := by rw [texts_length]; exact hlt
              have HT := Lib.hid (texts_get hlt)
              have HS := Lib.hid (fun h => any_take_succ (f := bw) hkT HA.out h)
              have HB := Lib.hid (fun h => any_hit (f := bw) hkT h)
              rw [HT.out, HBW.out] at HS HB
              generalize rs[k] = r at *
              clear hc hkT
              by_cases hr : ((r.xs.length : Nat) : Int) = W
              · have hr' : (((r.xs.length : Nat) : Int) != W) = false := by simpa using hr
                cases sq
                · have HN := Lib.hid (HS.out (by rw [hr]; simp))
                  clear hr
                  go_wp2_with fail
                  go_round
                  case rel => exact ⟨k + 1, by omega, by go_num, HN.out⟩
                  case measure => simp [intOf]; omega
                · by_cases hs : r.xs.length = rs.length
                  · have HN := Lib.hid (HS.out (by rw [hr, hs]; simp))
                    have hs' : (((r.xs.length : Nat) : Int) != ((rs.length : Nat) : Int)) = false := by rw [hs]; simp
                    clear hr hs
                    go_wp2_with fail
                    go_round
                    case rel => exact ⟨k + 1, by omega, by go_num, HN.out⟩
                    case measure => simp [intOf]; omega
                  · have HR := Lib.hid (show q = 2 by rw [HQ2.out, if_pos (HB.out (by simp [hs]))])
                    have hs' : (((r.xs.length : Nat) : Int) != ((rs.length : Nat) : Int)) = true := by rw [bne_iff_ne]; omega
                    clear hr hs
                    go_wp2_with fail
                    go_ret
                    exact ⟨ret_int HR.out.symm, Below.refl _ _⟩
              · have hr' : (((r.xs.length : Nat) : Int) != W) = true := by simpa using hr
                have HR := Lib.hid (show q = 2 by rw [HQ2.out, if_pos (HB.out (by simp [hr]))])
                clear hr
                go_wp2_with fail
                go_ret
                exact ⟨ret_int HR.out.symm, Below.refl _ _⟩
            · have HN := Lib.hid (any_full (by rw [texts_length]; omega) HA.out)
              have HQ3 := Lib.hid (show q = if (texts vs).any (badV (texts rs).length sq) = true then 2 else if (texts rs ++ texts vs).any badR = true then 3 else 0 by rw [HQ2.out, if_neg (by rw [HN.out]; decide)])
              go_wp2_with fail
              go_loop [14, 66] (fun _ i => ∃ k : Nat, k ≤ vs.length ∧ i = .int .i64 k ∧ ((texts vs).take k).any (badV (texts rs).length sq) = false) (fun _ i => vs.length - (intOf i).toNat)
              case atStart => exact ⟨0, Nat.zero_le _, rfl, rfl⟩
              case round =>
                clear hk hlt
                obtain ⟨k, hk, rfl, hall⟩ := hrel
                have HA := Lib.hid hall
                clear hall
                by_cases hlt : k < vs.length
                · obtain ⟨b, off, rfl, hb, hc⟩ := HV.out.1 (by omega)
                  have hck := hc k hlt
                  have hkl := HRL.out vs[k] (List.mem_append_right _ (List.getElem_mem hlt))
                  have hkT : k < (texts vs).length := by rw [texts_length]; exact hlt
                  have HT := Lib.hid (texts_get hlt)
                  have HS := Lib.hid (fun h => any_take_succ (f := badV (texts rs).length sq) hkT HA.out h)
                  have HB := Lib.hid (fun h => any_hit (f := badV (texts rs).length sq) hkT h)
                  rw [HT.out] at HS HB
                  generalize vs[k] = r at *
                  clear hc hkT
                  cases sq
                  · have HN := Lib.hid (HS.out (by unfold badV; rfl))
                    go_wp2_with fail
                    go_round
                    case rel => exact ⟨k + 1, by omega, by go_num, HN.out⟩
                    case measure => simp [intOf]; omega
                  · by_cases hs : r.xs.length = rs.length
                    · have HN := Lib.hid (HS.out (by unfold badV; rw [texts_length, hs]; simp))
                      have hs' : (((r.xs.length : Nat) : Int) != ((rs.length : Nat) : Int)) = false := by rw [hs]; simp
                      clear hs
                      go_wp2_with fail
                      go_round
                      case rel => exact ⟨k + 1, by omega, by go_num, HN.out⟩
                      case measure => simp [intOf]; omega
                    · have HR := Lib.hid (show q = 2 by rw [HQ3.out, if_pos (HB.out (by unfold badV; rw [texts_length]; simp [hs]))])
                      have hs' : (((r.xs.length : Nat) : Int) != ((rs.length : Nat) : Int)) = true := by rw [bne_iff_ne]; omega
                      clear hs
                      go_wp2_with fail
                      go_ret
                      exact ⟨ret_int HR.out.symm, Below.refl _ _⟩
                · have HN2 := Lib.hid (any_full (by rw [texts_length]; omega) HA.out)
                  have HQ4 := Lib.hid (show q = if (texts rs ++ texts vs).any badR = true then 3 else 0 by rw [HQ3.out, if_neg (by rw [HN2.out]; decide)])
                  have HCL := Lib.hid (bclonem_any (rs.map hdrV) A c w HM.out.hdr (fun u hu => by obtain ⟨r, _, rfl⟩ := List.mem_map.1 hu; rfl) (by rw [List.length_map]; exact hlr))
                  rw [List.length_map] at HCL
                  have hml : ((rs ++ vs).map hdrV).length = rs.length + vs.length := by rw [List.length_map, List.length_append]
                  have h1c : ∀ u ∈ vs.map hdrV, u.oneCell' = true := fun u hu => by obtain ⟨r, _, rfl⟩ := List.mem_map.1 hu; rfl
                  obtain ⟨ht, ⟨i, hi, hz, hsz, hbt⟩, hzs⟩ := el_mrow
                  clear HN HN2 HQ2 HQ3 HBW
                  obtain ⟨n, hn⟩ : ∃ n, n = rs.length + vs.length := ⟨_, rfl⟩
                  have HNN := Lib.hid hn
                  clear hn
                  go_upto_region 23 with fail
                  go_cut [82, 83, 84] (fun s1 s2 s3 wx => ∃ (A2 : Option Addr) (c2 : Nat), s1 = .slice A2 n c2 ∧ s2 = .int .i64 (n : Int) ∧ s3 = .int .i64 0 ∧ OwnS wx w.heap.size 23 A2 n c2 ((rs ++ vs).map hdrV) ∧ Below w.heap.size w wx)
                  case first =>
                    cases V with
                    | none =>
                      have hv : vs = [] := by
                        cases vs with
                        | nil => rfl
                        | cons x xs => obtain ⟨b, off, e, _⟩ := HV.out.1 (by simp); cases e
                      have hcv := hV0 rfl
                      subst hv hcv
                      clear hV0
                      go_wp2_with fail
                      refine HCL.out.mono ?_
                      rintro e w1 ⟨A1, c1, rfl, hown1, hb1⟩
                      go_wp2_with (at_builtin; refine wpList_append_own_none rfl _ _ 22 rfl w.heap.size 23 i 1 ht hi _ rs.length (rs.map hdrV) rfl hown1 rfl ?_)
                      go_meet
                      rw [show n = rs.length from HNN.out]
                      exact ⟨A1, c1, rfl, rfl, rfl, by rw [List.append_nil]; exact hown1, hb1⟩
                    | some a =>
                      clear hV0
                      go_wp2_with fail
                      refine HCL.out.mono ?_
                      rintro e w1 ⟨A1, c1, rfl, hown1, hb1⟩
                      have hcell : ∀ j u, (vs.map hdrV)[j]? = some u → w1.cell? (a.add j) = some u := by
                        intro j u hu
                        have hj := (List.getElem?_eq_some_iff.1 hu).1
                        obtain ⟨b, off, e, hb, h2⟩ := HV.out.hdr (by omega)
                        injection e with e
                        subst e
                        rw [add_plain]
                        exact (hb1.cell (p := ⟨b, off + j, none⟩) hb).trans (h2 j u hu)
                      have HC := Lib.hid hcell
                      clear hcell
                      go_wp2_with (at_builtin; refine wpList_append_own _ rfl _ _ 22 rfl w.heap.size 23 i (.slice none 0 0) 1 24 ht hi hz hsz hbt hzs (by decide) _ rs.length (rs.map hdrV) rfl hown1 a vs.length cv (vs.map hdrV) rfl (by rw [List.length_map]; omega) HC.out h1c (by unfold maxLen; omega) (by omega) hb1.size ?_)
                      intro v' w2 hown2 hgrow hnil
                      have hbel2 : Below w.heap.size w w2 := hb1.grown hgrow hb1.size hown1.row
                      obtain ⟨A2, c2, rfl⟩ := owns_slice hown2
                      clear hnil hgrow
                      go_wp2_with fail
                      go_meet
                      rw [HNN.out]
                      exact ⟨A2, c2, rfl, by simp, rfl, by rw [List.map_append]; exact hown2, hbel2⟩
                  case rest =>
                    obtain ⟨A2, c2, rfl, rfl, rfl, hown, hb2⟩ := hcut
                    clear ht hi hz hsz hbt hzs HCL hV0 h1c hk hlt
                    have HO := Lib.hid (fun (wr : World) (h : Below w.heap.size w wr) (h2 : OwnS wr w.heap.size 23 A2 n c2 ((rs ++ vs).map hdrV)) => h2.cells)
                    have hal : (rs ++ vs).length = n := by rw [HNN.out, List.length_append]
                    have htl : (texts rs ++ texts vs) = texts (rs ++ vs) := by unfold texts; rw [List.map_append]
                    rw [htl] at HQ4
                    have HBX := Lib.hid (show ∀ r ∈ rs ++ vs, ∀ wr, Below w.heap.size w wr → Cells wr r.A (strs r.xs) from fun r hr wr hb => by
                      rcases List.mem_append.1 hr with h | h
                      · exact (HM.out.2 r h).below hb
                      · exact (HV.out.2 r h).below hb)
                    clear HM HV htl
                    generalize rs ++ vs = all at *
                    subst hal
                    have hbig : all.length ≤ 2000000 := by have := HNN.out; omega
                    go_wp2_with fail
                    go_loopw [16, 18, 84] (fun _ _ i wr => ∃ k : Nat, k ≤ all.length ∧ i = .int .i64 k ∧ ((texts all).take k).any badR = false ∧ OwnS wr w.heap.size 23 A2 all.length c2 (all.map hdrV) ∧ Below w.heap.size w wr) (fun _ _ i _ => all.length - (intOf i).toNat)
                    case atStart => exact ⟨0, Nat.zero_le _, rfl, rfl, hown, hb2⟩
                    case round =>
                      clear hown hb2
                      obtain ⟨k, hk, rfl, hall, hown, hb2⟩ := hrel
                      have HA := Lib.hid hall
                      clear hall
                      by_cases hlt : k < all.length
                      · obtain ⟨b, off, rfl, hb, hc⟩ := hown.cells (by rw [List.length_map]; omega)
                        have hck := hc k (hdrV all[k]) (by rw [List.getElem?_map, List.getElem?_eq_getElem hlt]; rfl)
                        unfold hdrV at hck
                        have hkl := HRL.out all[k] (List.getElem_mem hlt)
                        have HXR := Lib.hid (HX.out all[k] (List.getElem_mem hlt))
                        have HBR := Lib.hid (HBX.out all[k] (List.getElem_mem hlt))
                        have hkT : k < (texts all).length := by rw [texts_length]; exact hlt
                        have HT := Lib.hid (texts_get hlt)
                        have HS := Lib.hid (fun h => any_take_succ (f := badR) hkT HA.out h)
                        have HB := Lib.hid (fun h => any_hit (f := badR) hkT h)
                        rw [HT.out] at HS HB
                        generalize all[k] = r at *
                        clear hc hkT
                        go_wp2_with fail
                        clear hck
                        go_loopw [18, 90] (fun _ i wr => ∃ j : Nat, j ≤ r.xs.length ∧ i = .int .i64 j ∧ (r.xs.take j).any (fun a => !rightQ a) = false ∧ OwnS wr w.heap.size 23 (some ⟨b, off, none⟩) all.length c2 (all.map hdrV) ∧ Below w.heap.size w wr) (fun _ i _ => r.xs.length - (intOf i).toNat)
                        case atStart => exact ⟨0, Nat.zero_le _, rfl, rfl, hown, hb2⟩
                        case round =>
                          clear hown hb2 hb
                          obtain ⟨j, hj, rfl, hin, hown, hb2⟩ := hrel
                          have HI := Lib.hid hin
                          clear hin
                          by_cases hlj : j < r.xs.length
                          · obtain ⟨b', off', hA', hb', hc⟩ := HBR.out _ hb2 (by rw [strs_length]; omega)
                            have hcj := hc j _ (strs_get _ _ hlj)
                            have hxg : r.xs.getD j [] = r.xs[j] := by rw [List.getD_eq_getElem?_getD, List.getElem?_eq_getElem hlj]; rfl
                            rw [hxg] at hcj
                            have hxl := HXR.out r.xs[j] (List.getElem_mem hlj)
                            have HRQ := Lib.hid (fun w he => rq_any r.xs[j] w (by omega) he)
                            have HS2 := Lib.hid (fun h => any_take_succ (f := fun a => !rightQ a) hlj HI.out h)
                            have HB2 := Lib.hid (fun h => any_hit (f := fun a => !rightQ a) hlj h)
                            generalize r.xs[j] = x at *
                            clear hc hxg hxl
                            rw [hA']
                            cases hrq : rightQ x
                            · have HR := Lib.hid (show q = 3 by rw [HQ4.out, if_pos (HB.out (show badR r.xs = true from HB2.out (by rw [hrq]; rfl)))])
                              rw [hrq] at HRQ
                              go_wp2_with fail
                              refine (HRQ.out _ (he.below hb2)).mono ?_
                              rintro e w3 ⟨rfl, hb3⟩
                              go_wp2_with fail
                              go_ret
                              exact ⟨ret_int HR.out.symm, below_lift3 hb2 hb3⟩
                            · have HN := Lib.hid (HS2.out (by rw [hrq]; rfl))
                              rw [hrq] at HRQ
                              go_wp2_with fail
                              refine (HRQ.out _ (he.below hb2)).mono ?_
                              rintro e w3 ⟨rfl, hb3⟩
                              have hown3 := hown.below hb3
                              have b3 := below_lift3 hb2 hb3
                              go_wp2_with fail
                              go_roundw
                              case rel => exact ⟨j + 1, by omega, by go_num, HN.out, hown3, b3⟩
                              case measure => simp [intOf]; omega
                          · have HN2 := Lib.hid (HS.out (show badR r.xs = false from any_full (show j = r.xs.length by omega) HI.out))
                            clear HI
                            go_wp2_with fail
                            go_roundw
                            case rel => exact ⟨k + 1, by omega, by go_num, HN2.out, hown, hb2⟩
                            case measure => simp [intOf]; omega
                      · have HN := Lib.hid (any_full (by rw [texts_length]; omega) HA.out)
                        have HR := Lib.hid (show q = 0 by rw [HQ4.out, if_neg (by rw [HN.out]; decide)])
                        go_wp2_with fail
                        go_ret
                        exact ⟨ret_int HR.out.symm, hb2⟩
end Go.Proofs.YtkcaheaefjcdiaaGreatDoor
