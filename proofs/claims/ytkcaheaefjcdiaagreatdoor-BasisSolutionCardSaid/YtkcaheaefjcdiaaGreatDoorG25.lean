/- The reference of basis: mul, sub, div, less, over, find. -/
import Derived.Test.YtkcaheaefjcdiaaGreatDoorG22
import Derived.Test.YtkcaheaefjcdiaaGreatDoorRRef5
import Derived.Test.YtkcaheaefjcdiaaGreatDoorG19
import Derived.BigRegion
import Derived.Test.YtkcaheaefjcdiaaGreatDoorG23
namespace Go.Proofs.YtkcaheaefjcdiaaGreatDoor
open Go.RowKit Num
set_option linter.unusedVariables false
attribute [local go_sem] B_size B_get B_toList B_mk B_extract B_append

theorem brmul_any (a b : Str) (w : World) (ha : a.length ≤ 1000000) (hb : b.length ≤ 1000000) :
    Calls Tryz.prog 49 #[.string (B a), .string (B b)] w fun e w' => e = .returned (.string (B (mulQS a b))) ∧ Below w.heap.size w w' := by
  have HQ := Lib.hid (rqmul_any a b w ha hb)
  generalize mulQS a b = v at *
  generalize mulQE a b = x at *
  go_enter Tryz.func49, Tryz.ntmps49
  simp only [B_mk]
  go_wp2_with fail
  refine HQ.out.mono ?_
  rintro e w1 ⟨rfl, hb1⟩
  go_wp2_with fail
  go_ret
  exact ⟨rfl, hb1⟩
theorem brsub_any (a b : Str) (w : World) (ha : a.length ≤ 100000) (hb : b.length ≤ 100000) :
    Calls Tryz.prog 93 #[.string (B a), .string (B b)] w fun e w' => e = .returned (.string (B (subQS a b))) ∧ Below w.heap.size w w' := by
  have HQ := Lib.hid (rqsub_any a b w ha hb)
  generalize subQS a b = v at *
  generalize subQE a b = x at *
  go_enter Tryz.func93, Tryz.ntmps93
  simp only [B_mk]
  go_wp2_with fail
  refine HQ.out.mono ?_
  rintro e w1 ⟨rfl, hb1⟩
  go_wp2_with fail
  go_ret
  exact ⟨rfl, hb1⟩
theorem brdiv_any (a b : Str) (w : World) (ha : a.length ≤ 1000000) (hb : b.length ≤ 1000000) :
    Calls Tryz.prog 92 #[.string (B a), .string (B b)] w fun e w' => e = .returned (.string (B (quoQS a b))) ∧ Below w.heap.size w w' := by
  have HQ := Lib.hid (rqdiv_any a b w ha hb)
  generalize quoQS a b = v at *
  generalize quoQE a b = x at *
  go_enter Tryz.func92, Tryz.ntmps92
  simp only [B_mk]
  go_wp2_with fail
  refine HQ.out.mono ?_
  rintro e w1 ⟨rfl, hb1⟩
  go_wp2_with fail
  go_ret
  exact ⟨rfl, hb1⟩
theorem scaleR_snoc {xs : List Str} {p : Str} {k : Nat} (h : k < xs.length) : scaleR (xs.take k) p ++ [quoQS xs[k] p] = scaleR (xs.take (k + 1)) p := by
  unfold scaleR; rw [List.take_succ_eq_append_getElem h, List.map_append]; rfl
set_option maxRecDepth 100000 in
theorem brover_any (xs : List Str) (X : Option Addr) (cx : Nat) (p : Str) (w : World) (hX : Cells w X (strs xs)) (hl : xs.length ≤ 1000000) (hx : ∀ x ∈ xs, x.length ≤ 100000) (hp : p.length ≤ 100000) :
    Calls Tryz.prog 56 #[.slice X xs.length cx, .string (B p)] w fun e w' => ∃ Z cz, e = .returned (.slice Z xs.length cz) ∧ OwnS w' w.heap.size 36 Z xs.length cz (strs (scaleR xs p)) ∧ Below w.heap.size w w' := by
  have HX := Lib.hid hx
  have HC := Lib.hid hX
  clear hx hX
  go_enter Tryz.func56, Tryz.ntmps56
  go_wp2_with fail
  go_loopw [5, 6] (fun v i wr => ∃ (k : Nat) (Z : Option Addr) (cz : Nat), k ≤ xs.length ∧ i = .int .i64 k ∧ v = .slice Z k cz ∧ OwnS wr w.heap.size 36 Z k cz (strs (scaleR (xs.take k) p)) ∧ Below w.heap.size w wr) (fun _ i _ => xs.length - (intOf i).toNat)
  case atStart => exact ⟨0, none, 0, Nat.zero_le _, rfl, rfl, OwnS.nil _ _ _, Below.refl _ _⟩
  case round =>
    obtain ⟨k, Z, cz, hk, rfl, rfl, hown, hbel⟩ := hrel
    have hcap := hown.cap
    unfold maxLen at hcap
    by_cases hlt : k < xs.length
    · obtain ⟨b, off, rfl, hb, hc⟩ := (HC.out.below hbel) (by rw [strs_length]; omega)
      have hck := hc k _ (strs_get _ _ hlt)
      have hxg : xs.getD k [] = xs[k] := by rw [List.getD_eq_getElem?_getD, List.getElem?_eq_getElem hlt]; rfl
      rw [hxg] at hck
      have HD := Lib.hid (fun w => brdiv_any xs[k] p w (by have := HX.out _ (List.getElem_mem hlt); omega) (by omega))
      have HS := Lib.hid (scaleR_snoc (p := p) hlt)
      generalize quoQS xs[k] p = q at *
      generalize xs[k] = x at *
      generalize scaleR (xs.take k) p = yo at *
      clear hc hxg
      go_wp2_with fail
      refine (HD.out _).mono ?_
      rintro e w2 ⟨rfl, hb2⟩
      have a2 := below_lift3 hbel hb2
      have hown2 := hown.below hb2
      go_wp2_with (at_builtin; refine wp_app1 el_mrat rfl _ _ rfl w.heap.size _ _ _ _ _ (.string (B q)) rfl hown2 rfl rfl (by unfold maxLen; omega) (by omega) a2.size ?_; intro A3 c3 w3 hown3 hb3)
      go_roundw
      case rel => exact ⟨k + 1, A3, c3, by omega, by go_num, rfl, by rw [snoc_strs, HS.out] at hown3; exact hown3, a2.trans hb3⟩
      case measure => simp [intOf]; omega
    · have HN := Lib.hid (show OwnS wr w.heap.size 36 Z xs.length cz (strs (scaleR xs p)) by
        have hkx : k = xs.length := by omega
        rw [hkx, List.take_length] at hown; exact hown)
      have HK := Lib.hid (show k = xs.length by omega)
      clear hown
      go_wp2_with fail
      go_ret
      exact ⟨Z, cz, by show Ending.returned (.slice Z k cz) = _; rw [HK.out], HN.out, hbel⟩
theorem lessR_snoc {xs ys : List Str} {f : Str} {k : Nat} (h : k < xs.length) (h2 : k < ys.length) : lessR (xs.take k) (ys.take k) f ++ [subQS xs[k] (mulQS f ys[k])] = lessR (xs.take (k + 1)) (ys.take (k + 1)) f := by
  unfold lessR
  rw [List.take_succ_eq_append_getElem h, List.take_succ_eq_append_getElem h2, List.zipWith_append (by rw [List.length_take, List.length_take]; omega)]; rfl
theorem cells_new1 {w : World} {e : TypeId} {v : Value} : Cells (w.alloc (.cells #[v] e)) (some ⟨w.heap.size, 0, none⟩) [v] := (OwnS.lit w e #[v] w.heap.size 1 (Nat.le_refl _) rfl (by unfold maxLen; omega)).cells
set_option maxRecDepth 100000 in
theorem brless_any (xs : List Str) (X : Option Addr) (cx : Nat) (ys : List Str) (Y : Option Addr) (cy : Nat) (f : Str) (w : World) (hX : Cells w X (strs xs)) (hY : Cells w Y (strs ys)) (hl : xs.length ≤ 1000000) (hxy : xs.length = ys.length) (hx : ∀ x ∈ xs, x.length ≤ 10000) (hy : ∀ x ∈ ys, x.length ≤ 10000) (hf : f.length ≤ 10000)
    (hm : ∀ j, j < ys.length → (mulQS f (ys.getD j [])).length ≤ 100000) :
    Calls Tryz.prog 57 #[.slice X xs.length cx, .slice Y ys.length cy, .string (B f)] w fun e w' => ∃ Z cz, e = .returned (.slice Z xs.length cz) ∧ OwnS w' w.heap.size 36 Z xs.length cz (strs (lessR xs ys f)) ∧ Below w.heap.size w w' := by
  have HX := Lib.hid hx
  have HY := Lib.hid hy
  have HC := Lib.hid hX
  have HD := Lib.hid hY
  have HM := Lib.hid hm
  have HXY := Lib.hid hxy
  clear hx hX hy hY hm hxy
  go_enter Tryz.func57, Tryz.ntmps57
  go_wp2_with fail
  go_loopw [7, 8] (fun v i wr => ∃ (k : Nat) (Z : Option Addr) (cz : Nat), k ≤ xs.length ∧ i = .int .i64 k ∧ v = .slice Z k cz ∧ OwnS wr w.heap.size 36 Z k cz (strs (lessR (xs.take k) (ys.take k) f)) ∧ Below w.heap.size w wr) (fun _ i _ => xs.length - (intOf i).toNat)
  case atStart => exact ⟨0, none, 0, Nat.zero_le _, rfl, rfl, OwnS.nil _ _ _, Below.refl _ _⟩
  case round =>
    obtain ⟨k, Z, cz, hk, rfl, rfl, hown, hbel⟩ := hrel
    have hcap := hown.cap
    unfold maxLen at hcap
    by_cases hlt : k < xs.length
    · have hlty : k < ys.length := by have := HXY.out; omega
      obtain ⟨bx, ox, rfl, hbx, hcx⟩ := (HC.out.below hbel) (by rw [strs_length]; omega)
      obtain ⟨bY, oy, rfl, hby, hcy⟩ := (HD.out.below hbel) (by rw [strs_length]; omega)
      have hckx := hcx k _ (strs_get _ _ hlt)
      have hcky := hcy k _ (strs_get _ _ hlty)
      have hxg : xs.getD k [] = xs[k] := by rw [List.getD_eq_getElem?_getD, List.getElem?_eq_getElem hlt]; rfl
      have hyg : ys.getD k [] = ys[k] := by rw [List.getD_eq_getElem?_getD, List.getElem?_eq_getElem hlty]; rfl
      have hml := HM.out k hlty
      rw [hyg] at hml
      rw [hxg] at hckx
      rw [hyg] at hcky
      have HM1 := Lib.hid (fun w => brmul_any f ys[k] w (by omega) (by have := HY.out _ (List.getElem_mem hlty); omega))
      have HM2 := Lib.hid (fun w => brsub_any xs[k] (mulQS f ys[k]) w (by have := HX.out _ (List.getElem_mem hlt); omega) (by omega))
      have HS := Lib.hid (lessR_snoc (f := f) hlt hlty)
      clear hcx hcy hxg hyg hml
      generalize subQS xs[k] (mulQS f ys[k]) = q at *
      generalize mulQS f ys[k] = z at *
      generalize xs[k] = x at *
      generalize ys[k] = y at *
      generalize lessR (xs.take k) (ys.take k) f = yo at *
      have hbd := below_drew hbel
      have HL := Lib.hid (fun (w2 : World) (hb2 : Below wr.drew.heap.size wr.drew w2) => show w2.cell? ⟨bx, ox + k, none⟩ = some (.string (B x)) from (hb2.cell (p := ⟨bx, ox + k, none⟩) hbx).trans hckx)
      have hownd : OwnS wr.drew w.heap.size 36 Z k cz (strs yo) := hown.below ((Below.refl _ _).drew)
      go_wp2_with fail
      go_region_law (first
        | (refine step_appn el_mrat rfl _ _ rfl w.heap.size Z k cz (strs yo) _ ⟨_, 0, none⟩ 1 1 [.string (B q)] rfl ((hownd.below hb4).alloc _) rfl rfl cells_new1 (by simp [Value.oneCell']) (by unfold maxLen; omega) (by omega) (Nat.le_trans (below_lift3 hbd hb4).size (by simp)) ?_; intro A3 c3 w4 hown4 hb5; have hb5' := ((Below.refl _ _).alloc (below_lift3 hbd hb4).size _).trans hb5)
        | (go_simp; go_at_call 49; refine (HM1.out _).mono ?_; rintro e w2 ⟨rfl, hb2⟩; have l0 := HL.out w2 hb2)
        | (go_simp; go_at_call 93; refine (HM2.out _).mono ?_; rintro e w3 ⟨rfl, hb3⟩; have hb4 := below_lift3 hb2 hb3))
      all_goals
        have b5 := (below_lift3 hbd hb4).trans hb5'
        go_wp2_with fail
        go_roundw
        case rel => exact ⟨k + 1, A3, c3, by omega, by go_num, rfl, by rw [snoc_strs, HS.out] at hown4; exact hown4, b5⟩
        case measure => simp [intOf]; omega
    · have HN := Lib.hid (show OwnS wr w.heap.size 36 Z xs.length cz (strs (lessR xs ys f)) by
        have hkx : k = xs.length := by omega
        rw [hkx, List.take_length, HXY.out, List.take_length, ← HXY.out] at hown; exact hown)
      have HK := Lib.hid (show k = xs.length by omega)
      clear hown
      go_wp2_with fail
      go_ret
      exact ⟨Z, cz, by show Ending.returned (.slice Z k cz) = _; rw [HK.out], HN.out, hbel⟩
end Go.Proofs.YtkcaheaefjcdiaaGreatDoor
/- The reference of basis: find, reduce. -/
namespace Go.Proofs.YtkcaheaefjcdiaaGreatDoor
open Go.RowKit Num
set_option linter.unusedVariables false
attribute [local go_sem] B_size B_get B_toList B_mk B_extract B_append

theorem sign_zero {a : Str} (h : rightQ a = true) : signQ a = 0 ↔ a = [48] := by
  have h1 := signQ_rat h
  rw [← rq_zero_iff h]
  constructor
  · intro e
    have h2 : ¬ rq a < 0 := fun h => absurd (h1.1.2 h) (by omega)
    have h3 : ¬ 0 < rq a := fun h => absurd (h1.2.2 h) (by omega)
    rw [Rat.not_lt] at h2 h3
    exact Rat.le_antisymm h3 h2
  · intro e
    rw [e] at h1
    have h2 : ¬ signQ a < 0 := fun h => absurd (h1.1.1 h) (by decide)
    have h3 : ¬ 0 < signQ a := fun h => absurd (h1.2.1 h) (by decide)
    omega
/-- a matrix whose headers are the call's own; the rows lie anywhere else -/
structure MatR (w : World) (Bs : Nat) (A : Option Addr) (c : Nat) (rs : List VecV) : Prop where
  outer : OwnS w Bs 23 A rs.length c (rs.map hdrV)
  rows : ∀ r ∈ rs, Cells w r.A (strs r.xs)
  apart : ∀ r ∈ rs, 0 < r.xs.length → ∀ b off sp, r.A = some ⟨b, off, sp⟩ → ∀ x, A ≠ some ⟨b, x, none⟩
section
variable {w w' : World} {Bs : Nat} {A : Option Addr} {c : Nat} {rs : List VecV}
theorem MatR.below (h : MatR w Bs A c rs) (hb : Below w.heap.size w w') : MatR w' Bs A c rs := ⟨h.outer.below hb, fun r hr => (h.rows r hr).below hb, h.apart⟩
theorem MatR.hdr (h : MatR w Bs A c rs) (h0 : 0 < rs.length) : ∃ g, A = some ⟨g, 0, none⟩ ∧ Bs ≤ g ∧ g < w.heap.size ∧ (∀ i (hi : i < rs.length), w.cell? ⟨g, i, none⟩ = some (.slice rs[i].A rs[i].xs.length rs[i].c)) ∧ ∀ j, w.frozen? ⟨g, j, none⟩ = false := by
  obtain ⟨g, e, h1, h2, h3, h4⟩ := h.outer.at_ h0
  exact ⟨g, e, h1, h2, fun i hi => by rw [h3 i hi, List.getElem?_map, List.getElem?_eq_getElem hi]; rfl, h4⟩
theorem Cells.other {w : World} {X : Option Addr} {xs : List Value} (h : Cells w X xs) {g j : Nat} {u : Value} (hg : 0 < xs.length → ∀ b off sp, X = some ⟨b, off, sp⟩ → b ≠ g) : Cells (w.setCell ⟨g, j, none⟩ u) X xs := by
  intro h0
  obtain ⟨b, off, e, hb, hc⟩ := h h0
  have hne := hg h0 _ _ _ e
  refine ⟨b, off, e, by rw [World.size_setCell]; exact hb, fun i u' hu => ?_⟩
  rw [World.cell?_of_block (w := w) (Below.heap_setCell _ _ _ _ hne)]
  exact hc i u' hu
/-- a row is put in another's place -/
theorem MatR.put (h : MatR w Bs A c rs) {i g : Nat} (hi : i < rs.length) (hg : A = some ⟨g, 0, none⟩) {r : VecV} (hr : Cells w r.A (strs r.xs)) (ha : 0 < r.xs.length → ∀ b off sp, r.A = some ⟨b, off, sp⟩ → b ≠ g) : MatR (w.setCell ⟨g, i, none⟩ (.slice r.A r.xs.length r.c)) Bs A c (rs.set i r) := by
  have hap : ∀ x ∈ rs, 0 < x.xs.length → ∀ b off sp, x.A = some ⟨b, off, sp⟩ → b ≠ g := fun x hx h0 b off sp e e2 => h.apart x hx h0 b off sp e 0 (by rw [hg, e2])
  refine ⟨?_, fun x hx => ?_, fun x hx h0 b off sp e y => ?_⟩
  · rw [List.length_set, List.map_set]
    have := h.outer
    rw [hg] at this ⊢
    exact this.stored i _
  · rcases List.mem_or_eq_of_mem_set hx with h1 | h1
    · exact (h.rows x h1).other (by rw [strs_length]; exact hap x h1)
    · rw [h1]; exact hr.other (by rw [strs_length]; exact ha)
  · rcases List.mem_or_eq_of_mem_set hx with h1 | h1
    · exact h.apart x h1 h0 b off sp e y
    · rw [h1] at h0 e
      intro e2
      rw [hg] at e2
      injection e2 with e2
      injection e2 with e2
      exact ha h0 b off sp e e2.symm
end
/-- what find returns -/
def findE (M : List (List Str)) (row col : Nat) : Int := if findM M row col = M.length then -1 else (findM M row col : Int)
set_option maxRecDepth 100000 in
theorem brfind_any (rs : List VecV) (A : Option Addr) (c row col : Nat) (w : World) (hM : MatAt w A rs) (hl : rs.length ≤ 1000000) (hrow : row ≤ rs.length) (hcol : ∀ r ∈ rs, col < r.xs.length) (hcl : ∀ r ∈ rs, r.xs.length ≤ 1000000) (hx : ∀ r ∈ rs, ∀ x ∈ r.xs, rightQ x = true ∧ x.length ≤ 100000) :
    Calls Tryz.prog 55 #[.slice A rs.length c, .int .i64 row, .int .i64 col] w fun e w' => e = .returned (.int .i64 (findE (texts rs) row col)) ∧ Below w.heap.size w w' := by
  have HX := Lib.hid hx
  have HM := Lib.hid hM
  have HCOL := Lib.hid hcol
  have HCL := Lib.hid hcl
  clear hx hM hcol hcl
  go_enter Tryz.func55, Tryz.ntmps55
  go_wp2_with fail
  go_loopw [7] (fun i wr => ∃ k : Nat, row ≤ k ∧ k ≤ rs.length ∧ i = .int .i64 k ∧ (∀ j, row ≤ j → j < k → cellM (texts rs) j col = [48]) ∧ Below w.heap.size w wr) (fun i _ => rs.length - (intOf i).toNat)
  case atStart => exact ⟨row, Nat.le_refl _, hrow, rfl, fun j h1 h2 => absurd h2 (by omega), Below.refl _ _⟩
  case round =>
    obtain ⟨k, hrk, hk, rfl, hall, hbel⟩ := hrel
    have HA := Lib.hid hall
    clear hall
    by_cases hlt : k < rs.length
    · obtain ⟨b, off, rfl, hb, hc⟩ := (HM.out.below hbel).1 (by omega)
      have hck := hc k hlt
      have hcl := HCL.out _ (List.getElem_mem hlt)
      have hco := HCOL.out _ (List.getElem_mem hlt)
      obtain ⟨b2, o2, hA2, hb2, hc2⟩ := (HM.out.below hbel).2 rs[k] (List.getElem_mem hlt) (by rw [strs_length]; omega)
      have hcx := hc2 col _ (strs_get _ _ hco)
      rw [hA2] at hck
      have hxg : rs[k].xs.getD col [] = rs[k].xs[col] := by rw [List.getD_eq_getElem?_getD, List.getElem?_eq_getElem hco]; rfl
      have hxr := HX.out _ (List.getElem_mem hlt) _ (List.getElem_mem hco)
      have hce : cellM (texts rs) k col = rs[k].xs[col] := by unfold cellM; rw [texts_getD hlt, hxg]
      rw [hxg] at hcx
      have HCE := Lib.hid hce
      have HSG := Lib.hid (fun w => rqsign_any rs[k].xs[col] w (by omega))
      have HSZ := Lib.hid (sign_zero hxr.1)
      generalize rs[k].xs[col] = x at *
      generalize rs[k] = r at *
      generalize signQ x = s at *
      clear hc hc2 hce hxg hxr hA2
      by_cases hs : s = 0
      · have HN := Lib.hid (show ∀ j, row ≤ j → j < k + 1 → cellM (texts rs) j col = [48] from fun j h1 h2 => by
          by_cases e : j = k
          · rw [e, HCE.out]; exact HSZ.out.1 hs
          · exact HA.out j h1 (by omega))
        subst hs
        go_wp2_with fail
        refine (HSG.out _).mono ?_
        rintro e w2 ⟨rfl, hb3⟩
        go_wp2_with fail
        go_roundw
        case rel => exact ⟨k + 1, by omega, by omega, by go_num, HN.out, below_lift3 hbel hb3⟩
        case measure => simp [intOf]; omega
      · have hs' : (s != 0) = true := by simpa using hs
        have HF := Lib.hid (show findM (texts rs) row col = k from findM_eq hrk (by rw [texts_length]; omega) HA.out (.inr (by rw [HCE.out]; exact fun e => hs (HSZ.out.2 e))))
        clear hs
        go_wp2_with fail
        refine (HSG.out _).mono ?_
        rintro e w2 ⟨rfl, hb3⟩
        go_wp2_with fail
        go_ret
        exact ⟨by unfold findE; rw [HF.out, if_neg (by rw [texts_length]; omega)]; rfl, below_lift3 hbel hb3⟩
    · have HF := Lib.hid (show findM (texts rs) row col = rs.length from findM_eq (by omega) (by rw [texts_length]; omega) (fun i h1 h2 => HA.out i h1 (by omega)) (.inl (by rw [texts_length])))
      go_wp2_with fail
      go_ret
      exact ⟨by unfold findE; rw [HF.out, if_pos (by rw [texts_length])]; rfl, hbel⟩
end Go.Proofs.YtkcaheaefjcdiaaGreatDoor
/- The reference of basis: reduce. -/
namespace Go.Proofs.YtkcaheaefjcdiaaGreatDoor
open Go.RowKit Num
set_option linter.unusedVariables false
attribute [local go_sem] B_size B_get B_toList B_mk B_extract B_append

/-- the headers are the call's own; a row came in or is the call's own -/
structure MatK (w : World) (Bs gA c : Nat) (rs : List VecV) : Prop where
  outer : OwnS w Bs 23 (some ⟨gA, 0, none⟩) rs.length c (rs.map hdrV)
  rows : ∀ r ∈ rs, Cells w r.A (strs r.xs)
  kind : ∀ r ∈ rs, 0 < r.xs.length → ∀ b off sp, r.A = some ⟨b, off, sp⟩ → b < Bs ∨ ∃ cur, w.heap[b]? = some (.cells cur 36 (0, 0))
section
variable {w w' : World} {Bs gA c : Nat} {rs : List VecV}
theorem MatK.at (h : MatK w Bs gA c rs) : MatAt w (some ⟨gA, 0, none⟩) rs := mat_of_hdr h.outer.cells h.rows
theorem MatK.below (h : MatK w Bs gA c rs) (hb : Below w.heap.size w w') : MatK w' Bs gA c rs :=
  ⟨h.outer.below hb, fun r hr => (h.rows r hr).below hb, fun r hr h0 b off sp e => (h.kind r hr h0 b off sp e).imp id fun ⟨cur, hc⟩ => ⟨cur, (hb.block b (lt_of_heap hc)).trans hc⟩⟩
theorem MatK.neA (h : MatK w Bs gA c rs) {r : VecV} (hr : r ∈ rs) (h0 : 0 < r.xs.length) {b off : Nat} {sp : Option Nat} (e : r.A = some ⟨b, off, sp⟩) : b ≠ gA := by
  obtain ⟨h1, h2, cur, h3⟩ := h.outer.typ
  rcases h.kind r hr h0 b off sp e with h4 | ⟨cur2, h4⟩
  · omega
  · intro e2
    rw [e2, h3] at h4
    injection h4 with h4
    injection h4 with _ h4 _
    exact absurd h4 (by decide)
/-- a row is put in another's place -/
theorem MatK.put (h : MatK w Bs gA c rs) {i : Nat} (hi : i < rs.length) {r : VecV} (hr : Cells w r.A (strs r.xs)) (hk : 0 < r.xs.length → ∀ b off sp, r.A = some ⟨b, off, sp⟩ → b < Bs ∨ ∃ cur, w.heap[b]? = some (.cells cur 36 (0, 0))) :
    MatK (w.setCell ⟨gA, i, none⟩ (.slice r.A r.xs.length r.c)) Bs gA c (rs.set i r) := by
  obtain ⟨g1, g2, cur, g3⟩ := h.outer.typ
  have hne : ∀ {b : Nat}, (b < Bs ∨ ∃ cur, w.heap[b]? = some (.cells cur 36 (0, 0))) → b ≠ gA := by
    intro b hb e
    rcases hb with h4 | ⟨cur2, h4⟩
    · omega
    · rw [e, g3] at h4
      injection h4 with h4
      injection h4 with _ h4 _
      exact absurd h4 (by decide)
  have hset : ∀ {b : Nat} {v : Value}, (b < Bs ∨ ∃ cur, w.heap[b]? = some (.cells cur 36 (0, 0))) → (b < Bs ∨ ∃ cur, (w.setCell ⟨gA, i, none⟩ v).heap[b]? = some (.cells cur 36 (0, 0))) := by
    intro b v hb
    have hn := hne hb
    exact hb.imp id fun ⟨cur, hc⟩ => ⟨cur, by rw [Below.heap_setCell _ _ _ _ hn]; exact hc⟩
  refine ⟨?_, fun x hx => ?_, fun x hx h0 b off sp e => ?_⟩
  · rw [List.length_set, List.map_set]
    exact h.outer.stored i _
  · rcases List.mem_or_eq_of_mem_set hx with h1 | h1
    · exact (h.rows x h1).other (by rw [strs_length]; exact fun h0 b off sp e => h.neA h1 h0 e)
    · rw [h1]; exact hr.other (by rw [strs_length]; exact fun h0 b off sp e => hne (hk h0 b off sp e))
  · rcases List.mem_or_eq_of_mem_set hx with h1 | h1
    · exact hset (h.kind x h1 h0 b off sp e)
    · rw [h1] at h0 e
      exact hset (hk h0 b off sp e)
theorem MatK.keep {P : Option Addr} {n cp : Nat} {ps : List Value} (h : MatK w Bs gA c rs) (hP : OwnS w Bs 3 P n cp ps) (hb : Below Bs w w') (hk : ∀ b, b < w.heap.size → P ≠ some ⟨b, 0, none⟩ → w'.heap[b]? = w.heap[b]?) : MatK w' Bs gA c rs := by
  have hown : ∀ {b : Nat} {cur : Array Value} {t : TypeId}, w.heap[b]? = some (.cells cur t (0, 0)) → t ≠ 3 → w'.heap[b]? = w.heap[b]? := by
    intro b cur t hc ht
    refine hk b (lt_of_heap hc) fun e => ?_
    subst e
    obtain ⟨_, _, cur2, h3⟩ := hP.typ
    rw [hc] at h3
    injection h3 with h3
    injection h3 with _ h3 _
    exact ht h3
  obtain ⟨g1, g2, cur, g3⟩ := h.outer.typ
  refine ⟨h.outer.keep fun b hb2 => ?_, fun r hr h0 => ?_, fun r hr h0 b off sp e => ?_⟩
  · injection hb2 with hb2
    injection hb2 with hb2
    subst hb2
    exact hown g3 (by decide)
  · obtain ⟨b, off, e, hlt, hc⟩ := h.rows r hr h0
    rw [strs_length] at h0
    have hsame : w'.heap[b]? = w.heap[b]? := by
      rcases h.kind r hr h0 b off none e with h4 | ⟨cur2, h4⟩
      · exact hb.block b h4
      · exact hown h4 (by decide)
    exact ⟨b, off, e, Nat.lt_of_lt_of_le hlt hb.size, fun j u hu => (World.cell?_of_block (w := w) hsame).trans (hc j u hu)⟩
  · exact (h.kind r hr h0 b off sp e).imp id fun ⟨cur, hc⟩ => ⟨cur, (hown hc (by decide)).trans hc⟩
end
/-- a slice of numbers that the call made is of the kind that a row may be -/
theorem own_kind {w : World} {Bs Bs' : Nat} {Z : Option Addr} {n cz : Nat} {xs : List Value} (h : OwnS w Bs' 36 Z n cz xs) : ∀ b off sp, Z = some ⟨b, off, sp⟩ → b < Bs ∨ ∃ cur, w.heap[b]? = some (.cells cur 36 (0, 0)) := by
  intro b off sp e
  rcases h.2 with ⟨hv, _⟩ | ⟨g', cap, cur, hv, _, hh, _⟩
  · injection hv with hv _ _; rw [e] at hv; cases hv
  · injection hv with hv _ _
    rw [e] at hv
    injection hv with hv
    injection hv with hv _ _
    rw [hv]
    exact .inr ⟨cur, hh⟩
/-- the first row of what find found is divided and put in its place -/
theorem put_first {M : List (List Str)} {row a col : Nat} (hr : row < M.length) (ha : a < M.length) : ((M.set a (M.getD row [])).set row (scaleR (M.getD a []) ((M.getD a []).getD col []))) = clrM (swapM M row a) row col 0 := by
  rw [clr_zero]
  have h1 : (swapM M row a).getD row [] = M.getD a [] := by rw [swapM_row hr ha]; unfold swF; rw [if_pos rfl]
  have h2 : cellM (swapM M row a) row col = (M.getD a []).getD col [] := by unfold cellM; rw [h1]
  rw [h1, h2]
  apply List.ext_getElem?
  intro i
  unfold swapM
  simp only [List.getElem?_set, List.length_set]
  by_cases e1 : row = i
  · subst e1; rw [if_pos rfl, if_pos rfl]
  · rw [if_neg e1, if_neg e1]
    by_cases e2 : a = i
    · subst e2; rw [if_pos rfl, if_pos rfl]
    · rw [if_neg e2, if_neg e2, if_neg e1]
theorem texts_set (rs : List VecV) (i : Nat) (r : VecV) : texts (rs.set i r) = (texts rs).set i r.xs := by unfold texts; rw [List.map_set]
end Go.Proofs.YtkcaheaefjcdiaaGreatDoor
