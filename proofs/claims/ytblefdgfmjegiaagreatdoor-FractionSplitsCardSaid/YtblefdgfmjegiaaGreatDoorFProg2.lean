/- fraction: sum with each of its closures; Used, Together, Served, Integral. (Printed by wip/fprog2.py.) -/
import Derived.Test.YtblefdgfmjegiaaGreatDoorFProg
namespace Go.Proofs.YtblefdgfmjegiaaGreatDoor
open Go.RowKit Num
set_option linter.unusedVariables false
attribute [local go_sem] B_size B_get B_toList B_mk B_extract B_append

theorem fint_info : (Tryz.prog.info? 3).map (fun i => (i.zero, i.size, i.bytes)) = some (some (.int .i64 0), 1, 8) := by kernel_rfl
theorem el_fint : Elem Tryz.prog 60 3 (.int .i64 0) 8 := ⟨Tryz.underlying60, info_parts fint_info, rfl⟩
def colL (cs : List ColV) : List (Int × Int) := cs.map fun r => (r.t, r.s)
theorem colL_len (cs : List ColV) : (colL cs).length = cs.length := by unfold colL; simp
theorem ones_snoc {f : Int → Int → Bool} {cs : List ColV} {j : Nat} (hj : j < cs.length) {o : Int} (ho : o = if f cs[j].t cs[j].s then 1 else 0) : ones f ((colL cs).take j) ++ [o] = ones f ((colL cs).take (j + 1)) := by
  have hj' : j < (colL cs).length := by rw [colL_len]; exact hj
  rw [List.take_succ_eq_append_getElem hj']
  unfold ones
  rw [List.map_append, ho]
  have e : (colL cs)[j] = (cs[j].t, cs[j].s) := by simp [colL]
  rw [e]; rfl
theorem ints_snoc (xs : List Int) (n : Int) : ints xs ++ [.int .i64 n] = ints (xs ++ [n]) := by unfold ints; rw [List.map_append]; rfl
theorem ones_fits (f : Int → Int → Bool) (l : List (Int × Int)) : ∀ n ∈ ones f l, fits n := fun n hn => by
  rcases ones_01 f l n hn with rfl | rfl <;> (constructor <;> decide)
theorem sum_less {ns : List Int} {v : List Str} (h : v.length < ns.length) : sumQ ns v = ([], 2) := by unfold sumQ; rw [if_pos h]
theorem sum_more {ns : List Int} {v : List Str} (h : ¬ v.length < ns.length) : sumQ ns v = timesQ ns (v.take ns.length) := by unfold sumQ; rw [if_neg h]
set_option maxRecDepth 100000 in
theorem fsum1_any (cs : List ColV) (A : Option Addr) (c : Nat) (v : List Str) (V : Option Addr) (cv : Nat) (q : Nat) (k : Int) (w : World) (hC : ColsAt w A cs) (hV : Cells w V (strs v)) (hl : cs.length ≤ 1000) (hvl : v.length ≤ cv ∧ cv ≤ maxLen) (hvx : ∀ x ∈ v, x.length ≤ 100000) (hq : w.heap[q]? = some (.cells #[.int .i64 k] 3)) (he : Env w) :
    Calls Tryz.prog 20 #[.slice A cs.length c, .slice V v.length cv, .func (Fn.func 21) #[] #[.pointer (some ⟨q, 0, none⟩)]] w fun e w' => e = .returned (.tuple #[.string (B (sumQ (ones (isType k) (colL cs)) v).1), .int .i64 (sumQ (ones (isType k) (colL cs)) v).2]) ∧ Below w.heap.size w w' := by
  unfold maxLen at hvl
  have HC := Lib.hid hC
  have HV := Lib.hid hV
  have HQ := Lib.hid hq
  clear hC hV hq
  have hol : (ones (isType k) (colL cs)).length = cs.length := by rw [ones_len, colL_len]
  by_cases hlt : v.length < cs.length
  · have hlt' : (v.length : Int) < (cs.length : Int) := by omega
    have HS := Lib.hid (sum_less (ns := ones (isType k) (colL cs)) (v := v) (by rw [hol]; exact hlt))
    go_enter Tryz.func20, Tryz.ntmps20
    simp only [B_mk]
    go_wp2_with fail
    go_ret2
    exact ⟨by rw [HS.out]; rfl, Below.refl _ _⟩
  · have hlt' : ¬ (v.length : Int) < (cs.length : Int) := by omega
    have HS := Lib.hid (sum_more (ns := ones (isType k) (colL cs)) (v := v) (by rw [hol]; exact hlt))
    rw [hol] at HS
    have htl : (v.take cs.length).length = cs.length := by rw [List.length_take]; omega
    have HT := Lib.hid (fun (w' : World) (N : Option Addr) (cn : Nat) (hN : Cells w' N (ints (ones (isType k) (colL cs)))) (hA : Cells w' V (strs (v.take cs.length))) (he : Env w') => show Calls Tryz.prog 34 #[.slice N cs.length cn, .slice V cs.length cv] w' fun e w2 => e = .returned (.tuple #[.string (B (timesQ (ones (isType k) (colL cs)) (v.take cs.length)).1), .int .i64 (timesQ (ones (isType k) (colL cs)) (v.take cs.length)).2]) ∧ Below w'.heap.size w' w2 from by
      have h := qtimes_any (ones (isType k) (colL cs)) (v.take cs.length) N V cn cv w' hN hA (by unfold maxLen; omega) (by unfold maxLen; omega) (ones_fits _ _) (fun x hx => hvx x (List.mem_of_mem_take hx)) he
      rw [hol, htl] at h
      exact h)
    rw [← HS.out] at HT
    clear hvx htl hlt
    generalize sumQ (ones (isType k) (colL cs)) v = sq at *
    have HOL := Lib.hid hol
    clear hol
    go_enter Tryz.func20, Tryz.ntmps20
    simp only [B_mk]
    go_wp2_with fail
    go_loopw [8, 10, 11, 19] (fun o _ _ i wr => ∃ (j : Nat) (X : Option Addr) (cx : Nat), j ≤ cs.length ∧ i = .int .i64 j ∧ o = .slice X j cx ∧ OwnS wr w.heap.size 3 X j cx (ints (ones (isType k) ((colL cs).take j))) ∧ Below w.heap.size w wr) (fun _ _ _ i _ => cs.length - (intOf i).toNat)
    case atStart => exact ⟨0, none, 0, Nat.zero_le _, rfl, rfl, OwnS.nil _ _ _, Below.refl _ _⟩
    case round =>
      obtain ⟨j, X, cx, hj, rfl, rfl, hX, hbel⟩ := hrel
      have hcap := hX.cap
      unfold maxLen at hcap
      by_cases hlj : j < cs.length
      · obtain ⟨b, off, rfl, hb, hc⟩ := (HC.out.below hbel) (by omega)
        have hcj := hc j hlj
        have d0 := hcj 0 _ rfl
        have d1 := hcj 1 _ rfl
        have d2 := hcj 2 _ rfl
        have d3 := hcj 3 _ rfl
        have d4 := hcj 4 _ rfl
        have d5 := hcj 5 _ rfl
        have d6 := hcj 6 _ rfl
        simp only [Nat.add_zero] at d0
        have HSN := Lib.hid (fun o h => ones_snoc (f := (isType k)) (cs := cs) hlj (o := o) h)

        generalize cs[j] = r at *
        have b1 := fbelow3 hbel (new_below wr (.cells #[.int .i64 r.t, .int .i64 r.s, .int .i64 r.p, .int .i64 r.rt, .int .i64 r.rs, .slice r.A r.n r.c, .slice r.A2 r.n2 r.c2] 57))
        have HF := Lib.hid (fused1_any r k q _ (row_on HQ.out b1))
        have hXa := hX.below (new_below wr (.cells #[.int .i64 r.t, .int .i64 r.s, .int .i64 r.p, .int .i64 r.rt, .int .i64 r.rs, .slice r.A r.n r.c, .slice r.A2 r.n2 r.c2] 57))
        clear hcj hc hX
        cases hf : (isType k) r.t r.s
        · rw [hf] at HF HSN
          have HN := Lib.hid (HSN.out 0 (by simp))
          go_wp2_with fail
          refine HF.out.mono ?_
          rintro e w2 ⟨rfl, hb2⟩
          have hX2 := hXa.below hb2
          have b2 := fbelow3 b1 hb2
          go_wp2_with (at_builtin; refine wp_app1 el_fint rfl _ _ rfl w.heap.size X j cx _ _ (.int .i64 0) rfl hX2 rfl rfl (by unfold maxLen; omega) (by omega) b2.size ?_; intro A3 c3 w3 hown3 hb3)
          go_roundw
          case rel => exact ⟨j + 1, A3, c3, by omega, by go_num, rfl, by rw [ints_snoc, HN.out] at hown3; exact hown3, b2.trans hb3⟩
          case measure => simp [intOf]; omega
        · rw [hf] at HF HSN
          have HN := Lib.hid (HSN.out 1 (by simp))
          go_wp2_with fail
          refine HF.out.mono ?_
          rintro e w2 ⟨rfl, hb2⟩
          have hX2 := hXa.below hb2
          have b2 := fbelow3 b1 hb2
          go_wp2_with (at_builtin; refine wp_app1 el_fint rfl _ _ rfl w.heap.size X j cx _ _ (.int .i64 1) rfl hX2 rfl rfl (by unfold maxLen; omega) (by omega) b2.size ?_; intro A3 c3 w3 hown3 hb3)
          go_roundw
          case rel => exact ⟨j + 1, A3, c3, by omega, by go_num, rfl, by rw [ints_snoc, HN.out] at hown3; exact hown3, b2.trans hb3⟩
          case measure => simp [intOf]; omega
      · obtain rfl : j = cs.length := by omega
        have HN := Lib.hid (show Cells wr X (ints (ones (isType k) (colL cs))) by
          have := hX.cells
          rw [List.take_of_length_le (by rw [colL_len]; omega)] at this
          exact this)
        have HV2 := Lib.hid (show Cells wr V (strs (v.take cs.length)) by
          have := (HV.out.below hbel).take cs.length
          unfold strs at this ⊢
          rw [← List.map_take] at this
          exact this)
        clear hX
        go_wp2_with fail
        refine (HT.out wr X cx HN.out HV2.out (he.below hbel)).mono ?_
        rintro e w2 ⟨rfl, hb2⟩
        go_wp2_with fail
        go_ret2
        exact ⟨rfl, fbelow3 hbel hb2⟩
set_option maxRecDepth 100000 in
theorem fsum2_any (cs : List ColV) (A : Option Addr) (c : Nat) (v : List Str) (V : Option Addr) (cv : Nat) (q1 q2 : Nat) (k1 k2 : Int) (w : World) (hC : ColsAt w A cs) (hV : Cells w V (strs v)) (hl : cs.length ≤ 1000) (hvl : v.length ≤ cv ∧ cv ≤ maxLen) (hvx : ∀ x ∈ v, x.length ≤ 100000) (hq1 : w.heap[q1]? = some (.cells #[.int .i64 k1] 3)) (hq2 : w.heap[q2]? = some (.cells #[.int .i64 k2] 3)) (hset : ∀ r ∈ cs, 0 ≤ r.s ∧ fits r.s) (he : Env w) :
    Calls Tryz.prog 20 #[.slice A cs.length c, .slice V v.length cv, .func (Fn.func 23) #[] #[.pointer (some ⟨q1, 0, none⟩), .pointer (some ⟨q2, 0, none⟩)]] w fun e w' => e = .returned (.tuple #[.string (B (sumQ (ones (bothIn k1 k2) (colL cs)) v).1), .int .i64 (sumQ (ones (bothIn k1 k2) (colL cs)) v).2]) ∧ Below w.heap.size w w' := by
  unfold maxLen at hvl
  have HC := Lib.hid hC
  have HV := Lib.hid hV
  have HQ := Lib.hid hq1
  have HQ2 := Lib.hid hq2
  have HSET := Lib.hid hset
  clear hC hV hq1 hq2 hset
  have hol : (ones (bothIn k1 k2) (colL cs)).length = cs.length := by rw [ones_len, colL_len]
  by_cases hlt : v.length < cs.length
  · have hlt' : (v.length : Int) < (cs.length : Int) := by omega
    have HS := Lib.hid (sum_less (ns := ones (bothIn k1 k2) (colL cs)) (v := v) (by rw [hol]; exact hlt))
    go_enter Tryz.func20, Tryz.ntmps20
    simp only [B_mk]
    go_wp2_with fail
    go_ret2
    exact ⟨by rw [HS.out]; rfl, Below.refl _ _⟩
  · have hlt' : ¬ (v.length : Int) < (cs.length : Int) := by omega
    have HS := Lib.hid (sum_more (ns := ones (bothIn k1 k2) (colL cs)) (v := v) (by rw [hol]; exact hlt))
    rw [hol] at HS
    have htl : (v.take cs.length).length = cs.length := by rw [List.length_take]; omega
    have HT := Lib.hid (fun (w' : World) (N : Option Addr) (cn : Nat) (hN : Cells w' N (ints (ones (bothIn k1 k2) (colL cs)))) (hA : Cells w' V (strs (v.take cs.length))) (he : Env w') => show Calls Tryz.prog 34 #[.slice N cs.length cn, .slice V cs.length cv] w' fun e w2 => e = .returned (.tuple #[.string (B (timesQ (ones (bothIn k1 k2) (colL cs)) (v.take cs.length)).1), .int .i64 (timesQ (ones (bothIn k1 k2) (colL cs)) (v.take cs.length)).2]) ∧ Below w'.heap.size w' w2 from by
      have h := qtimes_any (ones (bothIn k1 k2) (colL cs)) (v.take cs.length) N V cn cv w' hN hA (by unfold maxLen; omega) (by unfold maxLen; omega) (ones_fits _ _) (fun x hx => hvx x (List.mem_of_mem_take hx)) he
      rw [hol, htl] at h
      exact h)
    rw [← HS.out] at HT
    clear hvx htl hlt
    generalize sumQ (ones (bothIn k1 k2) (colL cs)) v = sq at *
    have HOL := Lib.hid hol
    clear hol
    go_enter Tryz.func20, Tryz.ntmps20
    simp only [B_mk]
    go_wp2_with fail
    go_loopw [8, 10, 11, 19] (fun o _ _ i wr => ∃ (j : Nat) (X : Option Addr) (cx : Nat), j ≤ cs.length ∧ i = .int .i64 j ∧ o = .slice X j cx ∧ OwnS wr w.heap.size 3 X j cx (ints (ones (bothIn k1 k2) ((colL cs).take j))) ∧ Below w.heap.size w wr) (fun _ _ _ i _ => cs.length - (intOf i).toNat)
    case atStart => exact ⟨0, none, 0, Nat.zero_le _, rfl, rfl, OwnS.nil _ _ _, Below.refl _ _⟩
    case round =>
      obtain ⟨j, X, cx, hj, rfl, rfl, hX, hbel⟩ := hrel
      have hcap := hX.cap
      unfold maxLen at hcap
      by_cases hlj : j < cs.length
      · obtain ⟨b, off, rfl, hb, hc⟩ := (HC.out.below hbel) (by omega)
        have hcj := hc j hlj
        have d0 := hcj 0 _ rfl
        have d1 := hcj 1 _ rfl
        have d2 := hcj 2 _ rfl
        have d3 := hcj 3 _ rfl
        have d4 := hcj 4 _ rfl
        have d5 := hcj 5 _ rfl
        have d6 := hcj 6 _ rfl
        simp only [Nat.add_zero] at d0
        have HSN := Lib.hid (fun o h => ones_snoc (f := (bothIn k1 k2)) (cs := cs) hlj (o := o) h)
        have HST := Lib.hid (HSET.out _ (List.getElem_mem hlj))
        generalize cs[j] = r at *
        have b1 := fbelow3 hbel (new_below wr (.cells #[.int .i64 r.t, .int .i64 r.s, .int .i64 r.p, .int .i64 r.rt, .int .i64 r.rs, .slice r.A r.n r.c, .slice r.A2 r.n2 r.c2] 57))
        have HF := Lib.hid (ftog1_any r k1 k2 q1 q2 _ HST.out (row_on HQ.out b1) (row_on HQ2.out b1))
        have hXa := hX.below (new_below wr (.cells #[.int .i64 r.t, .int .i64 r.s, .int .i64 r.p, .int .i64 r.rt, .int .i64 r.rs, .slice r.A r.n r.c, .slice r.A2 r.n2 r.c2] 57))
        clear hcj hc hX
        cases hf : (bothIn k1 k2) r.t r.s
        · rw [hf] at HF HSN
          have HN := Lib.hid (HSN.out 0 (by simp))
          go_wp2_with fail
          refine HF.out.mono ?_
          rintro e w2 ⟨rfl, hb2⟩
          have hX2 := hXa.below hb2
          have b2 := fbelow3 b1 hb2
          go_wp2_with (at_builtin; refine wp_app1 el_fint rfl _ _ rfl w.heap.size X j cx _ _ (.int .i64 0) rfl hX2 rfl rfl (by unfold maxLen; omega) (by omega) b2.size ?_; intro A3 c3 w3 hown3 hb3)
          go_roundw
          case rel => exact ⟨j + 1, A3, c3, by omega, by go_num, rfl, by rw [ints_snoc, HN.out] at hown3; exact hown3, b2.trans hb3⟩
          case measure => simp [intOf]; omega
        · rw [hf] at HF HSN
          have HN := Lib.hid (HSN.out 1 (by simp))
          go_wp2_with fail
          refine HF.out.mono ?_
          rintro e w2 ⟨rfl, hb2⟩
          have hX2 := hXa.below hb2
          have b2 := fbelow3 b1 hb2
          go_wp2_with (at_builtin; refine wp_app1 el_fint rfl _ _ rfl w.heap.size X j cx _ _ (.int .i64 1) rfl hX2 rfl rfl (by unfold maxLen; omega) (by omega) b2.size ?_; intro A3 c3 w3 hown3 hb3)
          go_roundw
          case rel => exact ⟨j + 1, A3, c3, by omega, by go_num, rfl, by rw [ints_snoc, HN.out] at hown3; exact hown3, b2.trans hb3⟩
          case measure => simp [intOf]; omega
      · obtain rfl : j = cs.length := by omega
        have HN := Lib.hid (show Cells wr X (ints (ones (bothIn k1 k2) (colL cs))) by
          have := hX.cells
          rw [List.take_of_length_le (by rw [colL_len]; omega)] at this
          exact this)
        have HV2 := Lib.hid (show Cells wr V (strs (v.take cs.length)) by
          have := (HV.out.below hbel).take cs.length
          unfold strs at this ⊢
          rw [← List.map_take] at this
          exact this)
        clear hX
        go_wp2_with fail
        refine (HT.out wr X cx HN.out HV2.out (he.below hbel)).mono ?_
        rintro e w2 ⟨rfl, hb2⟩
        go_wp2_with fail
        go_ret2
        exact ⟨rfl, fbelow3 hbel hb2⟩
theorem fused_any (cs : List ColV) (A : Option Addr) (c : Nat) (v : List Str) (V : Option Addr) (cv : Nat) (k : Int) (w : World) (hC : ColsAt w A cs) (hV : Cells w V (strs v)) (hl : cs.length ≤ 1000) (hvl : v.length ≤ cv ∧ cv ≤ maxLen) (hvx : ∀ x ∈ v, x.length ≤ 100000) (he : Env w) :
    Calls Tryz.prog 8 #[.slice A cs.length c, .slice V v.length cv, .int .i64 k] w fun e w' => e = .returned (.tuple #[.string (B (usedQ (colL cs) v k).1), .int .i64 (usedQ (colL cs) v k).2]) ∧ Below w.heap.size w w' := by
  have b0 := new_below w (.cells #[.int .i64 k] 3)
  have HS := Lib.hid (fsum1_any cs A c v V cv w.heap.size k _ (hC.below b0) (hV.below b0) hl hvl hvx row_new (he.below b0))
  rw [show sumQ (ones (isType k) (colL cs)) v = usedQ (colL cs) v k from rfl] at HS
  generalize usedQ (colL cs) v k = sq at *
  clear hC hV hvx
  go_enter Tryz.func8, Tryz.ntmps8
  simp only [B_mk]
  go_wp2_with fail
  refine HS.out.mono ?_
  rintro e w1 ⟨rfl, hb1⟩
  go_wp2_with fail
  go_ret2
  exact ⟨rfl, b0.trans (hb1.mono b0.size)⟩
theorem ftog_any (cs : List ColV) (A : Option Addr) (c : Nat) (v : List Str) (V : Option Addr) (cv : Nat) (a b : Int) (w : World) (hC : ColsAt w A cs) (hV : Cells w V (strs v)) (hl : cs.length ≤ 1000) (hvl : v.length ≤ cv ∧ cv ≤ maxLen) (hvx : ∀ x ∈ v, x.length ≤ 100000) (hset : ∀ r ∈ cs, 0 ≤ r.s ∧ fits r.s) (he : Env w) :
    Calls Tryz.prog 10 #[.slice A cs.length c, .slice V v.length cv, .int .i64 a, .int .i64 b] w fun e w' => e = .returned (.tuple #[.string (B (togQ (colL cs) v a b).1), .int .i64 (togQ (colL cs) v a b).2]) ∧ Below w.heap.size w w' := by
  have b0 := new_below w (.cells #[.int .i64 a] 3)
  have b1 := new_below (w.alloc (.cells #[.int .i64 a] 3)) (.cells #[.int .i64 b] 3)
  have b2 := fbelow3 b0 b1
  have hq2 := row_new (w := w.alloc (.cells #[.int .i64 a] 3)) (o := .cells #[.int .i64 b] 3)
  rw [World.size_alloc] at hq2
  have HS := Lib.hid (fsum2_any cs A c v V cv w.heap.size (w.heap.size + 1) a b _ (hC.below b2) (hV.below b2) hl hvl hvx (row_on row_new b1) hq2 hset (he.below b2))
  rw [show sumQ (ones (bothIn a b) (colL cs)) v = togQ (colL cs) v a b from rfl] at HS
  generalize togQ (colL cs) v a b = sq at *
  clear hC hV hvx hset hq2
  go_enter Tryz.func10, Tryz.ntmps10
  simp only [B_mk]
  go_wp2_with fail
  refine HS.out.mono ?_
  rintro e w1 ⟨rfl, hb1⟩
  go_wp2_with fail
  go_ret2
  exact ⟨rfl, b2.trans (hb1.mono b2.size)⟩
theorem fserved_any (cs : List ColV) (A : Option Addr) (c : Nat) (v : List Str) (V : Option Addr) (cv : Nat) (a : Int) (w : World) (hC : ColsAt w A cs) (hV : Cells w V (strs v)) (hl : cs.length ≤ 1000) (hvl : v.length ≤ cv ∧ cv ≤ maxLen) (hvx : ∀ x ∈ v, x.length ≤ 100000) (hset : ∀ r ∈ cs, 0 ≤ r.s ∧ fits r.s) (he : Env w) :
    Calls Tryz.prog 12 #[.slice A cs.length c, .slice V v.length cv, .int .i64 a] w fun e w' => e = .returned (.tuple #[.string (B (togQ (colL cs) v a a).1), .int .i64 (togQ (colL cs) v a a).2]) ∧ Below w.heap.size w w' := by
  have HS := Lib.hid (ftog_any cs A c v V cv a a w hC hV hl hvl hvx hset he)
  generalize togQ (colL cs) v a a = sq at *
  clear hC hV hvx hset
  go_enter Tryz.func12, Tryz.ntmps12
  simp only [B_mk]
  go_wp2_with fail
  refine HS.out.mono ?_
  rintro e w1 ⟨rfl, hb1⟩
  go_wp2_with fail
  go_ret2
  exact ⟨rfl, hb1⟩
theorem whole_take_s {v : List Str} {k : Nat} (hk : k < v.length) (h : (v.take k).all wholeQ = true) (h1 : wholeQ v[k] = true) : (v.take (k + 1)).all wholeQ = true := by
  rw [List.take_succ_eq_append_getElem hk, List.all_append, h, List.all_cons, h1]; rfl
theorem whole_miss {v : List Str} {k : Nat} (hk : k < v.length) (h : wholeQ v[k] = false) : v.all wholeQ = false := by
  rw [List.all_eq_false]; exact ⟨_, List.getElem_mem hk, by rw [h]; simp⟩
set_option maxRecDepth 100000 in
theorem fintegral_any (v : List Str) (V : Option Addr) (cv : Nat) (w : World) (hV : Cells w V (strs v)) (hvl : v.length ≤ 1000000) (hvx : ∀ x ∈ v, x.length ≤ 100000) (he : Env w) :
    Calls Tryz.prog 14 #[.slice V v.length cv] w fun e w' => e = .returned (.bool (v.all wholeQ)) ∧ Below w.heap.size w w' := by
  have HV := Lib.hid hV
  have HX := Lib.hid hvx
  clear hV hvx
  go_enter Tryz.func14, Tryz.ntmps14
  go_wp2_with fail
  go_loopw [4, 7] (fun _ i wr => ∃ j : Nat, j ≤ v.length ∧ i = .int .i64 j ∧ (v.take j).all wholeQ = true ∧ Below w.heap.size w wr) (fun _ i _ => v.length - (intOf i).toNat)
  case atStart => exact ⟨0, Nat.zero_le _, rfl, rfl, Below.refl _ _⟩
  case round =>
    obtain ⟨j, hj, rfl, hall, hbel⟩ := hrel
    have HA := Lib.hid hall
    clear hall
    by_cases hlt : j < v.length
    · obtain ⟨b, off, rfl, hb, hc⟩ := (HV.out.below hbel) (by rw [strs_length]; omega)
      have hcj := hc j _ (strs_get _ _ hlt)
      have hxg : v.getD j [] = v[j] := by rw [List.getD_eq_getElem?_getD, List.getElem?_eq_getElem hlt]; rfl
      rw [hxg] at hcj
      have hxl := HX.out _ (List.getElem_mem hlt)
      have HR := Lib.hid (fun w he => rq_any v[j] w (by omega) he)
      have HI := Lib.hid (fun w he => finteger_any v[j] w (by omega) he)
      have HS := Lib.hid (fun h => whole_take_s hlt HA.out h)
      have HB := Lib.hid (fun h => whole_miss hlt h)
      generalize v[j] = x at *
      clear hc hxg
      cases hr : rightQ x
      · rw [hr] at HR
        have HN := Lib.hid (HB.out (by unfold wholeQ; rw [hr]; rfl))
        go_wp2_with fail
        refine (HR.out wr (he.below hbel)).mono ?_
        rintro e w2 ⟨rfl, hb2⟩
        go_wp2_with fail
        go_ret
        exact ⟨ret_bool HN.out.symm, fbelow3 hbel hb2⟩
      · rw [hr] at HR
        cases hs : hasS x
        · rw [hs] at HI
          have HN := Lib.hid (HS.out (by unfold wholeQ; rw [hr, hs]; rfl))
          go_wp2_with fail
          refine (HR.out wr (he.below hbel)).mono ?_
          rintro e w2 ⟨rfl, hb2⟩
          have b2 := fbelow3 hbel hb2
          go_wp2_with fail
          refine (HI.out w2 (he.below b2)).mono ?_
          rintro e w3 ⟨rfl, hb3⟩
          go_wp2_with fail
          go_roundw
          case rel => exact ⟨j + 1, by omega, by go_num, HN.out, fbelow3 b2 hb3⟩
          case measure => simp [intOf]; omega
        · rw [hs] at HI
          have HN := Lib.hid (HB.out (by unfold wholeQ; rw [hr, hs]; rfl))
          go_wp2_with fail
          refine (HR.out wr (he.below hbel)).mono ?_
          rintro e w2 ⟨rfl, hb2⟩
          have b2 := fbelow3 hbel hb2
          go_wp2_with fail
          refine (HI.out w2 (he.below b2)).mono ?_
          rintro e w3 ⟨rfl, hb3⟩
          go_wp2_with fail
          go_ret
          exact ⟨ret_bool HN.out.symm, fbelow3 b2 hb3⟩
    · have HN := Lib.hid (show v.all wholeQ = true by have h := HA.out; rw [show j = v.length by omega, List.take_length] at h; exact h)
      go_wp2_with fail
      go_ret
      exact ⟨ret_bool HN.out.symm, hbel⟩
end Go.Proofs.YtblefdgfmjegiaaGreatDoor
