/- The laws of fraction: few, and what is made; awake. -/
import Derived.Test.YtblefdgfmjegiaaGreatDoorG30
namespace Go.Proofs.YtblefdgfmjegiaaGreatDoor
open Go.RowKit Num
set_option linter.unusedVariables false
attribute [local go_sem] B_size B_get B_toList B_mk B_extract B_append

def fewF (cs : List ColV) (v : List Str) : Bool := decide (cs.length ≤ 40) && decide (v.length ≤ 60) && v.all (fun x => decide (x.length ≤ 12)) && cs.all (fun r => decide (0 ≤ r.s))
section
variable {α : Type}
theorem all_take_t {l : List α} {f : α → Bool} {k : Nat} (hk : k < l.length) (h : (l.take k).all f = true) (h1 : f l[k] = true) : (l.take (k + 1)).all f = true := by
  rw [List.take_succ_eq_append_getElem hk, List.all_append, h, List.all_cons, h1]; rfl
theorem all_miss_t {l : List α} {f : α → Bool} {k : Nat} (hk : k < l.length) (h : f l[k] = false) : l.all f = false := by
  rw [List.all_eq_false]; exact ⟨_, List.getElem_mem hk, by rw [h]; simp⟩
theorem all_full_t {l : List α} {f : α → Bool} {k : Nat} (hk : k = l.length) (h : (l.take k).all f = true) : l.all f = true := by rw [hk, List.take_length] at h; exact h
end
set_option maxRecDepth 100000 in
theorem ffew_any (cs : List ColV) (A : Option Addr) (c : Nat) (v : List Str) (V : Option Addr) (cv : Nat) (w : World) (hC : ColsAt w A cs) (hV : Cells w V (strs v)) (hl : cs.length ≤ maxLen) (hvl : v.length ≤ maxLen) (hvx : ∀ x ∈ v, x.length ≤ maxLen) (hok : ∀ r ∈ cs, r.ok) :
    Calls Tryz.prog 6 #[.slice A cs.length c, .slice V v.length cv] w fun e w' => e = .returned (.bool (fewF cs v)) ∧ w' = w := by
  unfold maxLen at hl hvl hvx
  have HC := Lib.hid hC
  have HV := Lib.hid hV
  have HX := Lib.hid hvx
  clear hC hV hvx
  by_cases h40 : cs.length ≤ 40
  · have h40' : ¬ (40 : Int) < (cs.length : Int) := by omega
    by_cases h60 : v.length ≤ 60
    · have h60' : ¬ (60 : Int) < (v.length : Int) := by omega
      have HF := Lib.hid (show fewF cs v = (v.all (fun x => decide (x.length ≤ 12)) && cs.all (fun r => decide (0 ≤ r.s))) by unfold fewF; rw [decide_eq_true h40, decide_eq_true h60]; rfl)
      go_enter Tryz.func6, Tryz.ntmps6
      go_wp2_with fail
      go_loop [5] (fun i => ∃ k : Nat, k ≤ v.length ∧ i = .int .i64 k ∧ (v.take k).all (fun x => decide (x.length ≤ 12)) = true) (fun i => v.length - (intOf i).toNat)
      case atStart => exact ⟨0, Nat.zero_le _, rfl, rfl⟩
      case round =>
        obtain ⟨k, hk, rfl, hall⟩ := hrel
        have HA := Lib.hid hall
        clear hall
        by_cases hlt : k < v.length
        · obtain ⟨b, off, rfl, hb, hc⟩ := HV.out (by rw [strs_length]; omega)
          have hck := hc k _ (strs_get _ _ hlt)
          have hxg : v.getD k [] = v[k] := by rw [List.getD_eq_getElem?_getD, List.getElem?_eq_getElem hlt]; rfl
          rw [hxg] at hck
          have hxl := HX.out _ (List.getElem_mem hlt)
          have HS := Lib.hid (fun h => all_take_t (f := fun x : Str => decide (x.length ≤ 12)) hlt HA.out h)
          have HB := Lib.hid (fun h => all_miss_t (f := fun x : Str => decide (x.length ≤ 12)) hlt h)
          generalize v[k] = x at *
          clear hc hxg
          by_cases hr : x.length ≤ 12
          · have hr' : ¬ (12 : Int) < (x.length : Int) := by omega
            have HN := Lib.hid (HS.out (by simpa using hr))
            go_wp2_with fail
            go_round
            case rel => exact ⟨k + 1, by omega, by go_num, HN.out⟩
            case measure => simp [intOf]; omega
          · have hr' : (12 : Int) < (x.length : Int) := by omega
            have HN := Lib.hid (show fewF cs v = false by rw [HF.out, HB.out (by simpa using hr)]; rfl)
            go_wp2_with fail
            go_ret
            exact ⟨ret_bool HN.out.symm, rfl⟩
        · have HVA := Lib.hid (all_full_t (show k = v.length by omega) HA.out)
          clear HA
          go_wp2_with fail
          go_loop [6] (fun i => ∃ k : Nat, k ≤ cs.length ∧ i = .int .i64 k ∧ (cs.take k).all (fun r => decide (0 ≤ r.s)) = true) (fun i => cs.length - (intOf i).toNat)
          case atStart => exact ⟨0, Nat.zero_le _, rfl, rfl⟩
          case round =>
            clear hk hlt
            obtain ⟨k, hk, rfl, hall⟩ := hrel
            have HA := Lib.hid hall
            clear hall
            by_cases hlt : k < cs.length
            · obtain ⟨b, off, rfl, hb, hc⟩ := HC.out (by omega)
              have d1 := hc k hlt 1 _ rfl
              have HS := Lib.hid (fun h => all_take_t (f := fun r : ColV => decide (0 ≤ r.s)) hlt HA.out h)
              have HB := Lib.hid (fun h => all_miss_t (f := fun r : ColV => decide (0 ≤ r.s)) hlt h)
              generalize cs[k] = r at *
              clear hc
              by_cases hr : 0 ≤ r.s
              · have hr' : ¬ r.s < 0 := by omega
                have HN := Lib.hid (HS.out (by simpa using hr))
                clear hr
                go_wp2_with fail
                go_round
                case rel => exact ⟨k + 1, by omega, by go_num, HN.out⟩
                case measure => simp [intOf]; omega
              · have hr' : r.s < 0 := by omega
                have HN := Lib.hid (show fewF cs v = false by rw [HF.out, HB.out (by simpa using hr), Bool.and_false])
                clear hr
                go_wp2_with fail
                go_ret
                exact ⟨ret_bool HN.out.symm, rfl⟩
            · have HN := Lib.hid (show fewF cs v = true by rw [HF.out, HVA.out, all_full_t (show k = cs.length by omega) HA.out]; rfl)
              go_wp2_with fail
              go_ret
              exact ⟨ret_bool HN.out.symm, rfl⟩
    · have h60' : (60 : Int) < (v.length : Int) := by omega
      have HN := Lib.hid (show fewF cs v = false by unfold fewF; rw [decide_eq_false h60, Bool.and_false]; rfl)
      go_enter Tryz.func6, Tryz.ntmps6
      go_wp2_with fail
      go_ret
      exact ⟨ret_bool HN.out.symm, rfl⟩
  · have h40' : (40 : Int) < (cs.length : Int) := by omega
    have HN := Lib.hid (show fewF cs v = false by unfold fewF; rw [decide_eq_false h40]; rfl)
    go_enter Tryz.func6, Tryz.ntmps6
    go_wp2_with fail
    go_ret
    exact ⟨ret_bool HN.out.symm, rfl⟩
/-- what few asks -/
theorem few_parts {cs : List ColV} {v : List Str} (h : fewF cs v = true) : cs.length ≤ 40 ∧ v.length ≤ 60 ∧ (∀ x ∈ v, x.length ≤ 12) ∧ ∀ r ∈ cs, 0 ≤ r.s := by
  unfold fewF at h
  simp only [Bool.and_eq_true, decide_eq_true_iff] at h
  exact ⟨h.1.1.1, h.1.1.2, fun x hx => by simpa using List.all_eq_true.1 h.1.2 x hx, fun r hr => by simpa using List.all_eq_true.1 h.2 r hr⟩
/-- the sums of few columns all err alike, or none errs -/
theorem few_sums {l : List (Int × Int)} {v : List Str} (hl : l.length ≤ 40) (hv : ∀ x ∈ v, x.length ≤ 12) : (∃ q, q ≠ 0 ∧ AllErr l v q) ∨ (AllOK l v ∧ l.length ≤ v.length ∧ (v.take l.length).all rightQ = true) := by
  by_cases h1 : v.length < l.length
  · refine .inl ⟨2, by decide, fun f => ?_⟩
    exact (sum_ok (ones_01 f l) (by rw [ones_len]; exact hl) hv).1 (by rw [ones_len]; exact h1)
  · cases h2 : (v.take l.length).all rightQ
    · refine .inl ⟨3, by decide, fun f => ?_⟩
      exact (sum_ok (ones_01 f l) (by rw [ones_len]; exact hl) hv).2.1 (by rw [ones_len]; omega) (by rw [ones_len]; exact h2)
    · refine .inr ⟨fun f => ?_, by omega, rfl⟩
      have := (sum_ok (ones_01 f l) (by rw [ones_len]; exact hl) hv).2.2 (by rw [ones_len]; omega) (by rw [ones_len]; exact h2)
      exact ⟨this.1, this.2.1⟩
/-- whole variables are not separated -/
theorem few_whole {l : List (Int × Int)} {v : List Str} (hl : l.length ≤ 40) (hv : ∀ x ∈ v, x.length ≤ 12) (h1 : l.length ≤ v.length) (h2 : (v.take l.length).all wholeQ = true) (t n : Nat) : choicesD l v t n = [] := by
  have hr : (v.take l.length).all rightQ = true := List.all_eq_true.2 fun x hx => by
    have := List.all_eq_true.1 h2 x hx
    unfold wholeQ at this
    rw [Bool.and_eq_true] at this; exact this.1
  have key : ∀ f, hasS (sumQ (ones f l) v).1 = false := fun f => ((sum_ok (ones_01 f l) (by rw [ones_len]; exact hl) hv).2.2 (by rw [ones_len]; omega) (by rw [ones_len]; exact hr)).2.2 (by rw [ones_len]; exact h2)
  have e1 : typesD l v t = [] := List.flatMap_eq_nil_iff.2 fun x _ => by unfold typeDec; rw [show hasS (usedQ l v x).1 = false from key _]; simp
  have e2 : ∀ a, rowD l v a n = [] := fun a => List.flatMap_eq_nil_iff.2 fun x _ => by
    show (if a < x then pairDec l v a x else []) = []
    split
    · unfold pairDec; rw [show hasS (togQ l v a x).1 = false from key _]; simp
    · rfl
  have e3 : pairsD l v n n = [] := List.flatMap_eq_nil_iff.2 fun x _ => e2 x
  have e4 : servsD l v n = [] := List.flatMap_eq_nil_iff.2 fun x _ => by unfold servDec; rw [show hasS (togQ l v x x).1 = false from key _]; simp
  unfold choicesD
  rw [e1, e3, e4]; rfl
theorem type_info : (Tryz.prog.info? 212).map (fun i => (i.zero, i.size, i.bytes)) = some (some (.agg #[.string (B []), .int .i64 0, .int .i64 0, .int .i64 0, .slice none 0 0, .int .i64 0, .int .i64 0, .int .i64 0, .int .i64 0, .int .i64 0, .int .i64 0, .int .i64 0, .int .i64 0, .int .i64 0]), 14, 136) := by kernel_rfl
theorem order_info : (Tryz.prog.info? 216).map (fun i => (i.zero, i.size, i.bytes)) = some (some (.agg #[.string (B []), .slice none 0 0, .int .i64 0, .int .i64 0, .int .i64 0, .int .i64 0, .int .i64 0, .int .i64 0, .int .i64 0, .int .i64 0, .int .i64 0, .int .i64 0, .int .i64 0, .int .i64 0, .int .i64 0, .bool false]), 16, 152) := by kernel_rfl
theorem make_types (n : Nat) (hn : n ≤ 1000) : ∃ zs : Array Value, ∀ w : World, (Instr.makeSlice 35 (.int .i64 (n : Int)) (.int .i64 (n : Int))).run Tryz.prog w = .ok (.slice (some ⟨w.heap.size, 0, none⟩) n n) (w.alloc (.cells zs 212)) := by
  obtain ⟨i, hi, hz, hs, hb⟩ := info_parts type_info
  obtain ⟨z0, hz0⟩ : ∃ z0, i.zero = some z0 := ⟨_, hz⟩
  exact ⟨madeCells z0.cells (n * i.size), fun w => run_make_rowN (P := Tryz.prog) 35 212 i z0 Tryz.underlying35 hi hz0 .i64 .i64 n n (Nat.le_refl _) (by rw [hb]; omega) (by omega) w⟩
theorem make_orders (n : Nat) (hn : n ≤ 1000) : ∃ zs : Array Value, ∀ w : World, (Instr.makeSlice 36 (.int .i64 (n : Int)) (.int .i64 (n : Int))).run Tryz.prog w = .ok (.slice (some ⟨w.heap.size, 0, none⟩) n n) (w.alloc (.cells zs 216)) := by
  obtain ⟨i, hi, hz, hs, hb⟩ := info_parts order_info
  obtain ⟨z0, hz0⟩ : ∃ z0, i.zero = some z0 := ⟨_, hz⟩
  exact ⟨madeCells z0.cells (n * i.size), fun w => run_make_rowN (P := Tryz.prog) 36 216 i z0 Tryz.underlying36 hi hz0 .i64 .i64 n n (Nat.le_refl _) (by rw [hb]; omega) (by omega) w⟩
end Go.Proofs.YtblefdgfmjegiaaGreatDoor
/- The laws of fraction: awake. -/
namespace Go.Proofs.YtblefdgfmjegiaaGreatDoor
open Go.RowKit Num
set_option linter.unusedVariables false
attribute [local go_sem] B_size B_get B_toList B_mk B_extract B_append

instance : DecidableEq Dec := fun a b => decidable_of_iff (a.k = b.k ∧ a.a = b.a ∧ a.b = b.b ∧ a.n = b.n) (by cases a; cases b; simp)
def colE (s : Int) : ColV := ⟨0, s, 0, 0, 0, none, 0, 0, none, 0, 0⟩
def awC : List ColV := [colE 3, colE 6, colE 5]
def awV : List Str := [[49, 47, 50], [49, 47, 50], [49, 47, 50]]
def awD : List Dec := [⟨3, 0, 0, 1⟩, ⟨1, 0, 1, 0⟩, ⟨1, 0, 2, 0⟩, ⟨1, 1, 2, 0⟩]
theorem aw_choices : choicesD (colL awC) awV 1 3 = awD := by decide +kernel
theorem aw_ok : AllOK (colL awC) awV := by
  rcases few_sums (l := colL awC) (v := awV) (by decide) (by decide) with ⟨q, hq, h⟩ | h
  · have h1 := h (isType 0)
    rw [show sumQ (ones (isType 0) (colL awC)) awV = ([51, 47, 50], 0) by decide +kernel] at h1
    injection h1 with h1 _
    cases h1
  · exact h.1
theorem cols_new (w : World) (cs : List ColV) (us : Array Value) (h : us.toList = cs.flatMap ColV.cells) : ColsAt (w.alloc (.cells us 57)) (some ⟨w.heap.size, 0, none⟩) cs := by
  intro h0
  refine ⟨w.heap.size, 0, rfl, by simp, fun i hi j v hv => ?_⟩
  have hj : j < 7 := by
    have := (List.getElem?_eq_some_iff.1 hv).1
    simpa [ColV.cells] using this
  rw [World.cell?_alloc_new, ← Array.getElem?_toList, h]
  have key : ∀ (l : List ColV) (i : Nat) (hi : i < l.length) (j : Nat) (hj : j < 7), (l.flatMap ColV.cells)[0 + i * 7 + j]? = l[i].cells[j]? := by
    intro l
    induction l with
    | nil => intro i hi; exact absurd hi (by simp)
    | cons r l ih =>
      intro i hi j hj
      rw [List.flatMap_cons]
      have hl : r.cells.length = 7 := rfl
      cases i with
      | zero => rw [List.getElem?_append_left (by omega)]; simp
      | succ i =>
        rw [List.getElem?_append_right (by omega), hl, show 0 + (i + 1) * 7 + j - 7 = 0 + i * 7 + j by omega]
        exact ih i (by simpa using hi) j hj
  rw [key cs i hi j hj]
  exact hv
theorem rats3_new (w : World) : Cells (w.alloc (.cells #[.string (B [49, 47, 50]), .string (B [49, 47, 50]), .string (B [49, 47, 50])] 27)) (some ⟨w.heap.size, 0, none⟩) (strs awV) := (OwnS.lit w 27 #[.string (B [49, 47, 50]), .string (B [49, 47, 50]), .string (B [49, 47, 50])] w.heap.size 3 (Nat.le_refl _) rfl (by unfold maxLen; omega)).cells
theorem three_new {w W : World} (hs : W.heap.size = w.heap.size + 1) (x y z : Obj) : (((W.alloc x).alloc y).alloc z).drew.heap[w.heap.size + 1]? = some x ∧ (((W.alloc x).alloc y).alloc z).drew.heap[w.heap.size + 1 + 1]? = some y ∧ (((W.alloc x).alloc y).alloc z).drew.heap[w.heap.size + 1 + 1 + 1]? = some z ∧ Below (w.heap.size + 1) W (((W.alloc x).alloc y).alloc z).drew := by
  have e : (((W.alloc x).alloc y).alloc z).drew.heap = ((W.heap.push x).push y).push z := rfl
  refine ⟨?_, ?_, ?_, ?_⟩
  · rw [e, Array.getElem?_push, if_neg (by simp; omega), Array.getElem?_push, if_neg (by simp; omega), Array.getElem?_push, if_pos (by omega)]
  · rw [e, Array.getElem?_push, if_neg (by simp; omega), Array.getElem?_push, if_pos (by simp; omega)]
  · rw [e, Array.getElem?_push, if_pos (by simp; omega)]
  · exact ((((Below.refl _ _).alloc (by omega) _).alloc (by rw [World.size_alloc]; omega) _).alloc (by rw [World.size_alloc, World.size_alloc]; omega) _).drew
theorem dec4_at {w : World} {Bs : Nat} {O : Option Addr} {co : Nat} (h : OwnR w Bs 48 4 O awD.length co (decCells awD)) : ∃ g, O = some ⟨g, 0, none⟩ ∧ (w.cell? ⟨g, 0, none⟩ = some (.int .i64 3) ∧ w.cell? ⟨g, 1, none⟩ = some (.int .i64 0) ∧ w.cell? ⟨g, 2, none⟩ = some (.int .i64 0) ∧ w.cell? ⟨g, 3, none⟩ = some (.int .i64 1)) ∧ w.cell? ⟨g, 4, none⟩ = some (.int .i64 1) ∧ w.cell? ⟨g, 5, none⟩ = some (.int .i64 0) ∧ w.cell? ⟨g, 6, none⟩ = some (.int .i64 1) ∧ w.cell? ⟨g, 7, none⟩ = some (.int .i64 0) := by
  obtain ⟨g, e, _, _, hc, _⟩ := h.at_ (by decide)
  have hk : ∀ j, j < 16 → w.cell? ⟨g, j, none⟩ = (decCells awD)[j]? := fun j hj => hc j hj
  exact ⟨g, e, ⟨hk 0 (by omega), hk 1 (by omega), hk 2 (by omega), hk 3 (by omega)⟩, hk 4 (by omega), hk 5 (by omega), hk 6 (by omega), hk 7 (by omega)⟩
theorem fint1 (w : World) (he : Env w) : Calls Tryz.prog 14 #[.slice (some ⟨w.heap.size, 0, none⟩) 2 2] (w.alloc (.cells #[.string (B [49]), .string (B [48])] 27)) fun e w' => e = .returned (.bool true) ∧ Below w.heap.size (w.alloc (.cells #[.string (B [49]), .string (B [48])] 27)) w' := by
  have h := fintegral_any [[49], [48]] (some ⟨w.heap.size, 0, none⟩) 2 (w.alloc (.cells #[.string (B [49]), .string (B [48])] 27)) (OwnS.lit w 27 #[.string (B [49]), .string (B [48])] w.heap.size 2 (Nat.le_refl _) rfl (by unfold maxLen; omega)).cells (by decide) (by decide) (he.below (new_below w _))
  rw [show ([[49], [48]] : List Str).all wholeQ = true by decide +kernel] at h
  refine h.mono ?_
  rintro e w' ⟨rfl, hb⟩
  exact ⟨rfl, hb.mono (by rw [World.size_alloc]; omega)⟩
theorem fint2 (w : World) (he : Env w) : Calls Tryz.prog 14 #[.slice (some ⟨w.heap.size, 0, none⟩) 1 1] (w.alloc (.cells #[.string (B [49, 47, 50])] 27)) fun e w' => e = .returned (.bool false) ∧ Below w.heap.size (w.alloc (.cells #[.string (B [49, 47, 50])] 27)) w' := by
  have h := fintegral_any [[49, 47, 50]] (some ⟨w.heap.size, 0, none⟩) 1 (w.alloc (.cells #[.string (B [49, 47, 50])] 27)) (OwnS.lit w 27 #[.string (B [49, 47, 50])] w.heap.size 1 (Nat.le_refl _) rfl (by unfold maxLen; omega)).cells (by decide) (by decide) (he.below (new_below w _))
  rw [show ([[49, 47, 50]] : List Str).all wholeQ = false by decide +kernel] at h
  refine h.mono ?_
  rintro e w' ⟨rfl, hb⟩
  exact ⟨rfl, hb.mono (by rw [World.size_alloc]; omega)⟩
set_option maxHeartbeats 4000000 in
set_option maxRecDepth 100000 in
theorem fawake_any (w : World) (he : Env w) (hr : ErrV w) : Calls Tryz.prog 7 #[] w fun e w' => e = .returned (.bool true) ∧ Below w.heap.size w w' := by
  obtain ⟨zt, mkT0⟩ := make_types 1 (by omega)
  obtain ⟨zo, mkO0⟩ := make_orders 3 (by omega)
  have mkT : ∀ w : World, (Instr.makeSlice 35 (.int .i64 1) (.int .i64 1)).run Tryz.prog w = .ok (.slice (some ⟨w.heap.size, 0, none⟩) 1 1) (w.alloc (.cells zt 212)) := mkT0
  have mkO : ∀ w : World, (Instr.makeSlice 36 (.int .i64 3) (.int .i64 3)).run Tryz.prog w = .ok (.slice (some ⟨w.heap.size, 0, none⟩) 3 3) (w.alloc (.cells zo 216)) := mkO0
  clear mkT0 mkO0
  go_enter Tryz.func7, Tryz.ntmps7
  simp only [B_mk]
  go_upto_region 2 with fail
  go_cut [2] (fun p wx => ∃ (b : Nat) (TA OA : Option Addr), p = .pointer (some ⟨b, 0, none⟩) ∧ wx.heap[b]? = some (.cells (insC (.slice none 0 0) (.slice none 0 0) TA 1 1 OA 3 3 (.slice none 0 0) (.slice none 0 0)) 43) ∧ Below (w.heap.size + 1) (w.alloc (.cells #[.int .i64 0, .int .i64 3, .int .i64 0, .int .i64 0, .int .i64 0, .slice none 0 0, .slice none 0 0, .int .i64 0, .int .i64 6, .int .i64 0, .int .i64 0, .int .i64 0, .slice none 0 0, .slice none 0 0, .int .i64 0, .int .i64 5, .int .i64 0, .int .i64 0, .int .i64 0, .slice none 0 0, .slice none 0 0] 57)) wx)
  case first =>
    go_region
    all_goals
      go_wp2_with fail
      go_meet
      first
        | exact ⟨_, _, _, rfl, (three_new (World.size_alloc _ _) _ _ _).1, (three_new (World.size_alloc _ _) _ _ _).2.2.2⟩
        | exact ⟨_, _, _, rfl, (three_new (World.size_alloc _ _) _ _ _).2.1, (three_new (World.size_alloc _ _) _ _ _).2.2.2⟩
        | exact ⟨_, _, _, rfl, (three_new (World.size_alloc _ _) _ _ _).2.2.1, (three_new (World.size_alloc _ _) _ _ _).2.2.2⟩
  case rest =>
    obtain ⟨b, TA, OA, rfl, hrow, hbel⟩ := hcut
    have d0 : wc.cell? ⟨b, 0, none⟩ = some (.slice none 0 0) := by rw [cell_of_row wc b 0 _ _ _ hrow]; rfl
    have d1 : wc.cell? ⟨b, 1, none⟩ = some (.slice none 0 0) := by rw [cell_of_row wc b 1 _ _ _ hrow]; rfl
    have d2 : wc.cell? ⟨b, 2, none⟩ = some (.slice TA 1 1) := by rw [cell_of_row wc b 2 _ _ _ hrow]; rfl
    have d3 : wc.cell? ⟨b, 3, none⟩ = some (.slice OA 3 3) := by rw [cell_of_row wc b 3 _ _ _ hrow]; rfl
    have d4 : wc.cell? ⟨b, 4, none⟩ = some (.slice none 0 0) := by rw [cell_of_row wc b 4 _ _ _ hrow]; rfl
    have d5 : wc.cell? ⟨b, 5, none⟩ = some (.slice none 0 0) := by rw [cell_of_row wc b 5 _ _ _ hrow]; rfl
    clear hrow mkT mkO
    have hC := (cols_new w awC _ rfl).below (hbel.mono (Nat.le_of_eq (World.size_alloc _ _)))
    have hbw := (new_below w _).trans (hbel.mono (Nat.le_succ _))
    clear hbel
    go_wp2_with fail
    have hv := rats3_new wc
    have hch := fchoices_ok awC (some ⟨w.heap.size, 0, none⟩) 3 awV (some ⟨wc.heap.size, 0, none⟩) 3 (.slice none 0 0) (.slice none 0 0) (.slice none 0 0) (.slice none 0 0) TA OA 1 1 3 3 _ (hC.below (new_below wc (.cells #[.string (B [49, 47, 50]), .string (B [49, 47, 50]), .string (B [49, 47, 50])] 27))) hv (by decide) (by unfold maxLen; decide) (by decide) (by decide) aw_ok (by decide) (by decide) (he.below (hbw.trans ((new_below wc _).mono hbw.size))) (hr.below (hbw.trans ((new_below wc _).mono hbw.size)))
    rw [aw_choices] at hch
    refine hch.mono ?_
    rintro e w1 ⟨O, co, rfl, hown, hb1⟩
    have hbw1 := (hbw.trans ((new_below wc _).mono hbw.size)).trans (hb1.mono (by rw [World.size_alloc]; exact Nat.le_succ_of_le hbw.size))
    obtain ⟨g, rfl, hcell⟩ := dec4_at hown
    obtain ⟨⟨c0, c1, c2, c3⟩, c4, c5, c6, c7⟩ := hcell
    have HI1 := Lib.hid (fun w' (h : Below w.heap.size w w') => fint1 w' (he.below h))
    have HI2 := Lib.hid (fun w' (h : Below w.heap.size w w') => fint2 w' (he.below h))
    clear hown hch hv hC hb1
    rw [show awD.length = 4 from rfl]
    have HB := Lib.hid hbw1
    have HS := Lib.hid (hbw.size)
    clear hbw hbw1
    go_wp2_with fail
    refine (HI1.out w1 HB.out).mono ?_
    rintro e w2 ⟨rfl, hb2⟩
    have HB2 := Lib.hid ((HB.out.trans ((new_below w1 _).mono HB.out.size)).trans (hb2.mono HB.out.size))
    go_wp2_with fail
    refine (HI2.out w2 HB2.out).mono ?_
    rintro e w3 ⟨rfl, hb3⟩
    have HB3 := Lib.hid ((HB2.out.trans ((new_below w2 _).mono HB2.out.size)).trans (hb3.mono HB2.out.size))
    go_wp2_with fail
    go_ret
    first | exact ⟨rfl, HB3.out⟩ | exact ⟨rfl, HB3.out.drew⟩ | exact ⟨rfl, below_drewN HB3.out _⟩ | exact ⟨rfl, (below_drewN HB3.out _).drew⟩
end Go.Proofs.YtblefdgfmjegiaaGreatDoor
/- The laws of fraction: FractionSums. -/
namespace Go.Proofs.YtblefdgfmjegiaaGreatDoor
open Go.RowKit Num
set_option linter.unusedVariables false
attribute [local go_sem] B_size B_get B_toList B_mk B_extract B_append

set_option maxHeartbeats 4000000 in
set_option maxRecDepth 100000 in
theorem fsums_walk (cs : List ColV) (A : Option Addr) (c : Nat) (v : List Str) (V : Option Addr) (cv : Nat) (a0 a1 a2 : Int) (w : World) (hC : ColsAt w A cs) (hV : Cells w V (strs v)) (hl : cs.length ≤ maxLen) (hvl : v.length ≤ cv ∧ cv ≤ maxLen) (hvx : ∀ x ∈ v, x.length ≤ maxLen) (hok : ∀ r ∈ cs, r.ok) (he : Env w) (hr : ErrV w) :
    Calls Tryz.prog 3 #[.slice A cs.length c, .slice V v.length cv, .agg #[.int .i64 a0, .int .i64 a1, .int .i64 a2]] w fun e w' => e = .returned (.bool true) ∧ Below w.heap.size w w' := by
  have HFEW := Lib.hid (fun w' (h : Below w.heap.size w w') => ffew_any cs A c v V cv w' (hC.below h) (hV.below h) hl (Nat.le_trans hvl.1 hvl.2) hvx hok)
  have HAT := Lib.hid (fun w' (h : Below (w.heap.size + 1) (w.alloc (.cells #[.int .i64 a0, .int .i64 a1, .int .i64 a2] 24)) w') => show Below w.heap.size w w' ∧ w'.cell? ⟨w.heap.size, 0, none⟩ = some (.int .i64 a0) ∧ w'.cell? ⟨w.heap.size, 1, none⟩ = some (.int .i64 a1) ∧ w'.cell? ⟨w.heap.size, 2, none⟩ = some (.int .i64 a2) ∧ w.heap.size + 1 ≤ w'.heap.size from by
    have hs : (w.alloc (.cells #[.int .i64 a0, .int .i64 a1, .int .i64 a2] 24)).heap.size = w.heap.size + 1 := World.size_alloc _ _
    have hrow := row_on (row_new (w := w) (o := .cells #[.int .i64 a0, .int .i64 a1, .int .i64 a2] 24)) (w' := w') (by rw [hs]; exact h)
    refine ⟨(new_below w _).trans (h.mono (Nat.le_succ _)), ?_, ?_, ?_, ?_⟩
    · rw [cell_of_row w' _ 0 _ _ _ hrow]; rfl
    · rw [cell_of_row w' _ 1 _ _ _ hrow]; rfl
    · rw [cell_of_row w' _ 2 _ _ _ hrow]; rfl
    · have := h.size; rw [hs] at this; exact this)
  have HAW := Lib.hid (fun w' (h : Below w.heap.size w w') => fawake_any w' (he.below h) (hr.below h))
  by_cases hf : fewF cs v = true
  · obtain ⟨p1, p2, p3, p4⟩ := few_parts hf
    have q1 : cs.length ≤ 1000 := by omega
    have q3 : ∀ x ∈ v, x.length ≤ 100000 := fun x hx => by have := p3 x hx; omega
    have q4 : ∀ r ∈ cs, 0 ≤ r.s ∧ fits r.s := fun r hr => ⟨p4 r hr, (hok r hr).2⟩
    have HU := Lib.hid (fun k w' (h : Below w.heap.size w w') => fused_any cs A c v V cv k w' (hC.below h) (hV.below h) q1 hvl q3 (he.below h))
    have HUr := Lib.hid (fun k w' (h : Below w.heap.size w w') => frused_any cs A c v V cv k w' (hC.below h) (hV.below h) q1 hvl q3)
    have HT := Lib.hid (fun j k w' (h : Below w.heap.size w w') => ftog_any cs A c v V cv j k w' (hC.below h) (hV.below h) q1 hvl q3 q4 (he.below h))
    have HTr := Lib.hid (fun j k w' (h : Below w.heap.size w w') => frtog_any cs A c v V cv j k w' (hC.below h) (hV.below h) q1 hvl q3 q4)
    have HS := Lib.hid (fun k w' (h : Below w.heap.size w w') => fserved_any cs A c v V cv k w' (hC.below h) (hV.below h) q1 hvl q3 q4 (he.below h))
    have HSr := Lib.hid (fun k w' (h : Below w.heap.size w w') => frserved_any cs A c v V cv k w' (hC.below h) (hV.below h) q1 hvl q3 q4)
    have HI := Lib.hid (fun w' (h : Below w.heap.size w w') => fintegral_any v V cv w' (hV.below h) (by omega) q3 (he.below h))
    have HIr := Lib.hid (fun w' (h : Below w.heap.size w w') => frintegral_any v V cv w' (hV.below h) (by omega) q3)
    have hT2 := fun w' (h : Below w.heap.size w w') => ftog_any cs A c v V cv a2 a1 w' (hC.below h) (hV.below h) q1 hvl q3 q4 (he.below h)
    rw [tog_swap (colL cs) v a2 a1] at hT2
    have HT2 := Lib.hid hT2
    clear hT2
    rw [hf] at HFEW
    clear hC hV hl hvl hvx hok hf p1 p2 p3 p4 q1 q3 q4 he hr
    generalize usedQ (colL cs) v = x1 at *
    generalize togQ (colL cs) v = x2 at *
    generalize v.all wholeQ = x5 at *
    go_enter Tryz.func3, Tryz.ntmps3
    go_wp2_with fail
    refine (HFEW.out _ (HAT.out _ (Below.refl _ _)).1).mono ?_
    rintro e _ ⟨rfl, rfl⟩
    obtain ⟨b1, d0, d1, d2, s1⟩ := HAT.out _ (Below.refl _ _)
    have HB1 := Lib.hid (Below.refl (w.heap.size + 1) (w.alloc (.cells #[.int .i64 a0, .int .i64 a1, .int .i64 a2] 24)))
    go_wp2_with fail
    refine (HU.out a0 _ b1).mono ?_
    rintro e w2 ⟨rfl, hb⟩
    have HB2 := Lib.hid (HB1.out.trans (hb.mono s1))
    clear d0 d1 d2
    obtain ⟨b2, d0, d1, d2, s2⟩ := HAT.out _ HB2.out
    clear hb b1 s1
    go_wp2_with fail
    refine (HUr.out a0 _ b2).mono ?_
    rintro e w3 ⟨rfl, hb⟩
    have HB3 := Lib.hid (HB2.out.trans (hb.mono s2))
    clear d0 d1 d2
    obtain ⟨b3, d0, d1, d2, s3⟩ := HAT.out _ HB3.out
    clear hb b2 s2
    go_wp2_with fail
    refine (HT.out a1 a2 _ b3).mono ?_
    rintro e w4 ⟨rfl, hb⟩
    have HB4 := Lib.hid (HB3.out.trans (hb.mono s3))
    clear d0 d1 d2
    obtain ⟨b4, d0, d1, d2, s4⟩ := HAT.out _ HB4.out
    clear hb b3 s3
    go_wp2_with fail
    refine (HTr.out a1 a2 _ b4).mono ?_
    rintro e w5 ⟨rfl, hb⟩
    have HB5 := Lib.hid (HB4.out.trans (hb.mono s4))
    clear d0 d1 d2
    obtain ⟨b5, d0, d1, d2, s5⟩ := HAT.out _ HB5.out
    clear hb b4 s4
    go_wp2_with fail
    refine (HS.out a1 _ b5).mono ?_
    rintro e w6 ⟨rfl, hb⟩
    have HB6 := Lib.hid (HB5.out.trans (hb.mono s5))
    clear d0 d1 d2
    obtain ⟨b6, d0, d1, d2, s6⟩ := HAT.out _ HB6.out
    clear hb b5 s5
    go_wp2_with fail
    refine (HSr.out a1 _ b6).mono ?_
    rintro e w7 ⟨rfl, hb⟩
    have HB7 := Lib.hid (HB6.out.trans (hb.mono s6))
    clear d0 d1 d2
    obtain ⟨b7, d0, d1, d2, s7⟩ := HAT.out _ HB7.out
    clear hb b6 s6
    go_wp2_with fail
    refine (HT2.out _ b7).mono ?_
    rintro e w8 ⟨rfl, hb⟩
    have HB8 := Lib.hid (HB7.out.trans (hb.mono s7))
    clear d0 d1 d2
    obtain ⟨b8, d0, d1, d2, s8⟩ := HAT.out _ HB8.out
    clear hb b7 s7
    go_wp2_with fail
    refine (HI.out _ b8).mono ?_
    rintro e w9 ⟨rfl, hb⟩
    have HB9 := Lib.hid (HB8.out.trans (hb.mono s8))
    clear d0 d1 d2
    obtain ⟨b9, d0, d1, d2, s9⟩ := HAT.out _ HB9.out
    clear hb b8 s8
    go_wp2_with fail
    refine (HIr.out _ b9).mono ?_
    rintro e w10 ⟨rfl, hb⟩
    have HB10 := Lib.hid (HB9.out.trans (hb.mono s9))
    clear d0 d1 d2
    obtain ⟨b10, d0, d1, d2, s10⟩ := HAT.out _ HB10.out
    clear hb b9 s9
    go_wp2_with fail
    refine (HAW.out _ b10).mono ?_
    rintro e w11 ⟨rfl, hb⟩
    have HB11 := Lib.hid (b10.trans (hb.mono b10.size))
    go_wp2_with fail
    go_ret
    exact ⟨rfl, HB11.out⟩
  · rw [show fewF cs v = false by simpa using hf] at HFEW
    clear hC hV hl hvl hvx hok hf he hr
    go_enter Tryz.func3, Tryz.ntmps3
    go_wp2_with fail
    refine (HFEW.out _ (HAT.out _ (Below.refl _ _)).1).mono ?_
    rintro e _ ⟨rfl, rfl⟩
    obtain ⟨b1, d0, d1, d2, s1⟩ := HAT.out _ (Below.refl _ _)
    go_wp2_with fail
    refine (HAW.out _ b1).mono ?_
    rintro e w2 ⟨rfl, hb⟩
    have HB2 := Lib.hid (b1.trans (hb.mono b1.size))
    go_wp2_with fail
    go_ret
    exact ⟨rfl, HB2.out⟩
theorem fractionSums_walk (cs : List ColV) (A : Option Addr) (c : Nat) (v : List Str) (V : Option Addr) (cv : Nat) (a0 a1 a2 : Int) (w : World) (hn : cs.length ≤ c) (hc : c ≤ maxLen) (hs : ColsAt w A cs) (ho : ∀ r ∈ cs, r.ok) (hx : Cells w V (strs v)) (hvn : v.length ≤ cv) (hvc : cv ≤ maxLen) (hvs : ∀ x ∈ v, x.length ≤ maxLen) (f0 : fits a0) (f1 : fits a1) (f2 : fits a2) (he : Env w) (hr : ErrV w) :
    Calls Tryz.prog 3 #[.slice A cs.length c, .slice V v.length cv, .agg #[.int .i64 a0, .int .i64 a1, .int .i64 a2]] w fun e w' => e = .returned (.bool true) ∧ Below w.heap.size w w' :=
  fsums_walk cs A c v V cv a0 a1 a2 w hs hx (Nat.le_trans hn hc) ⟨hvn, hvc⟩ hvs ho he hr
end Go.Proofs.YtblefdgfmjegiaaGreatDoor
