/- The laws of fraction: few, and what is made; awake. -/
import Derived.Test.YtblefdgfmjegiaaGreatDoorFRef3
namespace Go.Proofs.YtblefdgfmjegiaaGreatDoor
open Go.RowKit Num
set_option linter.unusedVariables false
attribute [local go_sem] B_size B_get B_toList B_mk B_extract B_append

def fewF (cs : List ColV) (v : List Str) : Bool := decide (cs.length ≤ 40) && decide (v.length ≤ 60) && v.all (fun x => decide (x.length ≤ 12)) && cs.all (fun r => decide (0 ≤ r.s))
section
variable {α : Type}
theorem all_take_t {l : List α} {f : α → Bool} {k : Nat} (hk : k < l.length) (h : (l.take k).all f = true) (h1 : f l[k] = true) : (l.take (k + 1)).all f = true := by
  rw [List.take_succ_eq_append_getElem hk, List.all_append, h, List.all_cons, h1]; rfl
theorem all_miss_t {l : List α} {f : α → Bool} {k : Nat} (hk : k < l.length) (h : f l[k] = false) : l.all f = false := by
  rw [List.all_eq_false]; exact ⟨_, List.getElem_mem hk, by rw [h]; simp⟩
theorem all_full_t {l : List α} {f : α → Bool} {k : Nat} (hk : k = l.length) (h : (l.take k).all f = true) : l.all f = true := by rw [hk, List.take_length] at h; exact h
end
set_option maxRecDepth 100000 in
theorem ffew_any (cs : List ColV) (A : Option Addr) (c : Nat) (v : List Str) (V : Option Addr) (cv : Nat) (w : World) (hC : ColsAt w A cs) (hV : Cells w V (strs v)) (hl : cs.length ≤ maxLen) (hvl : v.length ≤ maxLen) (hvx : ∀ x ∈ v, x.length ≤ maxLen) (hok : ∀ r ∈ cs, r.ok) :
    Calls Tryz.prog 6 #[.slice A cs.length c, .slice V v.length cv] w fun e w' => e = .returned (.bool (fewF cs v)) ∧ w' = w := by
  unfold maxLen at hl hvl hvx
  have HC := Lib.hid hC
  have HV := Lib.hid hV
  have HX := Lib.hid hvx
  clear hC hV hvx
  by_cases h40 : cs.length ≤ 40
  · have h40' : ¬ (40 : Int) < (cs.length : Int) := by omega
    by_cases h60 : v.length ≤ 60
    · have h60' : ¬ (60 : Int) < (v.length : Int) := by omega
      have HF := Lib.hid (show fewF cs v = (v.all (fun x => decide (x.length ≤ 12)) && cs.all (fun r => decide (0 ≤ r.s))) by unfold fewF; rw [decide_eq_true h40, decide_eq_true h60]; rfl)
      go_enter Tryz.func6, Tryz.ntmps6
      go_wp2_with fail
      go_loop [5] (fun i => ∃ k : Nat, k ≤ v.length ∧ i = .int .i64 k ∧ (v.take k).all (fun x => decide (x.length ≤ 12)) = true) (fun i => v.length - (intOf i).toNat)
      case atStart => exact ⟨0, Nat.zero_le _, rfl, rfl⟩
      case round =>
        obtain ⟨k, hk, rfl, hall⟩ := hrel
        have HA := Lib.hid hall
        clear hall
        by_cases hlt : k < v.length
        · obtain ⟨b, off, rfl, hb, hc⟩ := HV.out (by rw [strs_length]; omega)
          have hck := hc k _ (strs_get _ _ hlt)
          have hxg : v.getD k [] = v[k] := by rw [List.getD_eq_getElem?_getD, List.getElem?_eq_getElem hlt]; rfl
          rw [hxg] at hck
          have hxl := HX.out _ (List.getElem_mem hlt)
          have HS := Lib.hid (fun h => all_take_t (f := fun x : Str => decide (x.length ≤ 12)) hlt HA.out h)
          have HB := Lib.hid (fun h => all_miss_t (f := fun x : Str => decide (x.length ≤ 12)) hlt h)
          generalize v[k] = x at *
          clear hc hxg
          by_cases hr : x.length ≤ 12
          · have hr' : ¬ (12 : Int) < (x.length : Int) := by omega
            have HN := Lib.hid (HS.out (by simpa using hr))
            go_wp2_with fail
            go_round
            case rel => exact ⟨k + 1, by omega, by go_num, HN.out⟩
            case measure => simp [intOf]; omega
          · have hr' : (12 : Int) < (x.length : Int) := by omega
            have HN := Lib.hid (show fewF cs v = false by rw [HF.out, HB.out (by simpa using hr)]; rfl)
            go_wp2_with fail
            go_ret
            exact ⟨ret_bool HN.out.symm, rfl⟩
        · have HVA := Lib.hid (all_full_t (show k = v.length by omega) HA.out)
          clear HA
          go_wp2_with fail
          go_loop [6] (fun i => ∃ k : Nat, k ≤ cs.length ∧ i = .int .i64 k ∧ (cs.take k).all (fun r => decide (0 ≤ r.s)) = true) (fun i => cs.length - (intOf i).toNat)
          case atStart => exact ⟨0, Nat.zero_le _, rfl, rfl⟩
          case round =>
            clear hk hlt
            obtain ⟨k, hk, rfl, hall⟩ := hrel
            have HA := Lib.hid hall
            clear hall
            by_cases hlt : k < cs.length
            · obtain ⟨b, off, rfl, hb, hc⟩ := HC.out (by omega)
              have d1 := hc k hlt 1 _ rfl
              have HS := Lib.hid (fun h => all_take_t (f := fun r : ColV => decide (0 ≤ r.s)) hlt HA.out h)
              have HB := Lib.hid (fun h => all_miss_t (f := fun r : ColV => decide (0 ≤ r.s)) hlt h)
              generalize cs[k] = r at *
              clear hc
              by_cases hr : 0 ≤ r.s
              · have hr' : ¬ r.s < 0 := by omega
                have HN := Lib.hid (HS.out (by simpa using hr))
                clear hr
                go_wp2_with fail
                go_round
                case rel => exact ⟨k + 1, by omega, by go_num, HN.out⟩
                case measure => simp [intOf]; omega
              · have hr' : r.s < 0 := by omega
                have HN := Lib.hid (show fewF cs v = false by rw [HF.out, HB.out (by simpa using hr), Bool.and_false])
                clear hr
                go_wp2_with fail
                go_ret
                exact ⟨ret_bool HN.out.symm, rfl⟩
            · have HN := Lib.hid (show fewF cs v = true by rw [HF.out, HVA.out, all_full_t (show k = cs.length by omega) HA.out]; rfl)
              go_wp2_with fail
              go_ret
              exact ⟨ret_bool HN.out.symm, rfl⟩
    · have h60' : (60 : Int) < (v.length : Int) := by omega
      have HN := Lib.hid (show fewF cs v = false by unfold fewF; rw [decide_eq_false h60, Bool.and_false]; rfl)
      go_enter Tryz.func6, Tryz.ntmps6
      go_wp2_with fail
      go_ret
      exact ⟨ret_bool HN.out.symm, rfl⟩
  · have h40' : (40 : Int) < (cs.length : Int) := by omega
    have HN := Lib.hid (show fewF cs v = false by unfold fewF; rw [decide_eq_false h40]; rfl)
    go_enter Tryz.func6, Tryz.ntmps6
    go_wp2_with fail
    go_ret
    exact ⟨ret_bool HN.out.symm, rfl⟩
/-- what few asks -/
theorem few_parts {cs : List ColV} {v : List Str} (h : fewF cs v = true) : cs.length ≤ 40 ∧ v.length ≤ 60 ∧ (∀ x ∈ v, x.length ≤ 12) ∧ ∀ r ∈ cs, 0 ≤ r.s := by
  unfold fewF at h
  simp only [Bool.and_eq_true, decide_eq_true_iff] at h
  exact ⟨h.1.1.1, h.1.1.2, fun x hx => by simpa using List.all_eq_true.1 h.1.2 x hx, fun r hr => by simpa using List.all_eq_true.1 h.2 r hr⟩
/-- the sums of few columns all err alike, or none errs -/
theorem few_sums {l : List (Int × Int)} {v : List Str} (hl : l.length ≤ 40) (hv : ∀ x ∈ v, x.length ≤ 12) : (∃ q, q ≠ 0 ∧ AllErr l v q) ∨ (AllOK l v ∧ l.length ≤ v.length ∧ (v.take l.length).all rightQ = true) := by
  by_cases h1 : v.length < l.length
  · refine .inl ⟨2, by decide, fun f => ?_⟩
    exact (sum_ok (ones_01 f l) (by rw [ones_len]; exact hl) hv).1 (by rw [ones_len]; exact h1)
  · cases h2 : (v.take l.length).all rightQ
    · refine .inl ⟨3, by decide, fun f => ?_⟩
      exact (sum_ok (ones_01 f l) (by rw [ones_len]; exact hl) hv).2.1 (by rw [ones_len]; omega) (by rw [ones_len]; exact h2)
    · refine .inr ⟨fun f => ?_, by omega, rfl⟩
      have := (sum_ok (ones_01 f l) (by rw [ones_len]; exact hl) hv).2.2 (by rw [ones_len]; omega) (by rw [ones_len]; exact h2)
      exact ⟨this.1, this.2.1⟩
/-- whole variables are not separated -/
theorem few_whole {l : List (Int × Int)} {v : List Str} (hl : l.length ≤ 40) (hv : ∀ x ∈ v, x.length ≤ 12) (h1 : l.length ≤ v.length) (h2 : (v.take l.length).all wholeQ = true) (t n : Nat) : choicesD l v t n = [] := by
  have hr : (v.take l.length).all rightQ = true := List.all_eq_true.2 fun x hx => by
    have := List.all_eq_true.1 h2 x hx
    unfold wholeQ at this
    rw [Bool.and_eq_true] at this; exact this.1
  have key : ∀ f, hasS (sumQ (ones f l) v).1 = false := fun f => ((sum_ok (ones_01 f l) (by rw [ones_len]; exact hl) hv).2.2 (by rw [ones_len]; omega) (by rw [ones_len]; exact hr)).2.2 (by rw [ones_len]; exact h2)
  have e1 : typesD l v t = [] := List.flatMap_eq_nil_iff.2 fun x _ => by unfold typeDec; rw [show hasS (usedQ l v x).1 = false from key _]; simp
  have e2 : ∀ a, rowD l v a n = [] := fun a => List.flatMap_eq_nil_iff.2 fun x _ => by
    show (if a < x then pairDec l v a x else []) = []
    split
    · unfold pairDec; rw [show hasS (togQ l v a x).1 = false from key _]; simp
    · rfl
  have e3 : pairsD l v n n = [] := List.flatMap_eq_nil_iff.2 fun x _ => e2 x
  have e4 : servsD l v n = [] := List.flatMap_eq_nil_iff.2 fun x _ => by unfold servDec; rw [show hasS (togQ l v x x).1 = false from key _]; simp
  unfold choicesD
  rw [e1, e3, e4]; rfl
theorem type_info : (Tryz.prog.info? 212).map (fun i => (i.zero, i.size, i.bytes)) = some (some (.agg #[.string (B []), .int .i64 0, .int .i64 0, .int .i64 0, .slice none 0 0, .int .i64 0, .int .i64 0, .int .i64 0, .int .i64 0, .int .i64 0, .int .i64 0, .int .i64 0, .int .i64 0, .int .i64 0]), 14, 136) := by kernel_rfl
theorem order_info : (Tryz.prog.info? 216).map (fun i => (i.zero, i.size, i.bytes)) = some (some (.agg #[.string (B []), .slice none 0 0, .int .i64 0, .int .i64 0, .int .i64 0, .int .i64 0, .int .i64 0, .int .i64 0, .int .i64 0, .int .i64 0, .int .i64 0, .int .i64 0, .int .i64 0, .int .i64 0, .int .i64 0, .bool false]), 16, 152) := by kernel_rfl
theorem make_types (n : Nat) (hn : n ≤ 1000) : ∃ zs : Array Value, ∀ w : World, (Instr.makeSlice 35 (.int .i64 (n : Int)) (.int .i64 (n : Int))).run Tryz.prog w = .ok (.slice (some ⟨w.heap.size, 0, none⟩) n n) (w.alloc (.cells zs 212)) := by
  obtain ⟨i, hi, hz, hs, hb⟩ := info_parts type_info
  obtain ⟨z0, hz0⟩ : ∃ z0, i.zero = some z0 := ⟨_, hz⟩
  exact ⟨madeCells z0.cells (n * i.size), fun w => run_make_rowN (P := Tryz.prog) 35 212 i z0 Tryz.underlying35 hi hz0 .i64 .i64 n n (Nat.le_refl _) (by rw [hb]; omega) (by omega) w⟩
theorem make_orders (n : Nat) (hn : n ≤ 1000) : ∃ zs : Array Value, ∀ w : World, (Instr.makeSlice 36 (.int .i64 (n : Int)) (.int .i64 (n : Int))).run Tryz.prog w = .ok (.slice (some ⟨w.heap.size, 0, none⟩) n n) (w.alloc (.cells zs 216)) := by
  obtain ⟨i, hi, hz, hs, hb⟩ := info_parts order_info
  obtain ⟨z0, hz0⟩ : ∃ z0, i.zero = some z0 := ⟨_, hz⟩
  exact ⟨madeCells z0.cells (n * i.size), fun w => run_make_rowN (P := Tryz.prog) 36 216 i z0 Tryz.underlying36 hi hz0 .i64 .i64 n n (Nat.le_refl _) (by rw [hb]; omega) (by omega) w⟩
end Go.Proofs.YtblefdgfmjegiaaGreatDoor
