/- whole: read. -/
import Derived.Test.YtkggdkkfdbbglaaDoorWProg2
namespace Go.Proofs.YtkggdkkfdbbglaaDoor
open Go.RowKit Num
set_option linter.unusedVariables false
attribute [local go_sem] B_size B_get B_toList B_mk B_extract B_append
attribute [local go_sem high] run_max2

theorem num_info : (Tryd.prog.info? 45).map (fun i => (i.zero, i.size, i.bytes)) = some (some (.agg #[.bool false, .string (B [])]), 2, 24) := by kernel_rfl
theorem el_wnumber : ElemR Tryd.prog 41 45 (.agg #[.bool false, .string (B [])]) 2 24 := ⟨Tryd.underlying41, info_parts num_info, rfl, by decide⟩
def numCells (ls : List Str) : List Value := ls.flatMap fun s => [.bool (neg? s), .string (B (mag s))]
theorem numCells_length (ls : List Str) : (numCells ls).length = ls.length * 2 := by
  induction ls with
  | nil => rfl
  | cons a t ih => unfold numCells at *; rw [List.flatMap_cons, List.length_append, ih, List.length_cons]; simp; omega
theorem numCells_snoc (ls : List Str) (s : Str) : numCells (ls ++ [s]) = numCells ls ++ [.bool (neg? s), .string (B (mag s))] := by simp [numCells]
theorem numCells_get (ls : List Str) (k : Nat) (h : k < ls.length) : (numCells ls)[k * 2]? = some (.bool (neg? (ls.getD k []))) ∧ (numCells ls)[k * 2 + 1]? = some (.string (B (mag (ls.getD k [])))) := by
  induction ls generalizing k with
  | nil => simp at h
  | cons a t ih =>
    have e : numCells (a :: t) = .bool (neg? a) :: .string (B (mag a)) :: numCells t := rfl
    rw [e]
    cases k with
    | zero => simp
    | succ k =>
      have := ih k (by simpa using h)
      rw [show (k + 1) * 2 = k * 2 + 1 + 1 by omega, List.getElem?_cons_succ, List.getElem?_cons_succ, show k * 2 + 1 + 1 + 1 = k * 2 + 1 + 1 + 1 from rfl, List.getElem?_cons_succ, List.getElem?_cons_succ]
      simpa using this
/-- the error of a list of texts -/
def errL (ls : List Str) : Int := if ls.all rightI = true then (if ls.all (fun s => decide ((mag s).length ≤ 4096)) = true then 0 else 4) else 3

def ReadPost (ls : List Str) (w : World) (e : Ending) (w' : World) : Prop :=
  (errL ls = 0 ∧ ∃ A c, e = .returned (.tuple #[.slice A ls.length c, .int .i64 0]) ∧ OwnR w' w.heap.size 45 2 A ls.length c (numCells ls) ∧ Below w.heap.size w w') ∨
  (errL ls ≠ 0 ∧ e = .returned (.tuple #[.slice none 0 0, .int .i64 (errL ls)]) ∧ Below w.heap.size w w')
set_option maxHeartbeats 2000000 in
theorem read_any_w (ls : List Str) (A : Option Addr) (c : Nat) (w : World) (hc : Cells w A (strs ls)) (hn : ls.length ≤ c) (h0 : 0 < ls.length) (hl : ls.length ≤ 1000) (hs : ∀ s ∈ ls, s.length ≤ maxLen) :
    Calls Tryd.prog 35 #[.slice A ls.length c] w (ReadPost ls w) := by
  obtain ⟨b, off, rfl, hb, hx⟩ := hc (by rw [strs_length]; omega)
  have HX := Lib.hid hx
  have HS := Lib.hid hs
  clear hc hx hs
  go_enter Tryd.func35, Tryd.ntmps35
  go_wp2_with fail
  go_loopw [4, 6, 7, 8, 9, 14] (fun v _ _ _ _ i wr => ∃ (k : Nat) (A2 : Option Addr) (c2 : Nat), k ≤ ls.length ∧ i = .int .i64 k ∧ v = .slice A2 k c2 ∧ OwnR wr w.heap.size 45 2 A2 k c2 (numCells (ls.take k)) ∧ (ls.take k).all rightI = true ∧ Below w.heap.size w wr) (fun _ _ _ _ _ i _ => ls.length - (intOf i).toNat)
  case atStart => exact ⟨0, none, 0, Nat.zero_le _, rfl, rfl, OwnR.nil _ _ _ _, rfl, Below.refl _ _⟩
  case round =>
    obtain ⟨k, A2, c2, hk, rfl, rfl, hown, hall, hbel⟩ := hrel
    have HA := Lib.hid hall
    clear hall
    by_cases hlt : k < ls.length
    · have hcell : wr.cell? ⟨b, off + k, none⟩ = some (.string (B (ls.getD k []))) := (hbel.cell (p := ⟨b, off + k, none⟩) hb).trans (HX.out k _ (strs_get ls k hlt))
      have hm := HS.out (ls.getD k []) (by rw [List.getD_eq_getElem?_getD, List.getElem?_eq_getElem hlt]; exact List.getElem_mem hlt)
      have HT := Lib.hid (show ls.take (k + 1) = ls.take k ++ [ls.getD k []] by rw [List.take_succ_eq_append_getElem hlt]; simp [hlt])
      have HB := Lib.hid (show rightI (ls.getD k []) = false → errL ls = 3 from fun h => by
        have h1 : ls.all rightI = false := by
          rw [List.all_eq_false]
          exact ⟨ls.getD k [], by rw [List.getD_eq_getElem?_getD, List.getElem?_eq_getElem hlt]; exact List.getElem_mem hlt, by rw [h]; simp⟩
        unfold errL; rw [h1]; rfl)
      generalize ls.getD k [] = s at *
      cases hr : rightI s
      · have HR := Lib.hid (HB.out hr)
        go_wp2_with fail
        refine (pparts_any s wr hm).mono ?_; rintro e w' ⟨rfl, h⟩; obtain rfl := h.symm
        go_wp2_with fail
        go_ret2
        exact .inr ⟨by rw [HR.out]; decide, by rw [HR.out]; rfl, hbel⟩
      · have HR := Lib.hid (show (ls.take (k + 1)).all rightI = true by rw [HT.out, List.all_append, HA.out]; simp [hr])
        go_wp2_with fail
        refine (pparts_any s wr hm).mono ?_; rintro e w' ⟨rfl, h⟩; obtain rfl := h.symm
        go_wp2_with (at_builtin; refine wp_app1r el_wnumber rfl _ _ rfl w.heap.size _ _ _ _ _ #[.bool (neg? s), .string (B (mag s))] rfl hown rfl rfl (by simp [Value.oneCell']) (by unfold maxLen; omega) (by omega) hbel.size ?_; intro A3 c3 w3 hown3 hb3)
        go_roundw
        case rel => exact ⟨k + 1, A3, c3, by omega, by go_num, rfl, by rw [HT.out, numCells_snoc]; exact hown3, HR.out, hbel.trans hb3⟩
        case measure => simp [intOf]; omega
    · obtain rfl : k = ls.length := by omega
      have HT := Lib.hid (show ls.take ls.length = ls from List.take_of_length_le (Nat.le_refl _))
      rw [HT.out] at hown
      have hall := HA.out
      rw [HT.out] at hall
      have HL := Lib.hid hall
      clear hall HA hlt
      go_wp2_with fail
      go_loopw [11, 35] (fun _ i w2 => ∃ k : Nat, k ≤ ls.length ∧ i = .int .i64 k ∧ (ls.take k).all (fun s => decide ((mag s).length ≤ 4096)) = true ∧ OwnR w2 w.heap.size 45 2 A2 ls.length c2 (numCells ls) ∧ Below w.heap.size w w2) (fun _ i _ => ls.length - (intOf i).toNat)
      case atStart => exact ⟨0, Nat.zero_le _, rfl, rfl, hown, hbel⟩
      case round =>
        obtain ⟨k, hk2, rfl, hall, hown2, hbel2⟩ := hrel
        have HA := Lib.hid hall
        clear hall hown hbel
        by_cases hlt : k < ls.length
        · obtain ⟨g, rfl, hg1, hg2, hgc, hgf⟩ := hown2.at_ h0
          have hcg := numCells_get ls k hlt
          have c0 := (hgc (k * 2) (by omega)).trans hcg.1
          have c1 := (hgc (k * 2 + 1) (by omega)).trans hcg.2
          have hm := Nat.le_trans (mag_length _) (HS.out (ls.getD k []) (by rw [List.getD_eq_getElem?_getD, List.getElem?_eq_getElem hlt]; exact List.getElem_mem hlt))
          have HT2 := Lib.hid (show ls.take (k + 1) = ls.take k ++ [ls.getD k []] by rw [List.take_succ_eq_append_getElem hlt]; simp [hlt])
          have HB := Lib.hid (show 4096 < (mag (ls.getD k [])).length → errL ls = 4 from fun h => by
            have h1 : ls.all (fun s => decide ((mag s).length ≤ 4096)) = false := by
              rw [List.all_eq_false]
              exact ⟨ls.getD k [], by rw [List.getD_eq_getElem?_getD, List.getElem?_eq_getElem hlt]; exact List.getElem_mem hlt, by simpa using h⟩
            unfold errL; rw [if_pos HL.out, h1]; rfl)
          generalize ls.getD k [] = s at *
          unfold maxLen at hm
          clear hgc hcg hgf
          by_cases h4 : 4096 < (mag s).length
          · have HR := Lib.hid (HB.out h4)
            have h4' : (4096 : Int) < ((mag s).length : Int) := by omega
            go_wp2_with fail
            go_ret2
            exact .inr ⟨by rw [HR.out]; decide, by rw [HR.out]; rfl, hbel2.alloc hbel2.size _⟩
          · have h4' : ¬ (4096 : Int) < ((mag s).length : Int) := by omega
            have HR := Lib.hid (show (ls.take (k + 1)).all (fun s => decide ((mag s).length ≤ 4096)) = true by rw [HT2.out, List.all_append, HA.out]; simp; omega)
            go_wp2_with fail
            go_roundw
            case rel => exact ⟨k + 1, by omega, by go_num, HR.out, hown2.alloc _, hbel2.alloc hbel2.size _⟩
            case measure => simp [intOf]; omega
        · obtain rfl : k = ls.length := by omega
          have HR := Lib.hid (show errL ls = 0 by
            have := HA.out
            rw [HT.out] at this
            unfold errL; rw [if_pos HL.out, if_pos this])
          go_wp2_with fail
          go_ret2
          exact .inl ⟨HR.out, A2, c2, rfl, hown2, hbel2⟩
end Go.Proofs.YtkggdkkfdbbglaaDoor
