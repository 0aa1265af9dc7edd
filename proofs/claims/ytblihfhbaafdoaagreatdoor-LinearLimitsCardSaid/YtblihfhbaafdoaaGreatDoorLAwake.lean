/- The examples of chapter 25. -/
import Derived.Test.YtblihfhbaafdoaaGreatDoorG17
import Derived.Test.YtblihfhbaafdoaaGreatDoorLProg7
namespace Go.Proofs.YtblihfhbaafdoaaGreatDoor
open Go.RowKit Num
set_option linter.unusedVariables false
attribute [local go_sem] B_size B_get B_toList B_mk B_extract B_append
attribute [local go_sem high] run_max2

def exP : LinL := ⟨[2, 3], [⟨[1, 1], 2, 1⟩]⟩
def exN : LinL := ⟨[1], [⟨[1], 1, 1⟩, ⟨[1], 3, 2⟩]⟩
theorem exl_val : timesQ [2, 3] [[49, 47, 50], [49]] = ([52], 0) := by decide +kernel
theorem exl_pr : provesB exP [[50]] = true ∧ provesS exP [[50]] = [50] := by decide +kernel
theorem exl_pr2 : provesB exP [[53, 47, 50]] = false := by decide +kernel
theorem exl_fit : fitsB exP [[49, 47, 51], [50, 47, 51]] = true := by decide +kernel
theorem exl_ref : refutesB exN [[45, 49], [49]] = true := by decide +kernel
theorem exl_chk : checkK exP 1 = [] := by decide +kernel
theorem cells_row {w : World} {g : Nat} {cs : Array Value} {vs : List Value} {t : TypeId} (h : w.heap[g]? = some (.cells cs t)) (e : cs = vs.toArray) : Cells w (some ⟨g, 0, none⟩) vs := by
  intro _
  refine ⟨g, 0, rfl, ?_, fun j u hu => ?_⟩
  · rcases Nat.lt_or_ge g w.heap.size with h1 | h1
    · exact h1
    · rw [Array.getElem?_eq_none h1] at h; exact absurd h (by simp)
  · rw [Nat.zero_add, cell_of_row w g j _ _ _ h, e]; simpa using hu
/-- the cells of rows -/
def rcells (rs : List RowV) : List Value := rs.flatMap fun r => [.slice r.A r.L.coef.length r.c, .int .i64 r.L.kind, .int .i64 r.L.right]
theorem rcells_get (rs : List RowV) (i : Nat) (h : i < rs.length) : (rcells rs)[i * 3]? = some (.slice rs[i].A rs[i].L.coef.length rs[i].c) ∧ (rcells rs)[i * 3 + 1]? = some (.int .i64 rs[i].L.kind) ∧ (rcells rs)[i * 3 + 2]? = some (.int .i64 rs[i].L.right) := by
  induction rs generalizing i with
  | nil => exact absurd h (by simp)
  | cons r rs ih =>
    cases i with
    | zero => exact ⟨rfl, rfl, rfl⟩
    | succ i =>
      have := ih i (by simpa using h)
      rw [show (i + 1) * 3 = i * 3 + 1 + 1 + 1 by omega]
      exact this
theorem rows_row {w : World} {g : Nat} {cs : Array Value} {rs : List RowV} {t : TypeId} (h : w.heap[g]? = some (.cells cs t)) (e : cs = (rcells rs).toArray) (hr : ∀ r ∈ rs, Cells w r.A (ints r.L.coef)) : RowsAt w (some ⟨g, 0, none⟩) rs := by
  refine ⟨fun _ => ⟨g, 0, rfl, ?_, fun i hi => ?_⟩, hr⟩
  · rcases Nat.lt_or_ge g w.heap.size with h1 | h1
    · exact h1
    · rw [Array.getElem?_eq_none h1] at h; exact absurd h (by simp)
  · have := rcells_get rs i hi
    rw [Nat.zero_add, cell_of_row w g _ _ _ _ h, cell_of_row w g _ _ _ _ h, cell_of_row w g _ _ _ _ h, e]
    simpa using this
theorem ok_of {r : RowV} (h1 : r.L.coef.length ≤ r.c) (h2 : r.c ≤ 1000) (h3 : r.L.coef.all (fun n => decide (fits n)) = true) (h4 : fits r.L.kind) (h5 : fits r.L.right) : r.ok :=
  ⟨h1, by unfold maxLen; omega, fun n hn => by simpa using List.all_eq_true.1 h3 n hn, h4, h5⟩
theorem fits_small {z : Int} (h : -1000 ≤ z ∧ z ≤ 1000) : fits z := by constructor <;> omega
theorem rats_new (w : World) (xs : List Str) (cs : Array Value) (t : TypeId) (c : Nat) (e : cs = (strs xs).toArray) (hl : ∀ x ∈ xs, x.length ≤ 100000) (hc : xs.length ≤ c ∧ c ≤ 1000) : RatsAt (w.alloc (.cells cs t)) xs (some ⟨w.heap.size, 0, none⟩) c :=
  ⟨cells_row row_new e, hl, ⟨hc.1, by unfold maxLen; omega⟩⟩
/-- the first example, laid in memory -/
theorem ex1_at (w : World) : LinAt (((w.alloc (.cells #[.int .i64 2, .int .i64 3] 3)).alloc (.cells #[.int .i64 1, .int .i64 1] 3)).alloc (.cells #[.slice (some ⟨w.heap.size + 1, 0, none⟩) 2 2, .int .i64 2, .int .i64 1] 34)) [2, 3] [⟨some ⟨w.heap.size + 1, 0, none⟩, 2, ⟨[1, 1], 2, 1⟩⟩] (some ⟨w.heap.size, 0, none⟩) 2 (some ⟨w.heap.size + 1 + 1, 0, none⟩) 1 := by
  have h0 := row_on (row_on (row_new (w := w) (o := .cells #[.int .i64 2, .int .i64 3] 3)) (new_below _ (.cells #[.int .i64 1, .int .i64 1] 3))) (new_below _ (.cells #[.slice (some ⟨w.heap.size + 1, 0, none⟩) 2 2, .int .i64 2, .int .i64 1] 34))
  have h1 := row_on (row_new (w := w.alloc (.cells #[.int .i64 2, .int .i64 3] 3)) (o := .cells #[.int .i64 1, .int .i64 1] 3)) (new_below _ (.cells #[.slice (some ⟨w.heap.size + 1, 0, none⟩) 2 2, .int .i64 2, .int .i64 1] 34))
  have h2 := row_new (w := (w.alloc (.cells #[.int .i64 2, .int .i64 3] 3)).alloc (.cells #[.int .i64 1, .int .i64 1] 3)) (o := .cells #[.slice (some ⟨w.heap.size + 1, 0, none⟩) 2 2, .int .i64 2, .int .i64 1] 34)
  rw [World.size_alloc] at h1
  rw [World.size_alloc, World.size_alloc] at h2
  refine ⟨cells_row h0 rfl, rows_row h2 rfl ?_, ?_, ?_, ⟨Nat.le_refl 2, by unfold maxLen; decide⟩, ⟨Nat.le_refl 1, by unfold maxLen; decide⟩⟩
  · intro r hr
    rw [List.mem_singleton] at hr
    subst hr
    exact cells_row h1 rfl
  · intro n hn
    refine fits_small ?_
    simp at hn; omega
  · intro r hr
    rw [List.mem_singleton] at hr
    subst hr
    exact ok_of (Nat.le_refl 2) (show 2 ≤ 1000 by decide) (show ([1, 1] : List Int).all (fun n => decide (fits n)) = true by decide) (show fits 2 by decide) (show fits 1 by decide)
theorem ex2_at (w : World) : LinAt ((((w.alloc (.cells #[.int .i64 1] 3)).alloc (.cells #[.int .i64 1] 3)).alloc (.cells #[.int .i64 1] 3)).alloc (.cells #[.slice (some ⟨w.heap.size + 1, 0, none⟩) 1 1, .int .i64 1, .int .i64 1, .slice (some ⟨w.heap.size + 1 + 1, 0, none⟩) 1 1, .int .i64 3, .int .i64 2] 34)) [1] [⟨some ⟨w.heap.size + 1, 0, none⟩, 1, ⟨[1], 1, 1⟩⟩, ⟨some ⟨w.heap.size + 1 + 1, 0, none⟩, 1, ⟨[1], 3, 2⟩⟩] (some ⟨w.heap.size, 0, none⟩) 1 (some ⟨w.heap.size + 1 + 1 + 1, 0, none⟩) 2 := by
  have h0 := row_on (row_on (row_on (row_new (w := w) (o := (.cells #[.int .i64 1] 3))) (new_below _ (.cells #[.int .i64 1] 3))) (new_below _ (.cells #[.int .i64 1] 3))) (new_below _ (.cells #[.slice (some ⟨w.heap.size + 1, 0, none⟩) 1 1, .int .i64 1, .int .i64 1, .slice (some ⟨w.heap.size + 1 + 1, 0, none⟩) 1 1, .int .i64 3, .int .i64 2] 34))
  have h1 := row_on (row_on (row_new (w := w.alloc (.cells #[.int .i64 1] 3)) (o := (.cells #[.int .i64 1] 3))) (new_below _ (.cells #[.int .i64 1] 3))) (new_below _ (.cells #[.slice (some ⟨w.heap.size + 1, 0, none⟩) 1 1, .int .i64 1, .int .i64 1, .slice (some ⟨w.heap.size + 1 + 1, 0, none⟩) 1 1, .int .i64 3, .int .i64 2] 34))
  have h2 := row_on (row_new (w := (w.alloc (.cells #[.int .i64 1] 3)).alloc (.cells #[.int .i64 1] 3)) (o := (.cells #[.int .i64 1] 3))) (new_below _ (.cells #[.slice (some ⟨w.heap.size + 1, 0, none⟩) 1 1, .int .i64 1, .int .i64 1, .slice (some ⟨w.heap.size + 1 + 1, 0, none⟩) 1 1, .int .i64 3, .int .i64 2] 34))
  have h3 := row_new (w := ((w.alloc (.cells #[.int .i64 1] 3)).alloc (.cells #[.int .i64 1] 3)).alloc (.cells #[.int .i64 1] 3)) (o := (.cells #[.slice (some ⟨w.heap.size + 1, 0, none⟩) 1 1, .int .i64 1, .int .i64 1, .slice (some ⟨w.heap.size + 1 + 1, 0, none⟩) 1 1, .int .i64 3, .int .i64 2] 34))
  rw [World.size_alloc] at h1
  rw [World.size_alloc, World.size_alloc] at h2
  rw [World.size_alloc, World.size_alloc, World.size_alloc] at h3
  refine ⟨cells_row h0 rfl, rows_row h3 rfl ?_, ?_, ?_, ⟨Nat.le_refl 1, by unfold maxLen; decide⟩, ⟨Nat.le_refl 2, by unfold maxLen; decide⟩⟩
  · intro r hr
    simp only [List.mem_cons, List.not_mem_nil, or_false] at hr
    rcases hr with rfl | rfl
    · exact cells_row h1 rfl
    · exact cells_row h2 rfl
  · intro n hn
    refine fits_small ?_
    simp at hn; omega
  · intro r hr
    simp only [List.mem_cons, List.not_mem_nil, or_false] at hr
    rcases hr with rfl | rfl
    · exact ok_of (Nat.le_refl 1) (show 1 ≤ 1000 by decide) (show ([1] : List Int).all (fun n => decide (fits n)) = true by decide) (show fits 1 by decide) (show fits 1 by decide)
    · exact ok_of (Nat.le_refl 1) (show 1 ≤ 1000 by decide) (show ([1] : List Int).all (fun n => decide (fits n)) = true by decide) (show fits 3 by decide) (show fits 2 by decide)
theorem ex2_below (w : World) : Below w.heap.size w ((((w.alloc (.cells #[.int .i64 1] 3)).alloc (.cells #[.int .i64 1] 3)).alloc (.cells #[.int .i64 1] 3)).alloc (.cells #[.slice (some ⟨w.heap.size + 1, 0, none⟩) 1 1, .int .i64 1, .int .i64 1, .slice (some ⟨w.heap.size + 1 + 1, 0, none⟩) 1 1, .int .i64 3, .int .i64 2] 34)) := by
  have B1 := new_below w (.cells #[.int .i64 1] 3)
  have B2 := B1.trans ((new_below _ (.cells #[.int .i64 1] 3)).mono B1.size)
  have B3 := B2.trans ((new_below _ (.cells #[.int .i64 1] 3)).mono B2.size)
  exact B3.trans ((new_below _ (.cells #[.slice (some ⟨w.heap.size + 1, 0, none⟩) 1 1, .int .i64 1, .int .i64 1, .slice (some ⟨w.heap.size + 1 + 1, 0, none⟩) 1 1, .int .i64 3, .int .i64 2] 34)).mono B3.size)
set_option maxHeartbeats 8000000 in
set_option maxRecDepth 100000 in
theorem lawake_any (w : World) (he : Env w) :
    Calls Tryz.prog 10 #[] w fun e w' => e = .returned (.bool true) ∧ Below w.heap.size w w' := by
  have L0 := ex1_at w
  have B1 := new_below w (.cells #[.int .i64 2, .int .i64 3] 3)
  have B2 := B1.trans ((new_below _ (.cells #[.int .i64 1, .int .i64 1] 3)).mono B1.size)
  have B3 := B2.trans ((new_below _ (.cells #[.slice (some ⟨w.heap.size + 1, 0, none⟩) 2 2, .int .i64 2, .int .i64 1] 34)).mono B2.size)
  generalize hw3 : (((w.alloc (.cells #[.int .i64 2, .int .i64 3] 3)).alloc (.cells #[.int .i64 1, .int .i64 1] 3)).alloc (.cells #[.slice (some ⟨w.heap.size + 1, 0, none⟩) 2 2, .int .i64 2, .int .i64 1] 34)) = wc at L0 B3
  have HW3 := Lib.hid hw3
  have hs3 : wc.heap.size = w.heap.size + 1 + 1 + 1 := by rw [← hw3]; simp
  clear B1 B2 hw3
  have n4 := new_below wc (linO (some ⟨w.heap.size, 0, none⟩) 2 2 (some ⟨w.heap.size + 1 + 1, 0, none⟩) 1 1)
  have r4 := row_new (w := wc) (o := linO (some ⟨w.heap.size, 0, none⟩) 2 2 (some ⟨w.heap.size + 1 + 1, 0, none⟩) 1 1)
  have hs4 : (wc.alloc (linO (some ⟨w.heap.size, 0, none⟩) 2 2 (some ⟨w.heap.size + 1 + 1, 0, none⟩) 1 1)).heap.size = w.heap.size + 1 + 1 + 1 + 1 := by rw [World.size_alloc, hs3]
  rw [hs3] at r4
  have L4 := L0.below n4
  have B4 := B3.trans (n4.mono B3.size)
  generalize hw4 : wc.alloc (linO (some ⟨w.heap.size, 0, none⟩) 2 2 (some ⟨w.heap.size + 1 + 1, 0, none⟩) 1 1) = wd at r4 hs4 L4 B4
  have HW4 := Lib.hid hw4
  clear hw4 n4 L0 B3
  have hd : ∀ w', Below wd.heap.size wd w' → w'.cell? ⟨w.heap.size + 1 + 1 + 1, 0, none⟩ = some (.slice (some ⟨w.heap.size, 0, none⟩) 2 2) ∧ w'.cell? ⟨w.heap.size + 1 + 1 + 1, 1, none⟩ = some (.slice (some ⟨w.heap.size + 1 + 1, 0, none⟩) 1 1) := by
    intro w' hb
    have h := row_on r4 hb
    exact ⟨by rw [cell_of_row w' _ 0 _ _ _ h]; rfl, by rw [cell_of_row w' _ 1 _ _ _ h]; rfl⟩
  have HD := Lib.hid hd
  clear hd r4
  have B5 := new_below wd (.cells #[.string (B [49, 47, 50]), .string (B [49])] 38)
  have X5 := rats_new wd [[49, 47, 50], [49]] #[.string (B [49, 47, 50]), .string (B [49])] 38 2 rfl (by decide) (by decide)
  rw [hs4] at X5
  have HL4 := Lib.hid L4
  have HV := Lib.hid (lval_any [2, 3] [⟨some ⟨w.heap.size + 1, 0, none⟩, 2, ⟨[1, 1], 2, 1⟩⟩] _ 2 _ 1 _ _ 2 _ (L4.below B5) X5 (he.below (B4.trans (B5.mono B4.size))))
  rw [exl_val] at HV
  clear X5 L4
  go_enter Tryz.func10, Tryz.ntmps10
  simp only [B_mk]
  go_wp2_with fail
  simp only [HW3.out, HW4.out]
  refine HV.out.mono ?_
  rintro e w1 ⟨rfl, hb1⟩
  have b1 := B5.trans (hb1.mono B5.size)
  have a1 := B4.trans (b1.mono B4.size)
  clear hb1 B5
  obtain ⟨d0, d1⟩ := HD.out w1 b1
  go_wp2_with fail
  have X2 := rats_new w1 [[50]] #[.string (B [50])] 38 1 rfl (by decide) (by decide)
  have n2 := new_below w1 (.cells #[.string (B [50])] 38)
  have HP1 := Lib.hid (lproves_any [2, 3] [⟨some ⟨w.heap.size + 1, 0, none⟩, 2, ⟨[1, 1], 2, 1⟩⟩] _ 2 _ 1 _ _ 1 _ (show 1 ≤ 1000000 by decide) (by simp) ((HL4.out.below b1).below n2) X2 ((he.below a1).below n2))
  rw [show provesS (linOf [2, 3] [⟨some ⟨w.heap.size + 1, 0, none⟩, 2, ⟨[1, 1], 2, 1⟩⟩]) [[50]] = [50] from exl_pr.2, show provesB (linOf [2, 3] [⟨some ⟨w.heap.size + 1, 0, none⟩, 2, ⟨[1, 1], 2, 1⟩⟩]) [[50]] = true from exl_pr.1] at HP1
  refine HP1.out.mono ?_
  rintro e w2 ⟨rfl, hb2⟩
  have b2 := (b1.trans (n2.mono b1.size)).trans (hb2.mono (Nat.le_trans b1.size n2.size))
  have a2 := B4.trans (b2.mono B4.size)
  clear hb2 n2 X2 d0 d1 HP1 HV
  obtain ⟨d0, d1⟩ := HD.out w2 b2
  go_wp2_with fail
  have X3 := rats_new w2 [[53, 47, 50]] #[.string (B [53, 47, 50])] 38 1 rfl (by decide) (by decide)
  have n3 := new_below w2 (.cells #[.string (B [53, 47, 50])] 38)
  have HP1 := Lib.hid (lproves_any [2, 3] [⟨some ⟨w.heap.size + 1, 0, none⟩, 2, ⟨[1, 1], 2, 1⟩⟩] _ 2 _ 1 _ _ 1 _ (show 1 ≤ 1000000 by decide) (by simp) ((HL4.out.below b2).below n3) X3 ((he.below a2).below n3))
  rw [show provesB (linOf [2, 3] [⟨some ⟨w.heap.size + 1, 0, none⟩, 2, ⟨[1, 1], 2, 1⟩⟩]) [[53, 47, 50]] = false from exl_pr2] at HP1
  refine HP1.out.mono ?_
  rintro e w3 ⟨rfl, hb3⟩
  have b3 := (b2.trans (n3.mono b2.size)).trans (hb3.mono (Nat.le_trans b2.size n3.size))
  have a3 := B4.trans (b3.mono B4.size)
  clear hb3 n3 X3 d0 d1 HP1
  generalize provesS (linOf [2, 3] [⟨some ⟨w.heap.size + 1, 0, none⟩, 2, ⟨[1, 1], 2, 1⟩⟩]) [[53, 47, 50]] = junk
  have L2 := ex2_at w3
  have BB := ex2_below w3
  generalize hw5 : ((((w3.alloc (.cells #[.int .i64 1] 3)).alloc (.cells #[.int .i64 1] 3)).alloc (.cells #[.int .i64 1] 3)).alloc (.cells #[.slice (some ⟨w3.heap.size + 1, 0, none⟩) 1 1, .int .i64 1, .int .i64 1, .slice (some ⟨w3.heap.size + 1 + 1, 0, none⟩) 1 1, .int .i64 3, .int .i64 2] 34)) = we at L2 BB
  have HW5 := Lib.hid hw5
  have hs5 : we.heap.size = w3.heap.size + 1 + 1 + 1 + 1 := by rw [← hw5]; simp
  clear hw5
  have n6 := new_below we (linO (some ⟨w3.heap.size, 0, none⟩) 1 1 (some ⟨w3.heap.size + 1 + 1 + 1, 0, none⟩) 2 2)
  have r6 := row_new (w := we) (o := linO (some ⟨w3.heap.size, 0, none⟩) 1 1 (some ⟨w3.heap.size + 1 + 1 + 1, 0, none⟩) 2 2)
  have hs6 : (we.alloc (linO (some ⟨w3.heap.size, 0, none⟩) 1 1 (some ⟨w3.heap.size + 1 + 1 + 1, 0, none⟩) 2 2)).heap.size = w3.heap.size + 1 + 1 + 1 + 1 + 1 := by rw [World.size_alloc, hs5]
  rw [hs5] at r6
  have L6 := L2.below n6
  have b6 := b3.trans ((BB.trans (n6.mono BB.size)).mono b3.size)
  generalize hw6 : we.alloc (linO (some ⟨w3.heap.size, 0, none⟩) 1 1 (some ⟨w3.heap.size + 1 + 1 + 1, 0, none⟩) 2 2) = wf at r6 hs6 L6 b6
  have HW6 := Lib.hid hw6
  clear hw6 n6 L2 BB
  have hf : ∀ w', Below wf.heap.size wf w' → w'.cell? ⟨w3.heap.size + 1 + 1 + 1 + 1, 0, none⟩ = some (.slice (some ⟨w3.heap.size, 0, none⟩) 1 1) ∧ w'.cell? ⟨w3.heap.size + 1 + 1 + 1 + 1, 1, none⟩ = some (.slice (some ⟨w3.heap.size + 1 + 1 + 1, 0, none⟩) 2 2) := by
    intro w' hb
    have h := row_on r6 hb
    exact ⟨by rw [cell_of_row w' _ 0 _ _ _ h]; rfl, by rw [cell_of_row w' _ 1 _ _ _ h]; rfl⟩
  have HF := Lib.hid hf
  clear hf r6
  have a6 := B4.trans (b6.mono B4.size)
  obtain ⟨d0, d1⟩ := HD.out wf b6
  have HL6 := Lib.hid L6
  clear L6
  go_upto_region 6 with fail
  simp only [HW5.out, HW6.out]
  go_wp2_with fail
  have X7 := rats_new wf [[49, 47, 51], [50, 47, 51]] #[.string (B [49, 47, 51]), .string (B [50, 47, 51])] 38 2 rfl (by decide) (by decide)
  rw [hs6] at X7
  have n7 := new_below wf (.cells #[.string (B [49, 47, 51]), .string (B [50, 47, 51])] 38)
  have HC := Lib.hid (lfits_any [2, 3] [⟨some ⟨w.heap.size + 1, 0, none⟩, 2, ⟨[1, 1], 2, 1⟩⟩] _ 2 _ 1 _ _ 2 _ ((HL4.out.below b6).below n7) X7 ((he.below a6).below n7))
  rw [show fitsB (linOf [2, 3] [⟨some ⟨w.heap.size + 1, 0, none⟩, 2, ⟨[1, 1], 2, 1⟩⟩]) [[49, 47, 51], [50, 47, 51]] = true from exl_fit] at HC
  refine HC.out.mono ?_
  rintro e w7 ⟨rfl, hb7⟩
  have c7 := n7.trans (hb7.mono n7.size)
  have a7 := a6.trans (c7.mono a6.size)
  clear X7 n7 HC hb7 d0 d1
  obtain ⟨d0, d1⟩ := HF.out w7 c7
  go_wp2_with fail
  have X8 := rats_new w7 [[45, 49], [49]] #[.string (B [45, 49]), .string (B [49])] 38 2 rfl (by decide) (by decide)
  have n8 := new_below w7 (.cells #[.string (B [45, 49]), .string (B [49])] 38)
  have HC := Lib.hid (lrefutes_any [1] [⟨some ⟨w3.heap.size + 1, 0, none⟩, 1, ⟨[1], 1, 1⟩⟩, ⟨some ⟨w3.heap.size + 1 + 1, 0, none⟩, 1, ⟨[1], 3, 2⟩⟩] _ 1 _ 2 _ _ 2 _ (show 2 ≤ 1000000 by decide) (by simp) ((HL6.out.below c7).below n8) X8 ((he.below a7).below n8))
  rw [show refutesB (linOf [1] [⟨some ⟨w3.heap.size + 1, 0, none⟩, 1, ⟨[1], 1, 1⟩⟩, ⟨some ⟨w3.heap.size + 1 + 1, 0, none⟩, 1, ⟨[1], 3, 2⟩⟩]) [[45, 49], [49]] = true from exl_ref] at HC
  refine HC.out.mono ?_
  rintro e w8 ⟨rfl, hb8⟩
  have c8 := n8.trans (hb8.mono n8.size)
  have a8 := a7.trans (c8.mono a7.size)
  have b8 := b6.trans ((c7.trans (c8.mono c7.size)).mono b6.size)
  clear X8 n8 HC hb8 d0 d1
  obtain ⟨d0, d1⟩ := HD.out w8 b8
  go_wp2_with fail
  have HC := Lib.hid (lcheck_any [2, 3] [⟨some ⟨w.heap.size + 1, 0, none⟩, 2, ⟨[1, 1], 2, 1⟩⟩] _ 2 _ 1 w8 (show 1 ≤ 1000000 by decide) (HL4.out.below b8) (he.below a8).1)
  rw [show checkK (linOf [2, 3] [⟨some ⟨w.heap.size + 1, 0, none⟩, 2, ⟨[1, 1], 2, 1⟩⟩]) (List.length (α := RowV) [⟨some ⟨w.heap.size + 1, 0, none⟩, 2, ⟨[1, 1], 2, 1⟩⟩]) = [] from exl_chk] at HC
  refine HC.out.mono ?_
  rintro e w9 ⟨⟨v, rfl, F, c, rfl, _⟩, hb9⟩
  go_wp2_with fail
  go_ret
  exact ⟨rfl, a8.trans (hb9.mono a8.size)⟩
end Go.Proofs.YtblihfhbaafdoaaGreatDoor
