/- fraction: Choices. -/
import Derived.Test.YtblefdgfmjegiaaGreatDoorFProg3
namespace Go.Proofs.YtblefdgfmjegiaaGreatDoor
open Go.RowKit Num
set_option linter.unusedVariables false
attribute [local go_sem] B_size B_get B_toList B_mk B_extract B_append

def typeDec (l : List (Int × Int)) (v : List Str) (t : Nat) : List Dec := if hasS (usedQ l v t).1 = true then [⟨3, t, 0, floorZ (usedQ l v t).1⟩] else []
def pairDec (l : List (Int × Int)) (v : List Str) (a b : Nat) : List Dec := if hasS (togQ l v a b).1 = true then [⟨1, a, b, 0⟩] else []
def servDec (l : List (Int × Int)) (v : List Str) (o : Nat) : List Dec := if hasS (togQ l v o o).1 = true then [⟨5, o, 0, 0⟩] else []
def typesD (l : List (Int × Int)) (v : List Str) (n : Nat) : List Dec := (List.range n).flatMap (typeDec l v)
def rowD (l : List (Int × Int)) (v : List Str) (a m : Nat) : List Dec := (List.range m).flatMap fun b => if a < b then pairDec l v a b else []
def pairsD (l : List (Int × Int)) (v : List Str) (n a : Nat) : List Dec := (List.range a).flatMap fun a => rowD l v a n
def servsD (l : List (Int × Int)) (v : List Str) (n : Nat) : List Dec := (List.range n).flatMap (servDec l v)
def choicesD (l : List (Int × Int)) (v : List Str) (t n : Nat) : List Dec := typesD l v t ++ pairsD l v n n ++ servsD l v n
theorem flat_succ {α : Type} (f : Nat → List α) (n : Nat) : (List.range (n + 1)).flatMap f = (List.range n).flatMap f ++ f n := by rw [List.range_succ, List.flatMap_append]; simp
theorem flat_len {α : Type} {f : Nat → List α} {m : Nat} (n : Nat) (h : ∀ i, (f i).length ≤ m) : ((List.range n).flatMap f).length ≤ n * m := by
  induction n with
  | zero => simp
  | succ n ih => rw [flat_succ, List.length_append, Nat.succ_mul]; have := h n; omega
theorem typesD_len (l : List (Int × Int)) (v : List Str) (n : Nat) : (typesD l v n).length ≤ n := by
  have := flat_len (f := typeDec l v) (m := 1) n (fun i => by unfold typeDec; split <;> simp)
  unfold typesD; omega
theorem rowD_len (l : List (Int × Int)) (v : List Str) (a n : Nat) : (rowD l v a n).length ≤ n := by
  have := flat_len (f := fun b => if a < b then pairDec l v a b else []) (m := 1) n (fun i => by
    show (if a < i then pairDec l v a i else []).length ≤ 1
    split
    · unfold pairDec; split <;> simp
    · simp)
  unfold rowD; omega
theorem pairsD_len (l : List (Int × Int)) (v : List Str) (n a : Nat) : (pairsD l v n a).length ≤ a * n := flat_len a fun i => rowD_len l v i n
theorem servsD_len (l : List (Int × Int)) (v : List Str) (n : Nat) : (servsD l v n).length ≤ n := by
  have := flat_len (f := servDec l v) (m := 1) n (fun i => by unfold servDec; split <;> simp)
  unfold servsD; omega
theorem rowD_first (l : List (Int × Int)) (v : List Str) (a m : Nat) (h : m ≤ a + 1) : rowD l v a m = [] := by
  unfold rowD
  rw [List.flatMap_eq_nil_iff]
  intro b hb
  have := List.mem_range.1 hb
  rw [if_neg (by omega)]
theorem typesD_snoc (l : List (Int × Int)) (v : List Str) (j : Nat) : typesD l v j ++ (if hasS (usedQ l v j).1 = true then [if (⟨3, j, 0, 0⟩ : Dec).k = 3 then (⟨3, j, 0, 0⟩ : Dec).put (floorZ (usedQ l v j).1) else ⟨3, j, 0, 0⟩] else []) = typesD l v (j + 1) := by
  unfold typesD
  rw [flat_succ]; rfl
theorem rowD_snoc (l : List (Int × Int)) (v : List Str) (X : List Dec) {a b : Nat} (h : a < b) : X ++ rowD l v a b ++ (if hasS (togQ l v a b).1 = true then [if (⟨1, a, b, 0⟩ : Dec).k = 3 then (⟨1, a, b, 0⟩ : Dec).put (floorZ (togQ l v a b).1) else ⟨1, a, b, 0⟩] else []) = X ++ rowD l v a (b + 1) := by
  rw [List.append_assoc]
  congr 1
  unfold rowD
  rw [flat_succ, if_pos h]; rfl
theorem pairsD_snoc (l : List (Int × Int)) (v : List Str) (X : List Dec) (n a : Nat) : X ++ pairsD l v n a ++ rowD l v a n = X ++ pairsD l v n (a + 1) := by
  rw [List.append_assoc]
  congr 1
  unfold pairsD
  rw [flat_succ]
theorem servsD_snoc (l : List (Int × Int)) (v : List Str) (X : List Dec) (o : Nat) : X ++ servsD l v o ++ (if hasS (togQ l v o o).1 = true then [if (⟨5, o, 0, 0⟩ : Dec).k = 3 then (⟨5, o, 0, 0⟩ : Dec).put (floorZ (togQ l v o o).1) else ⟨5, o, 0, 0⟩] else []) = X ++ servsD l v (o + 1) := by
  rw [List.append_assoc]
  congr 1
  unfold servsD
  rw [flat_succ]; rfl
/-- no sum errs -/
def AllOK (l : List (Int × Int)) (v : List Str) : Prop := ∀ f, (sumQ (ones f l) v).2 = 0 ∧ SumOK (sumQ (ones f l) v).1
/-- one question -/
theorem fask_any (w0 w : World) (Bs g : Nat) (O : Option Addr) (co : Nat) (l : List Dec) (a : Str) (d : Dec) (h : AskAt w Bs g O co 0 l) (ha : SumOK a) (hl : l.length ≤ 100000) (hB : Bs ≤ w.heap.size) (h0 : Below w0.heap.size w0 w) (hB0 : w0.heap.size ≤ Bs) (he : Env w0) (hr : ErrV w0) :
    Calls Tryz.prog 29 #[.pointer (some ⟨g, 0, none⟩), .string (B a), .int .i64 0, d.agg] w fun ex w' => ex = .returned (.tuple #[]) ∧ (∃ O' co', AskAt w' Bs g O' co' 0 (l ++ (if hasS a = true then [if d.k = 3 then d.put (floorZ a) else d] else []))) ∧ Below Bs w w' := by
  have hal := ha.len
  by_cases hs : hasS a = true
  · rw [if_pos hs]
    by_cases hk : d.k = 3
    · rw [if_pos hk]; exact fask_most w0 w Bs g O co l a d h ha hs hk hl hB h0 hB0 he hr
    · rw [if_neg hk]; exact fask_frac w0 w Bs g O co l a d h (by omega) hs hk hl hB h0 hB0 he
  · rw [if_neg hs, List.append_nil]
    refine Calls.mono (fask_int w0 w Bs g O co l a d h (by omega) (by simpa using hs) hB h0 hB0 he) ?_
    rintro e w' ⟨rfl, h1, h2⟩
    exact ⟨rfl, ⟨O, co, h1⟩, h2⟩
/-- an instance of which only the types and the orders are looked at -/
abbrev insC (u0 u1 : Value) (A : Option Addr) (n c : Nat) (A2 : Option Addr) (m c2 : Nat) (u4 u5 : Value) : Array Value := #[u0, u1, .slice A n c, .slice A2 m c2, u4, u5]
theorem ins_cells {w' : World} {q : Nat} {u0 u1 u4 u5 : Value} {A A2 : Option Addr} {n c m c2 : Nat} (h : w'.heap[q]? = some (.cells (insC u0 u1 A n c A2 m c2 u4 u5) 43)) : w'.cell? ⟨q, 2, none⟩ = some (.slice A n c) ∧ w'.cell? ⟨q, 3, none⟩ = some (.slice A2 m c2) := by
  refine ⟨?_, ?_⟩
  · rw [cell_of_row w' q 2 _ _ _ h]; rfl
  · rw [cell_of_row w' q 3 _ _ _ h]; rfl
set_option maxHeartbeats 4000000 in
set_option maxRecDepth 100000 in
theorem fchoices_ok (cs : List ColV) (A : Option Addr) (c : Nat) (v : List Str) (V : Option Addr) (cv : Nat) (u0 u1 u4 u5 : Value) (TA OA : Option Addr) (nt ct no cno : Nat) (w : World) (hC : ColsAt w A cs) (hV : Cells w V (strs v)) (hl : cs.length ≤ 1000) (hvl : v.length ≤ cv ∧ cv ≤ maxLen) (hvx : ∀ x ∈ v, x.length ≤ 100000) (hset : ∀ r ∈ cs, 0 ≤ r.s ∧ fits r.s)
    (hok : AllOK (colL cs) v) (hnt : nt ≤ 100) (hno : no ≤ 100) (he : Env w) (hr : ErrV w) :
    Calls Tryz.prog 16 #[.agg (insC u0 u1 TA nt ct OA no cno u4 u5), .slice A cs.length c, .slice V v.length cv] w fun e w' => ∃ O co, e = .returned (.tuple #[.slice O (choicesD (colL cs) v nt no).length co, .int .i64 0]) ∧ OwnR w' w.heap.size 48 4 O (choicesD (colL cs) v nt no).length co (decCells (choicesD (colL cs) v nt no)) ∧ Below w.heap.size w w' := by
  have b0 := new_below w (.cells (insC u0 u1 TA nt ct OA no cno u4 u5) 43)
  have hq := row_new (w := w) (o := .cells (insC u0 u1 TA nt ct OA no cno u4 u5) 43)
  have hch := row_new (w := w.alloc (.cells (insC u0 u1 TA nt ct OA no cno u4 u5) 43)) (o := .cells #[.slice none 0 0, .int .i64 0] 65)
  rw [World.size_alloc] at hch
  have hask : AskAt ((w.alloc (.cells (insC u0 u1 TA nt ct OA no cno u4 u5) 43)).alloc (.cells #[.slice none 0 0, .int .i64 0] 65)) (w.heap.size + 1) (w.heap.size + 1) none 0 0 [] := by
    refine ⟨⟨rfl, .inr ⟨w.heap.size + 1, 1, _, rfl, Nat.le_refl _, hch, Nat.le_refl _, by unfold maxLen; omega, rfl, rfl⟩⟩, OwnR.nil _ _ _ _⟩
  have HU := Lib.hid (fun (w' : World) (k : Int) (hb : Below w.heap.size w w') => show Calls Tryz.prog 8 #[.slice A cs.length c, .slice V v.length cv, .int .i64 k] w' fun e w2 => e = .returned (.tuple #[.string (B (usedQ (colL cs) v k).1), .int .i64 0]) ∧ Below w'.heap.size w' w2 from by
    have h := fused_any cs A c v V cv k w' (hC.below hb) (hV.below hb) hl hvl hvx (he.below hb)
    rw [show (usedQ (colL cs) v k).2 = 0 from (hok _).1] at h
    exact h)
  have HT := Lib.hid (fun (w' : World) (a b : Int) (hb : Below w.heap.size w w') => show Calls Tryz.prog 10 #[.slice A cs.length c, .slice V v.length cv, .int .i64 a, .int .i64 b] w' fun e w2 => e = .returned (.tuple #[.string (B (togQ (colL cs) v a b).1), .int .i64 0]) ∧ Below w'.heap.size w' w2 from by
    have h := ftog_any cs A c v V cv a b w' (hC.below hb) (hV.below hb) hl hvl hvx hset (he.below hb)
    rw [show (togQ (colL cs) v a b).2 = 0 from (hok _).1] at h
    exact h)
  have HS := Lib.hid (fun (w' : World) (a : Int) (hb : Below w.heap.size w w') => show Calls Tryz.prog 12 #[.slice A cs.length c, .slice V v.length cv, .int .i64 a] w' fun e w2 => e = .returned (.tuple #[.string (B (togQ (colL cs) v a a).1), .int .i64 0]) ∧ Below w'.heap.size w' w2 from by
    have h := fserved_any cs A c v V cv a w' (hC.below hb) (hV.below hb) hl hvl hvx hset (he.below hb)
    rw [show (togQ (colL cs) v a a).2 = 0 from (hok _).1] at h
    exact h)
  have HASK := Lib.hid (fun (w' : World) (O : Option Addr) (co : Nat) (l : List Dec) (a : Str) (d : Dec) (h : AskAt w' (w.heap.size + 1) (w.heap.size + 1) O co 0 l) (ha : SumOK a) (hl : l.length ≤ 100000) (hB : w.heap.size + 1 ≤ w'.heap.size) (h0 : Below w.heap.size w w') => fask_any w w' _ _ O co l a d h ha hl hB h0 (Nat.le_succ _) he hr)
  have HUE := Lib.hid (show ∀ k, SumOK (usedQ (colL cs) v k).1 from fun k => (hok _).2)
  have HTE := Lib.hid (show ∀ a b, SumOK (togQ (colL cs) v a b).1 from fun a b => (hok _).2)
  have HK := Lib.hid (fun wr (hb : Below (w.heap.size + 1) (w.alloc (.cells (insC u0 u1 TA nt ct OA no cno u4 u5) 43)) wr) => show (wr.cell? ⟨w.heap.size, 2, none⟩ = some (.slice TA nt ct) ∧ wr.cell? ⟨w.heap.size, 3, none⟩ = some (.slice OA no cno)) ∧ Below w.heap.size w wr ∧ w.heap.size + 1 ≤ wr.heap.size from by
    have hs : (w.alloc (.cells (insC u0 u1 TA nt ct OA no cno u4 u5) 43)).heap.size = w.heap.size + 1 := World.size_alloc _ _
    exact ⟨ins_cells (row_on hq (by rw [hs]; exact hb)), b0.trans (hb.mono (Nat.le_succ _)), by have := hb.size; rw [hs] at this; exact this⟩)
  have L1 := Lib.hid (fun n => typesD_len (colL cs) v n)
  have L2 := Lib.hid (fun a => pairsD_len (colL cs) v no a)
  have L3 := Lib.hid (fun a m => rowD_len (colL cs) v a m)
  have L4 := Lib.hid (fun n => servsD_len (colL cs) v n)
  have bB : Below (w.heap.size + 1) (w.alloc (.cells (insC u0 u1 TA nt ct OA no cno u4 u5) 43)) ((w.alloc (.cells (insC u0 u1 TA nt ct OA no cno u4 u5) 43)).alloc (.cells #[.slice none 0 0, .int .i64 0] 65)) := (Below.refl _ _).alloc (by rw [World.size_alloc]; omega) _
  clear hC hV hvl hvx hset hok hq hch b0
  generalize colL cs = cl at *
  have HA0 := Lib.hid hask
  have HB0 := Lib.hid bB
  clear hask bB
  go_enter Tryz.func16, Tryz.ntmps16
  go_wp2_with fail
  refine (HU.out _ (-1) (HK.out _ HB0.out).2.1).mono ?_
  rintro e w2 ⟨rfl, hb2⟩
  have hA2 := HA0.out.below hb2
  have b2 := HB0.out.trans (hb2.mono (by rw [World.size_alloc, World.size_alloc]; omega))
  obtain ⟨_, _, c1, cf⟩ := hA2.cells
  have cf1 := cf 1
  have HA3 := Lib.hid (hA2.err 0)
  have HB3 := Lib.hid (b2.trans (hA2.set_below 1 (.int .i64 0)))
  obtain ⟨⟨d0, d1⟩, _, _⟩ := HK.out _ HB3.out
  clear hA2 b2 cf hb2
  go_wp2_with fail
  clear d0 d1
  go_loopw [9, 10, 11, 29] (fun _ _ _ i wr => ∃ (j : Nat) (O : Option Addr) (co : Nat), j ≤ nt ∧ i = .int .i64 j ∧ AskAt wr (w.heap.size + 1) (w.heap.size + 1) O co 0 (typesD cl v j) ∧ Below (w.heap.size + 1) (w.alloc (.cells (insC u0 u1 TA nt ct OA no cno u4 u5) 43)) wr) (fun _ _ _ i _ => nt - (intOf i).toNat)
  case atStart => exact ⟨0, none, 0, Nat.zero_le _, rfl, HA3.out, HB3.out⟩
  case round =>
    clear c1 cf1 HA3 HB3
    obtain ⟨j, O, co, hj, rfl, hA, hbel⟩ := hrel
    obtain ⟨⟨d0, d1⟩, bw, hsz⟩ := HK.out _ hbel
    have hlen := L1.out j
    by_cases hlt : j < nt
    · have HSN := Lib.hid (typesD_snoc cl v j)
      have HA := Lib.hid hA
      clear hA d0 d1
      go_wp2_with fail
      refine (HU.out wr j bw).mono ?_
      rintro e w5 ⟨rfl, hb5⟩
      have hA5 := HA.out.below hb5
      have b5 := hbel.trans (hb5.mono hsz)
      obtain ⟨_, bw5, hsz5⟩ := HK.out _ b5
      go_wp2_with fail
      refine (HASK.out w5 O co _ _ ⟨3, j, 0, 0⟩ hA5 (HUE.out j) (by omega) hsz5 bw5).mono ?_
      rintro e w6 ⟨rfl, ⟨O6, co6, hA6⟩, hb6⟩
      have b6 := b5.trans hb6
      have hA7 : AskAt w6 (w.heap.size + 1) (w.heap.size + 1) O6 co6 0 (typesD cl v (j + 1)) := by rw [← typesD_snoc]; exact hA6
      go_wp2_with fail
      go_roundw
      case rel => exact ⟨j + 1, O6, co6, by omega, by go_num, hA7, b6⟩
      case measure => simp [intOf]; omega
    · obtain rfl : nt = j := by omega
      have HA := Lib.hid hA
      clear hA
      go_wp2_with fail
      clear d0 d1
      go_loopw [12, 13, 14, 15, 48] (fun _ _ _ _ i wr => ∃ (a : Nat) (O : Option Addr) (co : Nat), a ≤ no ∧ i = .int .i64 a ∧ AskAt wr (w.heap.size + 1) (w.heap.size + 1) O co 0 (typesD cl v nt ++ pairsD cl v no a) ∧ Below (w.heap.size + 1) (w.alloc (.cells (insC u0 u1 TA nt ct OA no cno u4 u5) 43)) wr) (fun _ _ _ _ i _ => no - (intOf i).toNat)
      case atStart => exact ⟨0, O, co, Nat.zero_le _, rfl, by rw [show pairsD cl v no 0 = [] from rfl, List.append_nil]; exact HA.out, hbel⟩
      case round =>
        clear HA hbel bw hsz hlt
        obtain ⟨a, O, co, ha, rfl, hA, hbel⟩ := hrel
        obtain ⟨⟨d0, d1⟩, bw, hsz⟩ := HK.out _ hbel
        have hlen2 := L2.out a
        have hano : a * no ≤ 100 * 100 := Nat.mul_le_mul (by omega) hno
        have HA := Lib.hid hA
        clear hA
        by_cases hlt : a < no
        · go_wp2_with fail
          clear d0 d1
          go_loopw [13, 14, 15] (fun i _ _ wr => ∃ (b : Nat) (O : Option Addr) (co : Nat), a + 1 ≤ b ∧ b ≤ no ∧ i = .int .i64 b ∧ AskAt wr (w.heap.size + 1) (w.heap.size + 1) O co 0 (typesD cl v nt ++ pairsD cl v no a ++ rowD cl v a b) ∧ Below (w.heap.size + 1) (w.alloc (.cells (insC u0 u1 TA nt ct OA no cno u4 u5) 43)) wr) (fun i _ _ _ => no - (intOf i).toNat)
          case atStart => exact ⟨a + 1, O, co, Nat.le_refl _, hlt, by go_num, by rw [rowD_first cl v a (a + 1) (Nat.le_refl _), List.append_nil]; exact HA.out, hbel⟩
          case round =>
            clear HA hbel bw hsz
            obtain ⟨b, O, co, hab, hbn, rfl, hA, hbel⟩ := hrel
            obtain ⟨⟨d0, d1⟩, bw, hsz⟩ := HK.out _ hbel
            have hlen3 := L3.out a b
            have hll : (typesD cl v nt ++ pairsD cl v no a ++ rowD cl v a b).length ≤ 100000 := by rw [List.length_append, List.length_append]; omega
            have HLL := Lib.hid hll
            have HA := Lib.hid hA
            clear hA hll
            by_cases hltb : b < no
            · go_wp2_with fail
              refine (HT.out wr a b bw).mono ?_
              rintro e w5 ⟨rfl, hb5⟩
              have hA5 := HA.out.below hb5
              have b5 := hbel.trans (hb5.mono hsz)
              obtain ⟨_, bw5, hsz5⟩ := HK.out _ b5
              go_wp2_with fail
              refine (HASK.out w5 O co _ _ ⟨1, a, b, 0⟩ hA5 (HTE.out a b) HLL.out hsz5 bw5).mono ?_
              rintro e w6 ⟨rfl, ⟨O6, co6, hA6⟩, hb6⟩
              have b6 := b5.trans hb6
              have hA7 : AskAt w6 (w.heap.size + 1) (w.heap.size + 1) O6 co6 0 (typesD cl v nt ++ pairsD cl v no a ++ rowD cl v a (b + 1)) := by rw [← rowD_snoc cl v (typesD cl v nt ++ pairsD cl v no a) (show a < b by omega)]; exact hA6
              go_wp2_with fail
              go_roundw
              case rel => exact ⟨b + 1, O6, co6, by omega, by omega, by go_num, hA7, b6⟩
              case measure => simp [intOf]; omega
            · obtain rfl : no = b := by omega
              have HN := Lib.hid (pairsD_snoc cl v (typesD cl v nt) no a)
              go_wp2_with fail
              go_roundw
              case rel => exact ⟨a + 1, O, co, by omega, by go_num, by rw [← HN.out]; exact HA.out, hbel⟩
              case measure => simp [intOf]; omega
        · obtain rfl : no = a := by omega
          go_wp2_with fail
          clear d0 d1
          go_loopw [16, 17, 18, 78] (fun _ _ _ i wr => ∃ (o : Nat) (O : Option Addr) (co : Nat), o ≤ no ∧ i = .int .i64 o ∧ AskAt wr (w.heap.size + 1) (w.heap.size + 1) O co 0 (typesD cl v nt ++ pairsD cl v no no ++ servsD cl v o) ∧ Below (w.heap.size + 1) (w.alloc (.cells (insC u0 u1 TA nt ct OA no cno u4 u5) 43)) wr) (fun _ _ _ i _ => no - (intOf i).toNat)
          case atStart => exact ⟨0, O, co, Nat.zero_le _, rfl, by rw [show servsD cl v 0 = [] from rfl, List.append_nil]; exact HA.out, hbel⟩
          case round =>
            clear HA hbel bw hsz
            obtain ⟨o, O, co, ho, rfl, hA, hbel⟩ := hrel
            obtain ⟨⟨d0, d1⟩, bw, hsz⟩ := HK.out _ hbel
            have hlen3 := L4.out o
            have hll : (typesD cl v nt ++ pairsD cl v no no ++ servsD cl v o).length ≤ 100000 := by rw [List.length_append, List.length_append]; omega
            have HLL := Lib.hid hll
            have HA := Lib.hid hA
            clear hA hll
            by_cases hlto : o < no
            · clear d0 d1
              go_wp2_with fail
              refine (HS.out wr o bw).mono ?_
              rintro e w5 ⟨rfl, hb5⟩
              have hA5 := HA.out.below hb5
              have b5 := hbel.trans (hb5.mono hsz)
              obtain ⟨_, bw5, hsz5⟩ := HK.out _ b5
              go_wp2_with fail
              refine (HASK.out w5 O co _ _ ⟨5, o, 0, 0⟩ hA5 (HTE.out o o) HLL.out hsz5 bw5).mono ?_
              rintro e w6 ⟨rfl, ⟨O6, co6, hA6⟩, hb6⟩
              have b6 := b5.trans hb6
              have hA7 : AskAt w6 (w.heap.size + 1) (w.heap.size + 1) O6 co6 0 (typesD cl v nt ++ pairsD cl v no no ++ servsD cl v (o + 1)) := by rw [← servsD_snoc cl v (typesD cl v nt ++ pairsD cl v no no) o]; exact hA6
              go_wp2_with fail
              go_roundw
              case rel => exact ⟨o + 1, O6, co6, by omega, by go_num, hA7, b6⟩
              case measure => simp [intOf]; omega
            · obtain rfl : no = o := by omega
              obtain ⟨_, k0, k1, _⟩ := HA.out.cells
              have HF := Lib.hid (show OwnR wr w.heap.size 48 4 O (choicesD cl v nt no).length co (decCells (choicesD cl v nt no)) from HA.out.out.mono (Nat.le_succ _))
              rw [show typesD cl v nt ++ pairsD cl v no no ++ servsD cl v no = choicesD cl v nt no from rfl] at k0
              clear HA d0 d1
              go_wp2_with fail
              go_ret2
              exact ⟨O, co, rfl, HF.out, bw⟩
end Go.Proofs.YtblefdgfmjegiaaGreatDoor
