/- The law SimplexTightens. -/
import Derived.Test.YtmppmdmekomjbaaGreatDoorG37
import Derived.Test.YtmppmdmekomjbaaGreatDoorG38
namespace Go.Proofs.YtmppmdmekomjbaaGreatDoor
open Go.RowKit Num
set_option linter.unusedVariables false
attribute [local go_sem] B_size B_get B_toList B_mk B_extract B_append
attribute [local go_sem high] run_max2

theorem cells_new3 {w : World} {e : TypeId} {a b c : Value} : ∀ j u, [a, b, c][j]? = some u → (w.alloc (.cells #[a, b, c] e)).cell? ⟨w.heap.size, j, none⟩ = some u := by
  intro j u hj
  rw [World.cell?_alloc_new]
  simpa using hj
/-- a program and a row in boxes -/
theorem pr_box {w : World} (A : Option Addr) (n ca : Nat) (R : Option Addr) (m cr : Nat) (u v x : Value) :
    ∀ w', Below ((w.alloc (linO A n ca R m cr)).alloc (.cells #[u, v, x] 45)).heap.size ((w.alloc (linO A n ca R m cr)).alloc (.cells #[u, v, x] 45)) w' →
      (w'.cell? ⟨w.heap.size, 0, none⟩ = some (.slice A n ca) ∧ w'.cell? ⟨w.heap.size, 1, none⟩ = some (.slice R m cr)) ∧
      w'.cell? ⟨w.heap.size + 1, 0, none⟩ = some u ∧ w'.cell? ⟨w.heap.size + 1, 1, none⟩ = some v ∧ w'.cell? ⟨w.heap.size + 1, 2, none⟩ = some x := by
  intro w' h
  have n2 := new_below (w.alloc (linO A n ca R m cr)) (.cells #[u, v, x] 45)
  obtain ⟨x0, x1, x2⟩ := lin_cells n2
  have r2 := row_new (w := w.alloc (linO A n ca R m cr)) (o := .cells #[u, v, x] 45)
  rw [show (w.alloc (linO A n ca R m cr)).heap.size = w.heap.size + 1 by simp] at r2
  have r3 := row_on r2 h
  refine ⟨⟨(h.cell (p := ⟨w.heap.size, 0, none⟩) x2).trans x0, (h.cell (p := ⟨w.heap.size, 1, none⟩) x2).trans x1⟩, ?_, ?_, ?_⟩
  · rw [cell_of_row w' _ 0 _ _ _ r3]; rfl
  · rw [cell_of_row w' _ 1 _ _ _ r3]; rfl
  · rw [cell_of_row w' _ 2 _ _ _ r3]; rfl
section
variable {P : Program} {ops : Array Oper} {rest : List Oper} {o : Oper} {a : Act} {Q : Exit → Act → World → Prop}
/-- append of one struct: what is not the slice's own block stays -/
theorem wp_app1rq {t e : TypeId} {z : Value} {sz bytes : Nat} (he : ElemR P t e z sz bytes) (hgd : o.guard = none) (s x : Operand) (ho : o.op = .call { callee := .builtin .append, args := #[s, x], argTypes := #[t, t] })
    (Bs : Nat) (A : Option Addr) (n c : Nat) (xs : List Value) (w : World) (g1 : Nat) (us : List Value) (hs : a.eval s = .slice A n c) (hown : OwnR w Bs e sz A n c xs)
    (hx : a.eval x = .slice (some ⟨g1, 0, none⟩) 1 1) (hus : us.length = sz) (hcell : ∀ j u, us[j]? = some u → w.cell? ⟨g1, j, none⟩ = some u) (h1 : ∀ u ∈ us, u.oneCell' = true) (h63 : n + 1 ≤ maxLen) (hby : (n + 1) * bytes ≤ 140737488355328) (hbase : Bs ≤ w.heap.size)
    (hK : ∀ A' c' w', OwnR w' Bs e sz A' (n + 1) c' (xs ++ us) → Below Bs w w' → (∀ k, k < w.heap.size → A ≠ some ⟨k, 0, none⟩ → w'.heap[k]? = w.heap[k]?) → wpList P ops Q rest (a.put o.dst (.slice A' (n + 1) c')) w') :
    wpList P ops Q (o :: rest) a w := by
  refine wpList_plain hgd fun K hK2 => ?_
  have h := step_app1r (K := K) (E := False) (ops := ops) (Q := Q) he hgd s x ho Bs A n c xs w g1 us hs hown hx hus hcell h1 h63 hby hbase (fun A' c' w' a1 a2 a3 => hK2 _ _ (hK A' c' w' a1 a2 a3))
  have hw : Region.wanted o (yielded ops a.tmps) = true := by simp [Region.wanted, hgd]
  rw [if_pos hw] at h
  exact h
end
theorem rows_take {rs : List RowV} {i : Nat} (h : i < rs.length) : rwcells (rs.take i) ++ rwcell rs[i] = rwcells (rs.take (i + 1)) := by
  rw [List.take_succ_eq_append_getElem h, rwcells_snoc]
set_option maxHeartbeats 8000000 in
set_option maxRecDepth 100000 in
theorem simplexTightens_walk (cost : List Int) (rs : List RowV) (A : Option Addr) (ca : Nat) (R : Option Addr) (cr : Nat) (r : RowV) (w : World) (hp : LinAt w cost rs A ca R cr) (hro : r.ok) (hrc : Cells w r.A (ints r.L.coef)) (he : Env w) :
    Calls Tryz.prog 6 #[linV A cost.length ca R rs.length cr, .agg #[.slice r.A r.L.coef.length r.c, .int .i64 r.L.kind, .int .i64 r.L.right]] w fun e w' => e = .returned (.bool true) ∧ Below w.heap.size w w' := by
  have b1 := new_below w (linO A cost.length ca R rs.length cr)
  have b2 := new_below (w.alloc (linO A cost.length ca R rs.length cr)) (.cells #[.slice r.A r.L.coef.length r.c, .int .i64 r.L.kind, .int .i64 r.L.right] 45)
  have HB := Lib.hid (below_lift3 b1 b2)
  have HT := Lib.hid (pr_box (w := w) A cost.length ca R rs.length cr (.slice r.A r.L.coef.length r.c) (.int .i64 r.L.kind) (.int .i64 r.L.right))
  have HP := Lib.hid hp
  have HE := Lib.hid he
  have HRO := Lib.hid hro
  have HRC := Lib.hid hrc
  have HFP := Lib.hid (fun w' (h : Below w.heap.size w w') => few_any cost rs A ca R cr w' (hp.below h))
  have HFQ := Lib.hid (fun w' (rq : List RowV) (F : Option Addr) (cf : Nat) (h : LinAt w' cost rq A ca F cf) => few_any cost rq A ca F cf w' h)
  have HAW := Lib.hid (fun w' (h : Below w.heap.size w w') => sxawake_any w' (he.below h))
  have hcl := hp.la
  have hrl := hp.lr
  have hroc := hro.1
  have hrom := hro.2.1
  unfold maxLen at hcl hrl hrom
  clear hp he hro hrc b1 b2
  go_enter Tryz.func6, Tryz.ntmps6
  go_upto_region 1 with fail
  generalize (w.alloc (linO A cost.length ca R rs.length cr)).alloc (.cells #[.slice r.A r.L.coef.length r.c, .int .i64 r.L.kind, .int .i64 r.L.right] 45) = wB at *
  have HBW := Lib.hid (fun wr (h : Below wB.heap.size wB wr) => below_lift3 HB.out h)
  obtain ⟨⟨x0, x1⟩, y0, y1, y2⟩ := HT.out wB (Below.refl _ _)
  have n3 := new_below wB (linO A cost.length ca none 0 0)
  have HBX := Lib.hid (show BoxQ (wB.alloc (linO A cost.length ca none 0 0)) wB.heap.size wB.heap.size 45 3 1 (.slice A cost.length ca) none 0 0 [] from box_new (Nat.le_refl _) (.slice none 0 0) 1 (.slice A cost.length ca) (.inr rfl))
  go_wp2_with fail
  have hsB : w.heap.size ≤ wB.heap.size := HB.out.size
  clear x0 x1 y0 y1 y2
  generalize wB.alloc (linO A cost.length ca none 0 0) = w3 at *
  go_loopw [6] (fun i wr => ∃ (q : Nat) (X : Option Addr) (cx : Nat), q ≤ rs.length ∧ q ≤ 20 ∧ i = .int .i64 q ∧ BoxQ wr wB.heap.size wB.heap.size 45 3 1 (.slice A cost.length ca) X q cx (rwcells (rs.take q)) ∧ Below wB.heap.size wB wr) (fun i _ => rs.length - (intOf i).toNat)
  case atStart => exact ⟨0, none, 0, Nat.zero_le _, Nat.zero_le _, rfl, HBX.out, n3⟩
  case round =>
    clear HBX n3
    obtain ⟨q, X, cx, hq, hq20, rfl, hbx, hbel⟩ := hrel
    obtain ⟨⟨x0, x1⟩, y0, y1, y2⟩ := HT.out wr hbel
    obtain ⟨hg, e0, e1, ef⟩ := hbx.cells (by decide)
    have ef1 := ef 1
    have a3 := HBW.out _ hbel
    have HBX := Lib.hid hbx
    have HBL := Lib.hid hbel
    by_cases hlt : q < rs.length ∧ q < 20
    · obtain ⟨hlt, h20⟩ := hlt
      have h20' : (q : Int) < 20 := by omega
      obtain ⟨bR, oR, rfl, hbR, hcR⟩ := HP.out.rows.at (by omega)
      have c0 := (a3.cell (p := ⟨bR, oR + q * 3, none⟩) hbR).trans (hcR q hlt).1
      have c1 := (a3.cell (p := ⟨bR, oR + q * 3 + 1, none⟩) hbR).trans (hcR q hlt).2.1
      have c2 := (a3.cell (p := ⟨bR, oR + q * 3 + 2, none⟩) hbR).trans (hcR q hlt).2.2
      have HTK := Lib.hid (rows_take hlt)
      have HO := Lib.hid (fun obj => hbx.below ((new_below wr obj).drew))
      have HB2 := Lib.hid (fun obj => hbel.trans (((Below.refl wB.heap.size wr).alloc hbel.size obj).drew))
      clear hbx hbel ef hcR
      generalize rs[q] = rq at *
      go_wp2_with fail
      go_region_law (first
        | (refine step_app1r el_row rfl _ _ rfl wB.heap.size X q cx (rwcells (rs.take q)) _ _ [.slice rq.A rq.L.coef.length rq.c, .int .i64 rq.L.kind, .int .i64 rq.L.right] rfl (HO.out _).out rfl rfl cells_new3 (by intro u hu; simp at hu; rcases hu with rfl | rfl | rfl <;> rfl) (by unfold maxLen; omega) (by omega) (HB2.out _).size ?_; intro A3 c3 w3 hown3 hb3 hk3; rw [HTK.out] at hown3; obtain ⟨⟨g0, g1⟩, hA4, hb4⟩ := (HO.out (.cells #[.slice rq.A rq.L.coef.length rq.c, .int .i64 rq.L.kind, .int .i64 rq.L.right] 45)).grow (by decide) (by decide) hown3 hk3))
      all_goals
        go_wp2_with fail
        go_roundw
        case rel => exact ⟨q + 1, A3, c3, by omega, by omega, by go_num, hA4, ((HB2.out _).trans hb3).trans hb4⟩
        case measure => simp [intOf]; omega
    · by_cases h1 : q < rs.length
      · have h20 : ¬ (q : Int) < 20 := by omega
        have hfew : fewB cost rs = false := by
          cases hf : fewB cost rs
          · rfl
          · have := (few_parts hf).2.1; omega
        have HO := Lib.hid (fun obj => hbx.below (new_below wr obj))
        have HB2 := Lib.hid (fun obj => hbel.trans ((Below.refl wB.heap.size wr).alloc hbel.size obj))
        clear hbx hbel ef
        go_upto_region 7 with (at_builtin; refine wp_app1rq el_row rfl _ _ rfl wB.heap.size X q cx (rwcells (rs.take q)) _ wr.heap.size [.slice r.A r.L.coef.length r.c, .int .i64 r.L.kind, .int .i64 r.L.right] rfl (HO.out _).out rfl rfl cells_new3 (by intro u hu; simp at hu; rcases hu with rfl | rfl | rfl <;> rfl) (by unfold maxLen; omega) (by omega) (HB2.out _).size ?_; intro A3 c3 w3 hown3 hb3 hk3; rw [rwcells_snoc] at hown3; obtain ⟨⟨g0, g1⟩, hA4, hb4⟩ := (HO.out (.cells #[.slice r.A r.L.coef.length r.c, .int .i64 r.L.kind, .int .i64 r.L.right] 45)).grow (by decide) (by decide) hown3 hk3)
        have hbS := ((HB2.out (.cells #[.slice r.A r.L.coef.length r.c, .int .i64 r.L.kind, .int .i64 r.L.right] 45)).trans hb3).trans hb4
        generalize w3.setCell ⟨wB.heap.size, 1, none⟩ (.slice A3 (q + 1) c3) = wS at *
        clear g0 g1 hk3 hown3 hb3 hb4 x0 x1 y0 y1 y2 e0 e1
        have aS := HBW.out _ hbS
        obtain ⟨⟨x0, x1⟩, y0, y1, y2⟩ := HT.out wS hbS
        have HFP2 := Lib.hid (HFP.out wS aS)
        rw [hfew] at HFP2
        go_wp2_with fail
        refine HFP2.out.mono ?_
        rintro e w5 ⟨rfl, hb5⟩
        have c5 := below_lift3 hbS hb5
        have a5 := HBW.out _ c5
        clear x0 x1 y0 y1 y2 HFP2
        obtain ⟨⟨x0, x1⟩, y0, y1, y2⟩ := HT.out w5 c5
        go_wp2_with fail
        refine (HAW.out w5 a5).mono ?_
        rintro e wz ⟨rfl, hbz⟩
        go_wp2_with fail
        go_ret
        exact ⟨rfl, below_lift3 a5 hbz⟩
      · have hqn : q = rs.length := by omega
        have hqx : ¬ (q : Int) < (rs.length : Int) := by omega
        have HQN := Lib.hid hqn
        clear hqn h1 hlt
        have HO := Lib.hid (fun obj => hbx.below (new_below wr obj))
        have HB2 := Lib.hid (fun obj => hbel.trans ((Below.refl wB.heap.size wr).alloc hbel.size obj))
        clear hbx hbel ef
        go_upto_region 7 with (at_builtin; refine wp_app1rq el_row rfl _ _ rfl wB.heap.size X q cx (rwcells (rs.take q)) _ wr.heap.size [.slice r.A r.L.coef.length r.c, .int .i64 r.L.kind, .int .i64 r.L.right] rfl (HO.out _).out rfl rfl cells_new3 (by intro u hu; simp at hu; rcases hu with rfl | rfl | rfl <;> rfl) (by unfold maxLen; omega) (by omega) (HB2.out _).size ?_; intro A3 c3 w3 hown3 hb3 hk3; rw [rwcells_snoc] at hown3; obtain ⟨⟨g0, g1⟩, hA4, hb4⟩ := (HO.out (.cells #[.slice r.A r.L.coef.length r.c, .int .i64 r.L.kind, .int .i64 r.L.right] 45)).grow (by decide) (by decide) hown3 hk3)
        have hbS := ((HB2.out (.cells #[.slice r.A r.L.coef.length r.c, .int .i64 r.L.kind, .int .i64 r.L.right] 45)).trans hb3).trans hb4
        generalize w3.setCell ⟨wB.heap.size, 1, none⟩ (.slice A3 (q + 1) c3) = wS at *
        clear g0 g1 hk3 hown3 hb3 hb4 x0 x1 y0 y1 y2 e0 e1
        have aS := HBW.out _ hbS
        obtain ⟨⟨x0, x1⟩, y0, y1, y2⟩ := HT.out wS hbS
        rcases hfew : fewB cost rs
        · skip
          have HFP2 := Lib.hid (HFP.out wS aS)
          rw [hfew] at HFP2
          go_wp2_with fail
          refine HFP2.out.mono ?_
          rintro e w5 ⟨rfl, hb5⟩
          have c5 := below_lift3 hbS hb5
          have a5 := HBW.out _ c5
          clear x0 x1 y0 y1 y2 HFP2
          obtain ⟨⟨x0, x1⟩, y0, y1, y2⟩ := HT.out w5 c5
          go_wp2_with fail
          refine (HAW.out w5 a5).mono ?_
          rintro e wz ⟨rfl, hbz⟩
          go_wp2_with fail
          go_ret
          exact ⟨rfl, below_lift3 a5 hbz⟩
        have hqe := HQN.out
        subst hqe
        rw [List.take_length] at hA4
        have hrl2 : (rs ++ [r]).length = rs.length + 1 := by simp
        have hall : ∀ x ∈ rs ++ [r], x.ok ∧ Cells w x.A (ints x.L.coef) := by
          intro x hx
          rcases List.mem_append.1 hx with h | h
          · exact ⟨HP.out.ok x h, HP.out.rows.2 x h⟩
          · have h : x = r := by simpa using h
            rw [h]; exact ⟨HRO.out, HRC.out⟩
        have hout := hA4.out
        rw [← hrl2] at hout
        have HLQ := Lib.hid (show LinAt wS cost (rs ++ [r]) A ca A3 c3 from ⟨HP.out.cells.below aS, rows_own hout (fun x hx => (hall x hx).2.below aS), HP.out.fit, fun x hx => (hall x hx).1, HP.out.la, hout.cap⟩)
        have HQC := Lib.hid (fun w' (h : Below wS.heap.size wS w') => (hA4.below h).cells (by decide))
        have HFP2 := Lib.hid (HFP.out wS aS)
        rw [hfew] at HFP2
        have HFQ2 := Lib.hid (fun w' (h : Below wS.heap.size wS w') => HFQ.out w' (rs ++ [r]) A3 c3 (HLQ.out.below h))
        rw [hrl2] at HFQ2
        clear hout hall hA4
        rcases hfew2 : fewB cost (rs ++ [r])
        · rw [hfew2] at HFQ2
          go_wp2_with fail
          refine HFP2.out.mono ?_
          rintro e w5 ⟨rfl, hb5⟩
          have c5 := below_lift3 hbS hb5
          have a5 := HBW.out _ c5
          have q5 := hb5
          clear x0 x1 y0 y1 y2
          obtain ⟨⟨x0, x1⟩, y0, y1, y2⟩ := HT.out w5 c5
          obtain ⟨hg, e0, e1, ef⟩ := HQC.out _ q5
          have HF5 := Lib.hid (HFQ2.out w5 q5)
          clear ef
          go_wp2_with fail
          refine HF5.out.mono ?_
          rintro e w6 ⟨rfl, hb6⟩
          have c6 := below_lift3 c5 hb6
          have a6 := HBW.out _ c6
          have q6 := below_lift3 q5 hb6
          clear x0 x1 y0 y1 y2 hg e0 e1
          obtain ⟨⟨x0, x1⟩, y0, y1, y2⟩ := HT.out w6 c6
          obtain ⟨hg, e0, e1, ef⟩ := HQC.out _ q6
          clear ef
          go_wp2_with fail
          refine (HAW.out w6 a6).mono ?_
          rintro e wz ⟨rfl, hbz⟩
          go_wp2_with fail
          go_ret
          exact ⟨rfl, below_lift3 a6 hbz⟩
        rw [hfew2] at HFQ2
        have hm2 : (rs ++ [r]).length ≤ 1000000 := by have := (few_parts hfew2).2.1; omega
        have HCK := Lib.hid (fun w' (h : Below wS.heap.size wS w') => rlcheck_any cost (rs ++ [r]) A ca A3 c3 w' hm2 (HLQ.out.below h))
        have hlck := checkK_len (linOf cost (rs ++ [r])) (rs ++ [r]).length
        by_cases hck : ¬ checkK (linOf cost (rs ++ [r])) (rs ++ [r]).length = []
        · have hck0 : 0 < (checkK (linOf cost (rs ++ [r])) (rs ++ [r]).length).length := by cases h : checkK (linOf cost (rs ++ [r])) (rs ++ [r]).length with | nil => exact absurd h hck | cons _ _ => simp
          clear hck
          generalize checkK (linOf cost (rs ++ [r])) (rs ++ [r]).length = l at *
          rw [hrl2] at HCK
          have hl0 : (0 : Int) < (l.length : Int) := by omega
          go_wp2_with fail
          refine HFP2.out.mono ?_
          rintro e w5 ⟨rfl, hb5⟩
          have c5 := below_lift3 hbS hb5
          have a5 := HBW.out _ c5
          have q5 := hb5
          clear x0 x1 y0 y1 y2
          obtain ⟨⟨x0, x1⟩, y0, y1, y2⟩ := HT.out w5 c5
          obtain ⟨hg, e0, e1, ef⟩ := HQC.out _ q5
          have HF5 := Lib.hid (HFQ2.out w5 q5)
          clear ef
          go_wp2_with fail
          refine HF5.out.mono ?_
          rintro e w6 ⟨rfl, hb6⟩
          have c6 := below_lift3 c5 hb6
          have a6 := HBW.out _ c6
          have q6 := below_lift3 q5 hb6
          clear x0 x1 y0 y1 y2 hg e0 e1
          obtain ⟨⟨x0, x1⟩, y0, y1, y2⟩ := HT.out w6 c6
          obtain ⟨hg, e0, e1, ef⟩ := HQC.out _ q6
          clear ef
          have HCK6 := Lib.hid (HCK.out w6 q6)
          go_wp2_with fail
          refine HCK6.out.mono ?_
          rintro e w7 ⟨⟨v7, rfl, F7, d7, rfl, hf7⟩, hb7⟩
          have a7 := below_lift3 a6 hb7
          go_wp2_with fail
          refine (HAW.out w7 a7).mono ?_
          rintro e wz ⟨rfl, hbz⟩
          go_wp2_with fail
          go_ret
          exact ⟨rfl, below_lift3 a7 hbz⟩
        have hck := Decidable.not_not.1 hck
        have hckp : checkK (linOf cost rs) rs.length = [] := by
          refine more_clean (r := r) (Nat.le_refl _) ?_
          have h1 := checkK_nil hck
          have h2 : ∀ k, k ≤ rs.length → checkK (linOf cost (rs ++ [r])) k = [] := by
            intro k hk
            induction k with
            | zero => exact h1.1
            | succ k ih =>
              show checkK _ k ++ rowF _ _ _ = []
              rw [ih (by omega), h1.2 k (by rw [hrl2]; omega)]; rfl
          exact h2 _ (Nat.le_refl _)
        have HSP := Lib.hid (fun w' (h : Below w.heap.size w w') => sol_okp (d2 := 3) (D := 511) cost rs A ca R cr w' (HP.out.below h) (okp_few hfew hckp) ⟨by decide, by decide⟩ (by decide) (by decide) (by decide) (HE.out.below h))
        have HSQ := Lib.hid (fun w' (h : Below wS.heap.size wS w') => sol_okp (d2 := 3) (D := 511) cost (rs ++ [r]) A ca A3 c3 w' (HLQ.out.below h) (okp_few hfew2 hck) ⟨by decide, by decide⟩ (by decide) (by decide) (by decide) ((HE.out.below aS).below h))
        have HAV := Lib.hid (fun (a : AnsL) (h : AnsR 511 (linOf cost rs) a) => ans_val (okp_few hfew hckp).wf (okp_few hfew hckp).n7 h)
        have HAW2 := Lib.hid (fun (a : AnsL) (h : AnsR 511 (linOf cost (rs ++ [r])) a) => ans_val (okp_few hfew2 hck).wf (okp_few hfew2 hck).n7 h)
        rw [hck, hrl2] at HCK
        rw [hrl2] at HSQ
        clear hckp hck hlck hfew2 hfew hm2
        go_wp2_with fail
        refine HFP2.out.mono ?_
        rintro e w5 ⟨rfl, hb5⟩
        have c5 := below_lift3 hbS hb5
        have a5 := HBW.out _ c5
        have q5 := hb5
        clear x0 x1 y0 y1 y2
        obtain ⟨⟨x0, x1⟩, y0, y1, y2⟩ := HT.out w5 c5
        obtain ⟨hg, e0, e1, ef⟩ := HQC.out _ q5
        have HF5 := Lib.hid (HFQ2.out w5 q5)
        clear ef
        go_wp2_with fail
        refine HF5.out.mono ?_
        rintro e w6 ⟨rfl, hb6⟩
        have c6 := below_lift3 c5 hb6
        have a6 := HBW.out _ c6
        have q6 := below_lift3 q5 hb6
        clear x0 x1 y0 y1 y2 hg e0 e1
        obtain ⟨⟨x0, x1⟩, y0, y1, y2⟩ := HT.out w6 c6
        obtain ⟨hg, e0, e1, ef⟩ := HQC.out _ q6
        clear ef
        have HCK6 := Lib.hid (HCK.out w6 q6)
        go_wp2_with fail
        refine HCK6.out.mono ?_
        rintro e w7 ⟨⟨v7, rfl, F7, d7, rfl, hf7⟩, hb7⟩
        have a7 := below_lift3 a6 hb7
        have c7 := below_lift3 c6 hb7
        have q7 := below_lift3 q6 hb7
        clear x0 x1 y0 y1 y2 hg e0 e1 HCK6
        obtain ⟨⟨x0, x1⟩, y0, y1, y2⟩ := HT.out w7 c7
        have HSP7 := Lib.hid (HSP.out w7 a7)
        go_wp2_with fail
        refine HSP7.out.mono ?_
        rintro e w8 ⟨v, a, rfl, ⟨AX, AY, AZ, ax, ay, az, rfl, _, _, _⟩, hR, hb8⟩
        have a8 := below_lift3 a7 hb8
        have q8 := below_lift3 q7 hb8
        have hva := HAV.out a hR
        have HMA := Lib.hid (fun (b : AnsL) (hb : AnsR 511 (linOf cost (rs ++ [r])) b) => more_ans (b := b) hR hb)
        obtain ⟨ak, aX, aD, aR, aV⟩ := a
        have n8 := new_below w8 (.cells #[.int .i64 ak, .slice AX aX.length ax, .slice AY aD.length ay, .slice AZ aR.length az, .string (B aV)] 31)
        have a9 := below_lift3 a8 n8
        have q9 := below_lift3 q8 n8
        have HBXA := Lib.hid (ans_box (w := w8) ak (.slice AX aX.length ax) (.slice AY aD.length ay) (.slice AZ aR.length az) aV)
        clear x0 x1 y0 y1 y2 hR HSP7
        obtain ⟨hg, e0, e1, ef⟩ := HQC.out _ q9
        have HSQ9 := Lib.hid (HSQ.out _ q9)
        clear ef
        go_wp2_with fail
        refine HSQ9.out.mono ?_
        rintro e w10 ⟨v, b, rfl, ⟨BX, BY, BZ, bx, by_, bz, rfl, _, _, _⟩, hRb, hb10⟩
        have a10 := below_lift3 a9 hb10
        have hvb := HAW2.out b hRb
        have hkk := HMA.out b hRb
        obtain ⟨bk, bX, bD, bR, bV⟩ := b
        have n11 := new_below w10 (.cells #[.int .i64 bk, .slice BX bX.length bx, .slice BY bD.length by_, .slice BZ bR.length bz, .string (B bV)] 31)
        have a11 := below_lift3 a10 n11
        obtain ⟨x0, _, _, _, x4, x5⟩ := HBXA.out _ (below_lift3 hb10 n11)
        obtain ⟨y0, _, _, _, y4, y5⟩ := ans_box (w := w10) bk (.slice BX bX.length bx) (.slice BY bD.length by_) (.slice BZ bR.length bz) bV _ (Below.refl _ _)
        simp only at hkk hva hvb
        clear hRb hb10 n11 q9 HSQ9 HMA hg e0 e1
        go_upto_region 11 with fail
        generalize w10.alloc (.cells #[.int .i64 bk, .slice BX bX.length bx, .slice BY bD.length by_, .slice BZ bR.length bz, .string (B bV)] 31) = w11 at *
        generalize w8.heap.size = ba at *
        generalize w10.heap.size = bb at *
        rcases hkk with ⟨rfl, rfl, hc⟩ | ⟨rfl, rfl⟩ | ⟨rfl, rfl⟩ | ⟨rfl, hk⟩
        · have HCM := Lib.hid (rqcmp_any aV bV w11 hva hvb)
          generalize cmpQ aV bV = cq at *
          go_wp2_with fail
          refine HCM.out.mono ?_
          rintro e w12 ⟨rfl, hb12⟩
          have a12 := below_lift3 a11 hb12
          go_wp2_with fail
          refine (HAW.out w12 a12).mono ?_
          rintro e wz ⟨rfl, hbz⟩
          go_wp2_with fail
          go_ret
          exact ⟨rfl, below_lift3 a12 hbz⟩
        · go_wp2_with fail
          refine (HAW.out w11 a11).mono ?_
          rintro e wz ⟨rfl, hbz⟩
          go_wp2_with fail
          go_ret
          exact ⟨rfl, below_lift3 a11 hbz⟩
        · go_wp2_with fail
          refine (HAW.out w11 a11).mono ?_
          rintro e wz ⟨rfl, hbz⟩
          go_wp2_with fail
          go_ret
          exact ⟨rfl, below_lift3 a11 hbz⟩
        · rcases hk with rfl | rfl | rfl
          all_goals
            go_wp2_with fail
            refine (HAW.out w11 a11).mono ?_
            rintro e wz ⟨rfl, hbz⟩
            go_wp2_with fail
            go_ret
            exact ⟨rfl, below_lift3 a11 hbz⟩
end Go.Proofs.YtmppmdmekomjbaaGreatDoor
