/- Structs and slices of structs that the call made: what a store or an append leaves. -/
import Derived.Test.YtmppmdmekomjbaaGreatDoorG11
import Derived.Deep.RegionLaw
import Derived.Test.YtmppmdmekomjbaaGreatDoorG37
import Derived.Test.YtmppmdmekomjbaaGreatDoorLProg7
namespace Go.Proofs.YtmppmdmekomjbaaGreatDoor
open Go.RowKit
set_option linter.unusedVariables false
section
variable {w w' : World} {Bs sz sz' n c n' c' g : Nat} {e e' : TypeId} {A : Option Addr} {xs ys : List Value}
theorem OwnR.typ (h : OwnR w Bs e sz (some ⟨g, 0, none⟩) n c xs) : Bs ≤ g ∧ g < w.heap.size ∧ ∃ cur, w.heap[g]? = some (.cells cur e (0, 0)) := by
  rcases h.2 with ⟨hv, _⟩ | ⟨g', cap, cur, hv, hb, hh, _⟩
  · injection hv with hv _ _; cases hv
  · injection hv with hv _ _
    injection hv with hv
    injection hv with hv _ _
    subst hv
    refine ⟨hb, ?_, cur, hh⟩
    rcases Nat.lt_or_ge g w.heap.size with h' | h'
    · exact h'
    · rw [Array.getElem?_eq_none h'] at hh; cases hh
theorem OwnR.ne (h : OwnR w Bs e sz (some ⟨g, 0, none⟩) n c xs) (h2 : OwnR w Bs e' sz' A n' c' ys) (he : e ≠ e') : A ≠ some ⟨g, 0, none⟩ := by
  intro hA
  subst hA
  obtain ⟨_, _, cur, h3⟩ := h.typ
  obtain ⟨_, _, cur2, h4⟩ := h2.typ
  rw [h3] at h4
  injection h4 with h4
  injection h4 with _ h4 _
  exact he h4
theorem OwnR.keep (h : OwnR w Bs e sz A n c xs) (hk : ∀ b, A = some ⟨b, 0, none⟩ → w'.heap[b]? = w.heap[b]?) : OwnR w' Bs e sz A n c xs := by
  refine ⟨h.1, ?_⟩
  rcases h.2 with h2 | ⟨g', cap, cur, hv, hgb, hh, r⟩
  · exact .inl h2
  · refine .inr ⟨g', cap, cur, hv, hgb, ?_, r⟩
    injection hv with hA _ _
    rw [hk g' hA]; exact hh
theorem OwnR.stored (h : OwnR w Bs e sz (some ⟨g, 0, none⟩) n c xs) (j : Nat) (u : Value) : OwnR (w.setCell ⟨g, j, none⟩ u) Bs e sz (some ⟨g, 0, none⟩) n c (xs.set j u) := (World.ownsRow.stored h j u).1
theorem OwnR.other (h : OwnR w Bs e sz A n c xs) {j : Nat} {u : Value} (hg : A ≠ some ⟨g, 0, none⟩) : OwnR (w.setCell ⟨g, j, none⟩ u) Bs e sz A n c xs := by
  refine h.keep fun b hb => ?_
  rw [Below.heap_setCell _ _ _ _ (fun e => hg (by rw [hb, e]))]
end
section
variable {P : Program} {ops : Array Oper} {rest : List Oper} {o : Oper} {a : Act} {Q : Exit → Act → World → Prop}
/-- append of one struct, as one step of a region that draws its order -/
theorem step_app1r {K : Act → World → Prop} {E : Prop} {t e : TypeId} {z : Value} {sz bytes : Nat} (he : ElemR P t e z sz bytes) (hgd : o.guard = none) (s x : Operand) (ho : o.op = .call { callee := .builtin .append, args := #[s, x], argTypes := #[t, t] })
    (Bs : Nat) (A : Option Addr) (n c : Nat) (xs : List Value) (w : World) (g1 : Nat) (us : List Value) (hs : a.eval s = .slice A n c) (hown : OwnR w Bs e sz A n c xs)
    (hx : a.eval x = .slice (some ⟨g1, 0, none⟩) 1 1) (hus : us.length = sz) (hcell : ∀ j u, us[j]? = some u → w.cell? ⟨g1, j, none⟩ = some u) (h1 : ∀ u ∈ us, u.oneCell' = true) (h63 : n + 1 ≤ maxLen) (hby : (n + 1) * bytes ≤ 140737488355328) (hbase : Bs ≤ w.heap.size)
    (hK : ∀ A' c' w', OwnR w' Bs e sz A' (n + 1) c' (xs ++ us) → Below Bs w w' → (∀ k, k < w.heap.size → A ≠ some ⟨k, 0, none⟩ → w'.heap[k]? = w.heap[k]?) → K (a.put o.dst (.slice A' (n + 1) c')) w') :
    if Region.wanted o (yielded ops a.tmps) = true then Oper.wp P o a w K Q else E := by
  obtain ⟨ht, ⟨i, hi, hz, hsz, hb⟩, hzs, hpos⟩ := he
  have hw : Region.wanted o (yielded ops a.tmps) = true := by simp [Region.wanted, hgd]
  rw [if_pos hw]
  have hb0 : ∀ k, (Value.slice A n c).ownBlock = some k → Bs ≤ k := by
    intro k hk
    rcases hown.2 with ⟨hv, _⟩ | ⟨g', cap', cur', hv, hg', _⟩
    · rw [hv] at hk; simp [Value.ownBlock] at hk
    · rw [hv] at hk; simp [Value.ownBlock] at hk; omega
  have hc : ∀ j u, us[j]? = some u → w.cell? ((⟨g1, 0, none⟩ : Addr).add j) = some u := by
    intro j u hj
    have h0 := hcell j u hj
    unfold Addr.add
    split
    · rename_i h1; subst h1; exact h0
    · show w.cell? ⟨g1, 0 + j, none⟩ = _
      rw [Nat.zero_add]; exact h0
  obtain ⟨v', w', hrun, r1, r2, r3⟩ := run_append_own (P := P) w Bs t o.type e i z sz bytes ht hi hz hsz hb hzs hpos (.slice A n c) n xs hown ⟨g1, 0, none⟩ 1 1 us (by omega) hc h1 h63 hby hbase
  have hne : v' ≠ .slice none 0 0 := by intro e; have := (r3.1 e).2; omega
  obtain ⟨A', c', hv⟩ : ∃ A' c', v' = .slice A' (n + 1) c' := by
    rcases r1.2 with ⟨hv, _⟩ | ⟨g, cap, cur, hv, _⟩
    · exact absurd hv hne
    · exact ⟨_, _, hv⟩
  subst hv
  unfold Oper.wp
  simp [execOp, ho, resolve, invoke, builtin, hs, hx, hrun, Result.andThen]
  refine hK A' c' w' r1 ((Below.refl _ _).grown r2 hbase hb0) fun k hk hA => ?_
  have hne2 : some k ≠ (Value.slice A n c).ownBlock := by
    rcases hown.2 with ⟨hv, _⟩ | ⟨g', cap', cur', hv, hg', _⟩
    · rw [hv]; simp [Value.ownBlock]
    · injection hv with hv1 _ _
      rw [hv1]
      intro e
      have : k = g' := by simpa [Value.ownBlock] using e
      exact hA (by rw [hv1, this])
  exact r2.block k hk hne2
end
end Go.Proofs.YtmppmdmekomjbaaGreatDoor
/- Slices of api.Row that a call makes. -/
namespace Go.Proofs.YtmppmdmekomjbaaGreatDoor
open Go.RowKit Num
set_option linter.unusedVariables false
theorem row_info : (Tryz.prog.info? 45).map (fun i => (i.zero, i.size, i.bytes)) = some (some (.agg #[.slice none 0 0, .int .i64 0, .int .i64 0]), 3, 40) := by kernel_rfl
theorem el_row : ElemR Tryz.prog 23 45 (.agg #[.slice none 0 0, .int .i64 0, .int .i64 0]) 3 40 := ⟨Tryz.underlying23, info_parts row_info, rfl, by decide⟩
abbrev rwcell (r : RowV) : List Value := [.slice r.A r.L.coef.length r.c, .int .i64 r.L.kind, .int .i64 r.L.right]
def rwcells (rs : List RowV) : List Value := rs.flatMap rwcell
theorem rwcells_snoc (rs : List RowV) (r : RowV) : rwcells rs ++ rwcell r = rwcells (rs ++ [r]) := by unfold rwcells; rw [List.flatMap_append]; simp
theorem rwcells_length (rs : List RowV) : (rwcells rs).length = rs.length * 3 := by
  unfold rwcells
  induction rs with
  | nil => rfl
  | cons r rs ih => rw [List.flatMap_cons, List.length_append, ih, List.length_cons]; simp; omega
theorem rwcells_get (rs : List RowV) (i : Nat) (h : i < rs.length) : (rwcells rs)[i * 3]? = some (.slice rs[i].A rs[i].L.coef.length rs[i].c) ∧ (rwcells rs)[i * 3 + 1]? = some (.int .i64 rs[i].L.kind) ∧ (rwcells rs)[i * 3 + 2]? = some (.int .i64 rs[i].L.right) := by
  unfold rwcells
  induction rs generalizing i with
  | nil => exact absurd h (by simp)
  | cons r rs ih =>
    cases i with
    | zero => exact ⟨rfl, rfl, rfl⟩
    | succ i =>
      have := ih i (by simpa using h)
      rw [show (i + 1) * 3 = i * 3 + 1 + 1 + 1 by omega]
      exact this
theorem rows_own {w : World} {Bs c : Nat} {F : Option Addr} {rs : List RowV} (h : OwnR w Bs 45 3 F rs.length c (rwcells rs)) (hr : ∀ r ∈ rs, Cells w r.A (ints r.L.coef)) : RowsAt w F rs := by
  refine ⟨fun h0 => ?_, hr⟩
  obtain ⟨g, rfl, _, hg, hc, _⟩ := h.at_ h0
  refine ⟨g, 0, rfl, hg, fun i hi => ?_⟩
  have := rwcells_get rs i hi
  refine ⟨?_, ?_, ?_⟩
  · rw [Nat.zero_add, hc _ (by omega)]; exact this.1
  · rw [Nat.zero_add, hc _ (by omega)]; exact this.2.1
  · rw [Nat.zero_add, hc _ (by omega)]; exact this.2.2
end Go.Proofs.YtmppmdmekomjbaaGreatDoor
/- Two programs and their answers: scaled costs, a further row: plain. -/
namespace Go.Proofs.YtmppmdmekomjbaaGreatDoor
open Go.RowKit Num
set_option linter.unusedVariables false

theorem prim_dual {K K' : Nat} {p : LinL} {xs ds : List Str} (h : PrimR K p xs) (d : DualR K' p p.cost ds) : rightR p ds ≤ costR p xs :=
  weak p.cost.length p.rows.length (fun i => ((p.cost.getD i 0 : Int) : Rat)) (fun r i => (((Num.rowAt p r).coef.getD i 0 : Int) : Rat)) (fun r => (Num.rowAt p r).kind) (fun r => (((Num.rowAt p r).right : Int) : Rat)) (rat xs) (rat ds) h.pos h.hold d.sign d.below
theorem prim_none {K K' : Nat} {p : LinL} {xs ds : List Str} (h : PrimR K p xs) (d : DualR K' p [] ds) (hp : 0 < rightR p ds) : False := by
  have hb : ∀ i, i < p.cost.length → sumN p.rows.length (fun r => (((Num.rowAt p r).coef.getD i 0 : Int) : Rat) * rat ds r) ≤ (0 : Rat) := fun i hi => by
    have := d.below i hi
    rw [show (([] : List Int).getD i 0 : Int) = 0 by simp] at this
    exact this
  have := weak p.cost.length p.rows.length (fun _ => (0 : Rat)) (fun r i => (((Num.rowAt p r).coef.getD i 0 : Int) : Rat)) (fun r => (Num.rowAt p r).kind) (fun r => (((Num.rowAt p r).right : Int) : Rat)) (rat xs) (rat ds) h.pos h.hold d.sign hb
  rw [sumN_congr (g := fun _ => (0 : Rat)) (n := p.cost.length) (fun i _ => by grind), sumN_zero] at this
  unfold rightR at hp
  grind
theorem ray_dual {K K' : Nat} {p : LinL} {xs ds : List Str} (h : RayR K p xs) (d : DualR K' p p.cost ds) : False := by
  have := weak p.cost.length p.rows.length (fun i => ((p.cost.getD i 0 : Int) : Rat)) (fun r i => (((Num.rowAt p r).coef.getD i 0 : Int) : Rat)) (fun r => (Num.rowAt p r).kind) (fun _ => (0 : Rat)) (rat xs) (rat ds) h.pos h.hold d.sign d.below
  rw [sumN_congr (g := fun _ => (0 : Rat)) (n := p.rows.length) (fun i _ => by grind), sumN_zero] at this
  have := h.fall
  grind
theorem ans_rq {D : Nat} {p : LinL} {a : AnsL} (h : timesQ p.cost a.X = (a.value, 0)) : rightQ a.value = true ∧ rq a.value = costR p a.X := by
  have h2 : (timesQ p.cost a.X).2 = 0 := by rw [h]
  have := times_sum h2
  rw [h] at this
  exact this.2
/-- costs multiplied -/
def scale (by_ : Int) (cost : List Int) : List Int := cost.map fun c => by_ * c
theorem scale_get {k : Int} {cost : List Int} (i : Nat) : ((scale k cost).getD i 0 : Int) = k * cost.getD i 0 := by
  unfold scale
  rw [List.getD_eq_getElem?_getD, List.getD_eq_getElem?_getD, List.getElem?_map]
  cases cost[i]? <;> simp
theorem scale_sum {k : Int} {cost : List Int} {xs : List Str} (n : Nat) : sumN n (fun i => (((scale k cost).getD i 0 : Int) : Rat) * rat xs i) = (k : Rat) * sumN n (fun i => ((cost.getD i 0 : Int) : Rat) * rat xs i) := by
  induction n with
  | zero => show (0 : Rat) = (k : Rat) * 0; grind
  | succ n ih =>
    show sumN n (fun i => (((scale k cost).getD i 0 : Int) : Rat) * rat xs i) + (((scale k cost).getD n 0 : Int) : Rat) * rat xs n = (k : Rat) * (sumN n (fun i => ((cost.getD i 0 : Int) : Rat) * rat xs i) + ((cost.getD n 0 : Int) : Rat) * rat xs n)
    rw [ih, scale_get, Rat.intCast_mul]
    grind
section
variable {k : Int} {cost : List Int} {rs : List RowV} {K K' : Nat} {xs ds : List Str}
theorem scale_len : (scale k cost).length = cost.length := by unfold scale; rw [List.length_map]
theorem scale_prim : PrimR K (linOf (scale k cost) rs) xs ↔ PrimR K (linOf cost rs) xs := by
  constructor
  · intro h
    refine ⟨?_, h.fr, ?_, ?_⟩
    · have := h.len; rw [show (linOf (scale k cost) rs).cost.length = cost.length from scale_len] at this; exact this
    · have := h.pos; rw [show (linOf (scale k cost) rs).cost.length = cost.length from scale_len] at this; exact this
    · have := h.hold; rw [show (linOf (scale k cost) rs).cost.length = cost.length from scale_len] at this; exact this
  · intro h
    refine ⟨?_, h.fr, ?_, ?_⟩
    · rw [show (linOf (scale k cost) rs).cost.length = cost.length from scale_len]; exact h.len
    · rw [show (linOf (scale k cost) rs).cost.length = cost.length from scale_len]; exact h.pos
    · rw [show (linOf (scale k cost) rs).cost.length = cost.length from scale_len]; exact h.hold
theorem scale_ray (hk : 0 < k) : RayR K (linOf (scale k cost) rs) xs ↔ RayR K (linOf cost rs) xs := by
  have hkr : (0 : Rat) < (k : Rat) := by exact_mod_cast hk
  constructor
  · intro h
    have hf := h.fall
    have hl := h.len
    have hp := h.pos
    have hh := h.hold
    rw [show (linOf (scale k cost) rs).cost.length = cost.length from scale_len] at hf hl hp hh
    refine ⟨hl, h.fr, hp, hh, ?_⟩
    rw [show (linOf (scale k cost) rs).cost = scale k cost from rfl, scale_sum] at hf
    show sumN cost.length (fun i => ((cost.getD i 0 : Int) : Rat) * rat xs i) < 0
    generalize sumN cost.length (fun i => ((cost.getD i 0 : Int) : Rat) * rat xs i) = s at hf ⊢
    by_cases h0 : s < 0
    · exact h0
    · exfalso
      have : 0 ≤ (k : Rat) * s := Rat.mul_nonneg (by grind) (by grind)
      grind
  · intro h
    refine ⟨?_, h.fr, ?_, ?_, ?_⟩
    · rw [show (linOf (scale k cost) rs).cost.length = cost.length from scale_len]; exact h.len
    · rw [show (linOf (scale k cost) rs).cost.length = cost.length from scale_len]; exact h.pos
    · rw [show (linOf (scale k cost) rs).cost.length = cost.length from scale_len]; exact h.hold
    · rw [show (linOf (scale k cost) rs).cost.length = cost.length from scale_len]
      rw [show (linOf (scale k cost) rs).cost = scale k cost from rfl, scale_sum]
      have hf : sumN cost.length (fun i => ((cost.getD i 0 : Int) : Rat) * rat xs i) < 0 := h.fall
      generalize sumN cost.length (fun i => ((cost.getD i 0 : Int) : Rat) * rat xs i) = s at hf ⊢
      have := Rat.mul_pos hkr (show (0 : Rat) < -s by grind)
      grind
theorem scale_zero : DualR K (linOf (scale k cost) rs) [] ds ↔ DualR K (linOf cost rs) [] ds := by
  constructor
  · intro h
    refine ⟨h.len, h.fr, h.sign, ?_⟩
    have := h.below; rw [show (linOf (scale k cost) rs).cost.length = cost.length from scale_len] at this; exact this
  · intro h
    refine ⟨h.len, h.fr, h.sign, ?_⟩
    rw [show (linOf (scale k cost) rs).cost.length = cost.length from scale_len]; exact h.below
end
/-- what scaled costs answer -/
theorem scale_ans {k : Int} {cost : List Int} {rs : List RowV} {D D' : Nat} {a b : AnsL} (hk : 0 < k ∧ k ≤ 255) (hc : ∀ n ∈ cost, fits n) (h7 : cost.length ≤ 7) (ha : AnsR D (linOf cost rs) a) (hb : AnsR D' (linOf (scale k cost) rs) b) :
    b.kind = a.kind ∧ (a.kind = 1 ∨ a.kind = 2 ∨ a.kind = 3) ∧ (a.kind = 1 → mulQE a.value (decI k) = 0 ∧ mulQS a.value (decI k) = b.value) := by
  rcases ha with ⟨k1, _, p1, d1, v1, e1⟩ | ⟨k1, _, _, _, d1, e1⟩ | ⟨k1, _, _, p1, r1⟩
  · rcases hb with ⟨k2, _, p2, d2, v2, e2⟩ | ⟨k2, _, _, _, d2, e2⟩ | ⟨k2, _, _, p2, r2⟩
    · refine ⟨k2.trans k1.symm, .inl k1, fun _ => ?_⟩
      have q1 := ans_rq (D := D) v1
      have q2 := ans_rq (D := D') v2
      have w1 := prim_dual (scale_prim.1 p2) d1
      have w2 := prim_dual (scale_prim.2 p1) d2
      rw [e1] at w1
      rw [e2] at w2
      have s1 : costR (linOf (scale k cost) rs) a.X = (k : Rat) * costR (linOf cost rs) a.X := by
        unfold costR
        rw [show (linOf (scale k cost) rs).cost.length = cost.length from scale_len]
        exact scale_sum _
      have s2 : costR (linOf (scale k cost) rs) b.X = (k : Rat) * costR (linOf cost rs) b.X := by
        unfold costR
        rw [show (linOf (scale k cost) rs).cost.length = cost.length from scale_len]
        exact scale_sum _
      rw [s1, s2] at w2
      have hkr : (0 : Rat) < (k : Rat) := by exact_mod_cast hk.1
      have heq : (k : Rat) * costR (linOf cost rs) a.X = (k : Rat) * costR (linOf cost rs) b.X := by
        have := Rat.mul_nonneg (show (0 : Rat) ≤ (k : Rat) by grind) (show 0 ≤ costR (linOf cost rs) b.X - costR (linOf cost rs) a.X by grind)
        grind
      have tm := times_ok (K := 255) (ns := cost) (xs := a.X) (show cost.length = a.X.length from p1.len.symm) hc p1.fr (by omega) (by omega)
      rw [show timesQ cost a.X = (a.value, 0) from v1] at tm
      have hfk : fits k := by constructor <;> omega
      have m1 := tm.2.mul (frT_int hfk) (by omega)
      have m2 := rq_mul m1.1
      refine ⟨m1.1, rq_inj m2.1 q2.1 ?_⟩
      rw [m2.2, rq_int, q1.2, q2.2, s2]
      grind
    · exact (prim_none p1 (scale_zero.1 d2) e2).elim
    · exact (ray_dual ((scale_ray hk.1).1 r2) d1).elim
  · rcases hb with ⟨k2, _, p2, d2, v2, e2⟩ | ⟨k2, _, _, _, d2, e2⟩ | ⟨k2, _, _, p2, r2⟩
    · exact (prim_none (scale_prim.1 p2) d1 e1).elim
    · exact ⟨k2.trans k1.symm, .inr (.inl k1), fun h => absurd (h.symm.trans k1) (by decide)⟩
    · exact (prim_none (scale_prim.1 p2) d1 e1).elim
  · rcases hb with ⟨k2, _, p2, d2, v2, e2⟩ | ⟨k2, _, _, _, d2, e2⟩ | ⟨k2, _, _, p2, r2⟩
    · exact (ray_dual ((scale_ray hk.1).2 r1) d2).elim
    · exact (prim_none p1 (scale_zero.1 d2) e2).elim
    · exact ⟨k2.trans k1.symm, .inr (.inr k1), fun h => absurd (h.symm.trans k1) (by decide)⟩
/-- what scaled costs are -/
theorem scale_okp {k : Int} {cost : List Int} {rs : List RowV} (hk : 0 < k ∧ k ≤ 255) (h : fewB cost rs = true) (hc : checkK (linOf cost rs) rs.length = []) : OkP 5 (scale k cost) rs := by
  obtain ⟨h1, h2, h3, h4⟩ := few_parts h
  have hch : ∀ m, checkK (linOf (scale k cost) rs) m = checkK (linOf cost rs) m := by
    intro m
    have hl : (linOf (scale k cost) rs).cost.length = (linOf cost rs).cost.length := scale_len
    induction m with
    | zero => show headF _ = headF _; unfold headF; rw [hl]; rfl
    | succ m ih => show checkK _ m ++ rowF _ _ _ = checkK _ m ++ rowF _ _ _; rw [ih, hl]; rfl
  refine okp_of (by decide) h2 (by rw [scale_len]; exact h1) ?_ (fun r hr => ⟨(h4 r hr).2.1, (h4 r hr).2.2⟩) ((hch _).trans hc)
  intro n hn
  unfold scale at hn
  obtain ⟨c, hcm, rfl⟩ := List.mem_map.1 hn
  have h5 := h3 c hcm
  have h6 : k * c ≤ 25500 := by
    have := Int.mul_le_mul_of_nonneg_left h5.2 (show 0 ≤ k by omega)
    omega
  have h7 : -25500 ≤ k * c := by
    have := Int.mul_le_mul_of_nonneg_left h5.1 (show 0 ≤ k by omega)
    omega
  refine ⟨by constructor <;> omega, ?_⟩
  rw [dl_le (by omega)]
  omega
section
variable {cost : List Int} {rs : List RowV} {r : RowV} {K K' : Nat} {xs ds : List Str}
theorem rowAt_app {i : Nat} (hi : i < rs.length) : Num.rowAt (linOf cost (rs ++ [r])) i = Num.rowAt (linOf cost rs) i := by
  unfold Num.rowAt linOf
  simp only [List.map_append]
  rw [List.getD_eq_getElem?_getD, List.getD_eq_getElem?_getD, List.getElem?_append_left (by rw [List.length_map]; exact hi)]
theorem more_prim (h : PrimR K (linOf cost (rs ++ [r])) xs) : PrimR K (linOf cost rs) xs := by
  refine ⟨h.len, h.fr, h.pos, fun i hi => ?_⟩
  have hi' : i < rs.length := by rw [lin_rows] at hi; exact hi
  have := h.hold i (by rw [lin_rows]; simp; omega)
  rw [rowAt_app hi'] at this
  exact this
theorem more_ray (h : RayR K (linOf cost (rs ++ [r])) xs) : RayR K (linOf cost rs) xs := by
  refine ⟨h.len, h.fr, h.pos, fun i hi => ?_, h.fall⟩
  have hi' : i < rs.length := by rw [lin_rows] at hi; exact hi
  have := h.hold i (by rw [lin_rows]; simp; omega)
  rw [rowAt_app hi'] at this
  exact this
/-- a program of which a further row makes a clean one is clean -/
theorem more_clean {k : Nat} (hk : k ≤ rs.length) : checkK (linOf cost (rs ++ [r])) k = [] → checkK (linOf cost rs) k = [] := by
  intro h
  have h0 : headF (linOf cost rs) = [] := by
    have := (checkK_nil h).1
    unfold headF at this ⊢
    obtain ⟨g1, g2⟩ := List.append_eq_nil_iff.1 this
    refine List.append_eq_nil_iff.2 ⟨g1, ?_⟩
    rw [lin_rows] at g2 ⊢
    split at g2
    · exact absurd g2 (by simp)
    · rw [if_neg (by simp at *; omega)]
  have hr := (checkK_nil h).2
  clear h
  induction k with
  | zero => exact h0
  | succ k ih =>
    show checkK _ k ++ rowF _ _ _ = []
    rw [ih (by omega) (fun i hi => hr i (by omega))]
    have := hr k (by omega)
    rw [rowAt_app (by omega)] at this
    exact this
end
/-- what a further row leaves of the answer -/
theorem more_ans {cost : List Int} {rs : List RowV} {r : RowV} {D D' : Nat} {a b : AnsL} (ha : AnsR D (linOf cost rs) a) (hb : AnsR D' (linOf cost (rs ++ [r])) b) :
    (a.kind = 1 ∧ b.kind = 1 ∧ cmpQ a.value b.value ≤ 0) ∨ (a.kind = 1 ∧ b.kind = 2) ∨ (a.kind = 2 ∧ b.kind = 2) ∨ (a.kind = 3 ∧ (b.kind = 1 ∨ b.kind = 2 ∨ b.kind = 3)) := by
  rcases ha with ⟨k1, _, p1, d1, v1, e1⟩ | ⟨k1, _, _, _, d1, e1⟩ | ⟨k1, _, _, p1, r1⟩
  · rcases hb with ⟨k2, _, p2, d2, v2, e2⟩ | ⟨k2, _, _, _, d2, e2⟩ | ⟨k2, _, _, p2, r2⟩
    · refine .inl ⟨k1, k2, ?_⟩
      have q1 := ans_rq (D := D) v1
      have q2 := ans_rq (D := D') v2
      have w1 := prim_dual (more_prim p2) d1
      rw [e1, ← q1.2, show costR (linOf cost rs) b.X = costR (linOf cost (rs ++ [r])) b.X from rfl, ← q2.2] at w1
      have c := (cmpQ_rat q1.1 q2.1).2
      have : ¬ 0 < cmpQ a.value b.value := fun h => by have := c.1 h; grind
      omega
    · exact .inr (.inl ⟨k1, k2⟩)
    · exact (ray_dual (more_ray r2) d1).elim
  · rcases hb with ⟨k2, _, p2, d2, v2, e2⟩ | ⟨k2, _, _, _, d2, e2⟩ | ⟨k2, _, _, p2, r2⟩
    · exact (prim_none (more_prim p2) d1 e1).elim
    · exact .inr (.inr (.inl ⟨k1, k2⟩))
    · exact (prim_none (more_prim p2) d1 e1).elim
  · rcases hb with ⟨k2, _, p2, d2, v2, e2⟩ | ⟨k2, _, _, _, d2, e2⟩ | ⟨k2, _, _, p2, r2⟩
    · exact .inr (.inr (.inr ⟨k1, .inl k2⟩))
    · exact .inr (.inr (.inr ⟨k1, .inr (.inl k2)⟩))
    · exact .inr (.inr (.inr ⟨k1, .inr (.inr k2)⟩))
end Go.Proofs.YtmppmdmekomjbaaGreatDoor
/- A program that a law makes: its costs or its rows by appends. -/
namespace Go.Proofs.YtmppmdmekomjbaaGreatDoor
open Go.RowKit Num
set_option linter.unusedVariables false
theorem int1_info : (Tryz.prog.info? 3).map (fun i => (i.zero, i.size, i.bytes)) = some (some (.int .i64 0), 1, 8) := by kernel_rfl
theorem el_int1 : ElemR Tryz.prog 22 3 (.int .i64 0) 1 8 := ⟨Tryz.underlying22, info_parts int1_info, rfl, by decide⟩
def boxC (j : Nat) (s u : Value) : List Value := if j = 0 then [s, u] else [u, s]
/-- the program at block g, whose j-th list grows -/
structure BoxQ (w : World) (Bs g : Nat) (e : TypeId) (sz j : Nat) (u : Value) (X : Option Addr) (k cx : Nat) (xs : List Value) : Prop where
  own : OwnR w Bs 25 2 (some ⟨g, 0, none⟩) 1 1 (boxC j (.slice X k cx) u)
  out : OwnR w Bs e sz X k cx xs
section
variable {w w' : World} {Bs g sz j k cx : Nat} {e : TypeId} {u : Value} {X : Option Addr} {xs : List Value}
theorem BoxQ.below (h : BoxQ w Bs g e sz j u X k cx xs) (hb : Below w.heap.size w w') : BoxQ w' Bs g e sz j u X k cx xs := ⟨h.own.below hb, h.out.below hb⟩
theorem BoxQ.cells (h : BoxQ w Bs g e sz j u X k cx xs) (hj : j < 2) : g < w.heap.size ∧ w.cell? ⟨g, j, none⟩ = some (.slice X k cx) ∧ w.cell? ⟨g, 1 - j, none⟩ = some u ∧ (∀ i, w.frozen? ⟨g, i, none⟩ = false) := by
  obtain ⟨g', e, h1, h2, h3, h4⟩ := h.own.at_ (by omega)
  injection e with e
  injection e with e _ _
  subst e
  refine ⟨h2, ?_, ?_, h4⟩
  · rw [h3 j (by omega)]
    unfold boxC
    rcases (show j = 0 ∨ j = 1 by omega) with rfl | rfl <;> rfl
  · rw [h3 (1 - j) (by omega)]
    unfold boxC
    rcases (show j = 0 ∨ j = 1 by omega) with rfl | rfl <;> rfl
theorem BoxQ.grow (h : BoxQ w Bs g e sz j u X k cx xs) (hj : j < 2) (he : 25 ≠ e) {A' : Option Addr} {c' : Nat} {ys : List Value} (hown : OwnR w' Bs e sz A' (k + 1) c' ys) (hk : ∀ b, b < w.heap.size → X ≠ some ⟨b, 0, none⟩ → w'.heap[b]? = w.heap[b]?) :
    (w'.cell? ⟨g, j, none⟩ = some (.slice X k cx) ∧ w'.frozen? ⟨g, j, none⟩ = false) ∧ BoxQ (w'.setCell ⟨g, j, none⟩ (.slice A' (k + 1) c')) Bs g e sz j u A' (k + 1) c' ys ∧ Below Bs w' (w'.setCell ⟨g, j, none⟩ (.slice A' (k + 1) c')) := by
  have hne := h.own.ne h.out he
  have h1 : OwnR w' Bs 25 2 (some ⟨g, 0, none⟩) 1 1 (boxC j (.slice X k cx) u) := h.own.keep fun b hb => by
    injection hb with hb
    injection hb with hb _ _
    subst hb
    exact hk g h.own.typ.2.1 hne
  obtain ⟨g', e', a1, a2, a3, a4⟩ := h1.at_ (by omega)
  injection e' with e'
  injection e' with e' _ _
  subst e'
  refine ⟨⟨?_, a4 j⟩, ⟨?_, ?_⟩, (Below.refl _ _).setCell (p := ⟨g, j, none⟩) a1 _⟩
  · rw [a3 j (by omega)]
    unfold boxC
    rcases (show j = 0 ∨ j = 1 by omega) with rfl | rfl <;> rfl
  · have := h1.stored j (.slice A' (k + 1) c')
    have e2 : (boxC j (.slice X k cx) u).set j (.slice A' (k + 1) c') = boxC j (.slice A' (k + 1) c') u := by
      unfold boxC
      rcases (show j = 0 ∨ j = 1 by omega) with rfl | rfl <;> rfl
    rw [e2] at this
    exact this
  · exact hown.other (h1.ne hown he)
theorem box_new {w : World} {Bs : Nat} (hB : Bs ≤ w.heap.size) {e : TypeId} {sz : Nat} (v : Value) (j : Nat) (u : Value) (hv : boxC j (.slice none 0 0) u = [v, u] ∨ boxC j (.slice none 0 0) u = [u, v]) :
    BoxQ (w.alloc (.cells (boxC j (.slice none 0 0) u).toArray 25)) Bs w.heap.size e sz j u none 0 0 [] := by
  refine ⟨⟨?_, .inr ⟨w.heap.size, 1, (boxC j (.slice none 0 0) u).toArray, rfl, hB, row_new, Nat.le_refl _, by unfold maxLen; decide, ?_, ?_⟩⟩, OwnR.nil _ _ _ _⟩
  · rcases hv with h | h <;> rw [h] <;> rfl
  · rcases hv with h | h <;> rw [h] <;> rfl
  · rcases hv with h | h <;> rw [h] <;> rfl
end
end Go.Proofs.YtmppmdmekomjbaaGreatDoor
