/- Structs and slices of structs that the call made: what a store or an append leaves. -/
import Derived.Test.YtblefdgfmjegiaaGreatDoorG11
import Derived.Deep.RegionLaw
namespace Go.Proofs.YtblefdgfmjegiaaGreatDoor
open Go.RowKit
set_option linter.unusedVariables false
section
variable {w w' : World} {Bs sz sz' n c n' c' g : Nat} {e e' : TypeId} {A : Option Addr} {xs ys : List Value}
theorem OwnR.typ (h : OwnR w Bs e sz (some ⟨g, 0, none⟩) n c xs) : Bs ≤ g ∧ g < w.heap.size ∧ ∃ cur, w.heap[g]? = some (.cells cur e (0, 0)) := by
  rcases h.2 with ⟨hv, _⟩ | ⟨g', cap, cur, hv, hb, hh, _⟩
  · injection hv with hv _ _; cases hv
  · injection hv with hv _ _
    injection hv with hv
    injection hv with hv _ _
    subst hv
    refine ⟨hb, ?_, cur, hh⟩
    rcases Nat.lt_or_ge g w.heap.size with h' | h'
    · exact h'
    · rw [Array.getElem?_eq_none h'] at hh; cases hh
theorem OwnR.ne (h : OwnR w Bs e sz (some ⟨g, 0, none⟩) n c xs) (h2 : OwnR w Bs e' sz' A n' c' ys) (he : e ≠ e') : A ≠ some ⟨g, 0, none⟩ := by
  intro hA
  subst hA
  obtain ⟨_, _, cur, h3⟩ := h.typ
  obtain ⟨_, _, cur2, h4⟩ := h2.typ
  rw [h3] at h4
  injection h4 with h4
  injection h4 with _ h4 _
  exact he h4
theorem OwnR.keep (h : OwnR w Bs e sz A n c xs) (hk : ∀ b, A = some ⟨b, 0, none⟩ → w'.heap[b]? = w.heap[b]?) : OwnR w' Bs e sz A n c xs := by
  refine ⟨h.1, ?_⟩
  rcases h.2 with h2 | ⟨g', cap, cur, hv, hgb, hh, r⟩
  · exact .inl h2
  · refine .inr ⟨g', cap, cur, hv, hgb, ?_, r⟩
    injection hv with hA _ _
    rw [hk g' hA]; exact hh
theorem OwnR.stored (h : OwnR w Bs e sz (some ⟨g, 0, none⟩) n c xs) (j : Nat) (u : Value) : OwnR (w.setCell ⟨g, j, none⟩ u) Bs e sz (some ⟨g, 0, none⟩) n c (xs.set j u) := (World.ownsRow.stored h j u).1
theorem OwnR.other (h : OwnR w Bs e sz A n c xs) {j : Nat} {u : Value} (hg : A ≠ some ⟨g, 0, none⟩) : OwnR (w.setCell ⟨g, j, none⟩ u) Bs e sz A n c xs := by
  refine h.keep fun b hb => ?_
  rw [Below.heap_setCell _ _ _ _ (fun e => hg (by rw [hb, e]))]
end
section
variable {P : Program} {ops : Array Oper} {rest : List Oper} {o : Oper} {a : Act} {Q : Exit → Act → World → Prop}
/-- append of one struct, as one step of a region that draws its order -/
theorem step_app1r {K : Act → World → Prop} {E : Prop} {t e : TypeId} {z : Value} {sz bytes : Nat} (he : ElemR P t e z sz bytes) (hgd : o.guard = none) (s x : Operand) (ho : o.op = .call { callee := .builtin .append, args := #[s, x], argTypes := #[t, t] })
    (Bs : Nat) (A : Option Addr) (n c : Nat) (xs : List Value) (w : World) (g1 : Nat) (us : List Value) (hs : a.eval s = .slice A n c) (hown : OwnR w Bs e sz A n c xs)
    (hx : a.eval x = .slice (some ⟨g1, 0, none⟩) 1 1) (hus : us.length = sz) (hcell : ∀ j u, us[j]? = some u → w.cell? ⟨g1, j, none⟩ = some u) (h1 : ∀ u ∈ us, u.oneCell' = true) (h63 : n + 1 ≤ maxLen) (hby : (n + 1) * bytes ≤ 140737488355328) (hbase : Bs ≤ w.heap.size)
    (hK : ∀ A' c' w', OwnR w' Bs e sz A' (n + 1) c' (xs ++ us) → Below Bs w w' → (∀ k, k < w.heap.size → A ≠ some ⟨k, 0, none⟩ → w'.heap[k]? = w.heap[k]?) → K (a.put o.dst (.slice A' (n + 1) c')) w') :
    if Region.wanted o (yielded ops a.tmps) = true then Oper.wp P o a w K Q else E := by
  obtain ⟨ht, ⟨i, hi, hz, hsz, hb⟩, hzs, hpos⟩ := he
  have hw : Region.wanted o (yielded ops a.tmps) = true := by simp [Region.wanted, hgd]
  rw [if_pos hw]
  have hb0 : ∀ k, (Value.slice A n c).ownBlock = some k → Bs ≤ k := by
    intro k hk
    rcases hown.2 with ⟨hv, _⟩ | ⟨g', cap', cur', hv, hg', _⟩
    · rw [hv] at hk; simp [Value.ownBlock] at hk
    · rw [hv] at hk; simp [Value.ownBlock] at hk; omega
  have hc : ∀ j u, us[j]? = some u → w.cell? ((⟨g1, 0, none⟩ : Addr).add j) = some u := by
    intro j u hj
    have h0 := hcell j u hj
    unfold Addr.add
    split
    · rename_i h1; subst h1; exact h0
    · show w.cell? ⟨g1, 0 + j, none⟩ = _
      rw [Nat.zero_add]; exact h0
  obtain ⟨v', w', hrun, r1, r2, r3⟩ := run_append_own (P := P) w Bs t o.type e i z sz bytes ht hi hz hsz hb hzs hpos (.slice A n c) n xs hown ⟨g1, 0, none⟩ 1 1 us (by omega) hc h1 h63 hby hbase
  have hne : v' ≠ .slice none 0 0 := by intro e; have := (r3.1 e).2; omega
  obtain ⟨A', c', hv⟩ : ∃ A' c', v' = .slice A' (n + 1) c' := by
    rcases r1.2 with ⟨hv, _⟩ | ⟨g, cap, cur, hv, _⟩
    · exact absurd hv hne
    · exact ⟨_, _, hv⟩
  subst hv
  unfold Oper.wp
  simp [execOp, ho, resolve, invoke, builtin, hs, hx, hrun, Result.andThen]
  refine hK A' c' w' r1 ((Below.refl _ _).grown r2 hbase hb0) fun k hk hA => ?_
  have hne2 : some k ≠ (Value.slice A n c).ownBlock := by
    rcases hown.2 with ⟨hv, _⟩ | ⟨g', cap', cur', hv, hg', _⟩
    · rw [hv]; simp [Value.ownBlock]
    · injection hv with hv1 _ _
      rw [hv1]
      intro e
      have : k = g' := by simpa [Value.ownBlock] using e
      exact hA (by rw [hv1, this])
  exact r2.block k hk hne2
end
end Go.Proofs.YtblefdgfmjegiaaGreatDoor
