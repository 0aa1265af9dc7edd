/- Slices of structs that the call itself made. -/
import Derived.Test.YtkggdkkfdbbglaaDoorOwn2
namespace Go.Proofs.YtkggdkkfdbbglaaDoor
open Go.RowKit
set_option linter.unusedVariables false

/-- The slice .slice A n c of elements of sz cells owns the cells xs, in a block from Bs on. -/
def OwnR (w : World) (Bs : Nat) (e : TypeId) (sz : Nat) (A : Option Addr) (n c : Nat) (xs : List Value) : Prop := w.ownsRow Bs e sz (.slice A n c) n xs
section
variable {w w' : World} {Bs Bs' sz n c : Nat} {e : TypeId} {A : Option Addr} {xs : List Value}
theorem OwnR.nil (w : World) (Bs : Nat) (e : TypeId) (sz : Nat) : OwnR w Bs e sz none 0 0 [] := ⟨by simp, .inl ⟨rfl, rfl⟩⟩
theorem OwnR.len (h : OwnR w Bs e sz A n c xs) : xs.length = n * sz := h.1
theorem OwnR.cap (h : OwnR w Bs e sz A n c xs) : n ≤ c ∧ c ≤ maxLen := by
  rcases h.2 with ⟨hv, hn⟩ | ⟨g, cap, cur, hv, _, _, h1, h2, _⟩
  · injection hv with _ _ hc; subst hc; subst hn; exact ⟨Nat.le_refl _, Nat.zero_le _⟩
  · injection hv with _ _ hc; subst hc; exact ⟨h1, h2⟩
theorem OwnR.below (h : OwnR w Bs e sz A n c xs) (hb : Below w.heap.size w w') : OwnR w' Bs e sz A n c xs := by
  refine ⟨h.1, ?_⟩
  rcases h.2 with h2 | ⟨g, cap, cur, hv, hg, hh, r⟩
  · exact .inl h2
  · refine .inr ⟨g, cap, cur, hv, hg, ?_, r⟩
    rw [hb.block g ?_]; exact hh
    rcases Nat.lt_or_ge g w.heap.size with h' | h'
    · exact h'
    · rw [Array.getElem?_eq_none h'] at hh; cases hh
theorem OwnR.mono (h : OwnR w Bs e sz A n c xs) (hB : Bs' ≤ Bs) : OwnR w Bs' e sz A n c xs := by
  refine ⟨h.1, ?_⟩
  rcases h.2 with h2 | ⟨g, cap, cur, hv, hg, r⟩
  · exact .inl h2
  · exact .inr ⟨g, cap, cur, hv, by omega, r⟩
theorem OwnR.alloc (h : OwnR w Bs e sz A n c xs) (o : Obj) : OwnR (w.alloc o) Bs e sz A n c xs := h.below ((Below.refl _ _).alloc (Nat.le_refl _) _)
theorem OwnR.at_ (h : OwnR w Bs e sz A n c xs) (h0 : 0 < n) :
    ∃ g, A = some ⟨g, 0, none⟩ ∧ Bs ≤ g ∧ g < w.heap.size ∧ (∀ j, j < n * sz → w.cell? ⟨g, j, none⟩ = xs[j]?) ∧ ∀ j, w.frozen? ⟨g, j, none⟩ = false := by
  rcases h.2 with ⟨hv, hn⟩ | ⟨g, cap, cur, hv, hg, hh, h1, _, _, h4⟩
  · omega
  · injection hv with hA _ hc
    subst hA; subst hc
    refine ⟨g, rfl, hg, ?_, fun j hj => World.ownsRow.cellAt h j hj, fun j => World.ownsRow.frozenAt h j⟩
    rcases Nat.lt_or_ge g w.heap.size with h' | h'
    · exact h'
    · rw [Array.getElem?_eq_none h'] at hh; cases hh
end
/-- What the program's table says of a slice type t over elements e of sz cells. -/
def ElemR (P : Program) (t e : TypeId) (z : Value) (sz bytes : Nat) : Prop :=
  P.underlying t = some (.slice e) ∧ (∃ i, P.info? e = some i ∧ i.zero = some z ∧ i.size = sz ∧ i.bytes = bytes) ∧ z.cells.size = sz ∧ 0 < sz
section
variable {P : Program} {ops : Array Oper} {rest : List Oper} {o : Oper} {a : Act} {Q : Exit → Act → World → Prop}
/-- append of one struct to a slice of the call's own -/
theorem wp_app1r {t e : TypeId} {z : Value} {sz bytes : Nat} (he : ElemR P t e z sz bytes) (hgd : o.guard = none) (s x : Operand) (ho : o.op = .call { callee := .builtin .append, args := #[s, x], argTypes := #[t, t] })
    (Bs : Nat) (A : Option Addr) (n c : Nat) (xs : List Value) (w : World) (us : Array Value) (hs : a.eval s = .slice A n c) (hown : OwnR w Bs e sz A n c xs)
    (hx : a.eval x = .slice (some ⟨w.heap.size, 0, none⟩) 1 1) (hus : us.size = sz) (h1 : ∀ u ∈ us.toList, u.oneCell' = true) (h63 : n + 1 ≤ maxLen) (hby : (n + 1) * bytes ≤ 140737488355328) (hbase : Bs ≤ w.heap.size)
    (h : ∀ A' c' w', OwnR w' Bs e sz A' (n + 1) c' (xs ++ us.toList) → Below Bs w w' → wpList P ops Q rest (a.put o.dst (.slice A' (n + 1) c')) w') :
    wpList P ops Q (o :: rest) a (w.alloc (.cells us e)) := by
  obtain ⟨ht, ⟨i, hi, hz, hsz, hb⟩, hzs, hpos⟩ := he
  have hown' : (w.alloc (.cells us e)).ownsRow Bs e sz (.slice A n c) n xs := hown.alloc _
  refine wpList_append_own _ hgd s x t ho Bs e i z sz bytes ht hi hz hsz hb hzs hpos _ n xs hs hown' ⟨w.heap.size, 0, none⟩ 1 1 us.toList hx (by rw [Array.length_toList, hus]; omega) ?_ h1 h63 hby (by simp; omega) ?_
  · intro j v hj
    rw [Array.getElem?_toList] at hj
    have hjl : j < us.size := (Array.getElem?_eq_some_iff.1 hj).1
    unfold Addr.add
    by_cases h0 : j = 0
    · subst h0; rw [if_pos rfl, World.cell?_alloc_new]; exact hj
    · rw [if_neg h0]; show (w.alloc _).cell? ⟨w.heap.size, 0 + j, none⟩ = _; rw [Nat.zero_add, World.cell?_alloc_new]; exact hj
  · intro v' w' h2 h3 h4
    have hne : v' ≠ .slice none 0 0 := by intro e; have := (h4.1 e).2; omega
    obtain ⟨g, cap, hv⟩ : ∃ g cap, v' = .slice (some ⟨g, 0, none⟩) (n + 1) cap := by
      rcases h2.2 with ⟨hv, _⟩ | ⟨g, cap, cur, hv, _⟩
      · exact absurd hv hne
      · exact ⟨g, cap, hv⟩
    subst hv
    refine h _ _ _ h2 ?_
    refine ((Below.refl _ _).alloc hbase _).grown h3 (by simp; omega) ?_
    intro k hk
    rcases hown.2 with ⟨hv, _⟩ | ⟨g', cap', cur', hv, hg', _⟩
    · rw [hv] at hk; simp [Value.ownBlock] at hk
    · rw [hv] at hk; simp [Value.ownBlock] at hk; omega
end
end Go.Proofs.YtkggdkkfdbbglaaDoor
