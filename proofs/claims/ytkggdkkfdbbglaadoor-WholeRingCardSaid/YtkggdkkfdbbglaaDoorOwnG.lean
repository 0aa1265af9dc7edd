/- Slices that the call itself made: what an append, a make, a store leave. -/
import Derived.Test.YtkggdkkfdbbglaaDoorBase
import Derived.Laws.OwnMore
namespace Go.Proofs.YtkggdkkfdbbglaaDoor
open Go.RowKit

/-- The slice .slice A n c owns the cells xs, in a block from Bs on. -/
def OwnS (w : World) (Bs : Nat) (e : TypeId) (A : Option Addr) (n c : Nat) (xs : List Value) : Prop := w.ownsRow Bs e 1 (.slice A n c) n xs
theorem OwnS.nil (w : World) (Bs : Nat) (e : TypeId) : OwnS w Bs e none 0 0 [] := ⟨by simp, .inl ⟨rfl, rfl⟩⟩
theorem OwnS.len {w : World} {Bs : Nat} {e : TypeId} {A : Option Addr} {n c : Nat} {xs : List Value} (h : OwnS w Bs e A n c xs) : xs.length = n := by have := h.1; omega
theorem OwnS.cap {w : World} {Bs : Nat} {e : TypeId} {A : Option Addr} {n c : Nat} {xs : List Value} (h : OwnS w Bs e A n c xs) : n ≤ c ∧ c ≤ maxLen := by
  rcases h.2 with ⟨hv, hn⟩ | ⟨g, cap, cur, hv, _, _, h1, h2, _⟩
  · injection hv with _ _ hc; subst hc; subst hn; exact ⟨Nat.le_refl _, Nat.zero_le _⟩
  · injection hv with _ _ hc; subst hc; exact ⟨h1, h2⟩
theorem OwnS.cells {w : World} {Bs : Nat} {e : TypeId} {A : Option Addr} {n c : Nat} {xs : List Value} (h : OwnS w Bs e A n c xs) : Cells w A xs := by
  intro h0
  rcases h.2 with ⟨hv, hn⟩ | ⟨g, cap, cur, hv, _, hh, h1, _, _, h4⟩
  · have := h.1; omega
  · injection hv with hA _ hc
    subst hA; subst hc
    refine ⟨g, 0, rfl, ?_, fun j u hu => ?_⟩
    · rcases Nat.lt_or_ge g w.heap.size with h' | h'
      · exact h'
      · rw [Array.getElem?_eq_none h'] at hh; cases hh
    · have hj : j < xs.length := (List.getElem?_eq_some_iff.1 hu).1
      have := World.ownsRow.cellAt h j (by have := h.1; omega)
      rw [Nat.zero_add, this, hu]
theorem OwnS.below {w w' : World} {Bs : Nat} {e : TypeId} {A : Option Addr} {n c : Nat} {xs : List Value} (h : OwnS w Bs e A n c xs) (hb : Below w.heap.size w w') : OwnS w' Bs e A n c xs := by
  refine ⟨h.1, ?_⟩
  rcases h.2 with h2 | ⟨g, cap, cur, hv, hg, hh, r⟩
  · exact .inl h2
  · refine .inr ⟨g, cap, cur, hv, hg, ?_, r⟩
    rw [hb.block g ?_]; exact hh
    rcases Nat.lt_or_ge g w.heap.size with h' | h'
    · exact h'
    · rw [Array.getElem?_eq_none h'] at hh; cases hh
theorem OwnS.mono {w : World} {Bs Bs' : Nat} {e : TypeId} {A : Option Addr} {n c : Nat} {xs : List Value} (h : OwnS w Bs e A n c xs) (hB : Bs' ≤ Bs) : OwnS w Bs' e A n c xs := by
  refine ⟨h.1, ?_⟩
  rcases h.2 with h2 | ⟨g, cap, cur, hv, hg, r⟩
  · exact .inl h2
  · exact .inr ⟨g, cap, cur, hv, by omega, r⟩
theorem OwnS.alloc {w : World} {Bs : Nat} {e : TypeId} {A : Option Addr} {n c : Nat} {xs : List Value} (h : OwnS w Bs e A n c xs) (o : Obj) : OwnS (w.alloc o) Bs e A n c xs :=
  h.below ((Below.refl _ _).alloc (Nat.le_refl _) _)
theorem OwnS.at_ {w : World} {Bs : Nat} {e : TypeId} {A : Option Addr} {n c : Nat} {xs : List Value} (h : OwnS w Bs e A n c xs) (h0 : 0 < n) :
    ∃ g, A = some ⟨g, 0, none⟩ ∧ Bs ≤ g ∧ g < w.heap.size ∧ (∀ j, j < n → w.cell? ⟨g, j, none⟩ = xs[j]?) ∧ ∀ j, w.frozen? ⟨g, j, none⟩ = false := by
  rcases h.2 with ⟨hv, hn⟩ | ⟨g, cap, cur, hv, hg, hh, h1, _, _, h4⟩
  · omega
  · injection hv with hA _ hc
    subst hA; subst hc
    refine ⟨g, rfl, hg, ?_, fun j hj => World.ownsRow.cellAt h j (by omega), fun j => World.ownsRow.frozenAt h j⟩
    rcases Nat.lt_or_ge g w.heap.size with h' | h'
    · exact h'
    · rw [Array.getElem?_eq_none h'] at hh; cases hh
theorem OwnS.stored {w : World} {Bs g : Nat} {e : TypeId} {n c : Nat} {xs : List Value} (h : OwnS w Bs e (some ⟨g, 0, none⟩) n c xs) (j : Nat) (u : Value) :
    OwnS (w.setCell ⟨g, j, none⟩ u) Bs e (some ⟨g, 0, none⟩) n c (xs.set j u) := (World.ownsRow.stored h j u).1

/-- What the program's table says of a slice type t over elements e of one cell. -/
def Elem (P : Program) (t e : TypeId) (z : Value) (bytes : Nat) : Prop :=
  P.underlying t = some (.slice e) ∧ (∃ i, P.info? e = some i ∧ i.zero = some z ∧ i.size = 1 ∧ i.bytes = bytes) ∧ z.cells.size = 1

section
variable {P : Program} {ops : Array Oper} {rest : List Oper} {o : Oper} {a : Act} {Q : Exit → Act → World → Prop}
/-- append of one element to a slice of the call's own -/
theorem wp_app1 {t e : TypeId} {z : Value} {bytes : Nat} (he : Elem P t e z bytes) (hgd : o.guard = none) (s x : Operand) (ho : o.op = .call { callee := .builtin .append, args := #[s, x], argTypes := #[t, t] })
    (Bs : Nat) (A : Option Addr) (n c : Nat) (xs : List Value) (w : World) (u : Value) (hs : a.eval s = .slice A n c) (hown : OwnS w Bs e A n c xs)
    (hx : a.eval x = .slice (some ⟨w.heap.size, 0, none⟩) 1 1) (h1 : u.oneCell' = true) (h63 : n + 1 ≤ maxLen) (hby : (n + 1) * bytes ≤ 140737488355328) (hbase : Bs ≤ w.heap.size)
    (h : ∀ A' c' w', OwnS w' Bs e A' (n + 1) c' (xs ++ [u]) → Below Bs w w' → wpList P ops Q rest (a.put o.dst (.slice A' (n + 1) c')) w') :
    wpList P ops Q (o :: rest) a (w.alloc (.cells #[u] e)) := by
  obtain ⟨ht, ⟨i, hi, hz, hsz, hb⟩, hzs⟩ := he
  have hown' : (w.alloc (.cells #[u] e)).ownsRow Bs e 1 (.slice A n c) n xs := hown.alloc _
  refine wpList_append_own _ hgd s x t ho Bs e i z 1 bytes ht hi hz hsz hb hzs (by decide) _ n xs hs hown' ⟨w.heap.size, 0, none⟩ 1 1 [u] hx rfl ?_ (by simpa using h1) h63 hby (by simp; omega) ?_
  · intro j v hj
    match j, hj with
    | 0, hj => simp at hj; subst hj; simp [Addr.add]
  · intro v' w' h2 h3 h4
    have hne : v' ≠ .slice none 0 0 := by intro e; have := (h4.1 e).2; omega
    obtain ⟨g, cap, hv⟩ : ∃ g cap, v' = .slice (some ⟨g, 0, none⟩) (n + 1) cap := by
      rcases h2.2 with ⟨hv, _⟩ | ⟨g, cap, cur, hv, _⟩
      · exact absurd hv hne
      · exact ⟨g, cap, hv⟩
    subst hv
    refine h _ _ _ h2 ?_
    refine ((Below.refl _ _).alloc hbase _).grown h3 (by simp; omega) ?_
    intro k hk
    rcases hown.2 with ⟨hv, _⟩ | ⟨g', cap', cur', hv, hg', _⟩
    · rw [hv] at hk; simp [Value.ownBlock] at hk
    · rw [hv] at hk; simp [Value.ownBlock] at hk; omega
/-- make([]T, 0, n) -/
theorem wp_mk0 {t e : TypeId} {z : Value} {bytes : Nat} (he : Elem P t e z bytes) (hgd : o.guard = none) (l c : Operand) (hop : o.op = Op.makeSlice t l c)
    (Bs : Nat) (w : World) (kl kc : IntKind) (C : Int) (n : Nat) (hl : a.eval l = .int kl 0) (hc : a.eval c = .int kc C) (hC : C = (n : Int)) (hby : bytes * n ≤ 281474976710656) (h63 : n ≤ maxLen) (hbase : Bs ≤ w.heap.size)
    (h : ∀ A' w', OwnS w' Bs e A' 0 n [] → Below Bs w w' → wpList P ops Q rest (a.put o.dst (.slice A' 0 n)) w') :
    wpList P ops Q (o :: rest) a w := by
  obtain ⟨ht, ⟨i, hi, hz, hsz, hb⟩, hzs⟩ := he
  refine wpList_make_own _ hgd l c t hop Bs e i z 1 ht hi hz hsz kl kc C n hl hc hC (by rw [hb]; exact hby) h63 hbase ?_
  intro w' h1 h2
  exact h _ _ h1 ((Below.refl _ _).grown h2 hbase (fun k hk => by cases hk))
/-- make([]T, n) -/
theorem wp_mkn {t e : TypeId} {z : Value} {bytes : Nat} (he : Elem P t e z bytes) (hgd : o.guard = none) (l c : Operand) (hop : o.op = Op.makeSlice t l c)
    (Bs : Nat) (w : World) (kl kc : IntKind) (L C : Int) (n : Nat) (hl : a.eval l = .int kl L) (hc : a.eval c = .int kc C) (hL : L = (n : Int)) (hC : C = (n : Int)) (hby : bytes * n ≤ 281474976710656) (h63 : n ≤ maxLen) (hbase : Bs ≤ w.heap.size)
    (hz1 : z.cells = #[z])
    (h : ∀ A' w', OwnS w' Bs e A' n n (List.replicate n z) → Below Bs w w' → wpList P ops Q rest (a.put o.dst (.slice A' n n)) w') :
    wpList P ops Q (o :: rest) a w := by
  obtain ⟨ht, ⟨i, hi, hz, hsz, hb⟩, hzs⟩ := he
  refine wpList_make_full _ hgd l c t hop Bs e i z 1 ht hi hz hsz kl kc L C n hl hc hL hC (by rw [hb]; exact hby) h63 hbase ?_
  intro w' h1 h2
  rw [hz1, Nat.mul_one, toList_madeCells_one] at h1
  exact h _ _ h1 ((Below.refl _ _).grown h2 hbase (fun k hk => by cases hk))
end
theorem int_info : (Tryd.prog.info? 3).map (fun i => (i.zero, i.size, i.bytes)) = some (some (.int .i64 0), 1, 8) := by kernel_rfl
end Go.Proofs.YtkggdkkfdbbglaaDoor
