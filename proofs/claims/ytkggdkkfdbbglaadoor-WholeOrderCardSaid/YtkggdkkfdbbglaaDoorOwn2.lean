/- append(dst, src...), the source whatever. -/
import Derived.Test.YtkggdkkfdbbglaaDoorOwnG
import Derived.Deep.RegionLaw
namespace Go.Proofs.YtkggdkkfdbbglaaDoor
open Go.RowKit
section
variable {P : Program} {ops : Array Oper} {rest : List Oper} {o : Oper} {a : Act} {Q : Exit → Act → World → Prop}
theorem run_append_of_nil (w : World) (base : Nat) (t ty e : TypeId) (i : TypeInfo) (size : Nat) (ht : P.underlying t = some (.slice e)) (hi : P.info? e = some i)
    (v : Value) (n : Nat) (xs : List Value) (hown : w.ownsRow base e size v n xs) (c : Nat) : (Builtin.append_ #[t, t] ty #[v, .slice none 0 c]).run P w = .ok v w := by
  rcases hown.2 with ⟨rfl, rfl⟩ | ⟨g, cap, cur, rfl, _, _, hnc, _⟩
  · simp [Builtin.append_, run_underlying ht, sizeOf, typeInfo, hi, Builtin.lenOf, Builtin.firstCells]
  · simp [Builtin.append_, run_underlying ht, sizeOf, typeInfo, hi, Builtin.lenOf, Builtin.firstCells, hnc, storeCells]
theorem OwnS.form {w : World} {Bs : Nat} {e : TypeId} {v : Value} {n : Nat} {xs : List Value} (h : w.ownsRow Bs e 1 v n xs) : ∃ A c, v = .slice A n c ∧ OwnS w Bs e A n c xs := by
  have h0 := h
  rcases h.2 with ⟨hv, hn⟩ | ⟨g, cap, cur, hv, _⟩
  · subst hv; subst hn; exact ⟨none, 0, rfl, h0⟩
  · subst hv; exact ⟨_, _, rfl, h0⟩
/-- append of a slice to a slice of the call's own -/
theorem wp_appn {t e : TypeId} {z : Value} {bytes : Nat} (he : Elem P t e z bytes) (hgd : o.guard = none) (s x : Operand) (ho : o.op = .call { callee := .builtin .append, args := #[s, x], argTypes := #[t, t] })
    (Bs : Nat) (A : Option Addr) (n c : Nat) (xs : List Value) (w : World) (A2 : Option Addr) (m c2 : Nat) (news : List Value) (hs : a.eval s = .slice A n c) (hown : OwnS w Bs e A n c xs)
    (hx : a.eval x = .slice A2 m c2) (hm : news.length = m) (hcell : Cells w A2 news) (h1 : ∀ u ∈ news, u.oneCell' = true) (h63 : n + m ≤ maxLen) (hby : (n + m) * bytes ≤ 140737488355328) (hbase : Bs ≤ w.heap.size)
    (h : ∀ A' c' w', OwnS w' Bs e A' (n + m) c' (xs ++ news) → Below Bs w w' → wpList P ops Q rest (a.put o.dst (.slice A' (n + m) c')) w') :
    wpList P ops Q (o :: rest) a w := by
  obtain ⟨ht, ⟨i, hi, hz, hsz, hb⟩, hzs⟩ := he
  have hb0 : ∀ k, (Value.slice A n c).ownBlock = some k → Bs ≤ k := by
    intro k hk
    rcases hown.2 with ⟨hv, _⟩ | ⟨g', cap', cur', hv, hg', _⟩
    · rw [hv] at hk; simp [Value.ownBlock] at hk
    · rw [hv] at hk; simp [Value.ownBlock] at hk; omega
  rcases A2 with _ | ad
  · have hm0 : m = 0 := by
      rcases Nat.eq_zero_or_pos m with h0 | h0
      · exact h0
      · obtain ⟨b, off, hA, _⟩ := hcell (by omega); cases hA
    subst hm0
    have hn : news = [] := List.eq_nil_of_length_eq_zero hm
    subst hn
    have hrun := run_append_of_nil (P := P) w Bs t o.type e i 1 ht hi (.slice A n c) n xs hown c2
    refine wpList_plain hgd fun K hK => ?_
    unfold Oper.wp execOp
    simp only [ho, resolve, invoke, builtin, Sem.run_bind, Sem.run_pure, Result.andThen_ok, List.map_toArray, List.map_cons, List.map_nil, hs, hx, hrun]
    exact hK _ _ (by have := h A c w (by simpa using hown) (Below.refl _ _); simpa using this)
  · refine wpList_append_own _ hgd s x t ho Bs e i z 1 bytes ht hi hz hsz hb hzs (by decide) _ n xs hs hown ad m c2 news hx (by omega) ?_ h1 h63 hby hbase ?_
    · intro j u hj
      have hjl : j < news.length := (List.getElem?_eq_some_iff.1 hj).1
      obtain ⟨b, off, hA, _, hc⟩ := hcell (by omega)
      injection hA with hA
      subst hA
      have := hc j u hj
      unfold Addr.add
      split
      · rename_i h0; subst h0; simpa using this
      · simpa using this
    · intro v' w' h2 h3 _
      obtain ⟨A', c', hv, hown'⟩ := OwnS.form h2
      subst hv
      exact h A' c' w' hown' ((Below.refl _ _).grown h3 hbase hb0)
/-- append, as one step of a region that draws its order -/
theorem step_appn {K : Act → World → Prop} {E : Prop} {t e : TypeId} {z : Value} {bytes : Nat} (he : Elem P t e z bytes) (hgd : o.guard = none) (s x : Operand) (ho : o.op = .call { callee := .builtin .append, args := #[s, x], argTypes := #[t, t] })
    (Bs : Nat) (A : Option Addr) (n c : Nat) (xs : List Value) (w : World) (ad : Addr) (m c2 : Nat) (news : List Value) (hs : a.eval s = .slice A n c) (hown : OwnS w Bs e A n c xs)
    (hx : a.eval x = .slice (some ad) m c2) (hm : news.length = m) (hcell : Cells w (some ad) news) (h1 : ∀ u ∈ news, u.oneCell' = true) (h63 : n + m ≤ maxLen) (hby : (n + m) * bytes ≤ 140737488355328) (hbase : Bs ≤ w.heap.size)
    (hK : ∀ A' c' w', OwnS w' Bs e A' (n + m) c' (xs ++ news) → Below Bs w w' → K (a.put o.dst (.slice A' (n + m) c')) w') :
    if Region.wanted o (yielded ops a.tmps) = true then Oper.wp P o a w K Q else E := by
  obtain ⟨ht, ⟨i, hi, hz, hsz, hb⟩, hzs⟩ := he
  have hw : Region.wanted o (yielded ops a.tmps) = true := by simp [Region.wanted, hgd]
  rw [if_pos hw]
  have hb0 : ∀ k, (Value.slice A n c).ownBlock = some k → Bs ≤ k := by
    intro k hk
    rcases hown.2 with ⟨hv, _⟩ | ⟨g', cap', cur', hv, hg', _⟩
    · rw [hv] at hk; simp [Value.ownBlock] at hk
    · rw [hv] at hk; simp [Value.ownBlock] at hk; omega
  have hc : ∀ j u, news[j]? = some u → w.cell? (ad.add j) = some u := by
    intro j u hj
    have hjl : j < news.length := (List.getElem?_eq_some_iff.1 hj).1
    obtain ⟨b, off, hA, _, hc⟩ := hcell (by omega)
    injection hA with hA
    subst hA
    have := hc j u hj
    unfold Addr.add
    split
    · rename_i h0; subst h0; simpa using this
    · simpa using this
  obtain ⟨v', w', hrun, r1, r2, _⟩ := run_append_own (P := P) w Bs t o.type e i z 1 bytes ht hi hz hsz hb hzs (by decide) (.slice A n c) n xs hown ad m c2 news (by omega) hc h1 h63 hby hbase
  obtain ⟨A', c', hv, hown'⟩ := OwnS.form r1
  subst hv
  unfold Oper.wp
  simp [execOp, ho, resolve, invoke, builtin, hs, hx, hrun, Result.andThen]
  exact hK A' c' w' hown' ((Below.refl _ _).grown r2 hbase hb0)
/-- a slice written out: number{x} -/
theorem OwnS.lit (w : World) (e : TypeId) (cs : Array Value) (Bs n : Nat) (hB : Bs ≤ w.heap.size) (hs : cs.size = n) (hm : n ≤ maxLen) : OwnS (w.alloc (.cells cs e)) Bs e (some ⟨w.heap.size, 0, none⟩) n n cs.toList :=
  World.ownsRow_lit w cs n hB hm (by omega)
end
end Go.Proofs.YtkggdkkfdbbglaaDoor
