/- Slices of bytes: made, stored, converted. -/
import Derived.Test.YtkggdkkfdbbglaaDoorOwn2
import Derived.Laws.MakeOwn
import Derived.Laws.BytesArg
import Derived.Lib.AppendStr
namespace Go.Proofs.YtkggdkkfdbbglaaDoor
open Go.RowKit Num
set_option linter.unusedVariables false
attribute [local go_sem] B_size B_get B_toList B_mk B_extract B_append
attribute [local go_sem high] run_max2

theorem run_make_rowN {P : Program} (t e : TypeId) (i : TypeInfo) (z : Value) (ht : P.underlying t = some (.slice e)) (hi : P.info? e = some i) (hz : i.zero = some z)
    (kl kc : IntKind) (n c : Nat) (hnc : n ≤ c) (hbytes : i.bytes * c ≤ 281474976710656) (h63 : c ≤ 9223372036854775807) (w : World) :
    (Instr.makeSlice t (.int kl (n : Int)) (.int kc (c : Int))).run P w = .ok (.slice (some ⟨w.heap.size, 0, none⟩) n c) (w.alloc (.cells (madeCells z.cells (c * i.size)) e)) := by
  have hb : (i.bytes : Int) * (c : Int) ≤ 281474976710656 := by
    have h : ((i.bytes * c : Nat) : Int) ≤ 281474976710656 := by omega
    rwa [Int.natCast_mul] at h
  have hr := run_make (P := P) w t e i z ht hi hz kl kc n c (by omega) (by omega) hb (by omega)
  simp only [Int.toNat_natCast] at hr
  exact hr
theorem byte_info : (Tryd.prog.info? 5).map (fun i => (i.zero, i.size, i.bytes)) = some (some (.int .u8 0), 1, 1) := by kernel_rfl
theorem el_byte : Elem Tryd.prog 65 5 (.int .u8 0) 1 := ⟨Tryd.underlying65, info_parts byte_info, rfl⟩
/-- the cells of n zero bytes, kept closed in the walk -/
def zeros (n : Nat) : Array Value := madeCells #[.int .u8 0] n
theorem make_bytes (n : Nat) (hn : n ≤ 1000000) (w : World) :
    (Instr.makeSlice 65 (.int .u16 (n : Int)) (.int .u16 (n : Int))).run Tryd.prog w = .ok (.slice (some ⟨w.heap.size, 0, none⟩) n n) (w.alloc (.cells (zeros n) 5)) := by
  obtain ⟨i, hi, hz, hs, hb⟩ := info_parts byte_info
  have := run_make_rowN (P := Tryd.prog) 65 5 i (.int .u8 0) Tryd.underlying65 hi hz .u16 .u16 n n (Nat.le_refl _) (by rw [hb]; omega) (by omega) w
  rw [hs, Nat.mul_one] at this
  exact this
def bytes (l : List UInt8) : List Value := l.map fun b => Value.int .u8 (b.toNat : Int)
theorem bytes_length (l : List UInt8) : (bytes l).length = l.length := by simp [bytes]
theorem zeros_list (n : Nat) : (zeros n).toList = bytes (List.replicate n 0) := by
  unfold zeros; rw [toList_madeCells_one]; simp [bytes]
theorem zeros_size (n : Nat) : (zeros n).size = n := by
  have := congrArg List.length (zeros_list n)
  rw [bytes_length, List.length_replicate, Array.length_toList] at this; exact this
theorem OwnS.zeros (w : World) (n Bs : Nat) (hB : Bs ≤ w.heap.size) (hn : n ≤ 1000000) : OwnS (w.alloc (.cells (zeros n) 5)) Bs 5 (some ⟨w.heap.size, 0, none⟩) n n (bytes (List.replicate n 0)) := by
  have := OwnS.lit w 5 (Go.Proofs.YtkggdkkfdbbglaaDoor.zeros n) Bs n hB (zeros_size n) (by unfold maxLen; omega)
  rw [zeros_list] at this
  exact this
theorem OwnS.setOther {w : World} {Bs : Nat} {e : TypeId} {g g' n c : Nat} {xs : List Value} (h : OwnS w Bs e (some ⟨g, 0, none⟩) n c xs) (hne : g ≠ g') (j : Nat) (u : Value) : OwnS (w.setCell ⟨g', j, none⟩ u) Bs e (some ⟨g, 0, none⟩) n c xs := by
  refine ⟨h.1, ?_⟩
  rcases h.2 with h2 | ⟨g2, cap, cur, hv, hg, hh, r⟩
  · exact .inl h2
  · have hv0 := hv
    injection hv with hA _ _
    injection hA with hA
    injection hA with hA _ _
    subst hA
    exact .inr ⟨g, cap, cur, hv0, hg, by rw [Below.heap_setCell _ _ _ _ hne]; exact hh, r⟩
theorem conv_bytes (g n c Bs : Nat) (l : List UInt8) (w : World) (hl : l.length = n) (h : OwnS w Bs 5 (some ⟨g, 0, none⟩) n c (bytes l)) :
    (convert 65 9 (.slice (some ⟨g, 0, none⟩) n c)).run Tryd.prog w = .ok (.string (B l)) w := by
  have hc : ∀ i, i < n → w.cell? ⟨g, 0 + i, none⟩ = some (.int .u8 ((l.map fun b => (b.toNat : Int)).getD i 0)) := by
    intro i hi
    have := World.ownsRow.cellAt h i (by omega)
    rw [Nat.zero_add, this]
    simp [bytes, List.getElem?_eq_getElem (show i < l.length by omega)]
  have := run_convert_bytes_arg (P := Tryd.prog) (w := w) 65 5 Tryd.underlying65 Tryd.underlying5 g 0 n c (l.map fun b => (b.toNat : Int)) (by simpa using hl) hc 9 Tryd.underlying9
  have hmap : ∀ l : List UInt8, (l.map fun b => (b.toNat : Int)).map (fun n => UInt8.ofNat n.toNat) = l := by
    intro l
    rw [List.map_map]
    conv => rhs; rw [← List.map_id l]
    apply List.map_congr_left
    intro x _
    simp
  have hs : strOfNums (l.map fun b => (b.toNat : Int)) = B l := by
    unfold strOfNums B
    rw [hmap]
  rw [this, hs]


/-- append of a string's bytes to a slice of bytes of the call's own -/
theorem wp_apps {ops : Array Oper} {rest : List Oper} {o : Oper} {a : Act} {Q : Exit → Act → World → Prop} (hgd : o.guard = none) (s x : Operand) (ho : o.op = .call { callee := .builtin .append, args := #[s, x], argTypes := #[65, 9] })
    (Bs : Nat) (A : Option Addr) (n c : Nat) (xs : List UInt8) (w : World) (l : List UInt8) (hs : a.eval s = .slice A n c) (hown : OwnS w Bs 5 A n c (bytes xs))
    (hx : a.eval x = .string (B l)) (h63 : n + l.length ≤ 140737488355328) (hbase : Bs ≤ w.heap.size)
    (h : ∀ A' c' w', OwnS w' Bs 5 A' (n + l.length) c' (bytes (xs ++ l)) → Below Bs w w' → wpList Tryd.prog ops Q rest (a.put o.dst (.slice A' (n + l.length) c')) w') :
    wpList Tryd.prog ops Q (o :: rest) a w := by
  obtain ⟨i, hi, hz, hsz, hb⟩ := info_parts byte_info
  have hb0 : ∀ k, (Value.slice A n c).ownBlock = some k → Bs ≤ k := by
    intro k hk
    rcases hown.2 with ⟨hv, _⟩ | ⟨g', cap', cur', hv, hg', _⟩
    · rw [hv] at hk; simp [Value.ownBlock] at hk
    · rw [hv] at hk; simp [Value.ownBlock] at hk; omega
  refine Lib.wpList_append_own_string w hgd s x 65 9 ho Bs 5 i Tryd.underlying65 Tryd.underlying9 hi hz hsz hb (.slice A n c) n (bytes xs) hs hown (B l) hx (by unfold maxLen; rw [B_size]; omega) (by rw [B_size]; omega) hbase ?_
  intro v' w' h2 h3 _
  rw [B_size] at h2
  obtain ⟨A', c', hv, hown'⟩ := OwnS.form h2
  subst hv
  have e : bytes xs ++ Lib.strCells (B l) = bytes (xs ++ l) := by simp [Lib.strCells, bytes, B]
  rw [e] at hown'
  exact h A' c' w' hown' ((Below.refl _ _).grown h3 hbase hb0)
end Go.Proofs.YtkggdkkfdbbglaaDoor
