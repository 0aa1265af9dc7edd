/- Strings as lists of bytes, slices as lists of values: small lemmas for the walk. -/
import Derived.Test.YtkggdkkfdbbglaaDoorProg
import Derived.WalkKit
import Derived.WalkSpells
import Derived.WalkLawsBesides
import Derived.Lib.Hide
import Derived.Test.YtkggdkkfdbbglaaDoorNum
namespace Go.Proofs.YtkggdkkfdbbglaaDoor
open Go.RowKit

def B (l : List UInt8) : ByteArray := ⟨l.toArray⟩
def at8 (l : List UInt8) (i : Nat) : UInt8 := l.getD i 0
theorem B_size (l : List UInt8) : (B l).size = l.length := by simp [B, ByteArray.size]
theorem B_get (l : List UInt8) (i : Nat) (h : i < (B l).size) : (B l)[i]'h = at8 l i := by
  rw [B_size] at h
  simp [B, ByteArray.getElem_eq_getElem_data, at8, h]
theorem B_toList (l : List UInt8) : (B l).toList = l := by simp [B]
theorem B_mk (l : List UInt8) : ByteArray.mk (List.toArray l) = B l := rfl
theorem B_extract (l : List UInt8) (i j : Nat) : (B l).extract i j = B ((l.take j).drop i) := by
  show (ByteArray.mk l.toArray).extract i j = _
  rw [ByteArray.extract_mk, List.drop_take]; rfl
theorem B_append (a b : List UInt8) : B a ++ B b = B (a ++ b) := ByteArray.mk_append_mk a b
theorem B_of (s : ByteArray) : s = B s.data.toList := by simp [B]
attribute [local go_sem] B_size B_get B_toList B_mk B_extract
theorem at8_eq (l : List UInt8) (i : Nat) (h : i < l.length) : at8 l i = l[i] := by simp [at8, h]
theorem at8_zero_head (l : List UInt8) (h : l ≠ []) : l.head? = some (at8 l 0) := by cases l; exact absurd rfl h; simp [at8]

theorem below_drewN {B : Nat} {a w : World} (h : Below B a w) (n : Nat) : Below B a (w.drewN n) := ⟨h.os, h.tape, h.output, h.size, h.block⟩
theorem ret_int {a b : Int} (h : a = b) : Ending.returned (.int .i64 a) = .returned (.int .i64 b) := by rw [h]
theorem ret_str {a b : List UInt8} (h : a = b) : Ending.returned (.string (B a)) = .returned (.string (B b)) := by rw [h]
theorem ret_slice {A : Option Addr} {n m c : Nat} (h : n = m) : Ending.returned (.slice A n c) = .returned (.slice A m c) := by rw [h]
theorem ret_bool {a b : Bool} (h : a = b) : Ending.returned (.bool a) = .returned (.bool b) := by rw [h]
/-- the greater of two, kept closed in the walk -/
def imax (x y : Int) : Int := if y > x then y else x
theorem run_max2 {P : Program} (w : World) (ts : Array TypeId) (t : TypeId) (k k' : IntKind) (x y : Int) : (Builtin.max_ ts t #[.int k x, .int k' y]).run P w = .ok (.int k (imax x y)) w := by
  rw [run_max_int2]; rfl
theorem imax_nat (a b : Nat) : imax (a : Int) (b : Int) = ((max a b : Nat) : Int) := by unfold imax; split <;> omega
theorem imax_pos (x : Int) : imax 0 x = (x.toNat : Int) := by unfold imax; split <;> omega
open Num
theorem all_take_succ {l : List UInt8} {p : UInt8 → Bool} {k : Nat} (h : k < l.length) (h1 : (l.take k).all p = true) (h2 : p (at8 l k) = true) : (l.take (k+1)).all p = true := by
  rw [List.take_succ_eq_append_getElem h, List.all_append, h1]; simpa [at8_eq l k h] using h2
theorem not_all_of {l : List UInt8} {p : UInt8 → Bool} {k : Nat} (h : k < l.length) (h2 : p (at8 l k) = false) : l.all p = false := by
  rw [List.all_eq_false]; exact ⟨l[k], List.getElem_mem h, by rw [← at8_eq l k h, h2]; simp⟩
/-- the cells at an address read as the list vs -/
def Cells (w : World) (A : Option Addr) (vs : List Value) : Prop :=
  0 < vs.length → ∃ b off, A = some ⟨b, off, none⟩ ∧ b < w.heap.size ∧ ∀ j u, vs[j]? = some u → w.cell? ⟨b, off + j, none⟩ = some u
def atN (xs : List Nat) (j : Nat) : Nat := xs.getD j 0
def nums (xs : List Nat) : List Value := xs.map fun x : Nat => Value.int .i64 (x : Int)
theorem nums_length (xs : List Nat) : (nums xs).length = xs.length := by simp [nums]
theorem nums_get (xs : List Nat) (j : Nat) (h : j < xs.length) : (nums xs)[j]? = some (.int .i64 (atN xs j : Int)) := by simp [nums, atN, h]
theorem Cells.num {w : World} {b off : Nat} {xs : List Nat} (h : ∀ j u, (nums xs)[j]? = some u → w.cell? ⟨b, off + j, none⟩ = some u) (j : Nat) (hj : j < xs.length) :
    w.cell? ⟨b, off + j, none⟩ = some (.int .i64 (atN xs j : Int)) := h j _ (nums_get xs j hj)
theorem Cells.keep {w w' : World} {A : Option Addr} {vs : List Value} (h : Cells w A vs) (hs : w.heap.size ≤ w'.heap.size) (hk : ∀ p : Addr, p.block < w.heap.size → w'.cell? p = w.cell? p) : Cells w' A vs := fun h0 => by
  obtain ⟨b, off, e, hb, hc⟩ := h h0
  exact ⟨b, off, e, by omega, fun j u hu => (hk ⟨b, off + j, none⟩ hb).trans (hc j u hu)⟩
theorem Cells.below {w w' : World} {A : Option Addr} {vs : List Value} (h : Cells w A vs) (hb : Below w.heap.size w w') : Cells w' A vs :=
  h.keep hb.size fun p hp => hb.cell (p := p) hp
theorem Cells.nil (w : World) (A : Option Addr) : Cells w A [] := fun h => absurd h (by simp)
theorem Cells.take {w : World} {A : Option Addr} {vs : List Value} (h : Cells w A vs) (k : Nat) : Cells w A (vs.take k) := fun h0 => by
  obtain ⟨b, off, e, hb, hc⟩ := h (by rw [List.length_take] at h0; omega)
  refine ⟨b, off, e, hb, fun j u hu => hc j u ?_⟩
  rw [List.getElem?_take] at hu
  split at hu
  · exact hu
  · cases hu

end Go.Proofs.YtkggdkkfdbbglaaDoor
