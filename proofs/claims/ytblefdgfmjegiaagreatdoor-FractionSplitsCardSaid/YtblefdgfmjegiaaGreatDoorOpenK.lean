/- A []api.Column that came in; arrays that came in: as the walk wants them. -/
import Derived.Test.YtblefdgfmjegiaaGreatDoorG15
import Derived.OpenShut
namespace Go.Proofs.YtblefdgfmjegiaaGreatDoor
open Go.ChangeShapes Go.WideShapes Go.RowKit Num
set_option linter.unusedVariables false
/-- a column as it lies in memory -/
structure ColV where
  t : Int
  s : Int
  p : Int
  rt : Int
  rs : Int
  A : Option Addr
  n : Nat
  c : Nat
  A2 : Option Addr
  n2 : Nat
  c2 : Nat
def ColV.cells (r : ColV) : List Value := [.int .i64 r.t, .int .i64 r.s, .int .i64 r.p, .int .i64 r.rt, .int .i64 r.rs, .slice r.A r.n r.c, .slice r.A2 r.n2 r.c2]
def ColV.ok (r : ColV) : Prop := fits r.t ∧ fits r.s
/-- the columns at an address -/
def ColsAt (w : World) (A : Option Addr) (cs : List ColV) : Prop :=
  0 < cs.length → ∃ b off, A = some ⟨b, off, none⟩ ∧ b < w.heap.size ∧ ∀ i (hi : i < cs.length) j v, cs[i].cells[j]? = some v → w.cell? ⟨b, off + i * 7 + j, none⟩ = some v
theorem ColsAt.below {w w' : World} {A : Option Addr} {cs : List ColV} (h : ColsAt w A cs) (hb : Below w.heap.size w w') : ColsAt w' A cs := fun h0 => by
  obtain ⟨b, off, e, hlt, hc⟩ := h h0
  exact ⟨b, off, e, Nat.lt_of_lt_of_le hlt hb.size, fun i hi j v hv => (hb.cell (p := ⟨b, off + i * 7 + j, none⟩) hlt).trans (hc i hi j v hv)⟩
theorem okWide_array {P : Program} {w : World} {r : Reach} {base : Nat} {t e : TypeId} {n : Nat} {v : Value} (ht : P.underlying t = some (.array n e)) (h : Value.okWide P w r base t v) : ∃ cs, v = .agg cs ∧ cs.size = P.cellsOf t := by
  simp only [Value.okWide, ht] at h
  obtain ⟨cs, h1, h2, _⟩ := h
  exact ⟨cs, h1, h2⟩
section
variable {H : Type} {enc : TypeId × Value → H} {W : World} {P : Program}
theorem open_slice_hdr {t e : TypeId} (ht : P.underlying t = some (.slice e)) {fuel : Nat} {cs : List Value} {x : DataW H × List MemPlace} (hf : DataW.trod enc P W 0 (fun _ => true) true fuel t cs = some x) : ∃ A n c, cs = [.slice A n c] := by
  rcases DataW.trod_slice ht hf with ⟨h1, _⟩ | ⟨a, len, cap, elems, rest, n, _, hc1, _⟩
  · exact ⟨none, 0, 0, h1⟩
  · exact ⟨some a, len, cap, hc1⟩
variable {t tc tr ti ts1 ts2 e1 e2 : TypeId} {f0 f1 f2 f3 g0 g1 g2 g3 : Field}
theorem open_route (hr : P.underlying tr = some (.struct #[g0, g1, g2, g3])) (hti : P.underlying ti = some (.int .i64)) (h1 : P.underlying ts1 = some (.slice e1)) (h2 : P.underlying ts2 = some (.slice e2)) (hci : P.cellsOf ti = 1) (hc1 : P.cellsOf ts1 = 1) (hc2 : P.cellsOf ts2 = 1)
    (t0 : g0.type = ti ∧ g0.offset = 0) (t1 : g1.type = ti ∧ g1.offset = 1) (t2 : g2.type = ts1 ∧ g2.offset = 2) (t3 : g3.type = ts2 ∧ g3.offset = 3) (hce : P.cellsOf tr = 4)
    {fuel : Nat} {cs : List Value} {x : DataW H × List MemPlace} (hf : DataW.trod enc P W 0 (fun _ => true) true fuel tr cs = some x) :
    ∃ a b A n c A2 n2 c2, cs = [.int .i64 a, .int .i64 b, .slice A n c, .slice A2 n2 c2] := by
  obtain ⟨xs, n, _, rfl, hl, hlen, hg⟩ := DataW.trod_struct hr hf
  rw [hce] at hl
  match cs, hl with
  | [u0, u1, u2, u3], _ =>
    match xs, hlen with
    | [y0, y1, y2, y3], _ =>
      have q0 := hg 0 g0 rfl
      have q1 := hg 1 g1 rfl
      have q2 := hg 2 g2 rfl
      have q3 := hg 3 g3 rfl
      rw [t0.1, t0.2, hci] at q0
      rw [t1.1, t1.2, hci] at q1
      rw [t2.1, t2.2, hc1] at q2
      rw [t3.1, t3.2, hc2] at q3
      simp only [List.drop_zero, List.take_succ_cons, List.take_zero, List.drop_succ_cons, List.getElem?_cons_zero, List.getElem?_cons_succ] at q0 q1 q2 q3
      obtain ⟨a, e0, _, w0⟩ := DataW.trod_int hti q0
      obtain ⟨b, e1', _, w1⟩ := DataW.trod_int hti q1
      obtain ⟨A, m, c, e2'⟩ := open_slice_hdr h1 q2
      obtain ⟨A2, m2, c2, e3'⟩ := open_slice_hdr h2 q3
      injection e0 with e0 _
      injection e1' with e1' _
      injection e2' with e2' _
      injection e3' with e3' _
      exact ⟨a, b, A, m, c, A2, m2, c2, by rw [e0, e1', e2', e3']⟩
theorem open_col (hk : P.underlying tc = some (.struct #[f0, f1, f2, f3])) (hr : P.underlying tr = some (.struct #[g0, g1, g2, g3])) (hti : P.underlying ti = some (.int .i64)) (h1 : P.underlying ts1 = some (.slice e1)) (h2 : P.underlying ts2 = some (.slice e2)) (hci : P.cellsOf ti = 1) (hc1 : P.cellsOf ts1 = 1) (hc2 : P.cellsOf ts2 = 1)
    (k0 : f0.type = ti ∧ f0.offset = 0) (k1 : f1.type = ti ∧ f1.offset = 1) (k2 : f2.type = ti ∧ f2.offset = 2) (k3 : f3.type = tr ∧ f3.offset = 3)
    (t0 : g0.type = ti ∧ g0.offset = 0) (t1 : g1.type = ti ∧ g1.offset = 1) (t2 : g2.type = ts1 ∧ g2.offset = 2) (t3 : g3.type = ts2 ∧ g3.offset = 3) (hcr : P.cellsOf tr = 4) (hck : P.cellsOf tc = 7)
    {fuel : Nat} {cs : List Value} {x : DataW H × List MemPlace} (hf : DataW.trod enc P W 0 (fun _ => true) true fuel tc cs = some x) :
    ∃ r : ColV, cs = r.cells ∧ r.ok := by
  obtain ⟨xs, n, _, rfl, hl, hlen, hg⟩ := DataW.trod_struct hk hf
  rw [hck] at hl
  match cs, hl with
  | [u0, u1, u2, u3, u4, u5, u6], _ =>
    match xs, hlen with
    | [y0, y1, y2, y3], _ =>
      have q0 := hg 0 f0 rfl
      have q1 := hg 1 f1 rfl
      have q2 := hg 2 f2 rfl
      have q3 := hg 3 f3 rfl
      rw [k0.1, k0.2, hci] at q0
      rw [k1.1, k1.2, hci] at q1
      rw [k2.1, k2.2, hci] at q2
      rw [k3.1, k3.2, hcr] at q3
      simp only [List.drop_zero, List.take_succ_cons, List.take_zero, List.drop_succ_cons, List.getElem?_cons_zero, List.getElem?_cons_succ] at q0 q1 q2 q3
      obtain ⟨a, e0, _, w0⟩ := DataW.trod_int hti q0
      obtain ⟨b, e1', _, w1⟩ := DataW.trod_int hti q1
      obtain ⟨c, e2', _, w2⟩ := DataW.trod_int hti q2
      obtain ⟨rt, rs, A, m, c1, A2, m2, c2, e3'⟩ := open_route hr hti h1 h2 hci hc1 hc2 t0 t1 t2 t3 hcr q3
      injection e0 with e0 _
      injection e1' with e1' _
      injection e2' with e2' _
      injection e3' with a1 e3'
      injection e3' with a2 e3'
      injection e3' with a3 e3'
      injection e3' with a4 _
      exact ⟨⟨a, b, c, rt, rs, A, m, c1, A2, m2, c2⟩, by unfold ColV.cells; rw [e0, e1', e2', a1, a2, a3, a4], wf_fits w0, wf_fits w1⟩
theorem open_cols (ht : P.underlying t = some (.slice tc)) (hk : P.underlying tc = some (.struct #[f0, f1, f2, f3])) (hr : P.underlying tr = some (.struct #[g0, g1, g2, g3])) (hti : P.underlying ti = some (.int .i64)) (h1 : P.underlying ts1 = some (.slice e1)) (h2 : P.underlying ts2 = some (.slice e2)) (hci : P.cellsOf ti = 1) (hc1 : P.cellsOf ts1 = 1) (hc2 : P.cellsOf ts2 = 1)
    (k0 : f0.type = ti ∧ f0.offset = 0) (k1 : f1.type = ti ∧ f1.offset = 1) (k2 : f2.type = ti ∧ f2.offset = 2) (k3 : f3.type = tr ∧ f3.offset = 3)
    (t0 : g0.type = ti ∧ g0.offset = 0) (t1 : g1.type = ti ∧ g1.offset = 1) (t2 : g2.type = ts1 ∧ g2.offset = 2) (t3 : g3.type = ts2 ∧ g3.offset = 3) (hcr : P.cellsOf tr = 4) (hck : P.cellsOf tc = 7)
    {v : Value} {d : DataW H} {p : List MemPlace} (hv : ∃ a len cap, v = .slice a len cap) (h : DataW.Trod enc P W 0 (fun _ => true) true t v d p) :
    ∃ (A : Option Addr) (cs : List ColV) (c : Nat), v = .slice A cs.length c ∧ cs.length ≤ c ∧ c ≤ maxLen ∧ ColsAt W A cs ∧ ∀ r ∈ cs, r.ok := by
  obtain ⟨a0, len0, cap0, rfl⟩ := hv
  obtain ⟨fuel, hf0⟩ := h
  have hf : DataW.trod enc P W 0 (fun _ => true) true fuel t [.slice a0 len0 cap0] = some (d, p) := by simpa [Value.cells] using hf0
  rcases DataW.trod_slice ht hf with ⟨h1', _⟩ | ⟨a, len, cap, elems, rest, n, _, hcc, _, _, hl, hm, hlen, hel, _, _⟩
  · injection h1' with h1' _
    exact ⟨none, [], 0, h1', by simp, by unfold maxLen; omega, fun h => absurd h (by simp), fun r hr => absurd hr (by simp)⟩
  · rw [hck] at hel
    injection hcc with hcc _
    have key : ∀ i, i < len → ∃ r : ColV, (∀ j v, r.cells[j]? = some v → W.cell? ((a.add (i * 7)).add j) = some v) ∧ r.ok := by
      intro i hi
      have h3 := hel i hi
      rw [List.getElem?_eq_getElem (show i < elems.length by omega)] at h3
      obtain ⟨us, hu1, hu2⟩ := Option.bind_eq_some_iff.1 h3
      obtain ⟨_, hu3, hu4⟩ := World.cells?_some hu1
      obtain ⟨r, rfl, hr1⟩ := open_col hk hr hti h1 h2 hci hc1 hc2 k0 k1 k2 k3 t0 t1 t2 t3 hcr hck hu2
      refine ⟨r, fun j v hj => ?_, hr1⟩
      have hjl := (List.getElem?_eq_some_iff.1 hj).1
      rw [hu4 j (by simpa [ColV.cells] using hjl)]; exact hj
    obtain ⟨rs, hrl, hrp⟩ := list_choose len _ key
    refine ⟨some a, rs, cap, by rw [hcc, hrl], by omega, hm, fun h0 => ?_, fun r hr => ?_⟩
    · obtain ⟨b, off, spot⟩ := a
      have h00 := (hrp 0 h0).1 0 _ rfl
      have hspot : spot = none := by simpa [Addr.add] using World.cell?_spot h00
      subst hspot
      rw [add_plain, add_plain] at h00
      refine ⟨b, off, rfl, ?_, fun i hi j v hj => ?_⟩
      · exact lt_of_cell (u := .int .i64 rs[0].t) (o := off + 0 * 7) (j := 0) (by rw [add_plain]; exact h00)
      · have h3 := (hrp i hi).1 j v hj
        rw [add_plain, add_plain] at h3
        exact h3
    · obtain ⟨i, hi, rfl⟩ := List.getElem_of_mem hr
      exact (hrp i hi).2
/-- an array of three int -/
theorem open_int3 (ht : P.underlying t = some (.array 3 ti)) (hti : P.underlying ti = some (.int .i64)) (hci : P.cellsOf ti = 1) (hct : P.cellsOf t = 3) {v : Value} {d : DataW H} {p : List MemPlace}
    (hv : ∃ cs, v = .agg cs ∧ cs.size = P.cellsOf t) (h : DataW.Trod enc P W 0 (fun _ => true) true t v d p) :
    ∃ a b c : Int, v = .agg #[.int .i64 a, .int .i64 b, .int .i64 c] ∧ fits a ∧ fits b ∧ fits c := by
  obtain ⟨cs, rfl, hsz⟩ := hv
  obtain ⟨fuel, hf⟩ := h
  have hf' : DataW.trod enc P W 0 (fun _ => true) true fuel t cs.toList = some (d, p) := hf
  obtain ⟨xs, n, _, _, hl, hlen, hg⟩ := DataW.trod_array ht hf'
  rw [hct] at hl
  rw [hci] at hg
  obtain ⟨l⟩ := cs
  match l, hl with
  | [u0, u1, u2], _ =>
    match xs, hlen with
    | [y0, y1, y2], _ =>
      have q0 := hg 0 (by omega)
      have q1 := hg 1 (by omega)
      have q2 := hg 2 (by omega)
      simp only [Nat.mul_one, List.drop_zero, List.take_succ_cons, List.take_zero, List.drop_succ_cons, List.getElem?_cons_zero, List.getElem?_cons_succ] at q0 q1 q2
      obtain ⟨a, e0, _, w0⟩ := DataW.trod_int hti q0
      obtain ⟨b, e1, _, w1⟩ := DataW.trod_int hti q1
      obtain ⟨c, e2, _, w2⟩ := DataW.trod_int hti q2
      injection e0 with e0 _
      injection e1 with e1 _
      injection e2 with e2 _
      exact ⟨a, b, c, by rw [e0, e1, e2], wf_fits w0, wf_fits w1, wf_fits w2⟩
/-- an array of two uint8 -/
theorem open_bytes2 (ht : P.underlying t = some (.array 2 ti)) (hti : P.underlying ti = some (.int .u8)) (hci : P.cellsOf ti = 1) (hct : P.cellsOf t = 2) {v : Value} {d : DataW H} {p : List MemPlace}
    (hv : ∃ cs, v = .agg cs ∧ cs.size = P.cellsOf t) (h : DataW.Trod enc P W 0 (fun _ => true) true t v d p) :
    ∃ a b : Nat, v = .agg #[.int .u8 a, .int .u8 b] ∧ a < 256 ∧ b < 256 := by
  obtain ⟨cs, rfl, hsz⟩ := hv
  obtain ⟨fuel, hf⟩ := h
  have hf' : DataW.trod enc P W 0 (fun _ => true) true fuel t cs.toList = some (d, p) := hf
  obtain ⟨xs, n, _, _, hl, hlen, hg⟩ := DataW.trod_array ht hf'
  rw [hct] at hl
  rw [hci] at hg
  obtain ⟨l⟩ := cs
  match l, hl with
  | [u0, u1], _ =>
    match xs, hlen with
    | [y0, y1], _ =>
      have q0 := hg 0 (by omega)
      have q1 := hg 1 (by omega)
      simp only [Nat.mul_one, List.drop_zero, List.take_succ_cons, List.take_zero, List.drop_succ_cons, List.getElem?_cons_zero, List.getElem?_cons_succ] at q0 q1
      obtain ⟨a, e0, _, w0⟩ := DataW.trod_int hti q0
      obtain ⟨b, e1, _, w1⟩ := DataW.trod_int hti q1
      injection e0 with e0 _
      injection e1 with e1 _
      have b0 : IntKind.u8.min ≤ a ∧ a ≤ IntKind.u8.max := by simpa [Lit.wf] using w0
      have b1 : IntKind.u8.min ≤ b ∧ b ≤ IntKind.u8.max := by simpa [Lit.wf] using w1
      have c0 : (0 : Int) ≤ a ∧ a ≤ 255 := b0
      have c1 : (0 : Int) ≤ b ∧ b ≤ 255 := b1
      exact ⟨a.toNat, b.toNat, by rw [e0, e1, Int.toNat_of_nonneg c0.1, Int.toNat_of_nonneg c1.1], by omega, by omega⟩
end
end Go.Proofs.YtblefdgfmjegiaaGreatDoor
