/- Fractions whose digits above and below are counted apart: quotients, products, differences do not err: plain. -/
import Derived.Test.YtmppmdmekomjbaaGreatDoorG14
namespace Go.Proofs.YtmppmdmekomjbaaGreatDoor
namespace Num
set_option linter.unusedVariables false

/-- a text is that of a fraction of at most n digits above and d below -/
def FrD (n d : Nat) (s : Str) : Prop := ∃ (p : Int) (q : Nat), 0 < q ∧ dl p ≤ n ∧ dl (q : Int) ≤ d ∧ s = lowS p q
theorem FrD.mono {n d n' d' : Nat} {s : Str} (h : FrD n d s) (h1 : n ≤ n') (h2 : d ≤ d') : FrD n' d' s := by
  obtain ⟨p, q, hq, a, b, e⟩ := h; exact ⟨p, q, hq, by omega, by omega, e⟩
theorem FrD.right {n d : Nat} {s : Str} (h : FrD n d s) (h1 : n ≤ 4096) (h2 : d ≤ 4096) : rightQ s = true := by
  obtain ⟨p, q, hq, a, b, rfl⟩ := h; exact right_low hq (by omega) (by omega)
/-- the parts of the text itself are no longer -/
theorem FrD.parts {n d : Nat} {s : Str} (h : FrD n d s) : dl (qn s) ≤ n ∧ dl ((qd s : Nat) : Int) ≤ d ∧ 0 < qd s := by
  obtain ⟨p, q, hq, a, b, rfl⟩ := h
  obtain ⟨g, hg, e1, e2, h3, h4, h5, h6, h7⟩ := low_read p hq
  exact ⟨Nat.le_trans (dl_mono h6) a, Nat.le_trans (dl_mono (by rw [Int.natAbs_natCast, Int.natAbs_natCast]; exact h7)) b, h3⟩
theorem frD_of {s : Str} (h : rightQ s = true) : FrD (dl (qn s)) (dl ((qd s : Nat) : Int)) s := ⟨qn s, qd s, (fr_right h).2.2.1, Nat.le_refl _, Nat.le_refl _, (fr_right h).1⟩
/-- a text's digits above and below together -/
theorem text_digits {s : Str} (h : rightQ s = true) : dl (qn s) + dl ((qd s : Nat) : Int) ≤ s.length + 1 := by
  obtain ⟨n, d, h1, h2, h3, h4, rfl⟩ := rightQ_out h
  rw [qn_ratS, qd_ratS, dl_nat]
  have hm : dl n ≤ (decI n).length := by
    have := congrArg List.length (mag_decI n); have h9 := mag_length (decI n); unfold dl; omega
  unfold ratS
  split
  · rename_i h; subst h; rw [dec_one]; simp; omega
  · rw [List.length_append, List.length_cons]; omega
section
variable {n d n' d' : Nat} {a b : Str} (ha : FrD n d a) (hb : FrD n' d' b)
include ha hb
theorem FrD.mul (h1 : n + n' ≤ 4096) (h2 : d + d' ≤ 4096) : mulQE a b = 0 ∧ FrD (n + n') (d + d') (mulQS a b) ∧ rq (mulQS a b) = rq a * rq b := by
  have ra := ha.right (by omega) (by omega)
  have rb := hb.right (by omega) (by omega)
  have pa := ha.parts
  have pb := hb.parts
  have m1 := dl_mul (qn a) (qn b)
  have m2 := dl_mul ((qd a : Nat) : Int) ((qd b : Nat) : Int)
  have e : mulQE a b = 0 := by
    unfold mulQE
    rw [if_pos (errQ_zero.2 ⟨ra, rb⟩), if_pos ⟨by omega, by omega⟩]
  have hf := mulQ_fr e
  exact ⟨e, ⟨_, _, hf.2.2.1.1, by omega, by rw [Int.natCast_mul]; omega, hf.2.2.2⟩, (rq_mul e).2⟩
theorem FrD.sub (h1 : max (n + d') (n' + d) + 1 ≤ 4096) (h2 : d + d' ≤ 4096) : subQE a b = 0 ∧ FrD (max (n + d') (n' + d) + 1) (d + d') (subQS a b) ∧ rq (subQS a b) = rq a - rq b := by
  have ra := ha.right (by omega) (by omega)
  have rb := hb.right (by omega) (by omega)
  have pa := ha.parts
  have pb := hb.parts
  have m1 := dl_mul (qn a) ((qd b : Nat) : Int)
  have m2 := dl_mul (qn b) ((qd a : Nat) : Int)
  have m3 := dl_mul ((qd a : Nat) : Int) ((qd b : Nat) : Int)
  have m4 := dl_sub (qn a * ((qd b : Nat) : Int)) (qn b * ((qd a : Nat) : Int))
  have e : subQE a b = 0 := by
    unfold subQE
    rw [if_pos (errQ_zero.2 ⟨ra, rb⟩)]
    refine if_pos ?_
    unfold sumOK
    exact ⟨by omega, by omega, by omega, by omega⟩
  have hS : subQS a b = lowS (qn a * qd b - qn b * qd a) (qd a * qd b) := by unfold subQS; rw [if_pos e]
  have hp := Nat.mul_pos pa.2.2 pb.2.2
  refine ⟨e, ⟨_, _, hp, by omega, by rw [Int.natCast_mul]; omega, hS⟩, ?_⟩
  rw [hS, rq_low hp]
  unfold rq
  rw [Rat.intCast_sub, Rat.intCast_mul, Rat.intCast_mul, Int.natCast_mul, Rat.intCast_mul]
  have z1 := natne pa.2.2
  have z2 := natne pb.2.2
  grind
theorem FrD.add (h1 : max (n + d') (n' + d) + 1 ≤ 4096) (h2 : d + d' ≤ 4096) : addQE a b = 0 ∧ FrD (max (n + d') (n' + d) + 1) (d + d') (addQS a b) ∧ rq (addQS a b) = rq a + rq b := by
  have ra := ha.right (by omega) (by omega)
  have rb := hb.right (by omega) (by omega)
  have pa := ha.parts
  have pb := hb.parts
  have m1 := dl_mul (qn a) ((qd b : Nat) : Int)
  have m2 := dl_mul (qn b) ((qd a : Nat) : Int)
  have m3 := dl_mul ((qd a : Nat) : Int) ((qd b : Nat) : Int)
  have m4 := dl_add (qn a * ((qd b : Nat) : Int)) (qn b * ((qd a : Nat) : Int))
  have e : addQE a b = 0 := by
    unfold addQE
    rw [if_pos (errQ_zero.2 ⟨ra, rb⟩)]
    refine if_pos ?_
    unfold sumOK
    exact ⟨by omega, by omega, by omega, by omega⟩
  have hf := addQ_fr e
  exact ⟨e, ⟨_, _, hf.2.2.1.1, by omega, by rw [Int.natCast_mul]; omega, hf.2.2.2⟩, (rq_add e).2⟩
theorem FrD.div (h0 : rq b ≠ 0) (h1 : n + d' ≤ 4096) (h2 : d + n' ≤ 4096) (h3 : n ≤ 4096) (h4 : d ≤ 4096) (h5 : n' ≤ 4096) (h6 : d' ≤ 4096) : quoQE a b = 0 ∧ FrD (n + d') (d + n') (quoQS a b) ∧ rq (quoQS a b) = rq a / rq b := by
  have ra := ha.right h3 h4
  have rb := hb.right h5 h6
  have pa := ha.parts
  have pb := hb.parts
  have hz : qn b ≠ 0 := by
    intro hz; apply h0; unfold rq; rw [hz]
    have : ((0 : Int) : Rat) = 0 := rfl
    rw [this]; grind
  have m1 := dl_mul (qn a) ((qd b : Nat) : Int)
  have m2 := dl_mul ((qd a : Nat) : Int) (qn b)
  have e : quoQE a b = 0 := by
    unfold quoQE
    rw [if_pos (errQ_zero.2 ⟨ra, rb⟩), if_neg hz]
    exact if_pos ⟨by omega, by omega⟩
  have hS : quoQS a b = quoS (qn a * qd b) ((qd a : Int) * qn b) := by unfold quoQS; rw [if_pos e]
  have hne : ((qd a : Nat) : Int) * qn b ≠ 0 := Int.mul_ne_zero (by omega) hz
  obtain ⟨p, q, hq, e1, e2, e3, e4⟩ := quoS_neg (x := qn a * qd b) hne
  refine ⟨e, ⟨p, q, hq, by omega, by omega, by rw [hS, e1]⟩, ?_⟩
  rw [hS, e1, rq_low hq]
  unfold rq
  have z1 := natne pa.2.2
  have z2 := natne pb.2.2
  have z3 := natne hq
  have z4 : ((qn b : Int) : Rat) ≠ 0 := fun h => hz (Rat.intCast_inj.1 h)
  have e5 : ((p * ((qd a : Nat) * qn b : Int) : Int) : Rat) = ((qn a * (qd b : Nat) * (q : Nat) : Int) : Rat) := congrArg _ e2
  rw [Rat.intCast_mul, Rat.intCast_mul, Rat.intCast_mul, Rat.intCast_mul] at e5
  grind
end
end Num
end Go.Proofs.YtmppmdmekomjbaaGreatDoor
/- The elimination of basis on lists of texts: no step errs while digits last; what is left out takes off 0: plain. -/
namespace Go.Proofs.YtmppmdmekomjbaaGreatDoor
namespace Num
set_option linter.unusedVariables false

theorem rq_zero : rq [48] = 0 := by
  have := rq_int 0
  rw [decI_zero] at this
  rw [this]; rfl
theorem rq_zero_iff {s : Str} (h : rightQ s = true) : rq s = 0 ↔ s = [48] := by
  constructor
  · intro e
    exact rq_inj h (by decide +kernel) (e.trans rq_zero.symm)
  · intro e; rw [e]; exact rq_zero
/-- what is left out takes off nothing -/
theorem take_zero {n d : Nat} {x f a : Str} (hx : FrD n d x) (hf : FrD n d f) (ha : FrD (n + d) (d + n) a) (h1 : 2 * n + 2 * d + 1 ≤ 4096) (h2 : 3 * d + n ≤ 4096) (h : f = [48] ∨ a = [48]) : subQS x (mulQS f a) = x := by
  have hm := hf.mul ha (by omega) (by omega)
  have hs := hx.sub hm.2.1 (by omega) (by omega)
  refine rq_inj (hs.2.1.right (by omega) (by omega)) (hx.right (by omega) (by omega)) ?_
  rw [hs.2.2, hm.2.2]
  rcases h with h | h
  · rw [h, rq_zero]; grind
  · rw [h, rq_zero]; grind
/-- a row divided by a number -/
def scaleR (r : List Str) (p : Str) : List Str := r.map fun a => quoQS a p
/-- a row less a multiple of another -/
def lessR (r first : List Str) (f : Str) : List Str := List.zipWith (fun x a => subQS x (mulQS f a)) r first
def cellM (m : List (List Str)) (i k : Nat) : Str := (m.getD i []).getD k []
/-- the column is cleared but for the pivot of the row, which becomes 1 -/
def clearM (m : List (List Str)) (row col : Nat) : List (List Str) :=
  let first := scaleR (m.getD row []) (cellM m row col)
  (List.range m.length).map fun i => if i = row then first else lessR (m.getD i []) first (cellM m i col)
/-- two rows change places -/
def swapM (m : List (List Str)) (i j : Nat) : List (List Str) := (m.set i (m.getD j [])).set j (m.getD i [])
/-- the first row from a row on that is not 0 in a column; the number of rows if there is none -/
def findM (m : List (List Str)) (row col : Nat) : Nat := row + (m.drop row).findIdx (fun r => decide (r.getD col [] ≠ [48]))
/-- one column -/
def stepM (st : List (List Str) × List Nat) (col : Nat) : List (List Str) × List Nat :=
  let row := st.2.length
  let at_ := findM st.1 row col
  if at_ = st.1.length then st else (clearM (swapM st.1 row at_) row col, st.2 ++ [col])
def reduceM (m : List (List Str)) : List (List Str) × List Nat := (List.range (m.getD 0 []).length).foldl stepM (m, [])
/-- all rows have k numbers of at most n digits above and d below -/
def Mat (n d k : Nat) (m : List (List Str)) : Prop := ∀ r ∈ m, r.length = k ∧ ∀ a ∈ r, FrD n d a
theorem Mat.mono {n d n' d' k : Nat} {m : List (List Str)} (h : Mat n d k m) (h1 : n ≤ n') (h2 : d ≤ d') : Mat n' d' k m := fun r hr => ⟨(h r hr).1, fun a ha => ((h r hr).2 a ha).mono h1 h2⟩
theorem Mat.row {n d k : Nat} {m : List (List Str)} (h : Mat n d k m) {i : Nat} (hi : i < m.length) : (m.getD i []).length = k ∧ ∀ a ∈ m.getD i [], FrD n d a := by
  rw [List.getD_eq_getElem?_getD, List.getElem?_eq_getElem hi]
  exact h _ (List.getElem_mem hi)
theorem Mat.cell {n d k : Nat} {m : List (List Str)} (h : Mat n d k m) {i c : Nat} (hi : i < m.length) (hc : c < k) : FrD n d (cellM m i c) := by
  have hr := h.row hi
  unfold cellM
  generalize m.getD i [] = r at *
  rw [List.getD_eq_getElem?_getD, List.getElem?_eq_getElem (by omega)]
  exact hr.2 _ (List.getElem_mem _)
theorem scale_mat {n d k : Nat} {r : List Str} {p : Str} (hr : r.length = k ∧ ∀ a ∈ r, FrD n d a) (hp : FrD n d p) (h0 : rq p ≠ 0) (h1 : n + d ≤ 4096) : (scaleR r p).length = k ∧ ∀ a ∈ scaleR r p, FrD (n + d) (d + n) a := by
  unfold scaleR
  refine ⟨by rw [List.length_map]; exact hr.1, fun a ha => ?_⟩
  obtain ⟨b, hb, rfl⟩ := List.mem_map.1 ha
  exact ((hr.2 b hb).div hp h0 (by omega) (by omega) (by omega) (by omega) (by omega) (by omega)).2.1
theorem less_mat {n d k : Nat} {r first : List Str} {f : Str} (hr : r.length = k ∧ ∀ a ∈ r, FrD n d a) (hf : first.length = k ∧ ∀ a ∈ first, FrD (n + d) (d + n) a) (hp : FrD n d f) (h1 : 2 * n + 2 * d + 1 ≤ 4096) (h2 : 3 * d + n ≤ 4096) :
    (lessR r first f).length = k ∧ ∀ a ∈ lessR r first f, FrD (2 * n + 2 * d + 1) (3 * d + n) a := by
  unfold lessR
  refine ⟨by rw [List.length_zipWith]; omega, fun a ha => ?_⟩
  obtain ⟨i, hi, rfl⟩ := List.getElem_of_mem ha
  rw [List.length_zipWith] at hi
  rw [List.getElem_zipWith]
  have hx := hr.2 r[i] (List.getElem_mem (by omega))
  have hm := hp.mul (hf.2 first[i] (List.getElem_mem (by omega))) (by omega) (by omega)
  exact (hx.sub hm.2.1 (by omega) (by omega)).2.1.mono (by omega) (by omega)
theorem clear_mat {n d k row col : Nat} {m : List (List Str)} (h : Mat n d k m) (hr : row < m.length) (hc : col < k) (h0 : cellM m row col ≠ [48]) (h1 : 2 * n + 2 * d + 1 ≤ 4096) (h2 : 3 * d + n ≤ 4096) :
    (clearM m row col).length = m.length ∧ Mat (2 * n + 2 * d + 1) (3 * d + n) k (clearM m row col) := by
  have hp := h.cell hr hc
  have hz : rq (cellM m row col) ≠ 0 := fun e => h0 ((rq_zero_iff (hp.right (by omega) (by omega))).1 e)
  have hs := scale_mat (h.row hr) hp hz (by omega)
  unfold clearM
  refine ⟨by rw [List.length_map, List.length_range], fun r hrm => ?_⟩
  obtain ⟨i, hi, rfl⟩ := List.mem_map.1 hrm
  have hi2 := List.mem_range.1 hi
  split
  · exact ⟨hs.1, fun a ha => (hs.2 a ha).mono (by omega) (by omega)⟩
  · exact less_mat (h.row hi2) hs (h.cell hi2 hc) h1 h2
theorem swap_mat {n d k i j : Nat} {m : List (List Str)} (h : Mat n d k m) (hi : i < m.length) (hj : j < m.length) : (swapM m i j).length = m.length ∧ Mat n d k (swapM m i j) := by
  unfold swapM
  refine ⟨by rw [List.length_set, List.length_set], fun r hr => ?_⟩
  rcases List.mem_or_eq_of_mem_set hr with h1 | h1
  · rcases List.mem_or_eq_of_mem_set h1 with h2 | h2
    · exact h r h2
    · rw [h2]; exact h.row hj
  · rw [h1]; exact h.row hi
end Num
end Go.Proofs.YtmppmdmekomjbaaGreatDoor
/- After two pivots a number is the quotient of two determinants: plain. -/
namespace Go.Proofs.YtmppmdmekomjbaaGreatDoor
namespace Num
set_option linter.unusedVariables false

theorem s1 (F A P R1 R3 : Rat) (h1 : R1 ≠ 0) (h3 : R3 ≠ 0) (hP : P ≠ 0) : (F / R3) * ((A / R1) / (P / R1)) = (F * A) / (R3 * P) := by grind
theorem s2 (X F A P R3 : Rat) (h3 : R3 ≠ 0) (hP : P ≠ 0) : X / R3 - (F * A) / (R3 * P) = (X * P - F * A) / (R3 * P) := by grind
theorem s3 (u v D P R2 R3 : Rat) (h2 : R2 ≠ 0) (h3 : R3 ≠ 0) (hP : P ≠ 0) (hD : D ≠ 0) : (u / (R3 * P)) * ((v / (R2 * P)) / (D / (R2 * P))) = (u * v) / (R3 * P * D) := by grind
theorem s4 (X P F A G B Y H Z R3 : Rat) (h3 : R3 ≠ 0) (hP : P ≠ 0) (hD : Z * P - H * B ≠ 0) :
    (X * P - F * A) / (R3 * P) - ((G * P - F * B) * (Y * P - H * A)) / (R3 * P * (Z * P - H * B)) = (P * (Z * X - Y * G) - B * (H * X - Y * F) + A * (H * G - Z * F)) / (R3 * (Z * P - H * B)) := by
  have e : (X * P - F * A) * (Z * P - H * B) - (G * P - F * B) * (Y * P - H * A) = P * (P * (Z * X - Y * G) - B * (H * X - Y * F) + A * (H * G - Z * F)) := by grind
  generalize hd : Z * P - H * B = D at *
  generalize hn : P * (Z * X - Y * G) - B * (H * X - Y * F) + A * (H * G - Z * F) = N at *
  generalize X * P - F * A = U at *
  generalize (G * P - F * B) * (Y * P - H * A) = W at *
  grind
theorem s5 (F P R1 R3 : Rat) (h1 : R1 ≠ 0) (h3 : R3 ≠ 0) (hP : P / R1 ≠ 0) : P ≠ 0 := by grind
theorem s6 (a b c R1 R2 R3 x y z : Rat) (h1 : R1 ≠ 0) (h2 : R2 ≠ 0) (h3 : R3 ≠ 0) : x / R1 = (x * (R2 * R3)) / (R1 * R2 * R3) ∧ y / R2 = (y * (R1 * R3)) / (R1 * R2 * R3) ∧ z / R3 = (z * (R1 * R2)) / (R1 * R2 * R3) := by
  refine ⟨?_, ?_, ?_⟩ <;> grind
theorem FrD.value {n d : Nat} {s : Str} (hs : rightQ s = true) {P Q : Int} (hQ : Q ≠ 0) (h1 : dl P ≤ n) (h2 : dl Q ≤ d) (hn : n ≤ 4096) (hd : d ≤ 4096) (hv : rq s = (P : Rat) / (Q : Rat)) : FrD n d s := by
  obtain ⟨p, q, hq, e1, e2, e3, e4⟩ := quoS_neg (x := P) hQ
  refine ⟨p, q, hq, by omega, by omega, rq_inj hs (right_low hq (by omega) (by omega)) ?_⟩
  rw [hv, rq_low hq]
  have z1 := natne hq
  have z2 : (Q : Rat) ≠ 0 := fun h => hQ (Rat.intCast_inj.1 h)
  have e5 : ((p * Q : Int) : Rat) = ((P * (q : Nat) : Int) : Rat) := congrArg _ e2
  rw [Rat.intCast_mul, Rat.intCast_mul] at e5
  grind
/-- three numbers over one denominator -/
theorem row3 {n d : Nat} {a b c : Str} (ha : FrD n d a) (hb : FrD n d b) (hc : FrD n d c) : ∃ (A B C R : Int), R ≠ 0 ∧ dl R ≤ 3 * d ∧ dl A ≤ n + 2 * d ∧ dl B ≤ n + 2 * d ∧ dl C ≤ n + 2 * d ∧ rq a = (A : Rat) / (R : Rat) ∧ rq b = (B : Rat) / (R : Rat) ∧ rq c = (C : Rat) / (R : Rat) := by
  obtain ⟨p1, q1, k1, m1, m2, rfl⟩ := ha
  obtain ⟨p2, q2, k2, m3, m4, rfl⟩ := hb
  obtain ⟨p3, q3, k3, m5, m6, rfl⟩ := hc
  have h := s6 0 0 0 _ _ _ (p1 : Rat) (p2 : Rat) (p3 : Rat) (natne k1) (natne k2) (natne k3)
  have w1 := dl_mul ((q1 : Nat) : Int) ((q2 : Nat) : Int)
  have w2 := dl_mul (((q1 : Nat) : Int) * (q2 : Nat)) ((q3 : Nat) : Int)
  have w3 := dl_mul p1 (((q2 : Nat) : Int) * (q3 : Nat))
  have w4 := dl_mul p2 (((q1 : Nat) : Int) * (q3 : Nat))
  have w5 := dl_mul p3 (((q1 : Nat) : Int) * (q2 : Nat))
  have w6 := dl_mul ((q2 : Nat) : Int) ((q3 : Nat) : Int)
  have w7 := dl_mul ((q1 : Nat) : Int) ((q3 : Nat) : Int)
  refine ⟨p1 * (q2 * q3), p2 * (q1 * q3), p3 * (q1 * q2), q1 * q2 * q3, Int.mul_ne_zero (Int.mul_ne_zero (by omega) (by omega)) (by omega), by omega, by omega, by omega, by omega, ?_, ?_, ?_⟩
  · rw [rq_low k1, h.1]; simp only [Rat.intCast_mul]
  · rw [rq_low k2, h.2.1]; simp only [Rat.intCast_mul]
  · rw [rq_low k3, h.2.2]; simp only [Rat.intCast_mul]
/-- a number after two pivots -/
theorem two_steps {n d : Nat} {p b a h z y f g x s : Str} (ep : FrD n d p) (eb : FrD n d b) (ea : FrD n d a) (eh : FrD n d h) (ez : FrD n d z) (ey : FrD n d y) (ef : FrD n d f) (eg : FrD n d g) (ex : FrD n d x)
    (hp : rq p ≠ 0) (hD : rq z - rq h * (rq b / rq p) ≠ 0) (hs : rightQ s = true) (hk1 : 3 * (n + 2 * d) + 6 ≤ 4096) (hk2 : 3 * d + 2 * (n + 2 * d) + 1 ≤ 4096)
    (hv : rq s = (rq x - rq f * (rq a / rq p)) - (rq g - rq f * (rq b / rq p)) * ((rq y - rq h * (rq a / rq p)) / (rq z - rq h * (rq b / rq p)))) :
    FrD (3 * (n + 2 * d) + 6) (3 * d + 2 * (n + 2 * d) + 1) s := by
  obtain ⟨P, B, A, R1, hR1, l1, lP, lB, lA, vp, vb, va⟩ := row3 ep eb ea
  obtain ⟨H, Z, Y, R2, hR2, l2, lH, lZ, lY, vh, vz, vy⟩ := row3 eh ez ey
  obtain ⟨F, G, X, R3, hR3, l3, lF, lG, lX, vf, vg, vx⟩ := row3 ef eg ex
  have c1 : (R1 : Rat) ≠ 0 := fun h => hR1 (Rat.intCast_inj.1 h)
  have c2 : (R2 : Rat) ≠ 0 := fun h => hR2 (Rat.intCast_inj.1 h)
  have c3 : (R3 : Rat) ≠ 0 := fun h => hR3 (Rat.intCast_inj.1 h)
  rw [vp, vb, va, vh, vz, vy, vf, vg, vx] at hv
  rw [vp] at hp
  rw [vz, vh, vb, vp] at hD
  have cP := s5 0 _ _ _ c1 c3 hp
  rw [s1 _ _ _ _ _ c1 c2 cP, s2 _ _ _ _ _ c2 cP] at hD
  have cD : (Z : Rat) * P - (H : Rat) * B ≠ 0 := by intro e; apply hD; rw [e]; grind
  rw [s1 _ _ _ _ _ c1 c3 cP, s1 _ _ _ _ _ c1 c3 cP, s1 _ _ _ _ _ c1 c2 cP, s1 _ _ _ _ _ c1 c2 cP, s2 _ _ _ _ _ c3 cP, s2 _ _ _ _ _ c3 cP, s2 _ _ _ _ _ c2 cP, s2 _ _ _ _ _ c2 cP, s3 _ _ _ _ _ _ c2 c3 cP cD, s4 _ _ _ _ _ _ _ _ _ _ c3 cP cD] at hv
  have m1 := dl_mul Z X
  have m2 := dl_mul Y G
  have m3 := dl_sub (Z * X) (Y * G)
  have m4 := dl_mul H X
  have m5 := dl_mul Y F
  have m6 := dl_sub (H * X) (Y * F)
  have m7 := dl_mul H G
  have m8 := dl_mul Z F
  have m9 := dl_sub (H * G) (Z * F)
  have n1 := dl_mul P (Z * X - Y * G)
  have n2 := dl_mul B (H * X - Y * F)
  have n3 := dl_mul A (H * G - Z * F)
  have n4 := dl_sub (P * (Z * X - Y * G)) (B * (H * X - Y * F))
  have n5 := dl_add (P * (Z * X - Y * G) - B * (H * X - Y * F)) (A * (H * G - Z * F))
  have o1 := dl_mul Z P
  have o2 := dl_mul H B
  have o3 := dl_sub (Z * P) (H * B)
  have o4 := dl_mul R3 (Z * P - H * B)
  have hQ : R3 * (Z * P - H * B) ≠ 0 := by
    refine Int.mul_ne_zero hR3 fun e => cD ?_
    have := congrArg (fun t : Int => (t : Rat)) e
    simp only [Rat.intCast_sub, Rat.intCast_mul] at this
    exact this
  refine FrD.value (P := P * (Z * X - Y * G) - B * (H * X - Y * F) + A * (H * G - Z * F)) hs hQ (by omega) (by omega) hk1 hk2 ?_
  rw [hv]
  simp only [Rat.intCast_sub, Rat.intCast_add, Rat.intCast_mul]
end Num
end Go.Proofs.YtmppmdmekomjbaaGreatDoor
/- Sizes after a pivot, for the rows that are pivots: plain. -/
namespace Go.Proofs.YtmppmdmekomjbaaGreatDoor
namespace Num
set_option linter.unusedVariables false
/-- the values of a cleared row's number -/
theorem less_value {n d : Nat} {x f a p : Str} (hx : FrD n d x) (hf : FrD n d f) (ha : FrD n d a) (hp : FrD n d p) (h0 : rq p ≠ 0) (h1 : 2 * n + 2 * d + 1 ≤ 4096) (h2 : 3 * d + n ≤ 4096) :
    quoQE a p = 0 ∧ mulQE f (quoQS a p) = 0 ∧ subQE x (mulQS f (quoQS a p)) = 0 ∧ FrD (2 * n + 2 * d + 1) (3 * d + n) (subQS x (mulQS f (quoQS a p))) ∧ rq (subQS x (mulQS f (quoQS a p))) = rq x - rq f * (rq a / rq p) := by
  have hq := ha.div hp h0 (by omega) (by omega) (by omega) (by omega) (by omega) (by omega)
  have hm := hf.mul hq.2.1 (by omega) (by omega)
  have hs := hx.sub hm.2.1 (by omega) (by omega)
  exact ⟨hq.1, hm.1, hs.1, hs.2.1.mono (by omega) (by omega), by rw [hs.2.2, hm.2.2, hq.2.2]⟩
/-- a number divided by itself -/
theorem quo_self {n d : Nat} {a : Str} (ha : FrD n d a) (h0 : rq a ≠ 0) (h1 : n + d ≤ 4096) : quoQS a a = [49] := by
  have hq := ha.div ha h0 (by omega) (by omega) (by omega) (by omega) (by omega) (by omega)
  refine rq_inj (hq.2.1.right (by omega) (by omega)) (by decide +kernel) ?_
  have h49 : rq [49] = 1 := by
    have h2 : decI 1 = [49] := by decide +kernel
    have := rq_int 1
    rw [h2] at this
    rw [this]; rfl
  rw [hq.2.2, h49]; grind
/-- the pivot's column is cleared -/
theorem less_self {n d : Nat} {f : Str} (hf : FrD n d f) (h1 : 2 * n + 2 * d + 2 ≤ 4096) (h2 : d + 1 + d ≤ 4096) : subQS f (mulQS f [49]) = [48] := by
  have h49 : FrD 1 1 [49] := ⟨1, 1, by omega, by decide +kernel, by decide +kernel, by decide +kernel⟩
  have hm := hf.mul h49 (by omega) (by omega)
  have hs := hf.sub hm.2.1 (by omega) (by omega)
  refine (rq_zero_iff (hs.2.1.right (by omega) (by omega))).1 ?_
  have h1v : rq [49] = 1 := by
    have h2 : decI 1 = [49] := by decide +kernel
    have := rq_int 1
    rw [h2] at this
    rw [this]; rfl
  rw [hs.2.2, hm.2.2, h1v]; grind
end Num
end Go.Proofs.YtmppmdmekomjbaaGreatDoor
/- Where the elimination finds its pivot, and what a step leaves: plain. -/
namespace Go.Proofs.YtmppmdmekomjbaaGreatDoor
namespace Num
set_option linter.unusedVariables false
theorem findM_le (m : List (List Str)) (row col : Nat) (h : row ≤ m.length) : row ≤ findM m row col ∧ findM m row col ≤ m.length := by
  unfold findM
  have := List.findIdx_le_length (p := fun r : List Str => decide (r.getD col [] ≠ [48])) (xs := m.drop row)
  rw [List.length_drop] at this
  omega
theorem findM_hit {m : List (List Str)} {row col : Nat} (h : findM m row col < m.length) : cellM m (findM m row col) col ≠ [48] := by
  unfold findM at *
  have hl : (m.drop row).findIdx (fun r : List Str => decide (r.getD col [] ≠ [48])) < (m.drop row).length := by rw [List.length_drop]; omega
  have := List.findIdx_getElem (w := hl)
  rw [decide_eq_true_eq, List.getElem_drop] at this
  unfold cellM
  rw [List.getD_eq_getElem?_getD (l := m), List.getElem?_eq_getElem h]
  exact this
theorem findM_miss {m : List (List Str)} {row col i : Nat} (h1 : row ≤ i) (h2 : i < findM m row col) (h3 : i < m.length) : cellM m i col = [48] := by
  unfold findM at h2
  have hl : i - row < (m.drop row).findIdx (fun r : List Str => decide (r.getD col [] ≠ [48])) := by omega
  have := List.not_of_lt_findIdx hl
  rw [List.getElem_drop] at this
  have e : row + (i - row) = i := by omega
  unfold cellM
  rw [List.getD_eq_getElem?_getD (l := m), List.getElem?_eq_getElem h3]
  simp only [e] at this
  simpa using this
theorem stepM_len (st : List (List Str) × List Nat) (col : Nat) : (stepM st col).1.length = st.1.length := by
  unfold stepM
  simp only
  split
  · rfl
  · unfold clearM swapM
    simp
end Num
end Go.Proofs.YtmppmdmekomjbaaGreatDoor
/- Pivots on a matrix of fractions keep its kernel, and their numbers stay short: plain. -/
namespace Go.Proofs.YtmppmdmekomjbaaGreatDoor
namespace Num
set_option linter.unusedVariables false

/-- the sum of the first n -/
def sumR (f : Nat → Rat) : Nat → Rat
  | 0 => 0
  | n + 1 => sumR f n + f n
theorem sumR_congr {f g : Nat → Rat} (n : Nat) (h : ∀ j, j < n → f j = g j) : sumR f n = sumR g n := by
  induction n with
  | zero => rfl
  | succ n ih => unfold sumR; rw [ih (fun j hj => h j (by omega)), h n (by omega)]
theorem sumR_add (f g : Nat → Rat) (n : Nat) : sumR (fun j => f j + g j) n = sumR f n + sumR g n := by
  induction n with
  | zero => unfold sumR; grind
  | succ n ih => unfold sumR; rw [ih]; grind
theorem sumR_mul (c : Rat) (f : Nat → Rat) (n : Nat) : sumR (fun j => c * f j) n = c * sumR f n := by
  induction n with
  | zero => unfold sumR; grind
  | succ n ih => unfold sumR; rw [ih]; grind
theorem sumR_zero {f : Nat → Rat} (n : Nat) (h : ∀ j, j < n → f j = 0) : sumR f n = 0 := by
  induction n with
  | zero => rfl
  | succ n ih => unfold sumR; rw [ih (fun j hj => h j (by omega)), h n (by omega)]; grind
theorem sumR_one {f : Nat → Rat} {n k : Nat} (hk : k < n) (h : ∀ j, j < n → j ≠ k → f j = 0) : sumR f n = f k := by
  induction n with
  | zero => omega
  | succ n ih =>
    unfold sumR
    by_cases e : k = n
    · subst e; rw [sumR_zero k fun j hj => h j (by omega) (by omega)]; grind
    · rw [ih (by omega) (fun j hj => h j (by omega)), h n (by omega) (fun h => e h.symm)]; grind
theorem sumR_two {f : Nat → Rat} {n k l : Nat} (hk : k < n) (hl : l < n) (hkl : k ≠ l) (h : ∀ j, j < n → j ≠ k → j ≠ l → f j = 0) : sumR f n = f k + f l := by
  induction n with
  | zero => omega
  | succ n ih =>
    unfold sumR
    by_cases e : k = n
    · subst e
      rw [sumR_one (k := l) (by omega) fun j hj h2 => h j (by omega) (by omega) h2]; grind
    · by_cases e2 : l = n
      · subst e2
        rw [sumR_one (k := k) (by omega) fun j hj h2 => h j (by omega) h2 (by omega)]
      · rw [ih (by omega) (by omega) (fun j hj => h j (by omega)), h n (by omega) (fun h => e h.symm) (fun h => e2 h.symm)]; grind
abbrev Mx := Nat → Nat → Rat
def kron (i j : Nat) : Rat := if i = j then 1 else 0
/-- a row times a vector -/
def mulV (N : Nat) (r v : Nat → Rat) : Rat := sumR (fun j => r j * v j) N
def Ker (m N : Nat) (T : Mx) (v : Nat → Rat) : Prop := ∀ i, i < m → mulV N (T i) v = 0
theorem mulV_lin (N : Nat) (r s v : Nat → Rat) (a b : Rat) : mulV N (fun j => a * r j + b * s j) v = a * mulV N r v + b * mulV N s v := by
  unfold mulV
  rw [← sumR_mul, ← sumR_mul, ← sumR_add]
  exact sumR_congr N fun j _ => by grind
theorem mulV_lin2 (N : Nat) (r u v : Nat → Rat) (a b : Rat) : mulV N r (fun j => a * u j + b * v j) = a * mulV N r u + b * mulV N r v := by
  unfold mulV
  rw [← sumR_mul, ← sumR_mul, ← sumR_add]
  exact sumR_congr N fun j _ => by grind
theorem mulV_kron (N : Nat) (r : Nat → Rat) {k : Nat} (hk : k < N) : mulV N r (fun j => kron j k) = r k := by
  unfold mulV
  rw [sumR_one hk fun j _ h => by show r j * kron j k = 0; unfold kron; rw [if_neg h]; grind]
  show r k * kron k k = r k
  unfold kron; rw [if_pos rfl]; grind
theorem mulV_congr {N : Nat} {r s v : Nat → Rat} (h : ∀ j, j < N → r j = s j) : mulV N r v = mulV N s v := sumR_congr N fun j hj => by rw [h j hj]
theorem mulV_sum (N : Nat) (r : Nat → Rat) (a : Nat → Rat) (b : Nat → Nat) (m : Nat) (hb : ∀ l, l < m → b l < N) : mulV N r (fun j => sumR (fun i => a i * kron j (b i)) m) = sumR (fun i => a i * r (b i)) m := by
  induction m with
  | zero => exact sumR_zero N fun j _ => by show r j * 0 = 0; grind
  | succ m ih =>
    have h1 := mulV_lin2 N r (fun j => sumR (fun i => a i * kron j (b i)) m) (fun j => kron j (b m)) 1 (a m)
    rw [ih (fun l hl => hb l (by omega)), mulV_kron N r (hb m (by omega))] at h1
    show _ = sumR _ m + a m * r (b m)
    rw [show sumR (fun i => a i * r (b i)) m + a m * r (b m) = 1 * sumR (fun i => a i * r (b i)) m + a m * r (b m) by grind, ← h1]
    refine sumR_congr N fun j _ => ?_
    show r j * (sumR (fun i => a i * kron j (b i)) m + a m * kron j (b m)) = _
    grind
/-- the pivot -/
def pivM (T : Mx) (r c : Nat) : Mx := fun i j => if i = r then T r j / T r c else T i j - T i c * (T r j / T r c)
theorem mulV_piv {N r c : Nat} {T : Mx} (i : Nat) (v : Nat → Rat) (h0 : T r c ≠ 0) : mulV N (pivM T r c i) v = if i = r then mulV N (T r) v / T r c else mulV N (T i) v - T i c * (mulV N (T r) v / T r c) := by
  by_cases h : i = r
  · subst h
    rw [if_pos rfl]
    have := mulV_lin N (T i) (T i) v (1 / T i c) 0
    rw [show mulV N (T i) v / T i c = 1 / T i c * mulV N (T i) v + 0 * mulV N (T i) v by grind, ← this]
    exact mulV_congr fun j _ => by unfold pivM; rw [if_pos rfl]; grind
  · rw [if_neg h]
    have := mulV_lin N (T i) (T r) v 1 (-(T i c / T r c))
    rw [show mulV N (T i) v - T i c * (mulV N (T r) v / T r c) = 1 * mulV N (T i) v + -(T i c / T r c) * mulV N (T r) v by grind, ← this]
    exact mulV_congr fun j _ => by unfold pivM; rw [if_neg h]; grind
theorem ker_piv {m N r c : Nat} {T : Mx} {v : Nat → Rat} (hr : r < m) (h0 : T r c ≠ 0) : Ker m N (pivM T r c) v ↔ Ker m N T v := by
  constructor
  · intro h i hi
    have h1 := h r hr
    have h2 := h i hi
    rw [mulV_piv _ _ h0, if_pos rfl] at h1
    rw [mulV_piv _ _ h0] at h2
    have h3 : mulV N (T r) v = 0 := by grind
    by_cases e : i = r
    · rw [e]; exact h3
    · rw [if_neg e, h3] at h2; grind
  · intro h i hi
    rw [mulV_piv _ _ h0, h r hr, h i hi]
    split <;> grind
/-- two rows change places -/
def swF {α : Type} (f : Nat → α) (a b : Nat) : Nat → α := fun i => if i = a then f b else if i = b then f a else f i
theorem ker_sw {m N a b : Nat} {T : Mx} {v : Nat → Rat} (ha : a < m) (hb : b < m) : Ker m N (swF T a b) v ↔ Ker m N T v := by
  constructor
  · intro h i hi
    by_cases e : i = a
    · have := h b hb; unfold swF at this; subst e
      by_cases e2 : b = i
      · rw [if_pos e2] at this; rw [← e2]; exact this
      · rw [if_neg e2, if_pos rfl] at this; exact this
    · by_cases e2 : i = b
      · have := h a ha; unfold swF at this; rw [if_pos rfl] at this; rw [e2]; exact this
      · have := h i hi; unfold swF at this; rw [if_neg e, if_neg e2] at this; exact this
  · intro h i hi
    unfold swF
    split
    · exact h b hb
    · split
      · exact h a ha
      · exact h i hi
def ratM (R : Nat → Nat → Int) : Mx := fun i j => (R i j : Rat)
/-- digits after k eliminations -/
def gr : Nat → Nat → Nat
  | 0, d => d
  | k + 1, d => gr k (2 * d + 1)
theorem gr_mono : ∀ (k : Nat) {d e : Nat}, d ≤ e → gr k d ≤ gr k e := by
  intro k
  induction k with
  | zero => intro d e h; exact h
  | succ k ih => intro d e h; exact ih (by omega)
theorem gr_le : ∀ (k d : Nat), d ≤ gr k d := by
  intro k
  induction k with
  | zero => intro d; exact Nat.le_refl d
  | succ k ih => intro d; exact Nat.le_trans (by omega) (ih (2 * d + 1))
theorem gr_more {k l : Nat} (h : k ≤ l) (d : Nat) : gr k d ≤ gr l d := by
  induction l with
  | zero => rw [show k = 0 by omega]; exact Nat.le_refl _
  | succ l ih =>
    by_cases e : k = l + 1
    · rw [e]; exact Nat.le_refl _
    · exact Nat.le_trans (ih (by omega)) (gr_mono l (by omega))
/-- the numbers of a solution that is the only one, by elimination in integers -/
theorem elim_bound (m N j k : Nat) (hj : j < N) (hk : k < N) (hjk : k ≠ j) : ∀ (cs : List Nat) (d : Nat) (R : Nat → Nat → Int) (v0 : Nat → Rat), (∀ s, s < m → ∀ c, c < N → dl (R s c) ≤ d) →
    (∀ c ∈ cs, c < N) → k ∉ cs → j ∉ cs → cs.Nodup →
    (∀ v : Nat → Rat, (∀ c, c ≠ k → c ∉ cs → v c = 0) → Ker m N (ratM R) v → ∀ c, c = k ∨ c ∈ cs → v c = 0) →
    (∀ s, s < m → ∀ c, c < N → c ≠ k → c ≠ j → c ∉ cs → (R s c : Rat) * v0 c = 0) → v0 j = 1 → Ker m N (ratM R) v0 →
    ∃ P Q : Int, Q ≠ 0 ∧ dl P ≤ gr cs.length d ∧ dl Q ≤ gr cs.length d ∧ v0 k = (P : Rat) / (Q : Rat) := by
  intro cs
  induction cs with
  | nil =>
    intro d R v0 hd _ _ _ _ huq hz h1 hker
    have : ∃ s, s < m ∧ R s k ≠ 0 := by
      refine Classical.byContradiction fun hno => ?_
      have := huq (fun c => kron c k) (fun c hc _ => by unfold kron; rw [if_neg hc]) (fun s hs => by
        rw [mulV_kron N _ hk]
        show (R s k : Rat) = 0
        have : R s k = 0 := Classical.byContradiction fun h => hno ⟨s, hs, h⟩
        rw [this]; rfl) k (.inl rfl)
      simp only [kron, if_pos] at this
      exact absurd this (by decide)
    obtain ⟨s, hs, hne⟩ := this
    have hq : (R s k : Rat) ≠ 0 := fun h => hne (Rat.intCast_inj.1 h)
    have he := hker s hs
    unfold mulV ratM at he
    rw [sumR_two hk hj hjk fun c hc h2 h3 => hz s hs c hc h2 h3 (by simp), h1] at he
    refine ⟨-(R s j), R s k, hne, ?_, hd s hs k hk, ?_⟩
    · rw [dl_neg]; exact hd s hs j hj
    · rw [Rat.intCast_neg]; grind
  | cons c cs ih =>
    intro d R v0 hd hcs hkn hjn hnd huq hz h1 hker
    have hcN := hcs c (by simp)
    obtain ⟨hkc, hkn⟩ : k ≠ c ∧ k ∉ cs := by simpa using hkn
    obtain ⟨hjc, hjn⟩ : j ≠ c ∧ j ∉ cs := by simpa using hjn
    obtain ⟨hcn, hnd⟩ : c ∉ cs ∧ cs.Nodup := by simpa using hnd
    have : ∃ s, s < m ∧ R s c ≠ 0 := by
      refine Classical.byContradiction fun hno => ?_
      have := huq (fun a => kron a c) (fun a _ ha => by unfold kron; rw [if_neg (fun h => ha (by rw [h]; simp))]) (fun s hs => by
        rw [mulV_kron N _ hcN]
        show (R s c : Rat) = 0
        have : R s c = 0 := Classical.byContradiction fun h => hno ⟨s, hs, h⟩
        rw [this]; rfl) c (.inr (by simp))
      simp only [kron, if_pos] at this
      exact absurd this (by decide)
    obtain ⟨r, hr, hne⟩ := this
    have hq : (R r c : Rat) ≠ 0 := fun h => hne (Rat.intCast_inj.1 h)
    have hrow : ∀ s v, mulV N (ratM (fun s a => R r c * R s a - R s c * R r a) s) v = (R r c : Rat) * mulV N (ratM R s) v + -(R s c : Rat) * mulV N (ratM R r) v := by
      intro s v
      rw [← mulV_lin]
      refine mulV_congr fun a _ => ?_
      show ((R r c * R s a - R s c * R r a : Int) : Rat) = (R r c : Rat) * (R s a : Rat) + -(R s c : Rat) * (R r a : Rat)
      rw [Rat.intCast_sub, Rat.intCast_mul, Rat.intCast_mul]; grind
    refine ih (2 * d + 1) (fun s a => R r c * R s a - R s c * R r a) v0 ?_ (fun a ha => hcs a (by simp [ha])) hkn hjn hnd ?_ ?_ h1 ?_
    · intro s hs a ha
      have m1 := dl_mul (R r c) (R s a)
      have m2 := dl_mul (R s c) (R r a)
      have m3 := dl_sub (R r c * R s a) (R s c * R r a)
      have b1 := hd r hr c hcN
      have b2 := hd s hs a ha
      have b3 := hd s hs c hcN
      have b4 := hd r hr a ha
      show dl (R r c * R s a - R s c * R r a) ≤ _
      omega
    · intro v hv hkv a ha
      have hx := huq (fun a => 1 * v a + (-(mulV N (ratM R r) v) / (R r c : Rat)) * kron a c) ?_ ?_ a (by rcases ha with h | h; exact .inl h; exact .inr (by simp [h]))
      · have hac : a ≠ c := by
          rcases ha with h | h
          · rw [h]; exact hkc
          · intro e; rw [e] at h; exact hcn h
        simp only [kron, if_neg hac] at hx
        grind
      · intro a h2 h3
        have h3' : a ≠ c ∧ a ∉ cs := by simpa using h3
        rw [hv a h2 h3'.2]; unfold kron; rw [if_neg h3'.1]; grind
      · intro s hs
        rw [mulV_lin2, mulV_kron N _ hcN]
        have h4 := hkv s hs
        rw [hrow] at h4
        show 1 * mulV N (ratM R s) v + -mulV N (ratM R r) v / (R r c : Rat) * (R s c : Rat) = 0
        grind
    · intro s hs a ha h2 h3 h4
      show ((R r c * R s a - R s c * R r a : Int) : Rat) * v0 a = 0
      rw [Rat.intCast_sub, Rat.intCast_mul, Rat.intCast_mul]
      by_cases e : a = c
      · subst e; grind
      · have e1 := hz s hs a ha h2 h3 (by simp [e, h4])
        have e2 := hz r hr a ha h2 h3 (by simp [e, h4])
        grind
    · intro s hs
      rw [hrow, hker s hs, hker r hr]; grind
/-- a tableau: the same kernel as the first rows, and columns of the identity matrix -/
structure Tb (m N : Nat) (R : Nat → Nat → Int) (T : Mx) (b : Nat → Nat) : Prop where
  ker : ∀ v, Ker m N (ratM R) v ↔ Ker m N T v
  base : ∀ i l, i < m → l < m → T i (b l) = kron i l
  col : ∀ l, l < m → b l < N
section
variable {m N : Nat} {R : Nat → Nat → Int} {T : Mx} {b : Nat → Nat}
theorem Tb.inj (h : Tb m N R T b) {i l : Nat} (hi : i < m) (hl : l < m) (e : b i = b l) : i = l := by
  have h1 := h.base i i hi hi
  have h2 := h.base i l hi hl
  rw [e, h2] at h1
  unfold kron at h1
  rw [if_pos rfl] at h1
  refine Classical.byContradiction fun hn => ?_
  rw [if_neg hn] at h1
  exact absurd h1 (by decide)
theorem Tb.pivot (h : Tb m N R T b) {r c : Nat} (hr : r < m) (hc : c < N) (h0 : T r c ≠ 0) : Tb m N R (pivM T r c) (fun l => if l = r then c else b l) := by
  refine ⟨fun v => (h.ker v).trans (ker_piv hr h0).symm, fun i l hi hl => ?_, fun l hl => ?_⟩
  · by_cases e : l = r
    · rw [if_pos e]
      subst e
      unfold pivM kron
      by_cases e2 : i = l
      · rw [if_pos e2, if_pos e2]; grind
      · rw [if_neg e2, if_neg e2]; grind
    · rw [if_neg e]
      have h1 := h.base r l hr hl
      have h2 := h.base i l hi hl
      unfold kron at h1
      rw [if_neg (fun h => e h.symm)] at h1
      unfold pivM
      by_cases e2 : i = r
      · rw [if_pos e2, h1]
        unfold kron
        rw [if_neg (fun h => e (by omega))]; grind
      · rw [if_neg e2, h1, h2]; grind
  · show (if l = r then c else b l) < N
    split
    · exact hc
    · exact h.col l hl
theorem Tb.swap (h : Tb m N R T b) {a c : Nat} (ha : a < m) (hc : c < m) : Tb m N R (swF T a c) (swF b a c) := by
  refine ⟨fun v => (h.ker v).trans (ker_sw ha hc).symm, fun i l hi hl => ?_, fun l hl => ?_⟩
  · have e1 : swF T a c i (swF b a c l) = T (swF id a c i) (b (swF id a c l)) := by
      unfold swF
      split <;> split <;> (try split) <;> (try split) <;> rfl
    have e2 : ∀ x, x < m → swF id a c x < m := by
      intro x hx; unfold swF; split
      · exact hc
      · split
        · exact ha
        · exact hx
    rw [e1, h.base _ _ (e2 i hi) (e2 l hl)]
    have e3 : swF id a c i = swF id a c l ↔ i = l := by
      unfold swF
      show (if i = a then c else if i = c then a else i) = (if l = a then c else if l = c then a else l) ↔ i = l
      split <;> split <;> (try split) <;> (try split) <;> omega
    unfold kron
    by_cases e : i = l
    · rw [if_pos e, if_pos (e3.2 e)]
    · rw [if_neg e, if_neg (fun h => e (e3.1 h))]
  · unfold swF
    split
    · exact h.col _ hc
    · split
      · exact h.col _ ha
      · exact h.col l hl
/-- every number of a tableau is short -/
theorem Tb.bound (h : Tb m N R T b) {d : Nat} (hd1 : 1 ≤ d) (hd : ∀ s, s < m → ∀ c, c < N → dl (R s c) ≤ d) {i j : Nat} (hi : i < m) (hj : j < N) :
    ∃ P Q : Int, Q ≠ 0 ∧ dl P ≤ gr (m - 1) d ∧ dl Q ≤ gr (m - 1) d ∧ T i j = (P : Rat) / (Q : Rat) := by
  have hone : dl 1 ≤ gr (m - 1) d := Nat.le_trans (by show dl 1 ≤ 1; decide +kernel) (Nat.le_trans hd1 (gr_le _ _))
  have hzero : dl 0 ≤ gr (m - 1) d := Nat.le_trans (by show dl 0 ≤ 1; decide +kernel) (Nat.le_trans hd1 (gr_le _ _))
  by_cases hb : ∃ l, l < m ∧ j = b l
  · obtain ⟨l, hl, rfl⟩ := hb
    rw [h.base i l hi hl]
    unfold kron
    by_cases e : i = l
    · rw [if_pos e]; exact ⟨1, 1, by decide, hone, hone, by decide +kernel⟩
    · rw [if_neg e]; exact ⟨0, 1, by decide, hzero, hone, by decide +kernel⟩
  · have hnb : ∀ l, l < m → j ≠ b l := fun l hl e => hb ⟨l, hl, e⟩
    have hmem : ∀ c, c ∈ ((List.range m).erase i).map b ↔ ∃ l, l < m ∧ l ≠ i ∧ c = b l := by
      intro c
      rw [List.mem_map]
      constructor
      · rintro ⟨l, hl, rfl⟩
        have := (List.nodup_range.mem_erase_iff).1 hl
        exact ⟨l, List.mem_range.1 this.2, this.1, rfl⟩
      · rintro ⟨l, h1, h2, rfl⟩
        exact ⟨l, (List.nodup_range.mem_erase_iff).2 ⟨h2, List.mem_range.2 h1⟩, rfl⟩
    have hlen : (((List.range m).erase i).map b).length = m - 1 := by
      rw [List.length_map, List.length_erase_of_mem (List.mem_range.2 hi), List.length_range]
    have hv0 : ∀ l, l < m → kron (b l) j - sumR (fun i => T i j * kron (b l) (b i)) m = -(T l j) := by
      intro l hl
      rw [sumR_one (k := l) hl fun a ha hne => by
        have : b l ≠ b a := fun e => hne (h.inj hl ha e).symm
        unfold kron; rw [if_neg this]; grind]
      unfold kron
      rw [if_neg (fun e => hnb l hl e.symm), if_pos rfl]; grind
    have hkey := elim_bound m N j (b i) hj (h.col i hi) (fun e => hnb i hi e.symm) (((List.range m).erase i).map b) d R (fun c => kron c j - sumR (fun i => T i j * kron c (b i)) m) hd
      (fun c hc => by obtain ⟨l, h1, _, rfl⟩ := (hmem c).1 hc; exact h.col l h1)
      (fun hc => by obtain ⟨l, h1, h2, e⟩ := (hmem _).1 hc; exact h2 (h.inj hi h1 e).symm)
      (fun hc => by obtain ⟨l, h1, h2, e⟩ := (hmem _).1 hc; exact hnb l h1 e)
      ?_ ?_ ?_ ?_ ?_
    · obtain ⟨P, Q, hQ, h1, h2, h3⟩ := hkey
      rw [hlen] at h1 h2
      rw [hv0 i hi] at h3
      refine ⟨-P, Q, hQ, by rw [dl_neg]; exact h1, h2, ?_⟩
      rw [Rat.intCast_neg]; grind
    · refine List.Pairwise.map b (R := fun a c => a ≠ c ∧ a < m ∧ c < m) (fun a c hac e => hac.1 (h.inj hac.2.1 hac.2.2 e)) ?_
      have hnd : ((List.range m).erase i).Nodup := List.nodup_range.erase i
      refine List.Pairwise.imp_of_mem (fun {a c} ha hc hne => ⟨hne, ?_, ?_⟩) hnd
      · exact List.mem_range.1 (List.mem_of_mem_erase ha)
      · exact List.mem_range.1 (List.mem_of_mem_erase hc)
    · intro v hv hker c hc
      have hkt := (h.ker v).1 hker
      have hval : ∀ l, l < m → v (b l) = 0 := by
        intro l hl
        have h1 := hkt l hl
        unfold mulV at h1
        rw [sumR_one (k := b l) (h.col l hl) ?_, h.base l l hl hl] at h1
        · unfold kron at h1; rw [if_pos rfl] at h1; grind
        · intro a ha hne
          by_cases hbase : ∃ l', l' < m ∧ a = b l'
          · obtain ⟨l', hl', rfl⟩ := hbase
            rw [h.base l l' hl hl']
            unfold kron
            rw [if_neg (fun e => hne (by rw [e]))]; grind
          · rw [hv a (fun e => hbase ⟨i, hi, e⟩) (fun hm => by obtain ⟨l', h1, _, e⟩ := (hmem a).1 hm; exact hbase ⟨l', h1, e⟩)]; grind
      rcases hc with rfl | hc
      · exact hval i hi
      · obtain ⟨l, h1, _, rfl⟩ := (hmem c).1 hc
        exact hval l h1
    · intro s hs c hc h1 h2 h3
      have : kron c j - sumR (fun i => T i j * kron c (b i)) m = 0 := by
        rw [sumR_zero m fun a ha => by
          have : c ≠ b a := fun e => by
            by_cases e2 : a = i
            · exact h1 (by rw [e, e2])
            · exact h3 ((hmem c).2 ⟨a, ha, e2, e⟩)
          unfold kron; rw [if_neg this]; grind]
        unfold kron; rw [if_neg h2]; grind
      rw [this]; grind
    · show kron j j - sumR (fun i => T i j * kron j (b i)) m = 1
      rw [sumR_zero m fun a ha => by unfold kron; rw [if_neg (hnb a ha)]; grind]
      unfold kron; rw [if_pos rfl]; grind
    · rw [h.ker]
      intro s hs
      have h1 := mulV_lin2 N (T s) (fun c => kron c j) (fun c => sumR (fun i => T i j * kron c (b i)) m) 1 (-1)
      rw [mulV_kron N _ hj, mulV_sum N _ (fun i => T i j) b m h.col] at h1
      rw [sumR_one (k := s) hs fun a ha hne => by rw [h.base s a hs ha]; unfold kron; rw [if_neg (fun e => hne e.symm)]; grind, h.base s s hs hs] at h1
      unfold kron at h1 ⊢
      rw [if_pos rfl] at h1
      rw [show mulV N (T s) (fun c => (if c = j then (1 : Rat) else 0) - sumR (fun i => T i j * (if c = b i then (1 : Rat) else 0)) m) = mulV N (T s) (fun c => 1 * (if c = j then (1 : Rat) else 0) + -1 * sumR (fun i => T i j * (if c = b i then (1 : Rat) else 0)) m) from sumR_congr N fun c _ => by grind]
      rw [h1]; grind
end
end Num
end Go.Proofs.YtmppmdmekomjbaaGreatDoor
/- The elimination on texts: its numbers are those of the pivots on fractions, and none is too long: plain. -/
namespace Go.Proofs.YtmppmdmekomjbaaGreatDoor
namespace Num
set_option linter.unusedVariables false

theorem cellM_eq {M : List (List Str)} {i j : Nat} (hi : i < M.length) (hj : j < M[i].length) : cellM M i j = M[i][j] := by
  unfold cellM
  rw [List.getD_eq_getElem?_getD (l := M), List.getElem?_eq_getElem hi]
  show M[i].getD j [] = _
  rw [List.getD_eq_getElem?_getD, List.getElem?_eq_getElem hj]; rfl
theorem getD_eq {M : List (List Str)} {i : Nat} (hi : i < M.length) : M.getD i [] = M[i] := by
  rw [List.getD_eq_getElem?_getD, List.getElem?_eq_getElem hi]; rfl
/-- what is asked of one pivot's reckoning: no step errs, numbers stay within D digits -/
structure ClearOps (D k : Nat) (M : List (List Str)) (row col : Nat) : Prop where
  row_lt : row < M.length
  col_lt : col < k
  mat : Mat D D k M
  ne : cellM M row col ≠ [48]
  quo : ∀ j, j < k → quoQE (cellM M row j) (cellM M row col) = 0 ∧ FrD D D (quoQS (cellM M row j) (cellM M row col))
  less : ∀ i, i < M.length → i ≠ row → ∀ j, j < k → mulQE (cellM M i col) (quoQS (cellM M row j) (cellM M row col)) = 0 ∧ FrD (2 * D) (2 * D) (mulQS (cellM M i col) (quoQS (cellM M row j) (cellM M row col))) ∧
    subQE (cellM M i j) (mulQS (cellM M i col) (quoQS (cellM M row j) (cellM M row col))) = 0 ∧ FrD D D (subQS (cellM M i j) (mulQS (cellM M i col) (quoQS (cellM M row j) (cellM M row col))))
  skip : ∀ i, i < M.length → i ≠ row → ∀ j, j < k → cellM M i col = [48] ∨ quoQS (cellM M row j) (cellM M row col) = [48] → subQS (cellM M i j) (mulQS (cellM M i col) (quoQS (cellM M row j) (cellM M row col))) = cellM M i j
theorem clearM_len (M : List (List Str)) (row col : Nat) : (clearM M row col).length = M.length := by unfold clearM; simp
theorem clearM_row {M : List (List Str)} {row col i : Nat} (hi : i < M.length) : (clearM M row col).getD i [] = if i = row then scaleR (M.getD row []) (cellM M row col) else lessR (M.getD i []) (scaleR (M.getD row []) (cellM M row col)) (cellM M i col) := by
  unfold clearM
  rw [List.getD_eq_getElem?_getD, List.getElem?_eq_getElem (by simpa using hi)]
  simp
theorem scaleR_get {r : List Str} {p : Str} {j : Nat} (hj : j < r.length) : (scaleR r p).getD j [] = quoQS (r.getD j []) p := by
  unfold scaleR
  rw [List.getD_eq_getElem?_getD, List.getElem?_eq_getElem (by simpa using hj), List.getD_eq_getElem?_getD, List.getElem?_eq_getElem hj]; simp
theorem lessR_get {r f : List Str} {p : Str} {j : Nat} (hj : j < r.length) (hf : j < f.length) : (lessR r f p).getD j [] = subQS (r.getD j []) (mulQS p (f.getD j [])) := by
  unfold lessR
  rw [List.getD_eq_getElem?_getD, List.getElem?_eq_getElem (by rw [List.length_zipWith]; omega), List.getD_eq_getElem?_getD, List.getElem?_eq_getElem hj, List.getD_eq_getElem?_getD, List.getElem?_eq_getElem hf]; simp
theorem clearM_cell {D k : Nat} {M : List (List Str)} {row col i j : Nat} (hM : Mat D D k M) (hr : row < M.length) (hi : i < M.length) (hj : j < k) :
    cellM (clearM M row col) i j = if i = row then quoQS (cellM M row j) (cellM M row col) else subQS (cellM M i j) (mulQS (cellM M i col) (quoQS (cellM M row j) (cellM M row col))) := by
  have h1 := (hM.row hr).1
  have h2 := (hM.row hi).1
  unfold cellM at *
  rw [clearM_row hi]
  split
  · rw [scaleR_get (by omega)]; rfl
  · rw [lessR_get (by omega) (by unfold scaleR; rw [List.length_map]; omega), scaleR_get (by omega)]; rfl
theorem clear_ok {D k : Nat} {M : List (List Str)} {row col : Nat} {T : Mx} (hM : Mat D D k M) (hr : row < M.length) (hc : col < k) (hT : ∀ i, i < M.length → ∀ j, j < k → T i j = rq (cellM M i j)) (hne : cellM M row col ≠ [48])
    (hB : ∀ i, i < M.length → ∀ j, j < k → ∃ P Q : Int, Q ≠ 0 ∧ dl P ≤ D ∧ dl Q ≤ D ∧ pivM T row col i j = (P : Rat) / (Q : Rat)) (hD : 3 * D + 1 ≤ 4096) :
    ClearOps D k M row col ∧ Mat D D k (clearM M row col) ∧ ∀ i, i < M.length → ∀ j, j < k → pivM T row col i j = rq (cellM (clearM M row col) i j) := by
  have hp := hM.cell hr hc
  have hp0 : rq (cellM M row col) ≠ 0 := fun e => hne ((rq_zero_iff (hp.right (by omega) (by omega))).1 e)
  have hquo : ∀ j, j < k → quoQE (cellM M row j) (cellM M row col) = 0 ∧ FrD D D (quoQS (cellM M row j) (cellM M row col)) ∧ pivM T row col row j = rq (quoQS (cellM M row j) (cellM M row col)) := by
    intro j hj
    have ha := hM.cell hr hj
    have hq := ha.div hp hp0 (by omega) (by omega) (by omega) (by omega) (by omega) (by omega)
    obtain ⟨P, Q, hQ, h1, h2, h3⟩ := hB row hr j hj
    have hv : pivM T row col row j = rq (quoQS (cellM M row j) (cellM M row col)) := by
      unfold pivM; rw [if_pos rfl, hT row hr j hj, hT row hr col hc, hq.2.2]
    exact ⟨hq.1, FrD.value (hq.2.1.right (by omega) (by omega)) hQ h1 h2 (by omega) (by omega) (by rw [← hv, h3]), hv⟩
  have hless : ∀ i, i < M.length → i ≠ row → ∀ j, j < k → (mulQE (cellM M i col) (quoQS (cellM M row j) (cellM M row col)) = 0 ∧ FrD (2 * D) (2 * D) (mulQS (cellM M i col) (quoQS (cellM M row j) (cellM M row col))) ∧
      subQE (cellM M i j) (mulQS (cellM M i col) (quoQS (cellM M row j) (cellM M row col))) = 0 ∧ FrD D D (subQS (cellM M i j) (mulQS (cellM M i col) (quoQS (cellM M row j) (cellM M row col))))) ∧
      rq (subQS (cellM M i j) (mulQS (cellM M i col) (quoQS (cellM M row j) (cellM M row col)))) = rq (cellM M i j) - rq (cellM M i col) * rq (quoQS (cellM M row j) (cellM M row col)) ∧
      pivM T row col i j = rq (subQS (cellM M i j) (mulQS (cellM M i col) (quoQS (cellM M row j) (cellM M row col)))) := by
    intro i hi hne2 j hj
    obtain ⟨q1, q2, q3⟩ := hquo j hj
    have hx := hM.cell hi hj
    have hf := hM.cell hi hc
    have hm := hf.mul q2 (by omega) (by omega)
    have hs := hx.sub hm.2.1 (by omega) (by omega)
    obtain ⟨P, Q, hQ, h1, h2, h3⟩ := hB i hi j hj
    have hv0 : rq (subQS (cellM M i j) (mulQS (cellM M i col) (quoQS (cellM M row j) (cellM M row col)))) = rq (cellM M i j) - rq (cellM M i col) * rq (quoQS (cellM M row j) (cellM M row col)) := by rw [hs.2.2, hm.2.2]
    have hv : pivM T row col i j = rq (subQS (cellM M i j) (mulQS (cellM M i col) (quoQS (cellM M row j) (cellM M row col)))) := by
      rw [hv0, ← q3]
      unfold pivM; rw [if_neg hne2, if_pos rfl, hT i hi j hj, hT i hi col hc]
    exact ⟨⟨hm.1, hm.2.1.mono (by omega) (by omega), hs.1, FrD.value (hs.2.1.right (by omega) (by omega)) hQ h1 h2 (by omega) (by omega) (by rw [← hv, h3])⟩, hv0, hv⟩
  refine ⟨⟨hr, hc, hM, hne, fun j hj => ⟨(hquo j hj).1, (hquo j hj).2.1⟩, fun i hi h2 j hj => (hless i hi h2 j hj).1, fun i hi h2 j hj h => ?_⟩, fun r hrm => ?_, fun i hi j hj => ?_⟩
  · have h3 := hless i hi h2 j hj
    have hx := hM.cell hi hj
    refine rq_inj (h3.1.2.2.2.right (by omega) (by omega)) (hx.right (by omega) (by omega)) ?_
    rw [h3.2.1]
    rcases h with h | h <;> rw [h, rq_zero] <;> grind
  · obtain ⟨i, hi, rfl⟩ := List.getElem_of_mem hrm
    rw [clearM_len] at hi
    have hrow := clearM_row (row := row) (col := col) hi
    rw [getD_eq (by rw [clearM_len]; exact hi)] at hrow
    have hlen : (clearM M row col)[i].length = k := by
      rw [hrow]
      have h1 := (hM.row hr).1
      have h2 := (hM.row hi).1
      split
      · unfold scaleR; rw [List.length_map]; exact h1
      · unfold lessR scaleR; rw [List.length_zipWith, List.length_map]; omega
    refine ⟨hlen, fun a ha => ?_⟩
    obtain ⟨j, hj, rfl⟩ := List.getElem_of_mem ha
    rw [← cellM_eq (by rw [clearM_len]; exact hi) hj, clearM_cell hM hr hi (by omega)]
    split
    · exact (hquo j (by omega)).2.1
    · exact (hless i hi (by assumption) j (by omega)).1.2.2.2
  · rw [clearM_cell hM hr hi hj]
    split
    · rename_i e; rw [e]; exact (hquo j hj).2.2
    · exact (hless i hi (by assumption) j hj).2.2
theorem swapM_len (M : List (List Str)) (a b : Nat) : (swapM M a b).length = M.length := by unfold swapM; simp
theorem swapM_row {M : List (List Str)} {a b i : Nat} (ha : a < M.length) (hb : b < M.length) : (swapM M a b).getD i [] = swF (fun i => M.getD i []) a b i := by
  unfold swapM swF
  simp only [List.getD_eq_getElem?_getD, List.getElem?_set, List.length_set]
  by_cases e1 : b = i
  · subst e1
    by_cases e2 : b = a
    · subst e2; simp [hb]
    · rw [if_pos rfl, if_pos hb, if_neg e2, if_pos rfl]; simp
  · rw [if_neg e1]
    by_cases e2 : a = i
    · subst e2; simp [ha]
    · rw [if_neg e2, if_neg (fun h => e2 h.symm), if_neg (fun h => e1 h.symm)]
theorem swapM_cell {M : List (List Str)} {a b : Nat} (ha : a < M.length) (hb : b < M.length) (i j : Nat) : cellM (swapM M a b) i j = swF (fun i => cellM M i j) a b i := by
  unfold cellM; rw [swapM_row ha hb]; unfold swF; split
  · rfl
  · split <;> rfl
/-- the states of the elimination -/
def stN (m : List (List Str)) (c : Nat) : List (List Str) × List Nat := (List.range c).foldl stepM (m, [])
theorem stN_zero (m : List (List Str)) : stN m 0 = (m, []) := rfl
theorem stN_succ (m : List (List Str)) (c : Nat) : stN m (c + 1) = stepM (stN m c) c := by
  unfold stN; rw [List.range_succ, List.foldl_append]; rfl
theorem reduceM_st (m : List (List Str)) : reduceM m = stN m (m.getD 0 []).length := rfl
/-- what holds behind the first c columns -/
structure RedAt (D k h c : Nat) (R : Nat → Nat → Int) (st : List (List Str) × List Nat) : Prop where
  len : st.1.length = h
  mat : Mat D D k st.1
  few : st.2.length ≤ h
  tab : ∃ (T : Mx) (b : Nat → Nat), Tb h (k + h) R T b ∧ (∀ i, i < h → ∀ j, j < k → T i j = rq (cellM st.1 i j)) ∧ (∀ l (hl : l < st.2.length), b l = st.2[l]) ∧ ∀ l, st.2.length ≤ l → l < h → k ≤ b l
  lt : ∀ x ∈ st.2, x < c
  asc : st.2.Pairwise (· < ·)
  low : ∀ i, st.2.length ≤ i → i < h → ∀ j, j < c → cellM st.1 i j = [48]
  left : ∀ l (hl : l < st.2.length), ∀ j, j < st.2[l] → cellM st.1 l j = [48]
theorem one_text {D : Nat} {s : Str} (h : FrD D D s) (hD : D ≤ 4096) (h1 : rq s = 1) : s = [49] := by
  refine rq_inj (h.right hD hD) (by decide +kernel) ?_
  have h49 : rq [49] = 1 := by
    have h2 : decI 1 = [49] := by decide +kernel
    have := rq_int 1
    rw [h2] at this
    rw [this]; rfl
  rw [h1, h49]
theorem RedAt.pivot {D k h c : Nat} {R : Nat → Nat → Int} {st : List (List Str) × List Nat} (H : RedAt D k h c R st) (hc : c ≤ k) (hD : D ≤ 4096) {i l : Nat} (hi : i < h) (hl : l < st.2.length) : cellM st.1 i st.2[l] = if i = l then [49] else [48] := by
  obtain ⟨T, b, hT, h1, h2, h3⟩ := H.tab
  have hlt := H.lt _ (List.getElem_mem hl)
  have hb := hT.base i l hi (Nat.lt_of_lt_of_le hl H.few)
  have hf := H.few
  rw [h2 l hl, h1 i hi _ (by omega)] at hb
  have hF := H.mat.cell (i := i) (c := st.2[l]) (by rw [H.len]; exact hi) (by omega)
  unfold kron at hb
  by_cases e : i = l
  · rw [if_pos e] at hb ⊢; exact one_text hF hD hb
  · rw [if_neg e] at hb ⊢; exact (rq_zero_iff (hF.right hD hD)).1 hb
/-- one column -/
theorem step_aux {d k h c : Nat} {R : Nat → Nat → Int} {st : List (List Str) × List Nat} {E : Nat} (H2 : RedAt E k h c R st) (hR : ∀ s, s < h → ∀ c, c < k + h → dl (R s c) ≤ d) (hc : c < k) (hE : gr (h - 1) d = E) (hE4 : 3 * E + 1 ≤ 4096) (hD1 : 1 ≤ d) :
    RedAt E k h (c + 1) R (stepM st c) ∧ (findM st.1 st.2.length c ≠ h → ClearOps E k (swapM st.1 st.2.length (findM st.1 st.2.length c)) st.2.length c) := by
  obtain ⟨M, piv⟩ := st
  have hlen : M.length = h := H2.len
  have hmat : Mat E E k M := H2.mat
  have hfew : piv.length ≤ h := H2.few
  have hlt : ∀ x ∈ piv, x < c := H2.lt
  have hasc : piv.Pairwise (· < ·) := H2.asc
  have hlow : ∀ i, piv.length ≤ i → i < h → ∀ j, j < c → cellM M i j = [48] := H2.low
  have hleft : ∀ l (hl : l < piv.length), ∀ j, j < piv[l] → cellM M l j = [48] := H2.left
  obtain ⟨T, b, hT, hTM, hbp, hbg⟩ : ∃ (T : Mx) (b : Nat → Nat), Tb h (k + h) R T b ∧ (∀ i, i < h → ∀ j, j < k → T i j = rq (cellM M i j)) ∧ (∀ l (hl : l < piv.length), b l = piv[l]) ∧ ∀ l, piv.length ≤ l → l < h → k ≤ b l := H2.tab
  have hat := findM_le M piv.length c (by omega)
  show RedAt E k h (c + 1) R (stepM (M, piv) c) ∧ (findM M piv.length c ≠ h → _)
  have hstep : stepM (M, piv) c = if findM M piv.length c = M.length then (M, piv) else (clearM (swapM M piv.length (findM M piv.length c)) piv.length c, piv ++ [c]) := rfl
  by_cases e : findM M piv.length c = h
  · rw [hstep, if_pos (by omega)]
    refine ⟨⟨hlen, hmat, hfew, ⟨T, b, hT, hTM, hbp, hbg⟩, fun x hx => Nat.lt_succ_of_lt (hlt x hx), hasc, fun i h1 h2 j hj => ?_, hleft⟩, fun h => absurd e h⟩
    by_cases ej : j = c
    · subst ej; exact findM_miss (row := piv.length) h1 (by rw [e]; exact h2) (by rw [hlen]; exact h2)
    · exact hlow i h1 h2 j (by omega)
  · rw [hstep, if_neg (by omega)]
    have hhit := findM_hit (m := M) (row := piv.length) (col := c) (by omega)
    have hmiss : ∀ i, piv.length ≤ i → i < findM M piv.length c → cellM M i c = [48] := fun i h1 h2 => findM_miss h1 h2 (by omega)
    generalize findM M piv.length c = at_ at *
    have hr : piv.length < h := by omega
    have hal : at_ < h := by omega
    have hs := swap_mat hmat (i := piv.length) (j := at_) (by omega) (by omega)
    have hcell : ∀ i j, cellM (swapM M piv.length at_) i j = swF (fun i => cellM M i j) piv.length at_ i := swapM_cell (by omega) (by omega)
    have hTS : ∀ i, i < h → ∀ j, j < k → swF T piv.length at_ i j = rq (cellM (swapM M piv.length at_) i j) := by
      intro i hi j hj
      rw [hcell]
      unfold swF
      split
      · exact hTM _ hal j hj
      · split
        · exact hTM _ hr j hj
        · exact hTM i hi j hj
    have hne : cellM (swapM M piv.length at_) piv.length c ≠ [48] := by
      rw [hcell]; unfold swF; rw [if_pos rfl]; exact hhit
    have hTb := hT.swap hr hal
    have hT0 : swF T piv.length at_ piv.length c ≠ 0 := by
      rw [hTS _ hr c hc]
      intro h0
      have hF := hs.2.cell (i := piv.length) (c := c) (by rw [hs.1]; omega) hc
      exact hne ((rq_zero_iff (hF.right (by omega) (by omega))).1 h0)
    have hTp := hTb.pivot hr (c := c) (by omega) hT0
    have hB : ∀ i, i < h → ∀ j, j < k → ∃ P Q : Int, Q ≠ 0 ∧ dl P ≤ E ∧ dl Q ≤ E ∧ pivM (swF T piv.length at_) piv.length c i j = (P : Rat) / (Q : Rat) := by
      intro i hi j hj
      have := hTp.bound hD1 hR hi (j := j) (by omega)
      rw [hE] at this
      exact this
    have hsl : (swapM M piv.length at_).length = h := by rw [hs.1]; exact hlen
    have hok := clear_ok (T := swF T piv.length at_) hs.2 (row := piv.length) (col := c) (by omega) hc (fun i hi j hj => hTS i (by omega) j hj) hne (fun i hi j hj => hB i (by omega) j hj) hE4
    refine ⟨⟨by show (clearM _ _ _).length = h; rw [clearM_len]; exact hsl, hok.2.1, by show (piv ++ [c]).length ≤ h; rw [List.length_append]; simp; omega, ⟨_, _, hTp, fun i hi j hj => hok.2.2 i (by omega) j hj, ?_, ?_⟩, ?_, ?_, ?_, ?_⟩, fun _ => hok.1⟩
    · intro l hl
      show (if l = piv.length then c else swF b piv.length at_ l) = (piv ++ [c])[l]
      have hl' : l < piv.length + 1 := by simpa using hl
      by_cases el : l = piv.length
      · subst el; rw [if_pos rfl]; simp
      · rw [if_neg el, List.getElem_append_left (by omega), ← hbp l (by omega)]
        unfold swF; rw [if_neg el, if_neg (by omega)]
    · intro l hl1 hl2
      show k ≤ if l = piv.length then c else swF b piv.length at_ l
      have hl1' : piv.length + 1 ≤ l := by simpa using hl1
      rw [if_neg (by omega)]
      unfold swF
      rw [if_neg (by omega)]
      split
      · exact hbg _ (Nat.le_refl _) hr
      · exact hbg l (by omega) hl2
    · intro x hx
      rcases List.mem_append.1 hx with h1 | h1
      · exact Nat.lt_succ_of_lt (hlt x h1)
      · rw [List.mem_singleton.1 h1]; omega
    · show (piv ++ [c]).Pairwise (· < ·)
      rw [List.pairwise_append]
      refine ⟨hasc, by simp, fun x hx y hy => ?_⟩
      rw [List.mem_singleton.1 hy]; exact hlt x hx
    · intro i h1 h2 j hj
      have h1' : piv.length + 1 ≤ i := by simpa using h1
      show cellM (clearM (swapM M piv.length at_) piv.length c) i j = [48]
      have hF := hok.2.1.cell (i := i) (c := j) (by rw [clearM_len]; omega) (by omega)
      refine (rq_zero_iff (hF.right (by omega) (by omega))).1 ?_
      rw [← hok.2.2 i (by omega) j (by omega)]
      by_cases ej : j = c
      · subst ej
        unfold pivM; rw [if_neg (by omega)]; grind
      · have e1 : swF T piv.length at_ piv.length j = 0 := by
          rw [hTS _ hr j (by omega), hcell]; unfold swF; dsimp only; rw [if_pos rfl, hlow at_ (by omega) hal j (by omega), rq_zero]
        have e2 : swF T piv.length at_ i j = 0 := by
          rw [hTS i h2 j (by omega), hcell]; unfold swF; dsimp only; rw [if_neg (by omega)]
          split
          · rw [hlow _ (Nat.le_refl _) hr j (by omega), rq_zero]
          · rw [hlow i (by omega) h2 j (by omega), rq_zero]
        unfold pivM; rw [if_neg (by omega), e1, e2]; grind
    · intro l hl j hj
      show cellM (clearM (swapM M piv.length at_) piv.length c) l j = [48]
      have hl' : l < piv.length + 1 := by simpa using hl
      have hj' : j < (piv ++ [c])[l] := hj
      have hjc : j < c := by
        by_cases el : l = piv.length
        · subst el; simpa using hj'
        · rw [List.getElem_append_left (by omega)] at hj'
          have := hlt _ (List.getElem_mem (show l < piv.length by omega)); omega
      have hF := hok.2.1.cell (i := l) (c := j) (by rw [clearM_len]; omega) (by omega)
      refine (rq_zero_iff (hF.right (by omega) (by omega))).1 ?_
      rw [← hok.2.2 l (by omega) j (by omega)]
      have e1 : swF T piv.length at_ piv.length j = 0 := by
        rw [hTS _ hr j (by omega), hcell]; unfold swF; dsimp only; rw [if_pos rfl, hlow at_ (by omega) hal j (by omega), rq_zero]
      by_cases el : l = piv.length
      · subst el
        unfold pivM; rw [if_pos rfl, e1]; grind
      · have e2 : swF T piv.length at_ l j = 0 := by
          rw [hTS l (by omega) j (by omega), hcell]; unfold swF; dsimp only; rw [if_neg el, if_neg (by omega)]
          rw [List.getElem_append_left (by omega)] at hj'
          rw [hleft l (by omega) j hj', rq_zero]
        unfold pivM; rw [if_neg el, e1, e2]; grind
/-- a row over one denominator -/
theorem common {g : Nat} : ∀ (r : List Str), (∀ a ∈ r, FrD g g a) → ∃ c : Int, c ≠ 0 ∧ dl c ≤ 1 + r.length * g ∧ ∀ a ∈ r, ∃ z : Int, (z : Rat) = (c : Rat) * rq a ∧ dl z ≤ 1 + r.length * g
  | [], _ => by
    have h1 : dl 1 = 1 := by decide +kernel
    exact ⟨1, by decide, by rw [h1]; omega, fun a ha => absurd ha (by simp)⟩
  | a :: r, h => by
    obtain ⟨c, hc, hd, hz⟩ := common r fun a ha => h a (by simp [ha])
    obtain ⟨p, q, hq, hp1, hq1, hs⟩ := h a (by simp)
    have hqn := natne hq
    have e : (a :: r).length * g = r.length * g + g := by rw [List.length_cons, Nat.succ_mul]
    have m1 := dl_mul c (q : Int)
    refine ⟨c * q, Int.mul_ne_zero hc (by omega), by omega, fun x hx => ?_⟩
    rcases List.mem_cons.1 hx with hx | hx
    · subst hx
      have m2 := dl_mul c p
      refine ⟨c * p, ?_, by omega⟩
      rw [hs, rq_low hq, Rat.intCast_mul, Rat.intCast_mul]; grind
    · obtain ⟨z, h1, h2⟩ := hz x hx
      have m2 := dl_mul z (q : Int)
      refine ⟨z * q, ?_, by omega⟩
      rw [Rat.intCast_mul, Rat.intCast_mul, h1]; grind
/-- the first tableau -/
theorem first_tab {g k : Nat} {m : List (List Str)} (hm : Mat g g k m) : ∃ (R : Nat → Nat → Int), (∀ s, s < m.length → ∀ c, c < k + m.length → dl (R s c) ≤ 1 + k * g) ∧
    Tb m.length (k + m.length) R (fun i j => if j < k then rq (cellM m i j) else kron i (j - k)) (fun l => k + l) := by
  have hc : ∀ i, ∃ c : Int, i < m.length → c ≠ 0 ∧ dl c ≤ 1 + k * g ∧ ∀ j, j < k → ∃ z : Int, (z : Rat) = (c : Rat) * rq (cellM m i j) ∧ dl z ≤ 1 + k * g := by
    intro i
    by_cases hi : i < m.length
    · have hr := hm.row hi
      obtain ⟨c, h1, h2, h3⟩ := common _ hr.2
      rw [hr.1] at h2 h3
      refine ⟨c, fun _ => ⟨h1, h2, fun j hj => h3 _ ?_⟩⟩
      unfold cellM
      rw [List.getD_eq_getElem?_getD (l := m.getD i []), List.getElem?_eq_getElem (by omega)]
      exact List.getElem_mem _
    · exact ⟨0, fun h => absurd h hi⟩
  obtain ⟨c, hc⟩ := Classical.axiomOfChoice hc
  have hz : ∀ i, ∃ f : Nat → Int, i < m.length → ∀ j, j < k → ((f j : Int) : Rat) = (c i : Rat) * rq (cellM m i j) ∧ dl (f j) ≤ 1 + k * g := by
    intro i
    have : ∀ j, ∃ z : Int, i < m.length → j < k → ((z : Int) : Rat) = (c i : Rat) * rq (cellM m i j) ∧ dl z ≤ 1 + k * g := by
      intro j
      by_cases hi : i < m.length
      · by_cases hj : j < k
        · obtain ⟨z, h1⟩ := (hc i hi).2.2 j hj
          exact ⟨z, fun _ _ => h1⟩
        · exact ⟨0, fun _ h => absurd h hj⟩
      · exact ⟨0, fun h => absurd h hi⟩
    obtain ⟨f, hf⟩ := Classical.axiomOfChoice this
    exact ⟨f, fun hi j hj => hf j hi hj⟩
  obtain ⟨z, hz⟩ := Classical.axiomOfChoice hz
  have hval : ∀ i, i < m.length → ∀ j, (((if j < k then z i j else if j = k + i then c i else 0 : Int)) : Rat) = (c i : Rat) * (if j < k then rq (cellM m i j) else kron i (j - k)) := by
    intro i hi j
    by_cases hj : j < k
    · rw [if_pos hj, if_pos hj]; exact (hz i hi j hj).1
    · rw [if_neg hj, if_neg hj]
      unfold kron
      by_cases e : j = k + i
      · rw [if_pos e, if_pos (by omega)]; grind
      · rw [if_neg e, if_neg (by omega)]
        show (0 : Rat) = _
        grind
  have hrow : ∀ i, i < m.length → ∀ v, mulV (k + m.length) (ratM (fun i j => if j < k then z i j else if j = k + i then c i else 0) i) v = (c i : Rat) * mulV (k + m.length) (fun j => if j < k then rq (cellM m i j) else kron i (j - k)) v := by
    intro i hi v
    unfold mulV
    rw [← sumR_mul]
    refine sumR_congr _ fun j _ => ?_
    unfold ratM
    rw [hval i hi j]; grind
  refine ⟨fun i j => if j < k then z i j else if j = k + i then c i else 0, fun s hs j hj => ?_, fun v => ?_, fun i l hi hl => ?_, fun l hl => by show k + l < _; omega⟩
  · show dl (if j < k then z s j else if j = k + s then c s else 0) ≤ _
    split
    · exact (hz s hs j (by assumption)).2
    · split
      · exact (hc s hs).2.1
      · have : dl 0 = 1 := by decide +kernel
        omega
  · constructor
    · intro h i hi
      have h1 := h i hi
      rw [hrow i hi] at h1
      have h2 : (c i : Rat) ≠ 0 := fun e => (hc i hi).1 (Rat.intCast_inj.1 e)
      show mulV _ (fun j => if j < k then rq (cellM m i j) else kron i (j - k)) v = 0
      grind
    · intro h i hi
      rw [hrow i hi]
      have : mulV (k + m.length) (fun j => if j < k then rq (cellM m i j) else kron i (j - k)) v = 0 := h i hi
      rw [this]; grind
  · show (if k + l < k then rq (cellM m i (k + l)) else kron i (k + l - k)) = kron i l
    rw [if_neg (by omega), show k + l - k = l by omega]
/-- all states of the elimination -/
theorem red_all {g k : Nat} {m : List (List Str)} (hm : Mat g g k m) (hE : 3 * gr (m.length - 1) (1 + k * g) + 1 ≤ 4096) (hg : g ≤ 1 + k * g) :
    ∃ R : Nat → Nat → Int, Tb m.length (k + m.length) R (fun i j => if j < k then rq (cellM m i j) else kron i (j - k)) (fun l => k + l) ∧
      ∀ c, c ≤ k → RedAt (gr (m.length - 1) (1 + k * g)) k m.length c R (stN m c) ∧
        (c < k → findM (stN m c).1 (stN m c).2.length c ≠ m.length → ClearOps (gr (m.length - 1) (1 + k * g)) k (swapM (stN m c).1 (stN m c).2.length (findM (stN m c).1 (stN m c).2.length c)) (stN m c).2.length c) := by
  obtain ⟨R, hR, hT⟩ := first_tab hm
  have hge := gr_le (m.length - 1) (1 + k * g)
  have hm2 : Mat (gr (m.length - 1) (1 + k * g)) (gr (m.length - 1) (1 + k * g)) k m := hm.mono (by omega) (by omega)
  refine ⟨R, hT, ?_⟩
  have hmain : ∀ c, c ≤ k → RedAt (gr (m.length - 1) (1 + k * g)) k m.length c R (stN m c) := by
    intro c
    induction c with
    | zero =>
      intro _
      rw [stN_zero]
      exact ⟨rfl, hm2, Nat.zero_le _, ⟨_, _, hT, fun i hi j hj => if_pos hj, fun l hl => absurd hl (Nat.not_lt_zero _), fun l _ _ => Nat.le_add_right k l⟩, fun x hx => absurd hx (by simp), List.Pairwise.nil, fun _ _ _ j hj => absurd hj (Nat.not_lt_zero _), fun l hl => absurd hl (Nat.not_lt_zero _)⟩
    | succ c ih =>
      intro hc
      rw [stN_succ]
      have H := ih (by omega)
      exact (step_aux H hR (by omega) rfl hE (by omega)).1
  exact fun c hc => ⟨hmain c hc, fun hck => (step_aux (hmain c hc) hR hck rfl hE (by omega)).2⟩
end Num
end Go.Proofs.YtmppmdmekomjbaaGreatDoor
/- Lists of which the first elements are turned already: plain; the rows of an elimination's step. -/
namespace Go.Proofs.YtmppmdmekomjbaaGreatDoor
namespace Num
set_option linter.unusedVariables false
section
variable {α : Type}
/-- the first j of n, then those of r -/
def mixR (n r : List α) (j : Nat) : List α := n.take j ++ r.drop j
theorem mixR_zero (n r : List α) : mixR n r 0 = r := by unfold mixR; simp
theorem mixR_len {n r : List α} (h : n.length = r.length) (j : Nat) : (mixR n r j).length = r.length := by unfold mixR; rw [List.length_append, List.length_take, List.length_drop]; omega
theorem mixR_full {n r : List α} (h : n.length = r.length) {j : Nat} (hj : j = r.length) : mixR n r j = n := by
  unfold mixR; rw [List.take_of_length_le (by omega), List.drop_eq_nil_of_le (by omega), List.append_nil]
theorem mixR_get? {n r : List α} (h : n.length = r.length) (j i : Nat) : (mixR n r j)[i]? = if i < j then n[i]? else r[i]? := by
  unfold mixR
  by_cases hj : j ≤ n.length
  · by_cases hi : i < j
    · rw [if_pos hi, List.getElem?_append_left (by rw [List.length_take]; omega), List.getElem?_take_of_lt hi]
    · rw [if_neg hi, List.getElem?_append_right (by rw [List.length_take]; omega), List.length_take, Nat.min_eq_left hj, List.getElem?_drop]
      congr 1; omega
  · rw [List.take_of_length_le (by omega), List.drop_eq_nil_of_le (by omega), List.append_nil]
    split
    · rfl
    · rw [List.getElem?_eq_none (by omega), List.getElem?_eq_none (by omega)]
theorem mixR_getD {n r : List α} (h : n.length = r.length) (j i : Nat) (d : α) : (mixR n r j).getD i d = if i < j then n.getD i d else r.getD i d := by
  rw [List.getD_eq_getElem?_getD, mixR_get? h]
  split <;> rw [List.getD_eq_getElem?_getD]
theorem mixR_succ {n r : List α} (h : n.length = r.length) {j : Nat} (hj : j < r.length) (d : α) : (mixR n r j).set j (n.getD j d) = mixR n r (j + 1) := by
  apply List.ext_getElem?
  intro i
  rw [List.getElem?_set, mixR_get? h, mixR_get? h, mixR_len h]
  by_cases e : j = i
  · subst e
    rw [if_pos rfl, if_pos hj, if_pos (by omega), List.getD_eq_getElem?_getD, List.getElem?_eq_getElem (by omega)]; rfl
  · rw [if_neg e]
    by_cases h1 : i < j
    · rw [if_pos h1, if_pos (by omega)]
    · rw [if_neg h1, if_neg (by omega)]
theorem mixR_skip {n r : List α} (h : n.length = r.length) {j : Nat} (hj : j < r.length) (d : α) (he : n.getD j d = r.getD j d) : mixR n r (j + 1) = mixR n r j := by
  rw [← mixR_succ h hj d, he]
  apply List.ext_getElem?
  intro i
  rw [List.getElem?_set]
  by_cases e : j = i
  · subst e
    rw [if_pos rfl, if_pos (by rw [mixR_len h]; exact hj), mixR_get? h, if_neg (by omega), List.getD_eq_getElem?_getD, List.getElem?_eq_getElem hj]; rfl
  · rw [if_neg e]
end
section
variable {D k : Nat} {M : List (List Str)} {row col : Nat} (H : ClearOps D k M row col)
include H
theorem ClearOps.rowlen {i : Nat} (hi : i < M.length) : (M.getD i []).length = k := (H.mat.row hi).1
/-- the pivot's row behind the division -/
theorem ClearOps.firstlen : (scaleR (M.getD row []) (cellM M row col)).length = k := by unfold scaleR; rw [List.length_map]; exact H.rowlen H.row_lt
theorem ClearOps.first_get {j : Nat} (hj : j < k) : (scaleR (M.getD row []) (cellM M row col)).getD j [] = quoQS (cellM M row j) (cellM M row col) := scaleR_get (by rw [H.rowlen H.row_lt]; exact hj)
theorem ClearOps.newlen {i : Nat} (hi : i < M.length) : ((clearM M row col).getD i []).length = k := by
  rw [clearM_row hi]
  split
  · exact H.firstlen
  · unfold lessR; rw [List.length_zipWith, H.firstlen, H.rowlen hi]; omega
theorem ClearOps.new_get {i j : Nat} (hi : i < M.length) (hne : i ≠ row) (hj : j < k) : ((clearM M row col).getD i []).getD j [] = subQS (cellM M i j) (mulQS (cellM M i col) (quoQS (cellM M row j) (cellM M row col))) := by
  have := clearM_cell H.mat H.row_lt hi hj (col := col)
  rw [if_neg hne] at this
  exact this
/-- a row whose number in the column is 0 stays -/
theorem ClearOps.stays {i : Nat} (hi : i < M.length) (hne : i ≠ row) (hz : cellM M i col = [48]) : (clearM M row col).getD i [] = M.getD i [] := by
  apply List.ext_getElem?
  intro j
  have h1 := H.newlen hi
  have h2 := H.rowlen hi
  by_cases hj : j < k
  · have h3 := H.new_get hi hne hj
    rw [H.skip i hi hne j hj (.inl hz)] at h3
    unfold cellM at h3
    generalize (clearM M row col).getD i [] = u at *
    generalize M.getD i [] = v at *
    rw [List.getElem?_eq_getElem (by omega), List.getElem?_eq_getElem (by omega)]
    rw [List.getD_eq_getElem?_getD, List.getElem?_eq_getElem (by omega), List.getD_eq_getElem?_getD, List.getElem?_eq_getElem (by omega)] at h3
    exact congrArg some h3
  · rw [List.getElem?_eq_none (by omega), List.getElem?_eq_none (by omega)]
/-- the matrix with the pivot's row divided, and the first i rows cleared -/
def clrM (M : List (List Str)) (row col i : Nat) : List (List Str) := mixR (clearM M row col) (M.set row (scaleR (M.getD row []) (cellM M row col))) i
omit H in
theorem clrM_len (M : List (List Str)) (row col i : Nat) : (clrM M row col i).length = M.length := by
  unfold clrM; rw [mixR_len (by rw [clearM_len, List.length_set]), List.length_set]
omit H in
theorem clr_zero : clrM M row col 0 = M.set row (scaleR (M.getD row []) (cellM M row col)) := mixR_zero _ _
omit H in
theorem clr_full : clrM M row col M.length = clearM M row col := mixR_full (by rw [clearM_len, List.length_set]) (by rw [List.length_set])
theorem ClearOps.clr_row {l : Nat} (i : Nat) (hl : l < M.length) : (clrM M row col i).getD l [] = if l < i ∨ l = row then (clearM M row col).getD l [] else M.getD l [] := by
  unfold clrM
  rw [mixR_getD (by rw [clearM_len, List.length_set]), List.getD_eq_getElem?_getD (l := M.set _ _), List.getElem?_set]
  by_cases h1 : l < i
  · rw [if_pos h1, if_pos (.inl h1)]
  · rw [if_neg h1]
    by_cases h2 : row = l
    · subst h2
      rw [if_pos rfl, if_pos H.row_lt, if_pos (.inr rfl), clearM_row H.row_lt, if_pos rfl]; rfl
    · rw [if_neg h2, if_neg (by omega), List.getD_eq_getElem?_getD]
theorem ClearOps.clr_rowlen {l : Nat} (i : Nat) (hl : l < M.length) : ((clrM M row col i).getD l []).length = k := by
  rw [H.clr_row i hl]
  split
  · exact H.newlen hl
  · exact H.rowlen hl
theorem ClearOps.clr_skip {i : Nat} (hi : i < M.length) (h : i = row ∨ cellM M i col = [48]) : clrM M row col (i + 1) = clrM M row col i := by
  unfold clrM
  refine mixR_skip (by rw [clearM_len, List.length_set]) (by rw [List.length_set]; exact hi) [] ?_
  rw [List.getD_eq_getElem?_getD (l := M.set _ _), List.getElem?_set]
  by_cases e : row = i
  · subst e
    rw [if_pos rfl, if_pos hi, clearM_row hi, if_pos rfl]; rfl
  · rw [if_neg e, ← List.getD_eq_getElem?_getD]
    exact H.stays hi (fun h => e h.symm) (h.resolve_left (fun h => e h.symm))
omit H in
theorem clr_succ {i : Nat} (hi : i < M.length) : (clrM M row col i).set i ((clearM M row col).getD i []) = clrM M row col (i + 1) := by
  unfold clrM
  exact mixR_succ (by rw [clearM_len, List.length_set]) (by rw [List.length_set]; exact hi) []
end
end Num
end Go.Proofs.YtmppmdmekomjbaaGreatDoor
/- What the reduced form says: solutions, and the rank of the transpose: plain. -/
namespace Go.Proofs.YtmppmdmekomjbaaGreatDoor
namespace Num
set_option linter.unusedVariables false

/-- fewer equations than unknowns have a solution that is not 0 -/
theorem many_unknowns (N : Nat) : ∀ (p : Nat) (A : Mx) (cs : List Nat), cs.Nodup → (∀ c ∈ cs, c < N) → p < cs.length →
    ∃ a : Nat → Rat, (∀ c, c ∉ cs → a c = 0) ∧ (∃ c ∈ cs, a c ≠ 0) ∧ ∀ e, e < p → mulV N (A e) a = 0 := by
  intro p
  induction p with
  | zero =>
    intro A cs hnd hN hp
    obtain ⟨c, cs', rfl⟩ : ∃ c cs', cs = c :: cs' := by cases cs; simp at hp; exact ⟨_, _, rfl⟩
    exact ⟨fun x => kron x c, fun x hx => by show kron x c = 0; unfold kron; rw [if_neg (fun e => hx (by rw [e]; simp))], ⟨c, by simp, by show kron c c ≠ 0; unfold kron; rw [if_pos rfl]; decide⟩, fun e he => absurd he (Nat.not_lt_zero _)⟩
  | succ p ih =>
    intro A cs hnd hN hp
    by_cases h0 : ∀ c ∈ cs, A p c = 0
    · obtain ⟨a, h1, h2, h3⟩ := ih A cs hnd hN (by omega)
      refine ⟨a, h1, h2, fun e he => ?_⟩
      by_cases ee : e = p
      · subst ee
        refine sumR_zero N fun c _ => ?_
        by_cases hc : c ∈ cs
        · rw [h0 c hc]; grind
        · rw [h1 c hc]; grind
      · exact h3 e (by omega)
    · obtain ⟨c, hc, hne⟩ : ∃ c, c ∈ cs ∧ A p c ≠ 0 := Classical.byContradiction fun h => h0 fun c hc => Classical.byContradiction fun h2 => h ⟨c, hc, h2⟩
      obtain ⟨a, h1, ⟨c2, h2, h2'⟩, h3⟩ := ih (fun e x => A p c * A e x + -(A e c) * A p x) (cs.erase c) (hnd.erase c) (fun x hx => hN x (List.mem_of_mem_erase hx)) (by rw [List.length_erase_of_mem hc]; omega)
      have hac : a c = 0 := h1 c (by intro h; exact ((hnd.mem_erase_iff).1 h).1 rfl)
      have hc2 : c2 ≠ c := ((hnd.mem_erase_iff).1 h2).1
      refine ⟨fun x => 1 * a x + (-(mulV N (A p) a) / A p c) * kron x c, fun x hx => ?_, ⟨c2, List.mem_of_mem_erase h2, ?_⟩, fun e he => ?_⟩
      · show 1 * a x + _ * kron x c = 0
        rw [h1 x (fun h => hx (List.mem_of_mem_erase h))]
        unfold kron; rw [if_neg (fun e => hx (by rw [e]; exact hc))]; grind
      · show 1 * a c2 + _ * kron c2 c ≠ 0
        unfold kron; rw [if_neg hc2]; grind
      · rw [mulV_lin2, mulV_kron N _ (hN c hc)]
        by_cases ee : e = p
        · subst ee; grind
        · have := h3 e (by omega)
          rw [mulV_lin] at this
          grind
section
variable {k h : Nat} {R : Nat → Nat → Int} {m : List (List Str)} {T : Mx} {b : Nat → Nat}
/-- the numbers of a matrix as a tableau -/
def tab0 (k : Nat) (m : List (List Str)) : Mx := fun i j => if j < k then rq (cellM m i j) else kron i (j - k)
theorem sumR_app (f : Nat → Rat) (k h : Nat) : sumR f (k + h) = sumR f k + sumR (fun j => f (k + j)) h := by
  induction h with
  | zero => show sumR f k = sumR f k + 0; grind
  | succ h ih => show sumR f (k + h) + f (k + h) = sumR f k + (sumR (fun j => f (k + j)) h + f (k + h)); rw [ih]; grind
/-- a solution of the first rows is one of the last rows -/
theorem sol_up (h0 : Tb m.length (k + m.length) R (tab0 k m) (fun l => k + l)) (hT : Tb m.length (k + m.length) R T b) (v : Nat → Rat) (hv : ∀ j, k ≤ j → v j = 0) :
    (∀ i, i < m.length → mulV k (fun j => rq (cellM m i j)) v = 0) ↔ ∀ i, i < m.length → mulV k (T i) v = 0 := by
  have hcut : ∀ (r : Nat → Rat), mulV (k + m.length) r v = mulV k r v := by
    intro r
    unfold mulV
    rw [sumR_app, sumR_zero m.length fun j _ => by show r (k + j) * v (k + j) = 0; rw [hv _ (by omega)]; grind]; grind
  have h1 := (h0.ker v).symm.trans (hT.ker v)
  constructor
  · intro hh i hi
    rw [← hcut]
    refine h1.1 (fun i hi => ?_) i hi
    rw [hcut, ← hh i hi]
    exact sumR_congr k fun j hj => by unfold tab0; rw [if_pos hj]
  · intro hh i hi
    have := h1.2 (fun i hi => by rw [hcut]; exact hh i hi) i hi
    rw [hcut] at this
    rw [← this]
    exact sumR_congr k fun j hj => by unfold tab0; rw [if_pos hj]
/-- every column is made of the pivots' columns -/
theorem col_made {piv : List Nat} (h0 : Tb m.length (k + m.length) R (tab0 k m) (fun l => k + l)) (hT : Tb m.length (k + m.length) R T b) (hp : piv.length ≤ m.length) (hb : ∀ l (hl : l < piv.length), b l = piv[l]) (hk : ∀ x ∈ piv, x < k)
    (hz : ∀ i, piv.length ≤ i → i < m.length → ∀ j, j < k → T i j = 0) {i j : Nat} (hi : i < m.length) (hj : j < k) : rq (cellM m i j) = sumR (fun t => T t j * rq (cellM m i (piv.getD t 0))) piv.length := by
  have hpk : ∀ l, l < piv.length → piv.getD l 0 < k ∧ piv.getD l 0 = b l := by
    intro l hl
    rw [List.getD_eq_getElem?_getD, List.getElem?_eq_getElem hl]
    exact ⟨hk _ (List.getElem_mem hl), (hb l hl).symm⟩
  have key := (sol_up h0 hT (fun x => 1 * kron x j + -1 * sumR (fun t => T t j * kron x (piv.getD t 0)) piv.length) ?_).2 ?_ i hi
  · rw [mulV_lin2, mulV_kron k _ hj, mulV_sum k _ _ _ _ (fun l hl => (hpk l hl).1)] at key
    grind
  · intro x hx
    show 1 * kron x j + -1 * sumR (fun t => T t j * kron x (piv.getD t 0)) piv.length = 0
    rw [sumR_zero _ fun t ht => by have := (hpk t ht).1; unfold kron; rw [if_neg (by omega)]; grind]
    unfold kron; rw [if_neg (by omega)]; grind
  · intro l hl
    rw [mulV_lin2, mulV_kron k _ hj, mulV_sum k _ _ _ _ (fun l hl => (hpk l hl).1)]
    by_cases hlp : l < piv.length
    · rw [sumR_one (k := l) hlp fun t ht hne => by rw [(hpk t ht).2, hT.base l t hl (by omega)]; unfold kron; rw [if_neg (fun e => hne e.symm)]; grind, (hpk l hlp).2, hT.base l l hl hl]
      unfold kron; rw [if_pos rfl]; grind
    · rw [hz l (by omega) hl j hj, sumR_zero _ fun t ht => by rw [hz l (by omega) hl _ (hpk t ht).1]; grind]; grind
/-- a row of the last tableau is made of the first rows -/
theorem row_made (h0 : Tb m.length (k + m.length) R (tab0 k m) (fun l => k + l)) (hT : Tb m.length (k + m.length) R T b) {i j : Nat} (hi : i < m.length) (hj : j < k) : T i j = sumR (fun s => T i (k + s) * rq (cellM m s j)) m.length := by
  have hv : Ker m.length (k + m.length) (tab0 k m) (fun x => 1 * kron x j + -1 * sumR (fun s => rq (cellM m s j) * kron x (k + s)) m.length) := by
    intro l hl
    rw [mulV_lin2, mulV_kron _ _ (by omega), mulV_sum _ _ _ _ _ (fun s hs => by omega)]
    rw [sumR_one (k := l) hl fun s hs hne => by unfold tab0 kron; rw [if_neg (by omega), if_neg (by omega)]; grind]
    unfold tab0 kron; rw [if_pos hj, if_neg (by omega), if_pos (by omega)]; grind
  have := ((hT.ker _).1 ((h0.ker _).2 hv)) i hi
  rw [mulV_lin2, mulV_kron _ _ (by omega), mulV_sum _ _ _ _ _ (fun s hs => by omega)] at this
  rw [show sumR (fun s => T i (k + s) * rq (cellM m s j)) m.length = sumR (fun s => rq (cellM m s j) * T i (k + s)) m.length from sumR_congr _ fun s _ => by grind]
  grind
end
/-- sums over two indices change places -/
theorem sumR_swap (f : Nat → Nat → Rat) (a b : Nat) : sumR (fun i => sumR (fun j => f i j) b) a = sumR (fun j => sumR (fun i => f i j) a) b := by
  induction a with
  | zero => exact (sumR_zero b fun j _ => rfl).symm
  | succ a ih =>
    show sumR (fun i => sumR (fun j => f i j) b) a + sumR (fun j => f a j) b = _
    rw [ih, ← sumR_add]; rfl
/-- the rank of the transpose is no greater -/
theorem rank_le {m m' : List (List Str)} {R R' : Nat → Nat → Int} {T T' : Mx} {b b' : Nat → Nat} {piv piv' : List Nat}
    (h0 : Tb m.length (m'.length + m.length) R (tab0 m'.length m) (fun l => m'.length + l)) (hT : Tb m.length (m'.length + m.length) R T b) (hp : piv.length ≤ m.length) (hb : ∀ l (hl : l < piv.length), b l = piv[l]) (hk : ∀ x ∈ piv, x < m'.length)
    (hz : ∀ i, piv.length ≤ i → i < m.length → ∀ j, j < m'.length → T i j = 0)
    (h0' : Tb m'.length (m.length + m'.length) R' (tab0 m.length m') (fun l => m.length + l)) (hT' : Tb m'.length (m.length + m'.length) R' T' b') (hp' : piv'.length ≤ m'.length) (hb' : ∀ l (hl : l < piv'.length), b' l = piv'[l]) (hk' : ∀ x ∈ piv', x < m.length)
    (htr : ∀ i, i < m.length → ∀ j, j < m'.length → cellM m' j i = cellM m i j) : piv'.length ≤ piv.length := by
  refine Nat.le_of_not_lt fun hlt => ?_
  obtain ⟨a, ha0, ⟨c, hc, hca⟩, ha⟩ := many_unknowns piv'.length piv.length (fun t l => sumR (fun s => T' l (m.length + s) * T t s) m'.length) (List.range piv'.length) List.nodup_range (fun c hc => List.mem_range.1 hc) (by rw [List.length_range]; exact hlt)
  have hc' := List.mem_range.1 hc
  have hval : ∀ l, l < piv'.length → ∀ i, i < m.length → T' l i = sumR (fun t => rq (cellM m i (piv.getD t 0)) * sumR (fun s => T' l (m.length + s) * T t s) m'.length) piv.length := by
    intro l hl i hi
    rw [row_made h0' hT' (by omega) hi]
    rw [show sumR (fun t => rq (cellM m i (piv.getD t 0)) * sumR (fun s => T' l (m.length + s) * T t s) m'.length) piv.length = sumR (fun t => sumR (fun s => rq (cellM m i (piv.getD t 0)) * (T' l (m.length + s) * T t s)) m'.length) piv.length from sumR_congr _ fun t _ => (sumR_mul _ _ _).symm]
    rw [sumR_swap]
    refine sumR_congr _ fun s hs => ?_
    rw [htr i hi s hs, col_made h0 hT hp hb hk hz hi hs, ← sumR_mul]
    exact sumR_congr _ fun t _ => by grind
  have hzero : ∀ i, i < m.length → sumR (fun l => a l * T' l i) piv'.length = 0 := by
    intro i hi
    rw [show sumR (fun l => a l * T' l i) piv'.length = sumR (fun l => sumR (fun t => a l * (rq (cellM m i (piv.getD t 0)) * sumR (fun s => T' l (m.length + s) * T t s) m'.length)) piv.length) piv'.length from sumR_congr _ fun l hl => by rw [hval l hl i hi, sumR_mul]]
    rw [sumR_swap]
    refine sumR_zero _ fun t ht => ?_
    have h1 := ha t ht
    unfold mulV at h1
    rw [show sumR (fun l => a l * (rq (cellM m i (piv.getD t 0)) * sumR (fun s => T' l (m.length + s) * T t s) m'.length)) piv'.length = sumR (fun l => rq (cellM m i (piv.getD t 0)) * (sumR (fun s => T' l (m.length + s) * T t s) m'.length * a l)) piv'.length from sumR_congr _ fun l _ => by grind]
    rw [sumR_mul, h1]; grind
  have hcl : piv'[c] < m.length := hk' _ (List.getElem_mem hc')
  have h1 := hzero piv'[c] hcl
  rw [sumR_one (k := c) hc' fun l hl hne => by rw [← hb' c hc', hT'.base l c (by omega) (by omega)]; unfold kron; rw [if_neg hne]; grind, ← hb' c hc', hT'.base c c (by omega) (by omega)] at h1
  unfold kron at h1
  rw [if_pos rfl] at h1
  exact hca (by grind)
end Num
end Go.Proofs.YtmppmdmekomjbaaGreatDoor
/- What the elimination is known to do on a matrix: plain. -/
namespace Go.Proofs.YtmppmdmekomjbaaGreatDoor
namespace Num
set_option linter.unusedVariables false
theorem findM_eq {M : List (List Str)} {row col a : Nat} (h1 : row ≤ a) (h2 : a ≤ M.length) (h3 : ∀ i, row ≤ i → i < a → cellM M i col = [48]) (h4 : a = M.length ∨ cellM M a col ≠ [48]) : findM M row col = a := by
  have hle := findM_le M row col (by omega)
  rcases Nat.lt_trichotomy (findM M row col) a with h | h | h
  · exact absurd (h3 _ hle.1 h) (findM_hit (by omega))
  · exact h
  · rcases h4 with h4 | h4
    · omega
    · exact absurd (findM_miss h1 h (by omega)) h4
structure RedOK (D k : Nat) (M : List (List Str)) : Prop where
  width : 0 < M.length → (M.getD 0 []).length = k
  len : ∀ c, c ≤ k → (stN M c).1.length = M.length
  mat : ∀ c, c ≤ k → Mat D D k (stN M c).1
  few : ∀ c, c ≤ k → (stN M c).2.length ≤ M.length
  ops : ∀ c, c < k → findM (stN M c).1 (stN M c).2.length c ≠ M.length → ClearOps D k (swapM (stN M c).1 (stN M c).2.length (findM (stN M c).1 (stN M c).2.length c)) (stN M c).2.length c
theorem stN_hit {M : List (List Str)} {c : Nat} {st : List (List Str) × List Nat} (hs : stN M c = st) (h : findM st.1 st.2.length c ≠ st.1.length) : stN M (c + 1) = (clearM (swapM st.1 st.2.length (findM st.1 st.2.length c)) st.2.length c, st.2 ++ [c]) := by
  rw [stN_succ, hs]; unfold stepM; simp only; rw [if_neg h]
theorem stN_miss {M : List (List Str)} {c : Nat} {st : List (List Str) × List Nat} (hs : stN M c = st) (h : findM st.1 st.2.length c = st.1.length) : stN M (c + 1) = st := by
  rw [stN_succ, hs]; unfold stepM; simp only; rw [if_pos h]
/-- the sizes that serve: h rows of k numbers of at most g digits -/
theorem redOK_of {g k : Nat} {m : List (List Str)} (hm : Mat g g k m) (hE : 3 * gr (m.length - 1) (1 + k * g) + 1 ≤ 4096) (hg : g ≤ 1 + k * g) : RedOK (gr (m.length - 1) (1 + k * g)) k m := by
  obtain ⟨R, _, h⟩ := red_all hm hE hg
  exact ⟨fun h0 => (hm.row h0).1, fun c hc => (h c hc).1.len, fun c hc => (h c hc).1.mat, fun c hc => (h c hc).1.few, fun c hc hf => (h c (Nat.le_of_lt hc)).2 hc hf⟩
end Num
end Go.Proofs.YtmppmdmekomjbaaGreatDoor
/- What check says of a matrix: plain. -/
namespace Go.Proofs.YtmppmdmekomjbaaGreatDoor
namespace Num
set_option linter.unusedVariables false
/-- the error of a matrix and of vectors; w is the width, or less than 0 -/
def chkE (M : List (List Str)) (w : Int) (sq : Bool) (vs : List (List Str)) : Int :=
  if 64 < M.length ∨ M.any (fun r => decide (64 < r.length)) = true then 4
  else if M.any (fun r => decide ((r.length : Int) ≠ (if w < 0 ∧ 0 < M.length then ((M.getD 0 []).length : Int) else w)) || (sq && decide (r.length ≠ M.length))) = true then 2
  else if vs.any (fun v => sq && decide (v.length ≠ M.length)) = true then 2
  else if (M ++ vs).any (fun r => r.any fun a => !rightQ a) = true then 3 else 0
section
variable {α : Type}
theorem any_take_succ {l : List α} {f : α → Bool} {k : Nat} (hk : k < l.length) (h : (l.take k).any f = false) (h1 : f l[k] = false) : (l.take (k + 1)).any f = false := by
  rw [List.take_succ_eq_append_getElem hk, List.any_append, h, List.any_cons, h1]; rfl
theorem any_hit {l : List α} {f : α → Bool} {k : Nat} (hk : k < l.length) (h : f l[k] = true) : l.any f = true := List.any_eq_true.2 ⟨_, List.getElem_mem hk, h⟩
theorem any_full {l : List α} {f : α → Bool} {k : Nat} (hk : k = l.length) (h : (l.take k).any f = false) : l.any f = false := by rw [hk, List.take_length] at h; exact h
end
end Num
end Go.Proofs.YtmppmdmekomjbaaGreatDoor
