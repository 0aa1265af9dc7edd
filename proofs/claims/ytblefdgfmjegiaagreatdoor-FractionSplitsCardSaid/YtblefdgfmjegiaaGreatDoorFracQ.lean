/- What is fractional in solutions: plain. -/
import Derived.Test.YtblefdgfmjegiaaGreatDoorG14
import Derived.Test.YtblefdgfmjegiaaGreatDoorG19
namespace Go.Proofs.YtblefdgfmjegiaaGreatDoor
namespace Num
set_option linter.unusedVariables false
/-- is a number in a set? -/
def hasB (s i : Int) : Bool := decide (0 ≤ i ∧ i ≤ 62 ∧ s / 2 ^ i.toNat % 2 = 1)
/-- is a text an integer? -/
def wholeQ (a : Str) : Bool := rightQ a && !hasS a
def ones (f : Int → Int → Bool) (l : List (Int × Int)) : List Int := l.map fun c => if f c.1 c.2 then 1 else 0
def sumQ (ns : List Int) (v : List Str) : Str × Int := if v.length < ns.length then ([], 2) else timesQ ns (v.take ns.length)
def isType (k : Int) (t s : Int) : Bool := decide (t = k)
def bothIn (a b : Int) (t s : Int) : Bool := hasB s a && hasB s b
def usedQ (l : List (Int × Int)) (v : List Str) (k : Int) : Str × Int := sumQ (ones (isType k) l) v
def togQ (l : List (Int × Int)) (v : List Str) (a b : Int) : Str × Int := sumQ (ones (bothIn a b) l) v
theorem ones_len (f : Int → Int → Bool) (l : List (Int × Int)) : (ones f l).length = l.length := by unfold ones; simp
theorem ones_01 (f : Int → Int → Bool) (l : List (Int × Int)) : ∀ n ∈ ones f l, n = 0 ∨ n = 1 := by
  intro n hn
  unfold ones at hn
  obtain ⟨c, _, rfl⟩ := List.mem_map.1 hn
  split
  · exact .inr rfl
  · exact .inl rfl
theorem tog_swap (l : List (Int × Int)) (v : List Str) (a b : Int) : togQ l v a b = togQ l v b a := by
  unfold togQ ones
  congr 1
  refine List.map_congr_left fun c _ => ?_
  unfold bothIn
  rw [Bool.and_comm]
theorem decI_parts (z : Int) : qn (decI z) = z ∧ qd (decI z) = 1 := by
  have h1 := qn_ratS z 1
  have h2 := qd_ratS z 1
  have e : ratS z 1 = decI z := by unfold ratS; rw [if_pos rfl]
  rw [e] at h1 h2
  exact ⟨h1, h2⟩
theorem has_qd {a : Str} (h : rightQ a = true) : hasS a = !decide (qd a = 1) := by
  obtain ⟨n, d, _, _, _, _, rfl⟩ := rightQ_out h
  rw [qd_ratS]
  exact (parts_ratS n d).2.2
theorem has_decI (z : Int) : hasS (decI z) = false := hasS_no (no_slash_decI z)
theorem rightQ_small {z : Int} (h : z.natAbs ≤ 100000000000000) : rightQ (decI z) = true := rightQ_decI (by constructor <;> omega)
/-- an integer value has no slash -/
theorem no_slash {a : Str} {z : Int} (h : rightQ a = true) (hz : z.natAbs ≤ 100000000000000) (e : rq a = (z : Rat)) : hasS a = false := by
  have := rq_inj h (rightQ_small hz) (e.trans (rq_int z).symm)
  rw [this]; exact has_decI z
theorem rq_le_int {a : Str} {z : Int} (h : rightQ a = true) (hz : z.natAbs ≤ 100000000000000) : rq a ≤ (z : Rat) ↔ qn a ≤ z * qd a := by
  have h1 := rq_lt (rightQ_small hz) h
  rw [(decI_parts z).1, (decI_parts z).2, rq_int] at h1
  constructor
  · intro h2
    have : ¬ (z : Rat) < rq a := fun h3 => by grind
    have h4 : ¬ z * (qd a : Int) < qn a * ((1 : Nat) : Int) := fun h3 => this (h1.2 h3)
    omega
  · intro h2
    have : ¬ z * (qd a : Int) < qn a * ((1 : Nat) : Int) := by omega
    have h4 : ¬ (z : Rat) < rq a := fun h3 => this (h1.1 h3)
    rw [Rat.not_lt] at h4
    exact h4
theorem rq_ge_int {a : Str} {z : Int} (h : rightQ a = true) (hz : z.natAbs ≤ 100000000000000) : (z : Rat) ≤ rq a ↔ z * qd a ≤ qn a := by
  have h1 := rq_lt h (rightQ_small hz)
  rw [(decI_parts z).1, (decI_parts z).2, rq_int] at h1
  constructor
  · intro h2
    have : ¬ rq a < (z : Rat) := fun h3 => by grind
    have h4 : ¬ qn a * ((1 : Nat) : Int) < z * (qd a : Int) := fun h3 => this (h1.2 h3)
    omega
  · intro h2
    have : ¬ qn a * ((1 : Nat) : Int) < z * (qd a : Int) := by omega
    have h4 : ¬ rq a < (z : Rat) := fun h3 => this (h1.1 h3)
    rw [Rat.not_lt] at h4
    exact h4
theorem short_val {x : Str} (h : rightQ x = true) (hl : x.length ≤ 12) : ((-1000000000000 : Int) : Rat) ≤ rq x ∧ rq x ≤ ((1000000000000 : Int) : Rat) := by
  have h1 := text_digits h
  have h2 := dl_pos ((qd x : Nat) : Int)
  have h3 : dl (qn x) ≤ 12 := by omega
  rw [dl_le (by omega)] at h3
  have h4 := (fr_right h).2.1
  have h5 : 0 < qd x := by
    obtain ⟨n, d, a, b, c, e, rfl⟩ := rightQ_out h
    rw [qd_ratS]; omega
  rw [rq_ge_int h (by decide), rq_le_int h (by decide)]
  omega
theorem dot_bound (M : Rat) (hM : 0 ≤ M) : ∀ (ns : List Int) (xs : List Rat), (∀ n ∈ ns, n = 0 ∨ n = 1) → (∀ x ∈ xs, -M ≤ x ∧ x ≤ M) → -((ns.length : Nat) : Rat) * M ≤ dot ns xs ∧ dot ns xs ≤ ((ns.length : Nat) : Rat) * M := by
  intro ns
  induction ns with
  | nil => intro xs _ _; unfold dot; constructor <;> simp <;> grind
  | cons n ns ih =>
    intro xs h1 h2
    cases xs with
    | nil =>
      have : (0 : Rat) ≤ (((n :: ns).length : Nat) : Rat) * M := Rat.mul_nonneg (Rat.natCast_nonneg) hM
      unfold dot; constructor <;> grind
    | cons x xs =>
      have h3 := ih xs (fun n hn => h1 n (by simp [hn])) (fun x hx => h2 x (by simp [hx]))
      have h4 := h2 x (by simp)
      have e : (((n :: ns).length : Nat) : Rat) = ((ns.length : Nat) : Rat) + 1 := by rw [List.length_cons]; grind
      rw [e]
      unfold dot
      rcases h1 n (by simp) with rfl | rfl
      · have : ((0 : Int) : Rat) = 0 := rfl
        rw [this]; constructor <;> grind
      · have : ((1 : Int) : Rat) = 1 := rfl
        rw [this]; constructor <;> grind
/-- what a sum of variables is -/
structure SumOK (s : Str) : Prop where
  right : rightQ s = true
  len : s.length ≤ 5000
  low : -40000000000000 * (qd s : Int) ≤ qn s
  high : qn s ≤ 40000000000000 * (qd s : Int)
theorem dot_int : ∀ (ns : List Int) (xs : List Rat), (∀ x ∈ xs, ∃ z : Int, x = (z : Rat)) → ∃ z : Int, dot ns xs = (z : Rat) := by
  intro ns
  induction ns with
  | nil => intro xs _; exact ⟨0, by unfold dot; rfl⟩
  | cons n ns ih =>
    intro xs h
    cases xs with
    | nil => exact ⟨0, by unfold dot; rfl⟩
    | cons x xs =>
      obtain ⟨z, hz⟩ := ih xs (fun x hx => h x (by simp [hx]))
      obtain ⟨y, hy⟩ := h x (by simp)
      refine ⟨n * y + z, ?_⟩
      unfold dot
      rw [hz, hy, Rat.intCast_add, Rat.intCast_mul]
theorem whole_int {a : Str} (h : wholeQ a = true) : ∃ z : Int, rq a = (z : Rat) := by
  unfold wholeQ at h
  rw [Bool.and_eq_true, Bool.not_eq_true'] at h
  have h1 := has_qd h.1
  rw [h.2] at h1
  have h2 : qd a = 1 := by
    by_cases e : qd a = 1
    · exact e
    · simp [e] at h1
  refine ⟨qn a, ?_⟩
  unfold rq
  rw [h2]
  have : (((1 : Nat) : Int) : Rat) = 1 := rfl
  rw [this]; grind
/-- a sum of short variables -/
theorem sum_ok {ns : List Int} {v : List Str} (h01 : ∀ n ∈ ns, n = 0 ∨ n = 1) (hl : ns.length ≤ 40) (hv : ∀ x ∈ v, x.length ≤ 12) :
    (v.length < ns.length → sumQ ns v = ([], 2)) ∧
    (ns.length ≤ v.length → (v.take ns.length).all rightQ = false → sumQ ns v = ([], 3)) ∧
    (ns.length ≤ v.length → (v.take ns.length).all rightQ = true → (sumQ ns v).2 = 0 ∧ SumOK (sumQ ns v).1 ∧ ((v.take ns.length).all wholeQ = true → hasS (sumQ ns v).1 = false)) := by
  refine ⟨fun h => by unfold sumQ; rw [if_pos h], fun h h2 => ?_, fun h h2 => ?_⟩
  · unfold sumQ timesQ
    rw [if_neg (by omega), if_pos (by rw [List.length_take]; omega), if_neg (by rw [h2]; decide)]
  · have hr : ∀ x ∈ v.take ns.length, rightQ x = true := List.all_eq_true.1 h2
    have hx : ∀ x ∈ v.take ns.length, x.length ≤ 12 := fun x hx => hv x (List.mem_of_mem_take hx)
    have hlen : ns.length = (v.take ns.length).length := by rw [List.length_take]; omega
    have hm : ns.length * (21 + 12) ≤ 40 * (21 + 12) := Nat.mul_le_mul_right _ hl
    have ht := times_ok (K := 12) hlen (fun n hn => by rcases h01 n hn with rfl | rfl <;> (constructor <;> decide)) (fun x hx2 => frT_of (hr x hx2) (hx x hx2)) (by omega) (by omega)
    have e : sumQ ns v = timesQ ns (v.take ns.length) := by unfold sumQ; rw [if_neg (by omega)]
    rw [e]
    have hq := times_rat ht.1
    have hR : rightQ (timesQ ns (v.take ns.length)).1 = true := hq.2.2.1
    have hb := dot_bound 1000000000000 (by decide) ns ((v.take ns.length).map rq) h01 (fun x hx2 => by
      obtain ⟨y, hy, rfl⟩ := List.mem_map.1 hx2
      have := short_val (hr y hy) (hx y hy)
      rw [show ((-1000000000000 : Int) : Rat) = -1000000000000 by rfl, show ((1000000000000 : Int) : Rat) = 1000000000000 by rfl] at this
      exact this)
    rw [← hq.2.2.2] at hb
    have hn : ((ns.length : Nat) : Rat) ≤ 40 := by
      have : ((ns.length : Nat) : Rat) ≤ ((40 : Nat) : Rat) := Rat.natCast_le_natCast.2 hl
      exact this
    have h40 : rq (timesQ ns (v.take ns.length)).1 ≤ ((40000000000000 : Int) : Rat) := by
      rw [show ((40000000000000 : Int) : Rat) = 40 * 1000000000000 by decide +kernel]
      have := Rat.mul_le_mul_of_nonneg_right hn (show (0 : Rat) ≤ 1000000000000 by decide)
      grind
    have h41 : ((-40000000000000 : Int) : Rat) ≤ rq (timesQ ns (v.take ns.length)).1 := by
      rw [show ((-40000000000000 : Int) : Rat) = -(40 * 1000000000000) by decide +kernel]
      have := Rat.mul_le_mul_of_nonneg_right hn (show (0 : Rat) ≤ 1000000000000 by decide)
      grind
    rw [rq_le_int hR (by decide)] at h40
    rw [rq_ge_int hR (by decide)] at h41
    have hL := ht.2.len
    refine ⟨ht.1, ⟨hR, by omega, h41, h40⟩, fun hw => ?_⟩
    obtain ⟨z, hz⟩ := dot_int ns ((v.take ns.length).map rq) (fun x hx2 => by
      obtain ⟨y, hy, rfl⟩ := List.mem_map.1 hx2
      exact whole_int (List.all_eq_true.1 hw y hy))
    rw [← hq.2.2.2] at hz
    refine no_slash (z := z) hR ?_ hz
    have q1 := (rq_le_int (z := 40000000000000) hR (by decide)).2 h40
    have q2 := (rq_ge_int (z := -40000000000000) hR (by decide)).2 h41
    rw [hz] at q1 q2
    have q1 := Rat.intCast_le_intCast.1 q1
    have q2 := Rat.intCast_le_intCast.1 q2
    omega
/-- the next integer that is not greater -/
def floorZ (s : Str) : Int := qn s / qd s
theorem floor_ok {s : Str} (h : SumOK s) : floorQ s = decI (floorZ s) ∧ fits (floorZ s) ∧ (floorZ s).natAbs ≤ 40000000000001 := by
  have h1 := h.low
  have h2 := h.high
  have h5 : 0 < qd s := by
    obtain ⟨n, d, a, b, c, e, rfl⟩ := rightQ_out h.right
    rw [qd_ratS]; omega
  have l1 : floorZ s ≤ 40000000000000 := by
    have := Int.ediv_le_ediv (c := (qd s : Int)) (by omega) h2
    rw [Int.mul_ediv_cancel _ (by omega)] at this
    exact this
  have l2 : -40000000000000 ≤ floorZ s := by
    have := Int.ediv_le_ediv (c := (qd s : Int)) (by omega) h1
    rw [Int.mul_ediv_cancel _ (by omega)] at this
    exact this
  refine ⟨by unfold floorQ floorZ; rw [if_pos h.right], ⟨by omega, by omega⟩, by omega⟩
/-- a fraction lies between two integers -/
theorem floor_between {s : Str} (h : SumOK s) (hs : hasS s = true) : cmpQ (decI (floorZ s)) s < 0 ∧ cmpQ s (decI (floorZ s + 1)) < 0 := by
  obtain ⟨_, _, hb⟩ := floor_ok h
  have h5 : 0 < qd s := by
    obtain ⟨n, d, a, b, c, e, rfl⟩ := rightQ_out h.right
    rw [qd_ratS]; omega
  have hd := has_qd h.right
  rw [hs] at hd
  have r1 := rightQ_small (z := floorZ s) (by omega)
  have r2 := rightQ_small (z := floorZ s + 1) (by omega)
  have e1 : floorZ s * qd s ≤ qn s := Int.ediv_mul_le _ (by omega)
  have e2 : qn s < (floorZ s + 1) * qd s := Int.lt_ediv_add_one_mul_self _ (by omega)
  have ne : floorZ s * qd s ≠ qn s := by
    intro e
    have h3 := (rq_le_int (z := floorZ s) h.right (by omega)).2 (by omega)
    have h4 := (rq_ge_int (z := floorZ s) h.right (by omega)).2 (by omega)
    have := no_slash (z := floorZ s) h.right (by omega) (Rat.le_antisymm h3 h4)
    rw [hs] at this; cases this
  rw [(cmpQ_rat r1 h.right).1, (cmpQ_rat h.right r2).1, rq_lt r1 h.right, rq_lt h.right r2, (decI_parts _).1, (decI_parts _).2, (decI_parts _).1, (decI_parts _).2]
  omega
end Num
end Go.Proofs.YtblefdgfmjegiaaGreatDoor
