/- The reference's Words, plain: lines read from the left. -/
import Derived.Test.YtdgnnahkcklepaaDoorTRef
namespace Go.Proofs.YtdgnnahkcklepaaDoor
open Num Txt

/-- where a word that begins at p ends -/
def wordAt (l : Str) (p n : Nat) : Prop := p ≤ n ∧ n ≤ l.length ∧ ((l.take n).drop p).all wch = true ∧ (n < l.length → wch (at8 l n) = false)
theorem part_last {p : Str} (h : isPart p) : p.getLast? ≠ some 32 := by
  rcases h with h | ⟨t, rfl⟩
  · intro e
    unfold isWord at h
    simp only [Bool.and_eq_true, List.all_eq_true] at h
    have := h.2 32 (List.mem_of_getLast? e)
    exact absurd this (by decide)
  · unfold quote
    rw [List.getLast?_append]
    simp
theorem line_last {ps : List Str} (hp : ∀ p ∈ ps, isPart p) : (joinP ps).getLast? ≠ some 32 := by
  induction ps with
  | nil => simp [joinP]
  | cons p r ih =>
    rw [joinP_cons]
    by_cases h : r = []
    · rw [if_pos h]; exact part_last (hp p (by simp))
    · rw [if_neg h]
      have hr := joinP_ne h (fun q hq => hp q (by simp [hq]))
      have h2 := ih (fun q hq => hp q (by simp [hq]))
      cases hj : joinP r with
      | nil => exact absurd hj hr
      | cons z zs =>
        rw [hj] at h2
        rw [List.getLast?_append, List.getLast?_cons_cons]
        simpa using h2
/-- the state of the reference's loop: a part is awaited at k -/
def rInv (l : Str) (k : Nat) (os : List Str) : Prop := (∀ p ∈ os, isPart p) ∧ k ≤ l.length ∧ ((os = [] ∧ k = 0) ∨ (os ≠ [] ∧ 0 < k ∧ at8 l (k - 1) = 32 ∧ l = joinP os ++ 32 :: l.drop k))
theorem rInv_start (l : Str) : rInv l 0 [] := ⟨by simp, by omega, .inl ⟨rfl, rfl⟩⟩
theorem rInv_line {l : Str} {k : Nat} {os ps : List Str} (h : rInv l k os) (hs : l ≠ []) (hl : lineOK l ps) : ∃ p ps', lineOK (l.drop k) (p :: ps') := by
  obtain ⟨ho, hk, ⟨rfl, rfl⟩ | ⟨h1, _, _, h3⟩⟩ := h
  · rw [List.drop_zero]
    cases ps with
    | nil => exact absurd hl.2 hs
    | cons p ps => exact ⟨p, ps, hl⟩
  · by_cases he : l.drop k = []
    · rw [he] at h3
      have h4 := line_last hl.1
      rw [← hl.2, h3] at h4
      simp at h4
    · have hl2 := hl
      rw [h3] at hl2
      obtain ⟨ps', h4, _, h6⟩ := line_split os ps (l.drop k) h1 he ho hl2
      cases ps' with
      | nil => exact absurd rfl h4
      | cons p ps' => exact ⟨p, ps', h6⟩
/-- a part that is read as far as it goes is the line's first -/
def greedy (p0 r : Str) : Prop := (∃ t, p0 = quote t) ∨ (isWord p0 = true ∧ (r = [] ∨ ∃ c x, r = c :: x ∧ wch c = false))
theorem greedy_part {p0 r : Str} (h : greedy p0 r) : isPart p0 := by
  rcases h with h | h
  · exact .inr h
  · exact .inl h.1
theorem word_prefix {a b : Str} : ∀ {r x : Str}, a.all wch = true → b.all wch = true → (r = [] ∨ ∃ c y, r = c :: y ∧ wch c = false) → (x = [] ∨ ∃ c y, x = c :: y ∧ wch c = false) → a ++ r = b ++ x → a = b := by
  induction a generalizing b with
  | nil =>
    intro r x ha hb hr hx h
    cases b with
    | nil => rfl
    | cons c b =>
      simp at hb
      rcases hr with rfl | ⟨d, y, rfl, hd⟩
      · simp at h
      · simp at h; rw [h.1, hb.1] at hd; cases hd
  | cons c a ih =>
    intro r x ha hb hr hx h
    simp only [List.all_cons, Bool.and_eq_true] at ha
    cases b with
    | nil =>
      rcases hx with rfl | ⟨d, y, rfl, hd⟩
      · simp at h
      · simp at h; rw [← h.1, ha.1] at hd; cases hd
    | cons d b =>
      simp only [List.all_cons, Bool.and_eq_true] at hb
      simp only [List.cons_append, List.cons.injEq] at h
      rw [h.1, ih ha.2 hb.2 hr hx h.2]
theorem greedy_first {p0 r p : Str} {ps : List Str} (h : greedy p0 r) (hl : lineOK (p0 ++ r) (p :: ps)) : p = p0 ∧ (r = [] ∨ ∃ x, r = 32 :: x) := by
  obtain ⟨h1, h2⟩ := line_head hl
  have hp : isPart p := hl.1 p (by simp)
  have key : p.length = p0.length → p = p0 ∧ (r = [] ∨ ∃ x, r = 32 :: x) := by
    intro e
    rcases h2 with ⟨_, e2⟩ | ⟨_, e2⟩
    · have := List.append_inj (s₁ := p0) (t₁ := r) (s₂ := p) (t₂ := []) (by rw [List.append_nil]; exact e2) e.symm
      exact ⟨this.1.symm, .inl this.2⟩
    · have := List.append_inj e2 e.symm
      exact ⟨this.1.symm, .inr ⟨_, this.2⟩⟩
  have tail : ∃ x, p0 ++ r = p ++ x ∧ (x = [] ∨ ∃ c y, x = c :: y ∧ wch c = false) := by
    rcases h2 with ⟨_, e2⟩ | ⟨_, e2⟩
    · exact ⟨[], by rw [List.append_nil]; exact e2, .inl rfl⟩
    · exact ⟨_, e2, .inr ⟨32, _, rfl, by decide⟩⟩
  obtain ⟨x, hx, hx2⟩ := tail
  have hw : ∀ q : Str, isWord q = true → q.all wch = true ∧ ∃ c y, q = c :: y ∧ wch c = true := by
    intro q hq
    unfold isWord at hq
    simp only [Bool.and_eq_true] at hq
    refine ⟨hq.2, ?_⟩
    cases q with
    | nil => simp at hq
    | cons c y => exact ⟨c, y, rfl, by have := hq.2; simp at this; exact this.1⟩
  rcases h with ⟨t, rfl⟩ | ⟨h3, h4⟩
  · rcases hp with hp | ⟨u, rfl⟩
    · obtain ⟨_, c, y, rfl, hc⟩ := hw p hp
      simp [quote] at hx
      rw [← hx.1] at hc; exact absurd hc (by decide)
    · apply key
      have a1 := quotedN_quote t r
      have a2 := quotedN_quote u x
      rw [hx] at a1; omega
  · rcases hp with hp | ⟨u, rfl⟩
    · exact key (by rw [word_prefix (hw p0 h3).1 (hw p hp).1 h4 hx2 hx])
    · obtain ⟨_, c, y, rfl, hc⟩ := hw p0 h3
      simp [quote] at hx
      rw [hx.1] at hc; exact absurd hc (by decide)
end Go.Proofs.YtdgnnahkcklepaaDoor
