/- Plain theory of lines of parts. No program in sight. -/
import Derived.Test.YtdgnnahkcklepaaDoorTxt
namespace Go.Proofs.YtdgnnahkcklepaaDoor
namespace Txt
open Num

def wch (c : UInt8) : Bool := decide (33 ≤ c.toNat) && decide (c.toNat ≤ 126) && !(c == 34)
def isWord (s : Str) : Bool := !s.isEmpty && s.all wch
def isPart (p : Str) : Prop := isWord p = true ∨ ∃ t, p = quote t
def joinP : List Str → Str
  | [] => []
  | [p] => p
  | p :: q :: r => p ++ 32 :: joinP (q :: r)
def lineOK (s : Str) (ps : List Str) : Prop := (∀ p ∈ ps, isPart p) ∧ s = joinP ps

theorem isPart_ne {p : Str} (h : isPart p) : p ≠ [] := by
  rcases h with h | ⟨t, rfl⟩
  · intro e; subst e; simp [isWord] at h
  · simp [quote]
theorem joinP_cons {p : Str} {ps : List Str} : joinP (p :: ps) = if ps = [] then p else p ++ 32 :: joinP ps := by
  cases ps with
  | nil => rfl
  | cons q r => simp [joinP]
theorem joinP_ne {ps : List Str} (h : ps ≠ []) (hp : ∀ p ∈ ps, isPart p) : joinP ps ≠ [] := by
  cases ps with
  | nil => exact absurd rfl h
  | cons p r =>
    rw [joinP_cons]
    have := isPart_ne (hp p (by simp))
    split
    · exact this
    · simp [this]
theorem joinP_append {a b : List Str} (ha : a ≠ []) (hb : b ≠ []) : joinP (a ++ b) = joinP a ++ 32 :: joinP b := by
  induction a with
  | nil => exact absurd rfl ha
  | cons p r ih =>
    rw [List.cons_append, joinP_cons, joinP_cons]
    by_cases hr : r = []
    · subst hr; simp [hb]
    · rw [if_neg (by simp [hr]), if_neg hr, ih hr]; simp

/-- where the scan of a quoted text ends -/
def scan : Str → Option Nat
  | [] => none
  | [c] => if c = 34 then some 1 else none
  | c :: d :: l => if c = 34 then some 1 else if c = 92 then (scan l).map (· + 2) else (scan (d :: l)).map (· + 1)
def quotedN (s : Str) : Nat := match scan (s.drop 1) with | some n => n + 1 | none => 0
theorem scan_one {c : UInt8} (h1 : c ≠ 34) (h2 : c ≠ 92) (l : Str) : scan (c :: l) = (scan l).map (· + 1) := by
  cases l with
  | nil => simp [scan, h1]
  | cons d l => rw [scan, if_neg h1, if_neg h2]
theorem scan_two (d : UInt8) (l : Str) : scan (92 :: d :: l) = (scan l).map (· + 2) := by rw [scan, if_neg (by decide), if_pos rfl]
theorem scan_end (l : Str) : scan (34 :: l) = some 1 := by cases l <;> simp [scan]
theorem hexd_ne (n : Nat) (h : n < 16) : hexd n ≠ 34 ∧ hexd n ≠ 92 := by
  have : ∀ n, n < 16 → hexd n ≠ 34 ∧ hexd n ≠ 92 := by decide
  exact this n h
theorem scan_form (c : UInt8) (x : Str) : scan (form c ++ x) = (scan x).map (· + (form c).length) := by
  unfold form
  by_cases h1 : c = 34 ∨ c = 92
  · rw [if_pos h1]; exact scan_two c x
  · rw [if_neg h1]
    by_cases h2 : c = 10
    · rw [if_pos h2]; exact scan_two 110 x
    · rw [if_neg h2]
      by_cases h3 : c.toNat < 32 ∨ 126 < c.toNat
      · rw [if_pos h3]
        have ha := hexd_ne (c.toNat / 16) (by have := c.toNat_lt; omega)
        have hb := hexd_ne (c.toNat % 16) (by omega)
        show scan (92 :: 120 :: (hexd (c.toNat / 16) :: hexd (c.toNat % 16) :: x)) = _
        rw [scan_two, scan_one ha.1 ha.2, scan_one hb.1 hb.2]
        cases scan x <;> simp
      · rw [if_neg h3]
        exact scan_one (fun e => h1 (.inl e)) (fun e => h1 (.inr e)) x
theorem scan_forms (t : Str) (x : Str) : scan (forms t ++ 34 :: x) = some ((forms t).length + 1) := by
  induction t with
  | nil => rw [forms_nil, List.nil_append, scan_end]; rfl
  | cons c t ih =>
    rw [forms_cons, List.append_assoc, scan_form, ih]
    simp; omega
theorem quotedN_quote (t x : Str) : quotedN (quote t ++ x) = (quote t).length := by
  unfold quotedN quote
  simp only [List.cons_append, List.drop_succ_cons, List.drop_zero, List.append_assoc, List.nil_append]
  rw [scan_forms]; simp

/-- the first blank, or the end -/
def idx32 (s : Str) : Nat := (s.takeWhile fun c => c != 32).length
theorem idx32_le (s : Str) : idx32 s ≤ s.length := by unfold idx32; exact (List.takeWhile_sublist _).length_le
open Classical in
noncomputable def partN (s : Str) : Nat :=
  if s.head? = some 34 then (if unqE (s.take (quotedN s)) = 0 then quotedN s else 0)
  else if isWord (s.take (idx32 s)) = true then idx32 s else 0
theorem wch_ne {c : UInt8} (h : wch c = true) : c ≠ 32 ∧ c ≠ 34 := by
  unfold wch at h; simp at h
  refine ⟨?_, h.2⟩
  rintro rfl; simp at h
theorem idx32_word {p rest : Str} (hp : isWord p = true) (hr : rest = [] ∨ rest.head? = some 32) : idx32 (p ++ rest) = p.length := by
  have hall : ∀ c ∈ p, (c != 32) = true := by
    intro c hc
    unfold isWord at hp; simp at hp
    have := wch_ne (hp.2 c hc)
    simpa using this.1
  unfold idx32
  rw [List.takeWhile_append_of_pos hall]
  rcases hr with rfl | hr
  · simp
  · cases rest with
    | nil => simp
    | cons d r => simp at hr; subst hr; simp
theorem head_word {p : Str} (hp : isWord p = true) (rest : Str) : (p ++ rest).head? ≠ some 34 := by
  unfold isWord at hp; simp at hp
  cases p with
  | nil => simp at hp
  | cons c r =>
    simp
    exact (wch_ne (hp.2 c (by simp))).2
theorem partN_of {p rest : Str} (hp : isPart p) (hr : rest = [] ∨ rest.head? = some 32) : partN (p ++ rest) = p.length := by
  rcases hp with hp | ⟨t, rfl⟩
  · unfold partN
    rw [if_neg (head_word hp rest), idx32_word hp hr, List.take_left, if_pos hp]
  · unfold partN
    have : (quote t ++ rest).head? = some 34 := by simp [quote]
    rw [if_pos this, quotedN_quote, List.take_left, if_pos (unqE_quote t)]
theorem isPart_of {s : Str} (h : 0 < partN s) : isPart (s.take (partN s)) ∧ partN s ≤ s.length := by
  unfold partN at h ⊢
  by_cases h1 : s.head? = some 34
  · rw [if_pos h1] at h ⊢
    by_cases h2 : unqE (s.take (quotedN s)) = 0
    · rw [if_pos h2] at h ⊢
      obtain ⟨t, ht⟩ := unqE_zero h2
      refine ⟨.inr ⟨t, ht⟩, ?_⟩
      rcases Nat.lt_or_ge s.length (quotedN s) with h3 | h3
      · rw [List.take_of_length_le (by omega)] at ht
        have := quotedN_quote t []
        rw [List.append_nil, ← ht] at this
        omega
      · exact h3
    · rw [if_neg h2] at h; omega
  · rw [if_neg h1] at h ⊢
    by_cases h2 : isWord (s.take (idx32 s)) = true
    · rw [if_pos h2] at h ⊢; exact ⟨.inl h2, idx32_le s⟩
    · rw [if_neg h2] at h; omega
/-- how a line begins -/
theorem line_head {s p : Str} {ps : List Str} (h : lineOK s (p :: ps)) : partN s = p.length ∧ (ps = [] ∧ s = p ∨ ps ≠ [] ∧ s = p ++ 32 :: joinP ps) := by
  obtain ⟨hp, hs⟩ := h
  rw [joinP_cons] at hs
  by_cases h0 : ps = []
  · rw [if_pos h0] at hs
    refine ⟨?_, .inl ⟨h0, hs⟩⟩
    have := partN_of (hp p (by simp)) (rest := []) (.inl rfl)
    rw [List.append_nil] at this
    rw [hs]; exact this
  · rw [if_neg h0] at hs
    refine ⟨?_, .inr ⟨h0, hs⟩⟩
    rw [hs]; exact partN_of (hp p (by simp)) (.inr rfl)
/-- a line that begins with known parts goes on with others -/
theorem line_split : ∀ (os ps : List Str) (s : Str), os ≠ [] → s ≠ [] → (∀ p ∈ os, isPart p) → lineOK (joinP os ++ 32 :: s) ps → ∃ ps', ps' ≠ [] ∧ ps = os ++ ps' ∧ lineOK s ps' := by
  intro os
  induction os with
  | nil => intro ps s h; exact absurd rfl h
  | cons o os ih =>
    intro ps s _ hs ho hl
    cases ps with
    | nil =>
      have := hl.2
      rw [joinP] at this
      simp at this
    | cons p ps =>
      have hlo : lineOK (joinP (o :: os) ++ 32 :: s) (p :: ps) := hl
      obtain ⟨h1, h2⟩ := line_head hl
      have hpo : isPart o := ho o (by simp)
      -- the first part is o
      have h3 : partN (joinP (o :: os) ++ 32 :: s) = o.length := by
        rw [joinP_cons]
        by_cases h0 : os = []
        · rw [if_pos h0]; exact partN_of hpo (.inr rfl)
        · rw [if_neg h0, List.append_assoc]; exact partN_of hpo (.inr rfl)
      have hlen : p.length = o.length := by rw [← h1, h3]
      have hpre : ∃ y, joinP (o :: os) ++ 32 :: s = o ++ 32 :: y ∧ (os = [] ∧ y = s ∨ os ≠ [] ∧ y = joinP os ++ 32 :: s) := by
        rw [joinP_cons]
        by_cases h0 : os = []
        · rw [if_pos h0]; exact ⟨s, rfl, .inl ⟨h0, rfl⟩⟩
        · rw [if_neg h0]; exact ⟨joinP os ++ 32 :: s, by simp, .inr ⟨h0, rfl⟩⟩
      obtain ⟨y, hy, hy2⟩ := hpre
      rcases h2 with ⟨hp0, he⟩ | ⟨hp0, he⟩
      · rw [hy] at he
        have := congrArg List.length he
        simp at this; omega
      · rw [hy] at he
        obtain ⟨e1, e2⟩ := List.append_inj he hlen.symm
        injection e2 with _ e2
        subst e1
        have hlp : lineOK y ps := ⟨fun q hq => hl.1 q (by simp [hq]), e2⟩
        rcases hy2 with ⟨h0, rfl⟩ | ⟨h0, rfl⟩
        · exact ⟨ps, hp0, by rw [h0]; rfl, hlp⟩
        · obtain ⟨ps', h4, h5, h6⟩ := ih ps s h0 hs (fun q hq => ho q (by simp [hq])) hlp
          exact ⟨ps', h4, by rw [h5]; rfl, h6⟩
theorem line_unique : ∀ (ps qs : List Str) (s : Str), lineOK s ps → lineOK s qs → ps = qs := by
  intro ps
  induction ps with
  | nil =>
    intro qs s h1 h2
    cases qs with
    | nil => rfl
    | cons q qs => exact absurd (h2.2.symm.trans h1.2) (joinP_ne (by simp) h2.1)
  | cons p ps ih =>
    intro qs s h1 h2
    cases qs with
    | nil => exact absurd (h1.2.symm.trans h2.2) (joinP_ne (by simp) h1.1)
    | cons q qs =>
      obtain ⟨a1, a2⟩ := line_head h1
      obtain ⟨b1, b2⟩ := line_head h2
      have hlen : p.length = q.length := by rw [← a1, b1]
      rcases a2 with ⟨a0, ae⟩ | ⟨a0, ae⟩ <;> rcases b2 with ⟨b0, be⟩ | ⟨b0, be⟩
      · rw [a0, b0, ← ae, ← be]
      · rw [ae] at be
        have := congrArg List.length be
        simp at this; omega
      · rw [be] at ae
        have := congrArg List.length ae
        simp at this; omega
      · rw [ae] at be
        obtain ⟨e1, e2⟩ := List.append_inj be hlen
        injection e2 with _ e2
        subst e1
        have := ih qs (joinP ps) ⟨fun x hx => h1.1 x (by simp [hx]), rfl⟩ ⟨fun x hx => h2.1 x (by simp [hx]), e2⟩
        rw [this]
open Classical in
/-- what Words answers -/
noncomputable def wordsL (s : Str) : List Str := if h : ∃ ps, lineOK s ps then Classical.choose h else []
open Classical in
noncomputable def wordsE (s : Str) : Int := if ∃ ps, lineOK s ps then 0 else 3
theorem words_ok {s : Str} {ps : List Str} (h : lineOK s ps) : wordsL s = ps ∧ wordsE s = 0 := by
  have h' : ∃ ps, lineOK s ps := ⟨ps, h⟩
  unfold wordsL wordsE
  rw [dif_pos h', if_pos h']
  exact ⟨line_unique _ _ s (Classical.choose_spec h') h, rfl⟩
theorem words_no {s : Str} (h : ∀ ps, ¬ lineOK s ps) : wordsL s = [] ∧ wordsE s = 3 := by
  have h' : ¬ ∃ ps, lineOK s ps := fun ⟨ps, e⟩ => h ps e
  unfold wordsL wordsE
  rw [dif_neg h', if_neg h']; exact ⟨rfl, rfl⟩
end Txt
end Go.Proofs.YtdgnnahkcklepaaDoor
