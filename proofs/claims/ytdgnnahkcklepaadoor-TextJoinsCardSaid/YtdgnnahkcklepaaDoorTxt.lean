/- Plain theory of names, quoted texts and lines of parts. No program in sight. -/
import Derived.Test.YtdgnnahkcklepaaDoorNum
namespace Go.Proofs.YtdgnnahkcklepaaDoor
namespace Txt
open Num

def isLet (c : UInt8) : Bool := (decide (97 ≤ c.toNat) && decide (c.toNat ≤ 122)) || (decide (65 ≤ c.toNat) && decide (c.toNat ≤ 90)) || decide (c.toNat = 95)
def nameOK (s : Str) : Bool := decide (1 ≤ s.length) && decide (s.length ≤ 16) && !isDig (s.getD 0 0) && s.all fun c => isLet c || isDig c

/-! ### quoted texts -/
def hexd (n : Nat) : UInt8 := if n < 10 then UInt8.ofNat (48 + n) else UInt8.ofNat (87 + n)
def form (c : UInt8) : Str :=
  if c = 34 ∨ c = 92 then [92, c] else if c = 10 then [92, 110] else if c.toNat < 32 ∨ 126 < c.toNat then [92, 120, hexd (c.toNat / 16), hexd (c.toNat % 16)] else [c]
def forms (t : Str) : Str := t.flatMap form
def quote (t : Str) : Str := 34 :: forms t ++ [34]

theorem hexd_inj {a b : Nat} (ha : a < 16) (hb : b < 16) (h : hexd a = hexd b) : a = b := by
  unfold hexd at h
  have := congrArg UInt8.toNat h
  split at this <;> split at this <;> simp only [UInt8.toNat_ofNat'] at this <;> omega
theorem form_ne (c : UInt8) : form c ≠ [] := by unfold form; split <;> (try split) <;> (try split) <;> simp
/-- no form begins with a quotation mark -/
theorem form_head (c : UInt8) : (form c).head? ≠ some 34 := by
  unfold form
  split
  · simp
  · split
    · simp
    · split
      · simp
      · rename_i h _ _
        simp; intro e; exact h (.inl e)
/-- forms are told apart at once: none is the beginning of another with something behind -/
theorem form_prefix {c d : UInt8} {x y : Str} (h : form c ++ x = form d ++ y) : c = d ∧ x = y := by
  have key : form c = form d → c = d := by
    intro e
    unfold form at e
    by_cases hc : c = 34 ∨ c = 92
    · rw [if_pos hc] at e
      by_cases hd : d = 34 ∨ d = 92
      · rw [if_pos hd] at e; simpa using e
      · rw [if_neg hd] at e
        by_cases hd2 : d = 10
        · rw [if_pos hd2] at e; simp at e; subst e; rcases hc with h | h <;> cases h
        · rw [if_neg hd2] at e
          by_cases hd3 : d.toNat < 32 ∨ 126 < d.toNat
          · rw [if_pos hd3] at e; simp at e
          · rw [if_neg hd3] at e; simp at e
    · rw [if_neg hc] at e
      by_cases hc2 : c = 10
      · rw [if_pos hc2] at e
        by_cases hd : d = 34 ∨ d = 92
        · rw [if_pos hd] at e; simp at e; subst e; rcases hd with h | h <;> cases h
        · rw [if_neg hd] at e
          by_cases hd2 : d = 10
          · rw [hc2, hd2]
          · rw [if_neg hd2] at e
            by_cases hd3 : d.toNat < 32 ∨ 126 < d.toNat
            · rw [if_pos hd3] at e; simp at e
            · rw [if_neg hd3] at e; simp at e
      · rw [if_neg hc2] at e
        by_cases hc3 : c.toNat < 32 ∨ 126 < c.toNat
        · rw [if_pos hc3] at e
          by_cases hd : d = 34 ∨ d = 92
          · rw [if_pos hd] at e; simp at e
          · rw [if_neg hd] at e
            by_cases hd2 : d = 10
            · rw [if_pos hd2] at e; simp at e
            · rw [if_neg hd2] at e
              by_cases hd3 : d.toNat < 32 ∨ 126 < d.toNat
              · rw [if_pos hd3] at e
                simp only [List.cons.injEq, true_and, and_true] at e
                have h1 := hexd_inj (by have := c.toNat_lt; omega) (by have := d.toNat_lt; omega) e.1
                have h2 := hexd_inj (by omega) (by omega) e.2
                apply UInt8.toNat_inj.1; omega
              · rw [if_neg hd3] at e; simp at e
        · rw [if_neg hc3] at e
          by_cases hd : d = 34 ∨ d = 92
          · rw [if_pos hd] at e; simp at e
          · rw [if_neg hd] at e
            by_cases hd2 : d = 10
            · rw [if_pos hd2] at e; simp at e
            · rw [if_neg hd2] at e
              by_cases hd3 : d.toNat < 32 ∨ 126 < d.toNat
              · rw [if_pos hd3] at e; simp at e
              · rw [if_neg hd3] at e; simpa using e
  have len : (form c).length = (form d).length := by
    -- the length is told by the first two bytes
    have hl : ∀ c : UInt8, form c = [c] ∧ c ≠ 92 ∨ (∃ e, form c = [92, e] ∧ e ≠ 120) ∨ ∃ a b, form c = [92, 120, a, b] := by
      intro c
      unfold form
      by_cases hc : c = 34 ∨ c = 92
      · rw [if_pos hc]; right; left; refine ⟨c, rfl, ?_⟩; rintro rfl; rcases hc with h | h <;> cases h
      · rw [if_neg hc]
        by_cases hc2 : c = 10
        · rw [if_pos hc2]; right; left; exact ⟨110, rfl, by decide⟩
        · rw [if_neg hc2]
          by_cases hc3 : c.toNat < 32 ∨ 126 < c.toNat
          · rw [if_pos hc3]; right; right; exact ⟨_, _, rfl⟩
          · rw [if_neg hc3]; left; exact ⟨rfl, fun e => hc (.inr e)⟩
    rcases hl c with ⟨h1, h2⟩ | ⟨e, h1, h2⟩ | ⟨a, b, h1⟩ <;> rcases hl d with ⟨h3, h4⟩ | ⟨e', h3, h4⟩ | ⟨a', b', h3⟩ <;> rw [h1, h3] at h ⊢ <;> simp at h ⊢
    · exact h2 h.1
    · exact h2 h.1
    · exact h4 h.1.symm
    · exact h2 h.1
    · exact h4 h.1.symm
    · exact h4 h.1.symm
  have := List.append_inj h len
  exact ⟨key this.1, this.2⟩
theorem forms_nil : forms [] = [] := rfl
theorem forms_cons (c : UInt8) (t : Str) : forms (c :: t) = form c ++ forms t := by simp [forms]
theorem forms_append (a b : Str) : forms (a ++ b) = forms a ++ forms b := by simp [forms]
theorem forms_snoc (a : Str) (c : UInt8) : forms (a ++ [c]) = forms a ++ form c := by simp [forms]
/-- a text of forms is read in one way -/
theorem forms_split : ∀ (a t x : Str), forms a ++ x = forms t → ∃ t', t = a ++ t' ∧ x = forms t' := by
  intro a
  induction a with
  | nil => intro t x h; exact ⟨t, rfl, by simpa [forms] using h⟩
  | cons c a ih =>
    intro t x h
    cases t with
    | nil =>
      rw [forms_cons, List.append_assoc] at h
      have h1 := congrArg List.length h
      have h2 := List.length_pos_iff.2 (form_ne c)
      rw [List.length_append, forms_nil, List.length_nil] at h1
      omega
    | cons d t =>
      rw [forms_cons, forms_cons, List.append_assoc] at h
      obtain ⟨rfl, h2⟩ := form_prefix h
      obtain ⟨t', rfl, hx⟩ := ih t x h2
      exact ⟨t', rfl, hx⟩
theorem forms_inj {a b : Str} (h : forms a = forms b) : a = b := by
  obtain ⟨t', hb, hx⟩ := forms_split a b [] (by simpa using h)
  cases t' with
  | nil => simpa using hb.symm
  | cons c t =>
    rw [forms_cons] at hx
    have := List.length_pos_iff.2 (form_ne c)
    have h2 := congrArg List.length hx
    rw [List.length_append, List.length_nil] at h2; omega
theorem quote_inj {a b : Str} (h : quote a = quote b) : a = b := by
  unfold quote at h
  simp only [List.cons_append, List.cons.injEq, true_and] at h
  exact forms_inj (List.append_cancel_right h)
open Classical in
/-- what Unquote answers -/
noncomputable def unqS (s : Str) : Str := if h : ∃ t, s = quote t then Classical.choose h else []
open Classical in
noncomputable def unqE (s : Str) : Int := if ∃ t, s = quote t then 0 else 3
theorem unqS_quote (t : Str) : unqS (quote t) = t := by
  have h : ∃ u, quote t = quote u := ⟨t, rfl⟩
  unfold unqS
  rw [dif_pos h]
  exact (quote_inj (Classical.choose_spec h)).symm
theorem unqE_quote (t : Str) : unqE (quote t) = 0 := by unfold unqE; rw [if_pos ⟨t, rfl⟩]
theorem unq_no {s : Str} (h : ∀ t, s ≠ quote t) : unqS s = [] ∧ unqE s = 3 := by
  have h' : ¬ ∃ t, s = quote t := fun ⟨t, e⟩ => h t e
  unfold unqS unqE
  rw [dif_neg h', if_neg h']; exact ⟨rfl, rfl⟩
theorem unqE_zero {s : Str} (h : unqE s = 0) : ∃ t, s = quote t := by
  unfold unqE at h
  by_cases h' : ∃ t, s = quote t
  · exact h'
  · rw [if_neg h'] at h; cases h
end Txt
end Go.Proofs.YtdgnnahkcklepaaDoor
