/- text.Unquote. -/
import Derived.Test.YtdgnnahkcklepaaDoorTEsc
import Derived.Test.YtdgnnahkcklepaaDoorTQuote
namespace Go.Proofs.YtdgnnahkcklepaaDoor
open Go.RowKit Num Txt
set_option linter.unusedVariables false
attribute [local go_sem] B_size B_get B_toList B_mk B_extract B_append

/-- the text between the quotation marks -/
def inner (l : Str) : Str := (l.take (l.length - 1)).drop 1
theorem quote_inner (t : Str) : inner (quote t) = forms t := by
  unfold inner quote
  simp
theorem quote_of_inner {l b : Str} (h2 : 2 ≤ l.length) (h0 : at8 l 0 = 34) (h1 : at8 l (l.length - 1) = 34) (h : inner l = forms b) : l = quote b := by
  unfold quote
  rw [← h]
  unfold inner
  have e1 : l = l.take (l.length - 1) ++ [34] := by
    have := List.take_succ_eq_append_getElem (l := l) (i := l.length - 1) (by omega)
    rw [show l.length - 1 + 1 = l.length by omega, List.take_of_length_le (Nat.le_refl _), ← at8_eq l _ (by omega), h1] at this
    exact this
  have e2 : l.take (l.length - 1) = 34 :: (l.take (l.length - 1)).drop 1 := by
    cases l with
    | nil => simp at h2
    | cons c r =>
      have hc : c = 34 := h0
      subst hc
      simp only [List.length_cons, Nat.add_sub_cancel]
      obtain ⟨k, hk⟩ : ∃ k, r.length = k + 1 := ⟨r.length - 1, by simp at h2; omega⟩
      rw [hk]; simp
  rw [← e2]; exact e1
theorem quote_ends (t : Str) : 2 ≤ (quote t).length ∧ at8 (quote t) 0 = 34 ∧ at8 (quote t) ((quote t).length - 1) = 34 := by
  refine ⟨by rw [quote_len]; omega, rfl, ?_⟩
  rw [quote_len]
  unfold at8 quote
  simp
theorem unq_bad_ends {l : Str} (h : ¬ (2 ≤ l.length ∧ at8 l 0 = 34 ∧ at8 l (l.length - 1) = 34)) : unqS l = [] ∧ unqE l = 3 := unq_no (fun t e => h (by rw [e]; exact quote_ends t))
theorem unq_bad_inner {l : Str} (h : ∀ t, inner l ≠ forms t) : unqS l = [] ∧ unqE l = 3 := unq_no (fun t e => h t (by rw [e, quote_inner]))
theorem unq_good {l b : Str} (h2 : 2 ≤ l.length) (h0 : at8 l 0 = 34) (h1 : at8 l (l.length - 1) = 34) (h : inner l = forms b) : unqS l = b ∧ unqE l = 0 := by
  rw [quote_of_inner h2 h0 h1 h]; exact ⟨unqS_quote b, unqE_quote b⟩
/-- behind known forms another must begin -/
theorem forms_rest {s b : Str} {k : Nat} (hk : k < s.length) (h : s.take k = forms b) {t : Str} (e : s = forms t) : ∃ d x, s.drop k = form d ++ x := by
  have h1 : forms b ++ s.drop k = forms t := by rw [← h, List.take_append_drop, e]
  obtain ⟨t', _, h3⟩ := forms_split b t _ h1
  cases t' with
  | nil =>
    have := congrArg List.length h3
    rw [forms_nil, List.length_drop, List.length_nil] at this; omega
  | cons d t' => exact ⟨d, forms t', by rw [h3, forms_cons]⟩
theorem drop_at {s : Str} {k : Nat} (hk : k < s.length) : s.drop k = at8 s k :: s.drop (k + 1) := by rw [List.drop_eq_getElem_cons hk, at8_eq s k hk]
theorem no_raw {s b : Str} {k : Nat} (hk : k < s.length) (h : s.take k = forms b) (hc : at8 s k = 34 ∨ (at8 s k).toNat < 32 ∨ 126 < (at8 s k).toNat) : ∀ t, s ≠ forms t := by
  intro t e
  obtain ⟨d, x, hd⟩ := forms_rest hk h e
  rw [drop_at hk] at hd
  by_cases h1 : d = 34 ∨ d = 92
  · rw [form_qb h1] at hd; simp at hd; rw [hd.1] at hc; exact absurd hc (by decide)
  · by_cases h2 : d = 10
    · rw [form_nl h2] at hd; simp at hd; rw [hd.1] at hc; exact absurd hc (by decide)
    · by_cases h3 : d.toNat < 32 ∨ 126 < d.toNat
      · rw [form_hex h1 h2 h3] at hd; simp at hd; rw [hd.1] at hc; exact absurd hc (by decide)
      · rw [form_plain h1 h2 h3] at hd; simp at hd; rw [hd.1] at hc
        rcases hc with hc | hc
        · exact h1 (.inl hc)
        · exact h3 hc
theorem no_esc {s b : Str} {k : Nat} (hk : k < s.length) (h : s.take k = forms b) (hc : at8 s k = 92) {d : UInt8} (he : escOK (s.drop (k + 1)) d 0) : ∀ t, s ≠ forms t := by
  intro t e
  obtain ⟨d', x, hd⟩ := forms_rest hk h e
  rw [drop_at hk, hc] at hd
  rcases he with ⟨_, he⟩ | ⟨h0, _⟩
  · exact he d' x hd
  · omega
theorem step_raw {s b : Str} {k : Nat} (hk : k < s.length) (h : s.take k = forms b) (h1 : at8 s k ≠ 34) (h2 : at8 s k ≠ 92) (h3 : 32 ≤ (at8 s k).toNat) (h4 : (at8 s k).toNat ≤ 126) : s.take (k + 1) = forms (b ++ [at8 s k]) := by
  rw [List.take_succ_eq_append_getElem hk, ← at8_eq s k hk, h, forms_snoc, form_plain (by rintro (e | e); exact h1 e; exact h2 e) (by intro e; rw [e] at h3; simp at h3) (by omega)]
theorem step_esc {s b : Str} {k n : Nat} {d : UInt8} (hk : k < s.length) (h : s.take k = forms b) (hc : at8 s k = 92) (he : escOK (s.drop (k + 1)) d n) (hn : n ≠ 0) : k + 1 + n ≤ s.length ∧ n ≤ 3 ∧ s.take (k + 1 + n) = forms (b ++ [d]) := by
  rcases he with ⟨h0, _⟩ | ⟨h0, h3, hl, hf⟩
  · exact absurd h0 hn
  · rw [List.length_drop] at hl
    refine ⟨by omega, h3, ?_⟩
    rw [forms_snoc, ← hf, ← h, List.take_add (i := k + 1), List.take_succ_eq_append_getElem hk, ← at8_eq s k hk, hc, List.append_assoc]
    rfl
theorem bytes_len_of_forms {b s : Str} {k : Nat} (h : s.take k = forms b) (hk : k ≤ s.length) : b.length ≤ s.length := by
  have : ∀ b : Str, b.length ≤ (forms b).length := by
    intro b
    induction b with
    | nil => simp
    | cons c b ih => rw [forms_cons, List.length_append, List.length_cons]; have := List.length_pos_iff.2 (form_ne c); omega
  have h1 := this b
  rw [← h, List.length_take] at h1; omega

/-- a slice of bytes of the call's own, made a string; it may be nil -/
theorem conv_own (A : Option Addr) (n c Bs : Nat) (l : List UInt8) (w : World) (hl : l.length = n) (h : OwnS w Bs 5 A n c (bytes l)) :
    (convert 44 9 (.slice A n c)).run Tryd.prog w = .ok (.string (B l)) w := by
  rcases h.2 with ⟨hv, hn⟩ | ⟨g, cap, cur, hv, _⟩
  · injection hv with hA hn2 hc
    subst hA; subst hn; subst hc
    obtain rfl : l = [] := List.eq_nil_of_length_eq_zero hl
    exact run_convert_bytes_nil (P := Tryd.prog) w 44 5 Tryd.underlying44 Tryd.underlying5 0 0 9 Tryd.underlying9
  · have hv0 := hv
    injection hv with hA _ _
    subst hA
    exact conv_bytes g n c Bs l w hl h
theorem inner_length (l : Str) (h : 2 ≤ l.length) : (inner l).length = l.length - 2 := by unfold inner; rw [List.length_drop, List.length_take]; omega
theorem ret_si {a b : List UInt8} {c d : Int} (h : a = b) (h2 : c = d) : Ending.returned (.tuple #[.string (B a), .int .i64 c]) = .returned (.tuple #[.string (B b), .int .i64 d]) := by rw [h, h2]
set_option maxHeartbeats 1000000 in
set_option maxRecDepth 100000 in
theorem unquote_any (l : List UInt8) (w : World) (hl : l.length ≤ 1000000) :
    Calls Tryd.prog 16 #[.string (B l)] w fun e w' => e = .returned (.tuple #[.string (B (unqS l)), .int .i64 (unqE l)]) ∧ Below w.heap.size w w' := by
  have BAD := Lib.hid (@unq_bad_ends l)
  by_cases h2 : l.length < 2
  · have HB := Lib.hid (BAD.out (by omega))
    have h2' : (l.length : Int) < 2 := by omega
    go_enter Tryd.func16, Tryd.ntmps16
    simp only [B_mk]
    go_wp2_with fail
    go_ret2
    exact ⟨ret_si HB.out.1.symm HB.out.2.symm, Below.refl _ _⟩
  have h2' : ¬ (l.length : Int) < 2 := by omega
  have i0 : (0 : Int) < (l.length : Int) := by omega
  have i1 : ((l.length : Int) - 1).toNat = l.length - 1 := by omega
  by_cases hA : at8 l 0 = 34
  · have a1 : (((at8 l 0).toNat : Int) != 34) = false := by rw [hA]; rfl
    by_cases hZ : at8 l (l.length - 1) = 34
    · have a2 : (((at8 l (l.length - 1)).toNat : Int) != 34) = false := by rw [hZ]; rfl
      have GOOD := Lib.hid (fun b => @unq_good l b (by omega) hA hZ)
      have BI := Lib.hid (@unq_bad_inner l)
      have hil := inner_length l (by omega)
      have hin : (l.take (l.length - 1)).drop 1 = inner l := rfl
      clear hA hZ BAD
      go_enter Tryd.func16, Tryd.ntmps16
      simp only [B_mk]
      go_wp2_with (refine wp_mk0 el_byte rfl _ _ rfl w.heap.size _ _ _ _ (inner l).length rfl rfl (by omega) (by omega) (by unfold maxLen; omega) (Nat.le_refl _) ?_; intro A0 w0 hown0 hb0)
      clear hin
      rw [hil] at hown0
      generalize inner l = s at *
      have hsl : s.length ≤ 1000000 := by omega
      have htl : List.take s.length s = s := List.take_of_length_le (Nat.le_refl _)
      clear hil
      go_loopw [4, 5, 6, 7, 8] (fun v i _ _ _ wr => ∃ (k : Nat) (b : List UInt8) (A : Option Addr) (c : Nat), k ≤ s.length ∧ i = .int .i64 k ∧ v = .slice A b.length c ∧ s.take k = forms b ∧ OwnS wr w.heap.size 5 A b.length c (bytes b) ∧ Below w.heap.size w wr) (fun _ i _ _ _ _ => s.length - (intOf i).toNat)
      case atStart => exact ⟨0, [], A0, _, Nat.zero_le _, rfl, rfl, by simp [forms], hown0, hb0⟩
      case round =>
        obtain ⟨k, b, A, cp, hk, rfl, rfl, htk, hown, hbel⟩ := hrel
        have hbl := bytes_len_of_forms htk hk
        have HTK := Lib.hid htk
        clear htk hown0 hb0
        by_cases hlt : k < s.length
        · have NR := Lib.hid (no_raw hlt HTK.out)
          have NE := Lib.hid (fun h => @no_esc s b k hlt HTK.out h)
          have SR := Lib.hid (step_raw hlt HTK.out)
          have SE := Lib.hid (fun (n : Nat) (d : UInt8) h => @step_esc s b k n d hlt HTK.out h)
          by_cases hq : at8 s k = 34
          · have HB := Lib.hid (BI.out (NR.out (.inl hq)))
            have a3 : (((at8 s k).toNat : Int) == 34) = true := u8_is hq
            clear hq
            go_wp2_with fail
            go_ret2
            exact ⟨ret_si HB.out.1.symm HB.out.2.symm, hbel⟩
          have a3 : (((at8 s k).toNat : Int) == 34) = false := u8_not hq
          by_cases hlo : (at8 s k).toNat < 32
          · have HB := Lib.hid (BI.out (NR.out (.inr (.inl hlo))))
            have a4 : ((at8 s k).toNat : Int) < 32 := by omega
            clear hq hlo
            go_wp2_with fail
            go_ret2
            exact ⟨ret_si HB.out.1.symm HB.out.2.symm, hbel⟩
          have a4 : ¬ ((at8 s k).toNat : Int) < 32 := by omega
          by_cases hhi : 126 < (at8 s k).toNat
          · have HB := Lib.hid (BI.out (NR.out (.inr (.inr hhi))))
            have a5 : (126 : Int) < ((at8 s k).toNat : Int) := by omega
            clear hq hlo hhi
            go_wp2_with fail
            go_ret2
            exact ⟨ret_si HB.out.1.symm HB.out.2.symm, hbel⟩
          have a5 : ((at8 s k).toNat : Int) ≤ 126 := by omega
          by_cases hb : at8 s k = 92
          · have a6 : (((at8 s k).toNat : Int) == 92) = true := u8_is hb
            have HB92 := Lib.hid hb
            clear hq hlo hhi hb
            have k1 : ((k : Int) + 1).toNat = k + 1 := by omega
            go_wp2_with fail
            refine (escaped_any (s.drop (k + 1)) _ (by rw [List.length_drop]; omega)).mono ?_
            rintro e w2 ⟨d, n, rfl, hesc, hb2⟩
            have hown2 := hown.below hb2
            have hbel2 := hbel.trans (hb2.mono hbel.size)
            by_cases hn : n = 0
            · subst hn
              have HB := Lib.hid (BI.out (NE.out HB92.out hesc))
              clear hesc
              go_wp2_with fail
              go_ret2
              exact ⟨ret_si HB.out.1.symm HB.out.2.symm, hbel2⟩
            · obtain ⟨hs1, hs3, hs2⟩ := SE.out n d HB92.out hesc hn
              have HS := Lib.hid hs2
              have hnz : ((n : Int) == 0) = false := by rw [beq_eq_false_iff_ne]; omega
              clear hesc hs2 hn
              go_wp2_with (at_builtin; refine wp_app1 el_byte rfl _ _ rfl w.heap.size _ _ _ (bytes b) _ (.int .u8 d.toNat) rfl hown2 rfl rfl (by unfold maxLen; omega) (by omega) hbel2.size ?_; intro A' c' w3 hown3 hb3)
              go_roundw
              case rel => exact ⟨k + 1 + n, b ++ [d], A', c', by omega, by go_num, by simp, HS.out, by rw [snoc_bytes] at hown3; simpa using hown3, hbel2.trans hb3⟩
              case measure => simp [intOf]; omega
          · have a6 : (((at8 s k).toNat : Int) == 92) = false := u8_not hb
            have HS := Lib.hid (SR.out hq hb (by omega) (by omega))
            clear hq hlo hhi hb
            go_wp2_with (at_builtin; refine wp_app1 el_byte rfl _ _ rfl w.heap.size _ _ _ (bytes b) _ (.int .u8 (at8 s k).toNat) rfl hown rfl rfl (by unfold maxLen; omega) (by omega) hbel.size ?_; intro A' c' w1 hown1 hb1)
            go_roundw
            case rel => exact ⟨k + 1, b ++ [at8 s k], A', c', by omega, by go_num, by simp, HS.out, by rw [snoc_bytes] at hown1; simpa using hown1, hbel.trans hb1⟩
            case measure => simp [intOf]; omega
        · obtain rfl : k = s.length := by omega
          have HG := Lib.hid (GOOD.out b (by have := HTK.out; rwa [List.take_of_length_le (Nat.le_refl _)] at this))
          have cv := conv_own A b.length cp w.heap.size b wr rfl hown
          go_wp2_with fail
          go_ret2
          exact ⟨ret_si HG.out.1.symm HG.out.2.symm, hbel⟩
    · have HB := Lib.hid (BAD.out (fun h => hZ h.2.2))
      have a2 : (((at8 l (l.length - 1)).toNat : Int) != 34) = true := by have := u8_not hZ; simp at this ⊢; omega
      clear hA hZ
      go_enter Tryd.func16, Tryd.ntmps16
      simp only [B_mk]
      go_wp2_with fail
      go_ret2
      exact ⟨ret_si HB.out.1.symm HB.out.2.symm, Below.refl _ _⟩
  · have HB := Lib.hid (BAD.out (fun h => hA h.2.1))
    have a1 : (((at8 l 0).toNat : Int) != 34) = true := by have := u8_not hA; simp at this ⊢; omega
    clear hA
    go_enter Tryd.func16, Tryd.ntmps16
    simp only [B_mk]
    go_wp2_with fail
    go_ret2
    exact ⟨ret_si HB.out.1.symm HB.out.2.symm, Below.refl _ _⟩
end Go.Proofs.YtdgnnahkcklepaaDoor
