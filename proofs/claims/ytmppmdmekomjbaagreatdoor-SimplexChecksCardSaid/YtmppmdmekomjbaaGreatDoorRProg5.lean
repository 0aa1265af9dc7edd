/- ratio: products of pairs of integers. -/
import Derived.Test.YtmppmdmekomjbaaGreatDoorRProg4
namespace Go.Proofs.YtmppmdmekomjbaaGreatDoor
open Go.RowKit Num
set_option linter.unusedVariables false
attribute [local go_sem] B_size B_get B_toList B_mk B_extract B_append
attribute [local go_sem high] run_max2
theorem pmulq_any (x y : Int) (w : World) (hx : dl x ≤ 4096) (hy : dl y ≤ 4096) (ht : Tab w) :
    Calls Tryz.prog 169 #[.string (B (decI x)), .string (B (decI y))] w fun e w' => e = .returned (.tuple #[.string (B (resIS (x * y))), .int .i64 (resIE (x * y))]) ∧ Below w.heap.size w w' := by
  have h1 := dl_len x
  have h2 := dl_len y
  have h := pmul_any (decI x) (decI y) w (by omega) (by omega) ht
  have he := errI_dec (x := x) (y := y) hx hy
  have e1 : mulIS (decI x) (decI y) = resIS (x * y) := by unfold mulIS; rw [if_pos he, valI_decI, valI_decI]
  have e2 : mulIE (decI x) (decI y) = resIE (x * y) := by unfold mulIE; rw [if_pos he, valI_decI, valI_decI]
  rw [e1, e2] at h; exact h
def prods (ps : List (Int × Int)) : List Str := ps.map fun p => decI (p.1 * p.2)
set_option maxRecDepth 100000 in
theorem qprod_any (ps : List (Int × Int)) (bk c : Nat) (w : World) (hn : ps.length ≤ 2) (hc : ps.length ≤ c ∧ c ≤ maxLen) (hb : bk < w.heap.size) (ht : Tab w)
    (hs : ∀ k, k < ps.length → dl (ps.getD k (0, 0)).1 ≤ 4096 ∧ dl (ps.getD k (0, 0)).2 ≤ 4096)
    (hx : ∀ k, k < ps.length → w.cell? ⟨bk, k * 2, none⟩ = some (.string (B (decI (ps.getD k (0, 0)).1))) ∧ w.cell? ⟨bk, k * 2 + 1, none⟩ = some (.string (B (decI (ps.getD k (0, 0)).2)))) :
    Calls Tryz.prog 141 #[.slice (some ⟨bk, 0, none⟩) ps.length c] w fun e w' => Below w.heap.size w w' ∧ ∃ v er, e = .returned (.tuple #[v, .int .i64 er]) ∧
      ((ps.all (fun p => decide (dl (p.1 * p.2) ≤ 4096)) = true ∧ er = 0 ∧ ∃ A c, v = .slice A ps.length c ∧ OwnS w' w.heap.size 9 A ps.length c (strs (prods ps))) ∨
       (ps.all (fun p => decide (dl (p.1 * p.2) ≤ 4096)) = false ∧ er = 4 ∧ v = .slice none 0 0)) := by
  unfold maxLen at hc
  have HX := Lib.hid hx
  have HS := Lib.hid hs
  clear hx hs
  go_enter Tryz.func141, Tryz.ntmps141
  go_wp2_with (refine wp_mk0 el_string rfl _ _ rfl w.heap.size _ .i64 .i64 _ ps.length rfl rfl rfl (by omega) (by unfold maxLen; omega) (Nat.le_refl _) ?_; intro A0 w0 hown0 hb0)
  go_loopw [4, 6, 7, 8, 14] (fun v x n e i wr => ∃ (k : Nat) (A : Option Addr) (c2 : Nat), k ≤ ps.length ∧ i = .int .i64 k ∧ v = .slice A k c2 ∧ OwnS wr w.heap.size 9 A k c2 (strs (prods (ps.take k))) ∧ (ps.take k).all (fun p => decide (dl (p.1 * p.2) ≤ 4096)) = true ∧ Below w.heap.size w wr) (fun _ _ _ _ i _ => ps.length - (intOf i).toNat)
  case atStart => exact ⟨0, A0, ps.length, by omega, rfl, rfl, hown0, rfl, hb0⟩
  case round =>
    obtain ⟨k, A, c2, hk, rfl, rfl, hown, hall, hbel⟩ := hrel
    have HA := Lib.hid hall
    clear hall
    by_cases hlt : k < ps.length
    · have c1 : wr.cell? ⟨bk, k * 2, none⟩ = some (.string (B (decI (ps.getD k (0, 0)).1))) := (hbel.cell (p := ⟨bk, k * 2, none⟩) hb).trans (HX.out k hlt).1
      have c2' : wr.cell? ⟨bk, k * 2 + 1, none⟩ = some (.string (B (decI (ps.getD k (0, 0)).2))) := (hbel.cell (p := ⟨bk, k * 2 + 1, none⟩) hb).trans (HX.out k hlt).2
      have hm := HS.out k hlt
      have HT := Lib.hid (show ps.take (k + 1) = ps.take k ++ [ps.getD k (0, 0)] by rw [List.take_succ_eq_append_getElem hlt]; simp [hlt])
      have HM := Lib.hid (show ps.getD k (0, 0) ∈ ps by rw [List.getD_eq_getElem?_getD, List.getElem?_eq_getElem hlt]; exact List.getElem_mem hlt)
      generalize ps.getD k (0, 0) = p at *
      obtain ⟨x, y⟩ := p
      have HP := Lib.hid (fun w ht => pmulq_any x y w hm.1 hm.2 ht)
      clear hm
      have b1 : Below wr.heap.size wr (wr.alloc (.cells #[.string (B (decI x)), .string (B (decI y))] 137)) := (Below.refl _ _).alloc (Nat.le_refl _) _
      have a1 := hbel.trans (b1.mono hbel.size)
      by_cases hd : dl (x * y) ≤ 4096
      · have hr := resIS_dec hd
        rw [hr.1, hr.2] at HP
        have hdl := dl_len (x * y)
        have HA2 := Lib.hid (show (ps.take (k + 1)).all (fun p => decide (dl (p.1 * p.2) ≤ 4096)) = true by rw [HT.out, List.all_append, HA.out]; simp [hd])
        clear hd hr
        go_wp2_with fail
        refine (HP.out _ (ht.below a1)).mono ?_
        rintro e w2 ⟨rfl, hb2⟩
        have b2 := b1.trans (hb2.mono b1.size)
        have a2 := hbel.trans (b2.mono hbel.size)
        have hown1 := hown.below b2
        go_wp2_with (at_builtin; refine wp_app1 el_string rfl _ _ rfl w.heap.size _ _ _ (strs (prods (ps.take k))) _ (.string (B (decI (x * y)))) rfl hown1 rfl rfl (by unfold maxLen; omega) (by omega) a2.size ?_; intro A3 c3 w3 hown3 hb3)
        go_roundw
        case rel => exact ⟨k + 1, A3, c3, by omega, by go_num, rfl, by rw [HT.out]; simpa [prods, strs] using hown3, HA2.out, a2.trans hb3⟩
        case measure => simp [intOf]; omega
      · have hr : resIS (x * y) = [] ∧ resIE (x * y) = 4 := ⟨if_neg hd, if_neg hd⟩
        rw [hr.1, hr.2] at HP
        have HN := Lib.hid (show ps.all (fun p => decide (dl (p.1 * p.2) ≤ 4096)) = false by rw [List.all_eq_false]; exact ⟨(x, y), HM.out, by simpa using hd⟩)
        clear hd hr
        go_wp2_with fail
        refine (HP.out _ (ht.below a1)).mono ?_
        rintro e w2 ⟨rfl, hb2⟩
        have b2 := b1.trans (hb2.mono b1.size)
        go_wp2_with fail
        go_ret2
        exact ⟨hbel.trans (b2.mono hbel.size), _, _, rfl, .inr ⟨HN.out, rfl, rfl⟩⟩
    · obtain rfl : k = ps.length := by omega
      have HE := Lib.hid (show ps.take ps.length = ps from List.take_length)
      rw [HE.out] at hown HA
      go_wp2_with fail
      go_ret2
      exact ⟨hbel, _, _, rfl, .inl ⟨HA.out, rfl, A, c2, rfl, hown⟩⟩
end Go.Proofs.YtmppmdmekomjbaaGreatDoor
