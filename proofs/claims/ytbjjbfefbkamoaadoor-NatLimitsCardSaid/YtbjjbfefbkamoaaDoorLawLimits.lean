/- The walk of the law NatLimits. -/
import Derived.Test.YtbjjbfefbkamoaaDoorLawGcds
import Derived.Deep.DeepCutAuto
import Derived.Laws.MakeOwn
import Derived.Laws.BytesArg
namespace Go.Proofs.YtbjjbfefbkamoaaDoor
open Go.RowKit Num
set_option linter.unusedVariables false
attribute [local go_sem] B_size B_get B_toList B_mk B_extract B_append
attribute [local go_sem high] run_max2

theorem run_make_rowN {P : Program} (t e : TypeId) (i : TypeInfo) (z : Value) (ht : P.underlying t = some (.slice e)) (hi : P.info? e = some i) (hz : i.zero = some z)
    (kl kc : IntKind) (n c : Nat) (hnc : n ≤ c) (hbytes : i.bytes * c ≤ 281474976710656) (h63 : c ≤ 9223372036854775807) (w : World) :
    (Instr.makeSlice t (.int kl (n : Int)) (.int kc (c : Int))).run P w = .ok (.slice (some ⟨w.heap.size, 0, none⟩) n c) (w.alloc (.cells (madeCells z.cells (c * i.size)) e)) := by
  have hb : (i.bytes : Int) * (c : Int) ≤ 281474976710656 := by
    have h : ((i.bytes * c : Nat) : Int) ≤ 281474976710656 := by omega
    rwa [Int.natCast_mul] at h
  have hr := run_make (P := P) w t e i z ht hi hz kl kc n c (by omega) (by omega) hb (by omega)
  simp only [Int.toNat_natCast] at hr
  exact hr
theorem byte_info : (Tryd.prog.info? 5).map (fun i => (i.zero, i.size, i.bytes)) = some (some (.int .u8 0), 1, 1) := by kernel_rfl
/-- the cells of n zero bytes, kept closed in the walk -/
def zeros (n : Nat) : Array Value := madeCells #[.int .u8 0] n
theorem make_bytes (n : Nat) (hn : n ≤ 1000000) (w : World) :
    (Instr.makeSlice 33 (.int .u16 (n : Int)) (.int .u16 (n : Int))).run Tryd.prog w = .ok (.slice (some ⟨w.heap.size, 0, none⟩) n n) (w.alloc (.cells (zeros n) 5)) := by
  obtain ⟨i, hi, hz, hs, hb⟩ := info_parts byte_info
  have := run_make_rowN (P := Tryd.prog) 33 5 i (.int .u8 0) Tryd.underlying33 hi hz .u16 .u16 n n (Nat.le_refl _) (by rw [hb]; omega) (by omega) w
  rw [hs, Nat.mul_one] at this
  exact this
def bytes (l : List UInt8) : List Value := l.map fun b => Value.int .u8 (b.toNat : Int)
theorem bytes_length (l : List UInt8) : (bytes l).length = l.length := by simp [bytes]
theorem zeros_list (n : Nat) : (zeros n).toList = bytes (List.replicate n 0) := by
  unfold zeros; rw [toList_madeCells_one]; simp [bytes]
theorem zeros_size (n : Nat) : (zeros n).size = n := by
  have := congrArg List.length (zeros_list n)
  rw [bytes_length, List.length_replicate, Array.length_toList] at this; exact this
theorem OwnS.zeros (w : World) (n Bs : Nat) (hB : Bs ≤ w.heap.size) (hn : n ≤ 1000000) : OwnS (w.alloc (.cells (zeros n) 5)) Bs 5 (some ⟨w.heap.size, 0, none⟩) n n (bytes (List.replicate n 0)) := by
  have := OwnS.lit w 5 (Go.Proofs.YtbjjbfefbkamoaaDoor.zeros n) Bs n hB (zeros_size n) (by unfold maxLen; omega)
  rw [zeros_list] at this
  exact this
theorem OwnS.setOther {w : World} {Bs : Nat} {e : TypeId} {g g' n c : Nat} {xs : List Value} (h : OwnS w Bs e (some ⟨g, 0, none⟩) n c xs) (hne : g ≠ g') (j : Nat) (u : Value) : OwnS (w.setCell ⟨g', j, none⟩ u) Bs e (some ⟨g, 0, none⟩) n c xs := by
  refine ⟨h.1, ?_⟩
  rcases h.2 with h2 | ⟨g2, cap, cur, hv, hg, hh, r⟩
  · exact .inl h2
  · have hv0 := hv
    injection hv with hA _ _
    injection hA with hA
    injection hA with hA _ _
    subst hA
    exact .inr ⟨g, cap, cur, hv0, hg, by rw [Below.heap_setCell _ _ _ _ hne]; exact hh, r⟩
theorem conv_bytes (g n c Bs : Nat) (l : List UInt8) (w : World) (hl : l.length = n) (h : OwnS w Bs 5 (some ⟨g, 0, none⟩) n c (bytes l)) :
    (convert 33 9 (.slice (some ⟨g, 0, none⟩) n c)).run Tryd.prog w = .ok (.string (B l)) w := by
  have hc : ∀ i, i < n → w.cell? ⟨g, 0 + i, none⟩ = some (.int .u8 ((l.map fun b => (b.toNat : Int)).getD i 0)) := by
    intro i hi
    have := World.ownsRow.cellAt h i (by omega)
    rw [Nat.zero_add, this]
    simp [bytes, List.getElem?_eq_getElem (show i < l.length by omega)]
  have := run_convert_bytes_arg (P := Tryd.prog) (w := w) 33 5 Tryd.underlying33 Tryd.underlying5 g 0 n c (l.map fun b => (b.toNat : Int)) (by simpa using hl) hc 9 Tryd.underlying9
  rw [this]
  congr 2
  unfold strOfNums B
  congr 1
  have : ∀ l : List UInt8, (l.map fun b => (b.toNat : Int)).map (fun n => UInt8.ofNat n.toNat) = l := by
    intro l
    rw [List.map_map]
    conv => rhs; rw [← List.map_id l]
    apply List.map_congr_left
    intro x _
    simp
  rw [this]

/-- n nines -/
def nines (n : Nat) : List UInt8 := List.replicate n 57
theorem nines_length (n : Nat) : (nines n).length = n := by simp [nines]
theorem nines_all (n : Nat) : (nines n).all isDig = true := by
  rw [List.all_eq_true]; intro x hx; rw [List.eq_of_mem_replicate hx]; decide
theorem nines_right {n : Nat} (h : 0 < n) : right (nines n) = true := by
  unfold right
  rw [nines_all]
  match n, h with
  | n + 1, _ => simp [nines, List.replicate_succ]
theorem nines_val (n : Nat) : val (nines n) + 1 = 10 ^ n := by
  induction n with
  | zero => rfl
  | succ n ih =>
    have : nines (n + 1) = 57 :: nines n := rfl
    rw [this, val_cons, nines_length, Nat.pow_succ, ← ih]
    have : dv 57 = 9 := rfl
    rw [this]; omega
theorem nines_sum {n m : Nat} (hn : 0 < n) (hm : 0 < m) : (dec (val (nines n) + val (nines m))).length = max n m + 1 := by
  have h1 := nines_val n
  have h2 := nines_val m
  have p1 : 10 ^ 1 ≤ 10 ^ n := Nat.pow_le_pow_right (by omega) hn
  have p2 : 10 ^ 1 ≤ 10 ^ m := Nat.pow_le_pow_right (by omega) hm
  have p3 : 10 ^ n ≤ 10 ^ max n m := Nat.pow_le_pow_right (by omega) (by omega)
  have p4 : 10 ^ m ≤ 10 ^ max n m := Nat.pow_le_pow_right (by omega) (by omega)
  have hup : (dec (val (nines n) + val (nines m))).length ≤ max n m + 1 := by
    refine (length_dec_le (by omega)).2 ?_
    rw [Nat.pow_succ]; omega
  have hlo : ¬ (dec (val (nines n) + val (nines m))).length ≤ max n m := by
    intro h
    have := (length_dec_le (by omega)).1 h
    rcases Nat.le_total n m with h9 | h9
    · rw [Nat.max_eq_right h9] at this; omega
    · rw [Nat.max_eq_left h9] at this; omega
  omega
theorem nines_prod {n m : Nat} (hn : 0 < n) (hm : 0 < m) : (dec (val (nines n) * val (nines m))).length = n + m := by
  have h1 := nines_val n
  have h2 := nines_val m
  obtain ⟨k, rfl⟩ : ∃ k, n = k + 1 := ⟨n - 1, by omega⟩
  obtain ⟨j, rfl⟩ : ∃ j, m = j + 1 := ⟨m - 1, by omega⟩
  generalize val (nines (k + 1)) = x at *
  generalize val (nines (j + 1)) = y at *
  have e : (x + 1) * (y + 1) = x * y + x + y + 1 := by rw [Nat.add_mul, Nat.mul_add]; omega
  rw [h1, h2] at e
  have p1 : 0 < 10 ^ k := Nat.pow_pos (by omega)
  have p2 : 0 < 10 ^ j := Nat.pow_pos (by omega)
  have q1 : (10 : Nat) ^ (k + 1) = 10 * 10 ^ k := by rw [Nat.pow_succ, Nat.mul_comm]
  have q2 : (10 : Nat) ^ (j + 1) = 10 * 10 ^ j := by rw [Nat.pow_succ, Nat.mul_comm]
  have q3 : (10 : Nat) ^ (k + 1 + (j + 1)) = 10 ^ (k + 1) * 10 ^ (j + 1) := Nat.pow_add _ _ _
  have q4 : (10 : Nat) ^ (k + 1 + j) = 10 ^ (k + 1) * 10 ^ j := Nat.pow_add _ _ _
  have hup : (dec (x * y)).length ≤ k + 1 + (j + 1) := by
    refine (length_dec_le (by omega)).2 ?_
    rw [q3, e]; omega
  have hlo : ¬ (dec (x * y)).length ≤ k + 1 + j := by
    intro h
    have h9 := (length_dec_le (by omega)).1 h
    rw [q4] at h9
    -- 10^(k+1) * 10^(j+1) = 10 * (10^(k+1) * 10^j)
    have h8 : 10 ^ (k + 1) * 10 ^ (j + 1) = 10 * (10 ^ (k + 1) * 10 ^ j) := by rw [q2, Nat.mul_left_comm]
    rw [h8] at e
    have h7 : 10 ^ (k + 1) ≤ 10 ^ (k + 1) * 10 ^ j := Nat.le_mul_of_pos_right _ p2
    have h6 : 10 * 10 ^ j ≤ 10 ^ (k + 1) * 10 ^ j := Nat.mul_le_mul_right _ (by rw [q1]; omega)
    omega
  omega
theorem fill_step (k n : Nat) (h : k < n) : (bytes (nines k ++ List.replicate (n - k) 0)).set k (.int .u8 57) = bytes (nines (k + 1) ++ List.replicate (n - (k + 1)) 0) := by
  have h1 : n - k = (n - (k + 1)) + 1 := by omega
  rw [h1, List.replicate_succ]
  unfold bytes
  rw [List.map_append, List.set_append_right _ _ (by simp [nines])]
  simp [nines, List.replicate_succ']

set_option maxHeartbeats 2000000 in
set_option maxRecDepth 100000 in
theorem limits_core (n m : Nat) (w : World) (hn : n ≤ 4200) (hm : m ≤ 4200) (ht : Tab w) :
    Calls Tryd.prog 8 #[.int .u16 n, .int .u16 m] w fun e w' => e = .returned (.bool true) ∧ Below w.heap.size w w' := by
  have mkn := make_bytes n (by omega)
  have mkm := make_bytes m (by omega)
  go_enter Tryd.func8, Tryd.ntmps8
  go_wp2_with fail
  go_cut [5, 6] (fun v5 v6 w2 => ∃ g1 g2 : Nat, v5 = .slice (some ⟨g1, 0, none⟩) n n ∧ v6 = .slice (some ⟨g2, 0, none⟩) m m ∧ g1 ≠ g2 ∧ w.heap.size ≤ g1 ∧ w.heap.size ≤ g2 ∧
    OwnS w2 w.heap.size 5 (some ⟨g1, 0, none⟩) n n (bytes (List.replicate n 0)) ∧ OwnS w2 w.heap.size 5 (some ⟨g2, 0, none⟩) m m (bytes (List.replicate m 0)) ∧ Below w.heap.size w w2)
  case first =>
    have sz1 : ∀ o : Obj, (w.alloc o).heap.size = w.heap.size + 1 := fun o => by simp
    have f1 : OwnS ((w.alloc (.cells (zeros n) 5)).alloc (.cells (zeros m) 5)) w.heap.size 5 (some ⟨w.heap.size, 0, none⟩) n n (bytes (List.replicate n 0)) := (OwnS.zeros w n _ (Nat.le_refl _) (by omega)).alloc _
    have f2 : OwnS ((w.alloc (.cells (zeros n) 5)).alloc (.cells (zeros m) 5)) w.heap.size 5 (some ⟨w.heap.size + 1, 0, none⟩) m m (bytes (List.replicate m 0)) := by
      have := OwnS.zeros (w.alloc (.cells (zeros n) 5)) m w.heap.size (by rw [sz1]; omega) (by omega)
      rw [sz1] at this
      exact this
    have f3 : OwnS ((w.alloc (.cells (zeros m) 5)).alloc (.cells (zeros n) 5)) w.heap.size 5 (some ⟨w.heap.size, 0, none⟩) m m (bytes (List.replicate m 0)) := (OwnS.zeros w m _ (Nat.le_refl _) (by omega)).alloc _
    have f4 : OwnS ((w.alloc (.cells (zeros m) 5)).alloc (.cells (zeros n) 5)) w.heap.size 5 (some ⟨w.heap.size + 1, 0, none⟩) n n (bytes (List.replicate n 0)) := by
      have := OwnS.zeros (w.alloc (.cells (zeros m) 5)) n w.heap.size (by rw [sz1]; omega) (by omega)
      rw [sz1] at this
      exact this
    have F1 := Lib.hid f1
    have F2 := Lib.hid f2
    have F3 := Lib.hid f3
    have F4 := Lib.hid f4
    clear f1 f2 f3 f4 sz1
    go_region
    · go_wp2_with fail
      go_meet
      exact ⟨w.heap.size, w.heap.size + 1, rfl, rfl, by omega, by omega, by omega, F1.out, F2.out, (((Below.refl _ _).alloc (Nat.le_refl _) _).alloc (by simp) _).drew⟩
    · go_wp2_with fail
      go_meet
      exact ⟨w.heap.size + 1, w.heap.size, rfl, rfl, by omega, by omega, by omega, F4.out, F3.out, (((Below.refl _ _).alloc (Nat.le_refl _) _).alloc (by simp) _).drew⟩
  case rest =>
    obtain ⟨g1, g2, rfl, rfl, hne, hg1, hg2, hown1, hown2, hbel⟩ := hcut
    clear mkn mkm
    go_wp2_with fail
    go_loopw [7, 31] (fun _ i wr => ∃ k : Nat, k ≤ n ∧ i = .int .i64 k ∧ OwnS wr w.heap.size 5 (some ⟨g1, 0, none⟩) n n (bytes (nines k ++ List.replicate (n - k) 0)) ∧ OwnS wr w.heap.size 5 (some ⟨g2, 0, none⟩) m m (bytes (List.replicate m 0)) ∧ Below w.heap.size w wr) (fun _ i _ => n - (intOf i).toNat)
    case atStart => exact ⟨0, Nat.zero_le _, rfl, by simpa [nines] using hown1, hown2, hbel⟩
    case round =>
      obtain ⟨k, hk, rfl, ho1, ho2, hbelr⟩ := hrel
      clear hown1 hown2 hbel
      by_cases hlt : k < n
      · obtain ⟨g', hgg, _, _, hgc, hgf⟩ := ho1.at_ (by omega)
        injection hgg with hgg
        injection hgg with hgg _ _
        subst hgg
        have hlen : k < (bytes (nines k ++ List.replicate (n - k) 0)).length := by rw [bytes_length, List.length_append, nines_length, List.length_replicate]; omega
        have hld : wr.cell? ⟨g1, k, none⟩ = some (bytes (nines k ++ List.replicate (n - k) 0))[k] := by rw [hgc k hlt, List.getElem?_eq_getElem hlen]
        have hfr := hgf k
        have hst := ho1.stored k (.int .u8 57)
        rw [fill_step k n hlt] at hst
        have HST := Lib.hid hst
        have HO2 := Lib.hid (ho2.setOther (show g2 ≠ g1 by omega) k (.int .u8 57))
        generalize (bytes (nines k ++ List.replicate (n - k) 0))[k] = old at hld
        clear hgc hgf hst ho1 ho2
        go_wp2_with fail
        go_roundw
        case rel => exact ⟨k + 1, by omega, by go_num, HST.out, HO2.out, hbelr.setCell hg1 _⟩
        case measure => simp [intOf]; omega
      · obtain rfl : k = n := by omega
        have ho1' : OwnS wr w.heap.size 5 (some ⟨g1, 0, none⟩) k k (bytes (nines k)) := by simpa using ho1
        clear ho1
        go_wp2_with fail
        go_loopw [8, 40] (fun _ i wr => ∃ j : Nat, j ≤ m ∧ i = .int .i64 j ∧ OwnS wr w.heap.size 5 (some ⟨g1, 0, none⟩) k k (bytes (nines k)) ∧ OwnS wr w.heap.size 5 (some ⟨g2, 0, none⟩) m m (bytes (nines j ++ List.replicate (m - j) 0)) ∧ Below w.heap.size w wr) (fun _ i _ => m - (intOf i).toNat)
        case atStart => exact ⟨0, Nat.zero_le _, rfl, ho1', by simpa [nines] using ho2, hbelr⟩
        case round =>
          obtain ⟨j, hj, rfl, ho1, ho2, hbelr⟩ := hrel
          by_cases hlt : j < m
          · obtain ⟨g', hgg, _, _, hgc, hgf⟩ := ho2.at_ (by omega)
            injection hgg with hgg
            injection hgg with hgg _ _
            subst hgg
            have hlen : j < (bytes (nines j ++ List.replicate (m - j) 0)).length := by rw [bytes_length, List.length_append, nines_length, List.length_replicate]; omega
            have hld : wr.cell? ⟨g2, j, none⟩ = some (bytes (nines j ++ List.replicate (m - j) 0))[j] := by rw [hgc j hlt, List.getElem?_eq_getElem hlen]
            have hfr := hgf j
            have hst := ho2.stored j (.int .u8 57)
            rw [fill_step j m hlt] at hst
            have HST := Lib.hid hst
            have HO2 := Lib.hid (ho1.setOther (show g1 ≠ g2 by omega) j (.int .u8 57))
            generalize (bytes (nines j ++ List.replicate (m - j) 0))[j] = old at hld
            clear hgc hgf hst ho1 ho2
            go_wp2_with fail
            go_roundw
            case rel => exact ⟨j + 1, by omega, by go_num, HO2.out, HST.out, hbelr.setCell hg2 _⟩
            case measure => simp [intOf]; omega
          · obtain rfl : j = m := by omega
            have ho2' : OwnS wr w.heap.size 5 (some ⟨g2, 0, none⟩) j j (bytes (nines j)) := by simpa using ho2
            clear ho2
            have cv1 := conv_bytes g1 k k _ (nines k) wr (nines_length k) ho1
            have cv2 := conv_bytes g2 j j _ (nines j) wr (nines_length j) ho2'
            have cv3 := conv_bytes g1 k k _ (nines k) wr.drew (nines_length k) ho1
            have cv4 := conv_bytes g2 j j _ (nines j) wr.drew (nines_length j) ho2'
            go_wp2_with fail
            go_cut [9, 10] (fun v9 v10 w2 => v9 = .string (B (nines k)) ∧ v10 = .string (B (nines j)) ∧ Below w.heap.size w w2)
            case first =>
              go_region
              all_goals
                go_wp2_with fail
                go_meet
                exact ⟨rfl, rfl, hbelr.drew⟩
            case rest =>
              obtain ⟨rfl, rfl, hbel⟩ := hcut
              clear cv1 cv2 cv3 cv4 ho1 ho2' hbelr
              by_cases hA : k = 0 ∨ j = 0
              · have he : errT (nines k) (nines j) = 3 := by
                  rw [errT, if_neg]
                  rintro ⟨h1, h2⟩
                  rcases hA with rfl | rfl
                  · exact absurd h1 (by decide)
                  · exact absurd h2 (by decide)
                have hAE := Lib.hid (show addE (nines k) (nines j) = 3 by rw [addE, he]; rfl)
                have hME := Lib.hid (show mulE (nines k) (nines j) = 3 by rw [mulE, he]; rfl)
                clear he
                by_cases hk0 : k = 0
                · have t1 : ((k : Int) == 0) = true := by rw [hk0]; rfl
                  clear hA hk0
                  go_wp2_with fail
                  refine (add_any _ _ _ (maxLen_of (by rw [nines_length]; omega)) (maxLen_of (by rw [nines_length]; omega)) (ht.below hbel)).mono ?_
                  rintro e wa ⟨rfl, hba⟩
                  rw [hAE.out]
                  go_wp2_with fail
                  refine (mul_any _ _ _ (maxLen_of (by rw [nines_length]; omega)) (maxLen_of (by rw [nines_length]; omega)) ((ht.below hbel).below hba)).mono ?_
                  rintro e wb ⟨rfl, hbb⟩
                  rw [hME.out]
                  have h5 := hbel.trans (hba.mono hbel.size)
                  have h6 := h5.trans (hbb.mono h5.size)
                  go_wp2_with fail
                  refine (awake_any _ (ht.below h6)).mono ?_
                  rintro e w4 ⟨rfl, hb4⟩
                  go_wp2_with fail
                  go_ret
                  exact ⟨rfl, h6.trans (hb4.mono h6.size)⟩
                · have t1 : ((k : Int) == 0) = false := by rw [beq_eq_false_iff_ne]; omega
                  have t2 : ((j : Int) == 0) = true := by rw [beq_iff_eq]; omega
                  clear hA hk0
                  go_wp2_with fail
                  refine (add_any _ _ _ (maxLen_of (by rw [nines_length]; omega)) (maxLen_of (by rw [nines_length]; omega)) (ht.below hbel)).mono ?_
                  rintro e wa ⟨rfl, hba⟩
                  rw [hAE.out]
                  go_wp2_with fail
                  refine (mul_any _ _ _ (maxLen_of (by rw [nines_length]; omega)) (maxLen_of (by rw [nines_length]; omega)) ((ht.below hbel).below hba)).mono ?_
                  rintro e wb ⟨rfl, hbb⟩
                  rw [hME.out]
                  have h5 := hbel.trans (hba.mono hbel.size)
                  have h6 := h5.trans (hbb.mono h5.size)
                  go_wp2_with fail
                  refine (awake_any _ (ht.below h6)).mono ?_
                  rintro e w4 ⟨rfl, hb4⟩
                  go_wp2_with fail
                  go_ret
                  exact ⟨rfl, h6.trans (hb4.mono h6.size)⟩
              · have t1 : ((k : Int) == 0) = false := by rw [beq_eq_false_iff_ne]; omega
                have t2 : ((j : Int) == 0) = false := by rw [beq_eq_false_iff_ne]; omega
                have hk1 : 0 < k := by omega
                have hj1 : 0 < j := by omega
                by_cases hB : k ≤ 4096 ∧ j ≤ 4096
                · have he : errT (nines k) (nines j) = 0 := errT_zero.2 ⟨nines_right hk1, nines_right hj1, by rw [nines_length]; exact hB.1, by rw [nines_length]; exact hB.2⟩
                  have hs := nines_sum hk1 hj1
                  have hp := nines_prod hk1 hj1
                  have hmx : imax (k : Int) (j : Int) = ((max k j : Nat) : Int) := imax_nat _ _
                  have hmx2 : max (k : Int) (j : Int) = ((max k j : Nat) : Int) := by omega
                  have hb1 : k ≤ 4096 := hB.1
                  have hb2 : j ≤ 4096 := hB.2
                  have hM1 : k ≤ max k j := by omega
                  have hM2 : j ≤ max k j := by omega
                  have hM3 : max k j ≤ 4096 := by omega
                  have hM4 : max k j ≤ k + j := by omega
                  generalize max k j = M at *
                  clear hA hB
                  by_cases hP : k + j ≤ 4096
                  · have hME := Lib.hid (show mulE (nines k) (nines j) = 0 by rw [mulE, if_pos he, resE, hp, if_pos hP])
                    have hMS := Lib.hid (show (mulS (nines k) (nines j)).length = k + j by rw [mulS, if_pos he, resS, if_pos (by omega), hp])
                    have hAE := Lib.hid (show addE (nines k) (nines j) = 0 by rw [addE, if_pos he, resE, hs, if_pos (by omega)])
                    have t3 : ((M : Int) == 4096) = false := by rw [beq_eq_false_iff_ne]; omega
                    clear he hs hp
                    go_wp2_with fail
                    refine (add_any _ _ _ (maxLen_of (by rw [nines_length]; omega)) (maxLen_of (by rw [nines_length]; omega)) (ht.below hbel)).mono ?_
                    rintro e wa ⟨rfl, hba⟩
                    rw [hAE.out]
                    go_wp2_with fail
                    refine (mul_any _ _ _ (maxLen_of (by rw [nines_length]; omega)) (maxLen_of (by rw [nines_length]; omega)) ((ht.below hbel).below hba)).mono ?_
                    rintro e wb ⟨rfl, hbb⟩
                    rw [hME.out]
                    have h5 := hbel.trans (hba.mono hbel.size)
                    have h6 := h5.trans (hbb.mono h5.size)
                    have t4 : (((mulS (nines k) (nines j)).length : Int) == (k : Int) + (j : Int)) = true := by rw [hMS.out]; simp
                    go_wp2_with fail
                    refine (awake_any _ (ht.below h6)).mono ?_
                    rintro e w4 ⟨rfl, hb4⟩
                    go_wp2_with fail
                    go_ret
                    exact ⟨rfl, h6.trans (hb4.mono h6.size)⟩
                  · have hME := Lib.hid (show mulE (nines k) (nines j) = 4 by rw [mulE, if_pos he, resE, hp, if_neg hP])
                    have hkj : 1 < k ∨ 1 < j := by omega
                    by_cases hMM : M = 4096
                    · have hAE := Lib.hid (show addE (nines k) (nines j) = 4 by rw [addE, if_pos he, resE, hs, if_neg (by omega)])
                      have t3 : ((M : Int) == 4096) = true := by rw [hMM]; rfl
                      clear he hs hp hMM
                      by_cases hk2 : 1 < k
                      · clear hkj
                        go_wp2_with fail
                        refine (add_any _ _ _ (maxLen_of (by rw [nines_length]; omega)) (maxLen_of (by rw [nines_length]; omega)) (ht.below hbel)).mono ?_
                        rintro e wa ⟨rfl, hba⟩
                        rw [hAE.out]
                        go_wp2_with fail
                        refine (mul_any _ _ _ (maxLen_of (by rw [nines_length]; omega)) (maxLen_of (by rw [nines_length]; omega)) ((ht.below hbel).below hba)).mono ?_
                        rintro e wb ⟨rfl, hbb⟩
                        rw [hME.out]
                        have h5 := hbel.trans (hba.mono hbel.size)
                        have h6 := h5.trans (hbb.mono h5.size)
                        go_wp2_with fail
                        refine (awake_any _ (ht.below h6)).mono ?_
                        rintro e w4 ⟨rfl, hb4⟩
                        go_wp2_with fail
                        go_ret
                        exact ⟨rfl, h6.trans (hb4.mono h6.size)⟩
                      · have hj2 : 1 < j := by omega
                        clear hkj
                        go_wp2_with fail
                        refine (add_any _ _ _ (maxLen_of (by rw [nines_length]; omega)) (maxLen_of (by rw [nines_length]; omega)) (ht.below hbel)).mono ?_
                        rintro e wa ⟨rfl, hba⟩
                        rw [hAE.out]
                        go_wp2_with fail
                        refine (mul_any _ _ _ (maxLen_of (by rw [nines_length]; omega)) (maxLen_of (by rw [nines_length]; omega)) ((ht.below hbel).below hba)).mono ?_
                        rintro e wb ⟨rfl, hbb⟩
                        rw [hME.out]
                        have h5 := hbel.trans (hba.mono hbel.size)
                        have h6 := h5.trans (hbb.mono h5.size)
                        go_wp2_with fail
                        refine (awake_any _ (ht.below h6)).mono ?_
                        rintro e w4 ⟨rfl, hb4⟩
                        go_wp2_with fail
                        go_ret
                        exact ⟨rfl, h6.trans (hb4.mono h6.size)⟩
                    · have hAE := Lib.hid (show addE (nines k) (nines j) = 0 by rw [addE, if_pos he, resE, hs, if_pos (by omega)])
                      have t3 : ((M : Int) == 4096) = false := by rw [beq_eq_false_iff_ne]; omega
                      clear he hs hp hMM
                      by_cases hk2 : 1 < k
                      · clear hkj
                        go_wp2_with fail
                        refine (add_any _ _ _ (maxLen_of (by rw [nines_length]; omega)) (maxLen_of (by rw [nines_length]; omega)) (ht.below hbel)).mono ?_
                        rintro e wa ⟨rfl, hba⟩
                        rw [hAE.out]
                        go_wp2_with fail
                        refine (mul_any _ _ _ (maxLen_of (by rw [nines_length]; omega)) (maxLen_of (by rw [nines_length]; omega)) ((ht.below hbel).below hba)).mono ?_
                        rintro e wb ⟨rfl, hbb⟩
                        rw [hME.out]
                        have h5 := hbel.trans (hba.mono hbel.size)
                        have h6 := h5.trans (hbb.mono h5.size)
                        go_wp2_with fail
                        refine (awake_any _ (ht.below h6)).mono ?_
                        rintro e w4 ⟨rfl, hb4⟩
                        go_wp2_with fail
                        go_ret
                        exact ⟨rfl, h6.trans (hb4.mono h6.size)⟩
                      · have hj2 : 1 < j := by omega
                        clear hkj
                        go_wp2_with fail
                        refine (add_any _ _ _ (maxLen_of (by rw [nines_length]; omega)) (maxLen_of (by rw [nines_length]; omega)) (ht.below hbel)).mono ?_
                        rintro e wa ⟨rfl, hba⟩
                        rw [hAE.out]
                        go_wp2_with fail
                        refine (mul_any _ _ _ (maxLen_of (by rw [nines_length]; omega)) (maxLen_of (by rw [nines_length]; omega)) ((ht.below hbel).below hba)).mono ?_
                        rintro e wb ⟨rfl, hbb⟩
                        rw [hME.out]
                        have h5 := hbel.trans (hba.mono hbel.size)
                        have h6 := h5.trans (hbb.mono h5.size)
                        go_wp2_with fail
                        refine (awake_any _ (ht.below h6)).mono ?_
                        rintro e w4 ⟨rfl, hb4⟩
                        go_wp2_with fail
                        go_ret
                        exact ⟨rfl, h6.trans (hb4.mono h6.size)⟩
                · have he : errT (nines k) (nines j) = 4 := by
                    rw [errT, if_pos ⟨nines_right hk1, nines_right hj1⟩, if_neg]
                    rw [nines_length, nines_length]; exact hB
                  have hAE := Lib.hid (show addE (nines k) (nines j) = 4 by rw [addE, he]; rfl)
                  have hME := Lib.hid (show mulE (nines k) (nines j) = 4 by rw [mulE, he]; rfl)
                  clear he hA
                  by_cases hk4 : 4096 < k
                  · clear hB
                    go_wp2_with fail
                    refine (add_any _ _ _ (maxLen_of (by rw [nines_length]; omega)) (maxLen_of (by rw [nines_length]; omega)) (ht.below hbel)).mono ?_
                    rintro e wa ⟨rfl, hba⟩
                    rw [hAE.out]
                    go_wp2_with fail
                    refine (mul_any _ _ _ (maxLen_of (by rw [nines_length]; omega)) (maxLen_of (by rw [nines_length]; omega)) ((ht.below hbel).below hba)).mono ?_
                    rintro e wb ⟨rfl, hbb⟩
                    rw [hME.out]
                    have h5 := hbel.trans (hba.mono hbel.size)
                    have h6 := h5.trans (hbb.mono h5.size)
                    go_wp2_with fail
                    refine (awake_any _ (ht.below h6)).mono ?_
                    rintro e w4 ⟨rfl, hb4⟩
                    go_wp2_with fail
                    go_ret
                    exact ⟨rfl, h6.trans (hb4.mono h6.size)⟩
                  · have hj4 : 4096 < j := by omega
                    clear hB
                    go_wp2_with fail
                    refine (add_any _ _ _ (maxLen_of (by rw [nines_length]; omega)) (maxLen_of (by rw [nines_length]; omega)) (ht.below hbel)).mono ?_
                    rintro e wa ⟨rfl, hba⟩
                    rw [hAE.out]
                    go_wp2_with fail
                    refine (mul_any _ _ _ (maxLen_of (by rw [nines_length]; omega)) (maxLen_of (by rw [nines_length]; omega)) ((ht.below hbel).below hba)).mono ?_
                    rintro e wb ⟨rfl, hbb⟩
                    rw [hME.out]
                    have h5 := hbel.trans (hba.mono hbel.size)
                    have h6 := h5.trans (hbb.mono h5.size)
                    go_wp2_with fail
                    refine (awake_any _ (ht.below h6)).mono ?_
                    rintro e w4 ⟨rfl, hb4⟩
                    go_wp2_with fail
                    go_ret
                    exact ⟨rfl, h6.trans (hb4.mono h6.size)⟩

theorem natLimits_walk (n m : Int) (w : World) (wn : (Lit.int .u16 n).wf = true) (wm : (Lit.int .u16 m).wf = true) (ht : Tab w) :
    Calls Tryd.prog 8 #[.int .u16 n, .int .u16 m] w fun e w' => e = .returned (.bool true) ∧ Below w.heap.size w w' := by
  have b1 : 0 ≤ n ∧ n ≤ 65535 := by
    have h : IntKind.u16.min ≤ n ∧ n ≤ IntKind.u16.max := by simpa [Lit.wf] using wn
    exact h
  have b2 : 0 ≤ m ∧ m ≤ 65535 := by
    have h : IntKind.u16.min ≤ m ∧ m ≤ IntKind.u16.max := by simpa [Lit.wf] using wm
    exact h
  obtain ⟨k, rfl⟩ := Int.eq_ofNat_of_zero_le b1.1
  obtain ⟨j, rfl⟩ := Int.eq_ofNat_of_zero_le b2.1
  by_cases h : k ≤ 4200 ∧ j ≤ 4200
  · exact limits_core k j w h.1 h.2 ht
  · by_cases h1 : 4200 < k
    · clear h
      go_enter Tryd.func8, Tryd.ntmps8
      go_wp2_with fail
      refine (awake_any _ ht).mono ?_
      rintro e w4 ⟨rfl, hb4⟩
      go_wp2_with fail
      go_ret
      exact ⟨rfl, hb4⟩
    · have h2 : 4200 < j := by omega
      clear h
      go_enter Tryd.func8, Tryd.ntmps8
      go_wp2_with fail
      refine (awake_any _ ht).mono ?_
      rintro e w4 ⟨rfl, hb4⟩
      go_wp2_with fail
      go_ret
      exact ⟨rfl, hb4⟩
end Go.Proofs.YtbjjbfefbkamoaaDoor
