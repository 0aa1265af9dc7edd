/- The laws of fraction: FractionSplits. -/
import Derived.Test.YtblefdgfmjegiaaGreatDoorFLaw4
namespace Go.Proofs.YtblefdgfmjegiaaGreatDoor
open Go.RowKit Num
set_option linter.unusedVariables false
attribute [local go_sem] B_size B_get B_toList B_mk B_extract B_append

theorem choices_mem {l : List (Int × Int)} {v : List Str} {t n : Nat} {d : Dec} (h : d ∈ choicesD l v t n) :
    (∃ x : Nat, d = ⟨3, x, 0, floorZ (usedQ l v x).1⟩ ∧ hasS (usedQ l v x).1 = true) ∨ (∃ a b : Nat, d = ⟨1, a, b, 0⟩ ∧ hasS (togQ l v a b).1 = true) ∨ ∃ o : Nat, d = ⟨5, o, 0, 0⟩ ∧ hasS (togQ l v o o).1 = true := by
  unfold choicesD at h
  rw [List.mem_append, List.mem_append] at h
  rcases h with (h | h) | h
  · obtain ⟨x, _, hx⟩ := List.mem_flatMap.1 h
    unfold typeDec at hx
    split at hx
    · rename_i hs
      exact .inl ⟨x, by simpa using hx, hs⟩
    · cases hx
  · obtain ⟨a, _, ha⟩ := List.mem_flatMap.1 h
    obtain ⟨b, _, hb⟩ := List.mem_flatMap.1 ha
    split at hb
    · unfold pairDec at hb
      split at hb
      · rename_i hs
        exact .inr (.inl ⟨a, b, by simpa using hb, hs⟩)
      · cases hb
    · cases hb
  · obtain ⟨x, _, hx⟩ := List.mem_flatMap.1 h
    unfold servDec at hx
    split at hx
    · rename_i hs
      exact .inr (.inr ⟨x, by simpa using hx, hs⟩)
    · cases hx
theorem decI_small {z : Int} (h : z.natAbs ≤ 100000000000002) : (decI z).length ≤ 1000000 := by
  have h1 := dl_len z
  have h2 : (dec z.natAbs).length ≤ 20 := by rw [length_dec_le (by omega)]; omega
  have h3 : dl z = (dec z.natAbs).length := rfl
  omega
theorem int_one (a : Str) (w : World) (ha : a.length ≤ 100000) (hs : hasS a = true) : Calls Tryz.prog 15 #[.slice (some ⟨w.heap.size, 0, none⟩) 1 1] (w.alloc (.cells #[.string (B a)] 27)) fun e w' => e = .returned (.bool false) ∧ Below w.heap.size (w.alloc (.cells #[.string (B a)] 27)) w' := by
  have h := frintegral_any [a] (some ⟨w.heap.size, 0, none⟩) 1 (w.alloc (.cells #[.string (B a)] 27)) (OwnS.lit w 27 #[.string (B a)] w.heap.size 1 (Nat.le_refl _) rfl (by unfold maxLen; omega)).cells (by simp) (by intro x hx; rw [List.mem_singleton] at hx; rw [hx]; exact ha)
  rw [show ([a] : List Str).all wholeQ = false by simp [wholeQ, hs]] at h
  refine h.mono ?_
  rintro e w' ⟨rfl, hb⟩
  exact ⟨rfl, hb.mono (by rw [World.size_alloc]; omega)⟩

set_option maxHeartbeats 4000000 in
set_option maxRecDepth 100000 in
theorem fractionSplits_walk (cs : List ColV) (A : Option Addr) (c : Nat) (v : List Str) (V : Option Addr) (cv : Nat) (w : World) (hn : cs.length ≤ c) (hc : c ≤ maxLen) (hs : ColsAt w A cs) (ho : ∀ r ∈ cs, r.ok) (hx : Cells w V (strs v)) (hvn : v.length ≤ cv) (hvc : cv ≤ maxLen) (hvs : ∀ x ∈ v, x.length ≤ maxLen) (he : Env w) (hr : ErrV w) :
    Calls Tryz.prog 5 #[.slice A cs.length c, .slice V v.length cv] w fun e w' => e = .returned (.bool true) ∧ Below w.heap.size w w' := by
  have HFEW := Lib.hid (fun w' (h : Below w.heap.size w w') => ffew_any cs A c v V cv w' (hs.below h) (hx.below h) (Nat.le_trans hn hc) (Nat.le_trans hvn hvc) hvs ho)
  have HAW := Lib.hid (fun w' (h : Below w.heap.size w w') => fawake_any w' (he.below h) (hr.below h))
  by_cases hf : fewF cs v = true
  · obtain ⟨p1, p2, p3, p4⟩ := few_parts hf
    have q1 : cs.length ≤ 1000 := by omega
    have q3 : ∀ x ∈ v, x.length ≤ 100000 := fun x hx => by have := p3 x hx; omega
    have q4 : ∀ r ∈ cs, 0 ≤ r.s ∧ fits r.s := fun r hr => ⟨p4 r hr, (ho r hr).2⟩
    obtain ⟨zt, mkT0⟩ := make_types 6 (by omega)
    obtain ⟨zo, mkO0⟩ := make_orders 10 (by omega)
    have mkT : ∀ w : World, (Instr.makeSlice 35 (.int .i64 6) (.int .i64 6)).run Tryz.prog w = .ok (.slice (some ⟨w.heap.size, 0, none⟩) 6 6) (w.alloc (.cells zt 212)) := mkT0
    have mkO : ∀ w : World, (Instr.makeSlice 36 (.int .i64 10) (.int .i64 10)).run Tryz.prog w = .ok (.slice (some ⟨w.heap.size, 0, none⟩) 10 10) (w.alloc (.cells zo 216)) := mkO0
    clear mkT0 mkO0
    rw [hf] at HFEW
    have HE := Lib.hid (fun (TA OA : Option Addr) (q : Int) (hq : AllErr (colL cs) v q) (hq0 : q ≠ 0) w' (h : Below w.heap.size w w') => fchoices_err cs A c v V cv (.slice none 0 0) (.slice none 0 0) (.slice none 0 0) (.slice none 0 0) TA OA 6 6 10 10 w' q (hs.below h) (hx.below h) q1 ⟨hvn, hvc⟩ q3 q4 hq hq0 (by omega) (by omega) (he.below h))
    have HO := Lib.hid (fun (TA OA : Option Addr) (hk : AllOK (colL cs) v) w' (h : Below w.heap.size w w') => fchoices_ok cs A c v V cv (.slice none 0 0) (.slice none 0 0) (.slice none 0 0) (.slice none 0 0) TA OA 6 6 10 10 w' (hs.below h) (hx.below h) q1 ⟨hvn, hvc⟩ q3 q4 hk (by omega) (by omega) (he.below h) (hr.below h))
    have HU := Lib.hid (fun (hk : AllOK (colL cs) v) (k : Int) w' (h : Below w.heap.size w w') => show Calls Tryz.prog 8 #[.slice A cs.length c, .slice V v.length cv, .int .i64 k] w' fun e w'' => e = .returned (.tuple #[.string (B (usedQ (colL cs) v k).1), .int .i64 0]) ∧ Below w'.heap.size w' w'' from by
      have h1 := fused_any cs A c v V cv k w' (hs.below h) (hx.below h) q1 ⟨hvn, hvc⟩ q3 (he.below h)
      rw [show (usedQ (colL cs) v k).2 = 0 from (hk _).1] at h1
      exact h1)
    have HT := Lib.hid (fun (hk : AllOK (colL cs) v) (j k : Int) w' (h : Below w.heap.size w w') => show Calls Tryz.prog 10 #[.slice A cs.length c, .slice V v.length cv, .int .i64 j, .int .i64 k] w' fun e w'' => e = .returned (.tuple #[.string (B (togQ (colL cs) v j k).1), .int .i64 0]) ∧ Below w'.heap.size w' w'' from by
      have h1 := ftog_any cs A c v V cv j k w' (hs.below h) (hx.below h) q1 ⟨hvn, hvc⟩ q3 q4 (he.below h)
      rw [show (togQ (colL cs) v j k).2 = 0 from (hk _).1] at h1
      exact h1)
    have HS := Lib.hid (fun (hk : AllOK (colL cs) v) (k : Int) w' (h : Below w.heap.size w w') => show Calls Tryz.prog 12 #[.slice A cs.length c, .slice V v.length cv, .int .i64 k] w' fun e w'' => e = .returned (.tuple #[.string (B (togQ (colL cs) v k k).1), .int .i64 0]) ∧ Below w'.heap.size w' w'' from by
      have h1 := fserved_any cs A c v V cv k w' (hs.below h) (hx.below h) q1 ⟨hvn, hvc⟩ q3 q4 (he.below h)
      rw [show (togQ (colL cs) v k k).2 = 0 from (hk _).1] at h1
      exact h1)
    have HSUM := Lib.hid (few_sums (l := colL cs) (v := v) (by rw [colL_len]; exact p1) p3)
    have HL := Lib.hid (choicesD_len (colL cs) v 6 10 (by omega) (by omega))
    have HM := Lib.hid (fun d (h : d ∈ choicesD (colL cs) v 6 10) => choices_mem h)
    have HUE := Lib.hid (fun (hk : AllOK (colL cs) v) k => show SumOK (usedQ (colL cs) v k).1 from (hk _).2)
    have HTE := Lib.hid (fun (hk : AllOK (colL cs) v) a b => show SumOK (togQ (colL cs) v a b).1 from (hk _).2)
    clear hs hx hn hc hvn hvc hvs ho hf p1 p2 p3 p4 q1 q3 q4 he hr
    go_enter Tryz.func5, Tryz.ntmps5
    go_wp2_with fail
    refine (HFEW.out _ (Below.refl _ _)).mono ?_
    rintro e w1 ⟨rfl, hw1⟩
    obtain rfl := hw1.symm
    go_upto_region 3 with fail
    go_cut [5] (fun p wx => ∃ (b : Nat) (TA OA : Option Addr), p = .pointer (some ⟨b, 0, none⟩) ∧ wx.heap[b]? = some (.cells (insC (.slice none 0 0) (.slice none 0 0) TA 6 6 OA 10 10 (.slice none 0 0) (.slice none 0 0)) 43) ∧ Below w.heap.size w wx)
    case first =>
      clear HFEW HAW HE HO HU HT HS HSUM HL HM HUE HTE
      go_region
      all_goals
        go_wp2_with fail
        go_meet
        first
          | exact ⟨_, _, _, rfl, (three_at _ _ _ _).1, (three_at _ _ _ _).2.2.2⟩
          | exact ⟨_, _, _, rfl, (three_at _ _ _ _).2.1, (three_at _ _ _ _).2.2.2⟩
          | exact ⟨_, _, _, rfl, (three_at _ _ _ _).2.2.1, (three_at _ _ _ _).2.2.2⟩
    case rest =>
      obtain ⟨b, TA, OA, rfl, hrow, b2⟩ := hcut
      obtain ⟨d0, d1, d2, d3, d4, d5⟩ := ins_all hrow (Below.refl _ _)
      clear hrow mkT mkO
      rcases HSUM.out with ⟨q, hq0, hq⟩ | ⟨hk, _, _⟩
      · have HEQ := Lib.hid (fun w' h => HE.out TA OA q hq hq0 w' h)
        have hqb : (q == 0) = false := by rw [beq_eq_false_iff_ne]; exact hq0
        clear hq
        go_wp2_with fail
        refine (HEQ.out wc b2).mono ?_
        rintro e w2 ⟨rfl, hb⟩
        have HB3 := Lib.hid (b2.trans (hb.mono b2.size))
        clear hb
        go_wp2_with fail
        refine (HAW.out w2 HB3.out).mono ?_
        rintro e w4 ⟨rfl, hb⟩
        have HB5 := Lib.hid (HB3.out.trans (hb.mono HB3.out.size))
        go_wp2_with fail
        go_ret
        exact ⟨rfl, HB5.out⟩
      · have HOK := Lib.hid (fun w' h => HO.out TA OA hk w' h)
        have HU1 := Lib.hid (HU.out hk)
        have HT1 := Lib.hid (HT.out hk)
        have HS1 := Lib.hid (HS.out hk)
        have HUE1 := Lib.hid (HUE.out hk)
        have HTE1 := Lib.hid (HTE.out hk)
        clear hk HO HE HU HT HS HUE HTE HSUM
        generalize choicesD (colL cs) v 6 10 = L at *
        generalize usedQ (colL cs) v = uq at *
        generalize togQ (colL cs) v = tq at *
        go_wp2_with fail
        refine (HOK.out wc b2).mono ?_
        rintro e w3 ⟨O, co, rfl, hown, hb⟩
        have HB4 := Lib.hid (b2.trans (hb.mono b2.size))
        have HD1 := Lib.hid (fun w' (h : Below w3.heap.size w3 w') i (hi : i < L.length) => dec_at (hown.below h) hi)
        clear hb hown d0 d1 d2 d3 d4 d5
        go_wp2_with fail
        go_loopw [8] (fun i wr => ∃ k : Nat, k ≤ L.length ∧ i = .int .i64 k ∧ Below w3.heap.size w3 wr) (fun i _ => L.length - (intOf i).toNat)
        case atStart => exact ⟨0, Nat.zero_le _, rfl, Below.refl _ _⟩
        case round =>
          obtain ⟨k, hk, rfl, hbel⟩ := hrel
          have HBR := Lib.hid hbel
          have BR := HB4.out.trans (hbel.mono HB4.out.size)
          clear hbel
          have hLl := HL.out
          by_cases hlt : k < L.length
          · obtain ⟨g1, rfl, x0, x1, x2, x3⟩ := HD1.out wr HBR.out k hlt
            have hlt' : (k : Int) < (L.length : Int) := by omega
            rcases HM.out _ (List.getElem_mem hlt) with ⟨x, hd, hs⟩ | ⟨a, b, hd, hs⟩ | ⟨o, hd, hs⟩
            · rw [hd] at x0 x1 x2 x3
              dsimp only at x0 x1 x2 x3
              go_wp2_with fail
              refine (HU1.out _ wr BR).mono ?_
              rintro e w4 ⟨rfl, hb⟩
              have hok := HUE1.out x
              obtain ⟨_, hfz, hfb⟩ := floor_ok hok
              obtain ⟨hc1, hc2⟩ := floor_between hok hs
              have hf1 : fits (floorZ (uq x).1 + 1) := by unfold fits; omega
              have hlen := hok.len
              have l1 := decI_small (z := floorZ (uq x).1) (by omega)
              have l2 := decI_small (z := floorZ (uq x).1 + 1) (by omega)
              have BK4 := HBR.out.trans (hb.mono HBR.out.size)
              have BR4 := BR.trans (hb.mono BR.size)
              obtain ⟨g', hg', _, _, _, y3⟩ := HD1.out w4 BK4 k hlt
              obtain rfl : g1 = g' := by injection hg' with e; injection e
              rw [hd] at y3
              dsimp only at y3
              have HOF1 := Lib.hid (fun w' => rqof_any (floorZ (uq x).1) w' hfz)
              have HOF2 := Lib.hid (fun w' => rqof_any (floorZ (uq x).1 + 1) w' hf1)
              have HC1 := Lib.hid (fun w' => rqcmp_any (decI (floorZ (uq x).1)) (uq x).1 w' l1 (by omega))
              have HC2 := Lib.hid (fun w' => rqcmp_any (uq x).1 (decI (floorZ (uq x).1 + 1)) w' (by omega) l2)
              have hal := hok.len
              have hbig : -100000000000000 ≤ floorZ (uq x).1 ∧ floorZ (uq x).1 ≤ 100000000000000 := by omega
              obtain ⟨hz1, hz2⟩ := hbig
              clear hfz hfb hf1 hok l1 l2 hlen
              generalize floorZ (uq x).1 = z at *
              generalize cmpQ (decI z) (uq x).1 = t1 at *
              generalize cmpQ (uq x).1 (decI (z + 1)) = t2 at *
              generalize (uq x).1 = s at *
              have ht1 : ¬ 0 ≤ t1 := by omega
              have ht2 : ¬ 0 ≤ t2 := by omega
              clear hb hc1 hc2
              have HBK4 := Lib.hid BK4
              have HBR4 := Lib.hid BR4
              have HS4 := Lib.hid (BK4.size)
              clear BK4 BR4
              go_wp2_with fail
              refine (HOF1.out w4).mono ?_
              rintro e w5 ⟨rfl, hb5⟩
              go_wp2_with fail
              refine (HC1.out w5).mono ?_
              rintro e w6 ⟨rfl, hb6⟩
              have HB6 := Lib.hid (hb5.trans (hb6.mono hb5.size))
              obtain ⟨g', hg', _, _, _, y3⟩ := HD1.out w6 (HBK4.out.trans (HB6.out.mono HBK4.out.size)) k hlt
              obtain rfl : g1 = g' := by injection hg' with e; injection e
              rw [hd] at y3
              dsimp only at y3
              clear hb5 hb6
              go_wp2_with fail
              refine (HOF2.out w6).mono ?_
              rintro e w7 ⟨rfl, hb7⟩
              go_wp2_with fail
              refine (HC2.out w7).mono ?_
              rintro e w8 ⟨rfl, hb8⟩
              have B8 := HB6.out.trans ((hb7.trans (hb8.mono hb7.size)).mono HB6.out.size)
              have HBK8 := Lib.hid (HBK4.out.trans (B8.mono HBK4.out.size))
              clear hb7 hb8 B8
              go_wp2_with fail
              refine (int_one _ _ (by omega) hs).mono ?_
              rintro e w9 ⟨rfl, hb⟩
              have BK9 := Lib.hid ((HBK8.out.trans ((new_below _ _).mono HBK8.out.size)).trans (hb.mono HBK8.out.size))
              clear hb
              go_wp2_with fail
              go_roundw
              case rel => exact ⟨k + 1, by omega, by go_num, BK9.out⟩
              case measure => simp [intOf]; omega
            · rw [hd] at x0 x1 x2 x3
              dsimp only at x0 x1 x2 x3
              go_wp2_with fail
              go_region_with (go_at_call 10; refine (HT1.out _ _ _ (below_drew BR)).mono ?_; rintro e w4 ⟨rfl, hb⟩)
              all_goals
                have hok := HTE1.out a b
                have BR4 := below_drew BR
                have BK4 := below_drew HBR.out
                have BR5 := BR4.trans (hb.mono BR4.size)
                have BK5 := BK4.trans (hb.mono BK4.size)
                have hbb := hb
                clear hb
                go_wp2_with fail
                refine (int_one _ _ (by have := hok.len; omega) hs).mono ?_
                rintro e w9 ⟨rfl, hb⟩
                have BK9 := Lib.hid ((BK5.trans ((new_below _ _).mono BK5.size)).trans (hb.mono BK5.size))
                clear hb BK4 BK5 BR4 BR5 hbb
                go_wp2_with fail
                go_roundw
                case rel => exact ⟨k + 1, by omega, by go_num, BK9.out⟩
                case measure => simp [intOf]; omega
            · rw [hd] at x0 x1 x2 x3
              dsimp only at x0 x1 x2 x3
              go_wp2_with fail
              refine (HS1.out _ wr BR).mono ?_
              rintro e w4 ⟨rfl, hb⟩
              have hok := HTE1.out o o
              have BR4 := BR
              have BK4 := HBR.out
              have BR5 := BR4.trans (hb.mono BR4.size)
              have BK5 := BK4.trans (hb.mono BK4.size)
              have hbb := hb
              clear hb
              go_wp2_with fail
              refine (int_one _ _ (by have := hok.len; omega) hs).mono ?_
              rintro e w9 ⟨rfl, hb⟩
              have BK9 := Lib.hid ((BK5.trans ((new_below _ _).mono BK5.size)).trans (hb.mono BK5.size))
              clear hb BK4 BK5 BR4 BR5 hbb
              go_wp2_with fail
              go_roundw
              case rel => exact ⟨k + 1, by omega, by go_num, BK9.out⟩
              case measure => simp [intOf]; omega
          · go_wp2_with fail
            refine (HAW.out wr BR).mono ?_
            rintro e w5 ⟨rfl, hb⟩
            have HB6 := Lib.hid (BR.trans (hb.mono BR.size))
            go_wp2_with fail
            go_ret
            exact ⟨rfl, HB6.out⟩
  · rw [show fewF cs v = false by simpa using hf] at HFEW
    clear hs hx hn hc hvn hvc hvs ho hf he hr
    go_enter Tryz.func5, Tryz.ntmps5
    go_wp2_with fail
    refine (HFEW.out _ (Below.refl _ _)).mono ?_
    rintro e w1 ⟨rfl, hw1⟩
    obtain rfl := hw1.symm
    go_wp2_with fail
    refine (HAW.out _ (Below.refl _ _)).mono ?_
    rintro e w2 ⟨rfl, hb⟩
    go_wp2_with fail
    go_ret
    exact ⟨rfl, hb⟩
end Go.Proofs.YtblefdgfmjegiaaGreatDoor
