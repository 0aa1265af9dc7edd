/- The law SimplexScales. -/
import Derived.Test.YtmppmdmekomjbaaGreatDoorG37
import Derived.Test.YtmppmdmekomjbaaGreatDoorG38
import Derived.Deep.RegionHeld3
namespace Go.Proofs.YtmppmdmekomjbaaGreatDoor
open Go.RowKit Num
set_option linter.unusedVariables false
attribute [local go_sem] B_size B_get B_toList B_mk B_extract B_append
attribute [local go_sem high] run_max2

theorem scale_take {k : Int} {cost : List Int} {i : Nat} (h : i < cost.length) : ints ((scale k cost).take i) ++ [.int .i64 (k * cost[i])] = ints ((scale k cost).take (i + 1)) := by
  have hl : i < (scale k cost).length := by rw [scale_len]; exact h
  have hg : (scale k cost)[i] = k * cost[i] := List.getElem_map (fun c => k * c)
  rw [List.take_succ_eq_append_getElem hl, hg]
  unfold ints
  rw [List.map_append]; rfl
theorem wrap_fits {z : Int} (h : fits z) : IntKind.i64.wrap z = z := by
  obtain ⟨h1, h2⟩ := h
  simp [IntKind.wrap, IntKind.bits, IntKind.signed]
  omega
theorem cells_new1 {w : World} {e : TypeId} {v : Value} : ∀ j u, [v][j]? = some u → (w.alloc (.cells #[v] e)).cell? ⟨w.heap.size, j, none⟩ = some u := by
  intro j u hj
  rw [World.cell?_alloc_new]
  simpa using hj
set_option maxHeartbeats 8000000 in
set_option maxRecDepth 100000 in
theorem simplexScales_walk (cost : List Int) (rs : List RowV) (A : Option Addr) (ca : Nat) (R : Option Addr) (cr : Nat) (k : Int) (w : World) (hp : LinAt w cost rs A ca R cr) (wk : (Lit.int .u8 k).wf = true) (he : Env w) :
    Calls Tryz.prog 7 #[linV A cost.length ca R rs.length cr, .int .u8 k] w fun e w' => e = .returned (.bool true) ∧ Below w.heap.size w w' := by
  have hk2 : IntKind.u8.min ≤ k ∧ k ≤ IntKind.u8.max := by simpa [Lit.wf] using wk
  have k0 : 0 ≤ k := hk2.1
  have k1 : k ≤ 255 := hk2.2
  clear hk2 wk
  have b0 := new_below w (linO A cost.length ca R rs.length cr)
  have HP := Lib.hid hp
  have HE := Lib.hid he
  have HF := Lib.hid (few_any cost rs A ca R cr _ (hp.below b0))
  have HAW := Lib.hid (fun w' (h : Below w.heap.size w w') => sxawake_any w' (he.below h))
  have HBW := Lib.hid (fun wr (h : Below (w.alloc (linO A cost.length ca R rs.length cr)).heap.size (w.alloc (linO A cost.length ca R rs.length cr)) wr) => b0.trans (h.mono b0.size))
  have hcl := hp.la
  have hrl := hp.lr
  unfold maxLen at hcl hrl
  clear hp he
  obtain ⟨d0, d1, d2⟩ := lin_cells (w := w) (u := .slice A cost.length ca) (v := .slice R rs.length cr) (t := 25) (Below.refl _ _)
  rcases hfew : fewB cost rs
  · rw [hfew] at HF
    go_enter Tryz.func7, Tryz.ntmps7
    go_wp2_with fail
    refine HF.out.mono ?_
    rintro e w1 ⟨rfl, hb1⟩
    have a1 := HBW.out _ hb1
    go_wp2_with fail
    refine (HAW.out w1 a1).mono ?_
    rintro e w2 ⟨rfl, hb2⟩
    go_wp2_with fail
    go_ret
    exact ⟨rfl, below_lift3 a1 hb2⟩
  rw [hfew] at HF
  have hm : rs.length ≤ 1000000 := by have := (few_parts hfew).2.1; omega
  have HCK := Lib.hid (fun w' (h : Below w.heap.size w w') => rlcheck_any cost rs A ca R cr w' hm (HP.out.below h))
  have hlck := checkK_len (linOf cost rs) rs.length
  by_cases hck : ¬ checkK (linOf cost rs) rs.length = []
  · have hck0 : 0 < (checkK (linOf cost rs) rs.length).length := by cases h : checkK (linOf cost rs) rs.length with | nil => exact absurd h hck | cons _ _ => simp
    clear hck
    generalize checkK (linOf cost rs) rs.length = l at *
    have hl0 : (0 : Int) < (l.length : Int) := by omega
    go_enter Tryz.func7, Tryz.ntmps7
    go_wp2_with fail
    refine HF.out.mono ?_
    rintro e w1 ⟨rfl, hb1⟩
    have a1 := HBW.out _ hb1
    obtain ⟨d0, d1, d2⟩ := lin_cells hb1
    go_wp2_with fail
    refine (HCK.out w1 a1).mono ?_
    rintro e w2 ⟨⟨v2, rfl, F2, c2, rfl, hf2⟩, hb2⟩
    have a2 := below_lift3 a1 hb2
    go_wp2_with fail
    refine (HAW.out w2 a2).mono ?_
    rintro e w3 ⟨rfl, hb3⟩
    go_wp2_with fail
    go_ret
    exact ⟨rfl, below_lift3 a2 hb3⟩
  have hck := Decidable.not_not.1 hck
  by_cases hkz : k = 0
  · subst hkz
    rw [hck] at HCK
    go_enter Tryz.func7, Tryz.ntmps7
    go_wp2_with fail
    refine HF.out.mono ?_
    rintro e w1 ⟨rfl, hb1⟩
    have a1 := HBW.out _ hb1
    obtain ⟨d0, d1, d2⟩ := lin_cells hb1
    go_wp2_with fail
    refine (HCK.out w1 a1).mono ?_
    rintro e w2 ⟨⟨v2, rfl, F2, c2, rfl, hf2⟩, hb2⟩
    have a2 := below_lift3 a1 hb2
    go_wp2_with fail
    refine (HAW.out w2 a2).mono ?_
    rintro e w3 ⟨rfl, hb3⟩
    go_wp2_with fail
    go_ret
    exact ⟨rfl, below_lift3 a2 hb3⟩
  have hk1 : 0 < k := by omega
  have hkb : (k == 0) = false := by simpa using hkz
  have HOK := Lib.hid (okp_few hfew hck)
  have HOS := Lib.hid (scale_okp ⟨hk1, k1⟩ hfew hck)
  have hpart := few_parts hfew
  have hn7 := hpart.1
  have HCO := Lib.hid hpart.2.2.1
  rw [hck] at HCK
  have HSO := Lib.hid (fun w' (h : Below w.heap.size w w') => sol_okp (d2 := 3) (D := 511) cost rs A ca R cr w' (HP.out.below h) HOK.out ⟨by decide, by decide⟩ (by decide) (by decide) (by decide) (HE.out.below h))
  have HSQ := Lib.hid (fun (X : Option Addr) (cx : Nat) w' (h : LinAt w' (scale k cost) rs X cx R cr) (h2 : Env w') => sol_okp (d2 := 5) (D := 767) (scale k cost) rs X cx R cr w' h HOS.out ⟨by decide, by decide⟩ (by decide) (by decide) (by decide) h2)
  have HSA := Lib.hid (fun (a b : AnsL) (ha : AnsR 511 (linOf cost rs) a) (hb : AnsR 767 (linOf (scale k cost) rs) b) => scale_ans ⟨hk1, k1⟩ HOK.out.wf.2 hn7 ha hb)
  have HAV := Lib.hid (fun (a : AnsL) (h : AnsR 511 (linOf cost rs) a) => ans_val HOK.out.wf HOK.out.n7 h)
  have HSF := Lib.hid (show ∀ n ∈ scale k cost, fits n from HOS.out.wf.2)
  have HSL := Lib.hid (scale_len (k := k) (cost := cost))
  clear hfew hck hlck hpart hkz
  go_enter Tryz.func7, Tryz.ntmps7
  go_wp2_with fail
  refine HF.out.mono ?_
  rintro e w1 ⟨rfl, hb1⟩
  have a1 := HBW.out _ hb1
  obtain ⟨d0, d1, d2⟩ := lin_cells hb1
  go_wp2_with fail
  refine (HCK.out w1 a1).mono ?_
  rintro e w2 ⟨⟨v2, rfl, F2, c2, rfl, hf2⟩, hb2⟩
  have a2 := below_lift3 a1 hb2
  have c2 := below_lift3 hb1 hb2
  clear d0 d1 d2
  obtain ⟨d0, d1, d2⟩ := lin_cells c2
  have n3 := new_below w2 (linO none 0 0 R rs.length cr)
  have hB2 : (w.alloc (linO A cost.length ca R rs.length cr)).heap.size ≤ w2.heap.size := c2.size
  have HBX := Lib.hid (show BoxQ (w2.alloc (linO none 0 0 R rs.length cr)) (w.alloc (linO A cost.length ca R rs.length cr)).heap.size w2.heap.size 3 1 0 (.slice R rs.length cr) none 0 0 [] from box_new hB2 (.slice none 0 0) 0 (.slice R rs.length cr) (.inl rfl))
  have c3 := below_lift3 c2 n3
  go_wp2_with fail
  generalize w2.alloc (linO none 0 0 R rs.length cr) = w3 at *
  go_loopw [6] (fun i wr => ∃ (q : Nat) (X : Option Addr) (cx : Nat), q ≤ cost.length ∧ i = .int .i64 q ∧ BoxQ wr (w.alloc (linO A cost.length ca R rs.length cr)).heap.size w2.heap.size 3 1 0 (.slice R rs.length cr) X q cx (ints ((scale k cost).take q)) ∧ Below (w.alloc (linO A cost.length ca R rs.length cr)).heap.size (w.alloc (linO A cost.length ca R rs.length cr)) wr) (fun i _ => cost.length - (intOf i).toNat)
  case atStart => exact ⟨0, none, 0, Nat.zero_le _, rfl, HBX.out, c3⟩
  case round =>
    clear HBX c3 n3 d0 d1 d2
    obtain ⟨q, X, cx, hq, rfl, hbx, hbel⟩ := hrel
    obtain ⟨d0, d1, d2⟩ := lin_cells hbel
    obtain ⟨hg, e0, e1, ef⟩ := hbx.cells (by decide)
    have ef0 := ef 0
    have a3 := HBW.out _ hbel
    have HBX := Lib.hid hbx
    have HBL := Lib.hid hbel
    by_cases hlt : q < cost.length
    · obtain ⟨bc, oc, rfl, dc⟩ := ints_at (HP.out.cells.below a3) hlt
      have hz := HCO.out cost[q] (List.getElem_mem hlt)
      have hzk : fits (k * cost[q]) := by
        have h6 : k * cost[q] ≤ 25500 := by
          have := Int.mul_le_mul_of_nonneg_left hz.2 k0
          omega
        have h7 : -25500 ≤ k * cost[q] := by
          have := Int.mul_le_mul_of_nonneg_left hz.1 k0
          omega
        constructor <;> omega
      have hwz := wrap_fits hzk
      have hwk := wrap_fits (show fits k by constructor <;> omega)
      have HTK := Lib.hid (scale_take (k := k) hlt)
      have HO := Lib.hid (fun obj => hbx.below ((new_below wr obj).drew))
      have HB2 := Lib.hid (fun obj => hbel.trans (((Below.refl (w.alloc (linO (some ⟨bc, oc, none⟩) cost.length ca R rs.length cr)).heap.size wr).alloc hbel.size obj).drew))
      clear hbx hbel hz hzk ef
      generalize cost[q] = z at *
      go_wp2_with fail
      go_region_law (first
        | (refine step_app1r el_int1 rfl _ _ rfl (w.alloc (linO (some ⟨bc, oc, none⟩) cost.length ca R rs.length cr)).heap.size X q cx (ints ((scale k cost).take q)) _ _ [.int .i64 (k * z)] rfl (HO.out _).out rfl rfl cells_new1 (by intro u hu; simp at hu; subst hu; rfl) (by unfold maxLen; omega) (by omega) (HB2.out _).size ?_; intro A3 c3 w3 hown3 hb3 hk3; rw [HTK.out] at hown3; obtain ⟨⟨g0, g1⟩, hA4, hb4⟩ := (HO.out (.cells #[.int .i64 (k * z)] 3)).grow (by decide) (by decide) hown3 hk3))
      all_goals
        go_wp2_with fail
        go_roundw
        case rel => exact ⟨q + 1, A3, c3, by omega, by go_num, hA4, ((HB2.out _).trans hb3).trans hb4⟩
        case measure => simp [intOf]; omega
    · have hqn : q = cost.length := by omega
      have hqx : ¬ (q : Int) < (cost.length : Int) := by omega
      subst hqn
      have hown := hbx.out
      rw [List.take_of_length_le (by rw [HSL.out]; exact Nat.le_refl _)] at hown
      have HLQ := Lib.hid (show LinAt wr (scale k cost) rs X cx R cr from ⟨by have h1 : OwnS wr _ 3 X cost.length cx (ints (scale k cost)) := hown; exact h1.cells, (HP.out.below a3).rows, HSF.out, HP.out.ok, by have h1 := hown.cap; rw [HSL.out]; exact h1, HP.out.lr⟩)
      have HQC := Lib.hid (fun w' (h : Below wr.heap.size wr w') => (hbx.below h).cells (by decide))
      have HSP := Lib.hid (HSO.out wr a3)
      clear hbx hown HBX e0 e1 ef ef0 hqx
      have hlen := HSL.out
      go_wp2_with fail
      refine HSP.out.mono ?_
      rintro e w4 ⟨v, a, rfl, ⟨AX, AY, AZ, ax, ay, az, rfl, _, _, _⟩, hR, hb4⟩
      have a4 := below_lift3 a3 hb4
      have HAV2 := Lib.hid (HAV.out a hR)
      have HSA2 := Lib.hid (fun b hb => HSA.out a b hR hb)
      obtain ⟨ak, aX, aD, aR, aV⟩ := a
      have n5 := new_below w4 (.cells #[.int .i64 ak, .slice AX aX.length ax, .slice AY aD.length ay, .slice AZ aR.length az, .string (B aV)] 31)
      have a5 := below_lift3 a4 n5
      have q5 := below_lift3 hb4 n5
      have HBXA := Lib.hid (ans_box (w := w4) ak (.slice AX aX.length ax) (.slice AY aD.length ay) (.slice AZ aR.length az) aV)
      clear d0 d1 d2 hR hg
      obtain ⟨hg, e0, e1, ef⟩ := HQC.out _ q5
      have HSQ2 := Lib.hid (HSQ.out X cx _ (HLQ.out.below q5) (HE.out.below a5))
      rw [HSL.out] at HSQ2
      clear ef
      go_wp2_with fail
      refine HSQ2.out.mono ?_
      rintro e w6 ⟨v, b, rfl, ⟨BX, BY, BZ, bx, by_, bz, rfl, _, _, _⟩, hRb, hb6⟩
      have a6 := below_lift3 a5 hb6
      obtain ⟨hkk, hk3, hval⟩ := HSA2.out b hRb
      obtain ⟨bk, bX, bD, bR, bV⟩ := b
      have n7 := new_below w6 (.cells #[.int .i64 bk, .slice BX bX.length bx, .slice BY bD.length by_, .slice BZ bR.length bz, .string (B bV)] 31)
      have a7 := below_lift3 a6 n7
      obtain ⟨x0, _, _, _, x4, x5⟩ := HBXA.out _ (below_lift3 hb6 n7)
      obtain ⟨y0, _, _, _, y4, y5⟩ := ans_box (w := w6) bk (.slice BX bX.length bx) (.slice BY bD.length by_) (.slice BZ bR.length bz) bV _ (Below.refl _ _)
      simp only at hkk hk3 hval
      subst hkk
      have HAA := Lib.hid (fun w' (h : Below (w6.alloc (.cells #[.int .i64 bk, .slice BX bX.length bx, .slice BY bD.length by_, .slice BZ bR.length bz, .string (B bV)] 31)).heap.size (w6.alloc (.cells #[.int .i64 bk, .slice BX bX.length bx, .slice BY bD.length by_, .slice BZ bR.length bz, .string (B bV)] 31)) w') => below_lift3 a7 h)
      have hd : aV.length ≤ 1000000 := HAV2.out
      have hfk : fits k := by constructor <;> omega
      have hdk : (decI k).length ≤ 1000000 := by have := (frT_int hfk).len; omega
      clear hRb hb6 n7 n5 q5 hb4 HSA2 HQC HSQ2 HSP HLQ
      go_upto_region 10 with fail
      generalize w6.alloc (.cells #[.int .i64 bk, .slice BX bX.length bx, .slice BY bD.length by_, .slice BZ bR.length bz, .string (B bV)] 31) = w7 at *
      generalize w4.heap.size = ba at *
      generalize w6.heap.size = bb at *
      by_cases hk1b : bk = 1
      · subst hk1b
        obtain ⟨hv1, hv2⟩ := hval rfl
        have hwk := wrap_fits hfk
        have HOF := Lib.hid (fun (w' : World) => rqof_any k w' hfk)
        have HMU := Lib.hid (fun (w' : World) => rqmul_any aV (decI k) w' hd hdk)
        rw [hv1, hv2] at HMU
        have hqq : (bV == bV) = true := by simp
        clear hval hk3 hv1 hv2
        generalize decI k = dk at *
        go_wp2_with fail
        have hS0 : Below w7.heap.size w7 w7.drew ∧ w7.drew.cell? ⟨ba, 4, none⟩ = some (.string (B aV)) ∧ w7.drew.cell? ⟨bb, 4, none⟩ = some (.string (B bV)) := ⟨below_drew (Below.refl _ _), x4, y4⟩
        clear x4 y4 x0 y0
        go_region_held3 (fun w' => Below w7.heap.size w7 w' ∧ w'.cell? ⟨ba, 4, none⟩ = some (.string (B aV)) ∧ w'.cell? ⟨bb, 4, none⟩ = some (.string (B bV)))
          (first | (exact keepT (p := ⟨ba, 4, none⟩) (q := ⟨bb, 4, none⟩) x5 y5 (by assumption) hbz) | (with_reducible exact hS0))
          (first | (go_at_call 20; ((with_reducible refine (HOF.out _).mono ?_); rintro e wz ⟨rfl, hbz⟩)) | (go_at_call 19; ((with_reducible refine (HMU.out _).mono ?_); rintro e wz ⟨rfl, hbz⟩)))
        all_goals
          obtain ⟨hfin, f1, f2⟩ := (show Below w7.heap.size w7 wz ∧ wz.cell? ⟨ba, 4, none⟩ = some (.string (B aV)) ∧ wz.cell? ⟨bb, 4, none⟩ = some (.string (B bV)) from by assumption)
          have a8 := HAA.out _ hfin
          go_wp2_with fail
          refine (HAW.out _ a8).mono ?_
          rintro e w8 ⟨rfl, hb8⟩
          go_wp2_with fail
          go_ret
          exact ⟨rfl, below_lift3 a8 hb8⟩
      · have hkn : (bk != 1) = true := by simpa using hk1b
        clear hval hk3
        go_wp2_with fail
        refine (HAW.out _ a7).mono ?_
        rintro e w8 ⟨rfl, hb8⟩
        go_wp2_with fail
        go_ret
        exact ⟨rfl, below_lift3 a7 hb8⟩
end Go.Proofs.YtmppmdmekomjbaaGreatDoor
