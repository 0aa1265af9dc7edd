/- The reference of ratio: Mul, Div, Add, Sub. (Printed by wip/rref4.py.) -/
import Derived.Test.YtmppmdmekomjbaaGreatDoorG49
namespace Go.Proofs.YtmppmdmekomjbaaGreatDoor
open Go.RowKit Num
set_option linter.unusedVariables false
attribute [local go_sem] B_size B_get B_toList B_mk B_extract B_append
attribute [local go_sem high] run_max2
theorem row_new {w:World} {o:Obj}:(w.alloc o).heap[w.heap.size]? = some o:=by show (w.heap.push o)[w.heap.size]? = _;simp
theorem row_on {w w':World} {g:Nat} {o:Obj} (h:w.heap[g]? = some o) (hb:Below w.heap.size w w'):w'.heap[g]? = some o:=by
 have hs:g<w.heap.size:=by
  rcases Nat.lt_or_ge g w.heap.size with h1 | h1
  ·exact h1
  ·rw [Array.getElem?_eq_none h1] at h;exact absurd h (by simp)
 rw [hb.block _ hs];exact h
theorem new_below (w:World) (o:Obj):Below w.heap.size w (w.alloc o):=(Below.refl _ _).alloc (Nat.le_refl _) _
set_option maxRecDepth 100000 in
set_option maxHeartbeats 1000000 in
theorem rqmul_any (a b:List UInt8) (w:World) (ha:a.length≤1000000) (hb:b.length≤1000000) :
  Calls Tryz.prog 19 #[.string (B a),.string (B b)] w fun e w'=>e=.returned (.tuple #[.string (B (mulQS a b)),.int .i64 (mulQE a b)])∧Below w.heap.size w w':=by
 have HT:=Lib.hid (fun w=>rboth_any a b w ha hb)
 by_cases h0:errQ a b=0
 ·have hr:=errQ_zero.1 h0
  have pa:=rq_parts hr.1
  have pb:=rq_parts hr.2
  have HS:=Lib.hid (show ∀ s,twoS a b s=s by intro s;unfold twoS;rw [if_pos h0])
  rw [HS.out,HS.out,HS.out,HS.out,h0,pa.1,pa.2.1,pb.1,pb.2.1] at HT
  have m1:=pa.2.2.2.1
  have m2:dl ((qd a:Nat):Int)≤4096:=by rw [dl_nat];exact pa.2.2.2.2.1
  have m3:=pb.2.2.2.1
  have m4:dl ((qd b:Nat):Int)≤4096:=by rw [dl_nat];exact pb.2.2.2.2.1
  have z1:=pa.2.2.1
  have z2:=pb.2.2.1
  clear pa pb hr HS
  have HO:=Lib.hid (fun w=>rover_any (qn a) (qn b) (qd a) (qd b) w m1 m3 m2 m4 (Int.mul_ne_zero (by omega) (by omega)))
  have hE:(if dl (qn a*qn b)≤4096∧dl ((qd a:Int)*qd b)≤4096 then 0 else 4:Int)=mulQE a b:=by unfold mulQE;rw [if_pos h0]
  have hS:(if dl (qn a*qn b)≤4096∧dl ((qd a:Int)*qd b)≤4096 then quoS (qn a*qn b) ((qd a:Int)*qd b) else [])=mulQS a b:=by
   unfold mulQS
   rw [← hE]
   by_cases hc:dl (qn a*qn b)≤4096∧dl ((qd a:Int)*qd b)≤4096
   ·rw [if_pos hc,if_pos hc,if_pos rfl,← Int.natCast_mul,quoS_pos (Nat.mul_pos z1 z2)]
   ·rw [if_neg hc,if_neg hc];rfl
  rw [hE,hS,decI_nat,decI_nat] at HO
  clear hE hS h0 m1 m2 m3 m4 z1 z2
  generalize mulQS a b=s at *
  generalize mulQE a b=k at *
  generalize decI (qn a)=p at *
  generalize decI (qn b)=r at *
  generalize dec (qd a)=q at *
  generalize dec (qd b)=u at *
  go_enter Tryz.func19,Tryz.ntmps19
  simp only [B_mk]
  go_wp2_with fail
  refine (HT.out w).mono ?_
  rintro e w1 ⟨rfl,hb1⟩
  go_wp2_with fail
  refine (HO.out _).mono ?_
  rintro e w2 ⟨rfl,hb2⟩
  go_wp2_with fail
  go_ret2
  exact ⟨rfl,(hb1.trans ((new_below w1 _).mono hb1.size)).trans (hb2.mono (Nat.le_trans hb1.size (new_below w1 _).size))⟩
 ·have hm:=mulQ_form h0
  have he3:errQ a b=3:=by unfold errQ at h0 ⊢;split <;> simp_all
  have HS:=Lib.hid (show ∀ s,twoS a b s=[] by intro s;unfold twoS;rw [if_neg h0])
  rw [HS.out,HS.out,HS.out,HS.out,he3] at HT
  rw [hm.1,hm.2.1]
  clear hm he3 h0
  go_enter Tryz.func19,Tryz.ntmps19
  simp only [B_mk]
  go_wp2_with fail
  refine (HT.out w).mono ?_
  rintro e w1 ⟨rfl,hb1⟩
  go_wp2_with fail
  go_ret2
  exact ⟨rfl,hb1.trans ((new_below w1 _).mono hb1.size)⟩
set_option maxRecDepth 100000 in
set_option maxHeartbeats 1000000 in
theorem rqdiv_any (a b:List UInt8) (w:World) (ha:a.length≤1000000) (hb:b.length≤1000000) :
  Calls Tryz.prog 147 #[.string (B a),.string (B b)] w fun e w'=>e=.returned (.tuple #[.string (B (quoQS a b)),.int .i64 (quoQE a b)])∧Below w.heap.size w w':=by
 have HT:=Lib.hid (fun w=>rboth_any a b w ha hb)
 by_cases h0:errQ a b=0
 ·have hr:=errQ_zero.1 h0
  have pa:=rq_parts hr.1
  have pb:=rq_parts hr.2
  have HS:=Lib.hid (show ∀ s,twoS a b s=s by intro s;unfold twoS;rw [if_pos h0])
  rw [HS.out,HS.out,HS.out,HS.out,h0,pa.1,pa.2.1,pb.1,pb.2.1] at HT
  have m1:=pa.2.2.2.1
  have m2:dl ((qd a:Nat):Int)≤4096:=by rw [dl_nat];exact pa.2.2.2.2.1
  have m3:=pb.2.2.2.1
  have m4:dl ((qd b:Nat):Int)≤4096:=by rw [dl_nat];exact pb.2.2.2.2.1
  have z1:=pa.2.2.1
  have z2:=pb.2.2.1
  clear pa pb hr HS
  by_cases hz:qn b=0
  ·have hk:(decI (qn b) == [48])=true:=by rw [hz,decI_zero];rfl
   have hE:quoQE a b=10:=by unfold quoQE;rw [if_pos h0,if_pos hz]
   have hS:quoQS a b=[]:=by unfold quoQS;rw [hE];rfl
   rw [hE,hS]
   clear hE hS h0 m1 m2 m3 m4 z1 z2 hz
   generalize decI (qn a)=p at *
   generalize decI (qn b)=r at *
   generalize dec (qd a)=q at *
   generalize dec (qd b)=u at *
   go_enter Tryz.func147,Tryz.ntmps147
   simp only [B_mk]
   go_wp2_with fail
   refine (HT.out w).mono ?_
   rintro e w1 ⟨rfl,hb1⟩
   go_wp2_with fail
   go_ret2
   exact ⟨rfl,hb1.trans ((new_below w1 _).mono hb1.size)⟩
  have hk:(decI (qn b) == [48])=false:=by rw [beq_eq_false_iff_ne];exact fun h=>hz (decI_eq_zero.1 h)
  have HO:=Lib.hid (fun w=>rover_any (qn a) (qd b) (qd a) (qn b) w m1 m4 m2 m3 (Int.mul_ne_zero (by omega) hz))
  have hE:(if dl (qn a*qd b)≤4096∧dl ((qd a:Int)*qn b)≤4096 then 0 else 4:Int)=quoQE a b:=by unfold quoQE;rw [if_pos h0,if_neg hz]
  have hS:(if dl (qn a*qd b)≤4096∧dl ((qd a:Int)*qn b)≤4096 then quoS (qn a*qd b) ((qd a:Int)*qn b) else [])=quoQS a b:=by
   unfold quoQS
   rw [← hE]
   by_cases hc:dl (qn a*qd b)≤4096∧dl ((qd a:Int)*qn b)≤4096
   ·rw [if_pos hc,if_pos hc,if_pos rfl]
   ·rw [if_neg hc,if_neg hc];rfl
  rw [hE,hS,decI_nat,decI_nat] at HO
  clear hE hS h0 m1 m2 m3 m4 z1 z2 hz
  generalize quoQS a b=s at *
  generalize quoQE a b=k at *
  generalize decI (qn a)=p at *
  generalize decI (qn b)=r at *
  generalize dec (qd a)=q at *
  generalize dec (qd b)=u at *
  go_enter Tryz.func147,Tryz.ntmps147
  simp only [B_mk]
  go_wp2_with fail
  refine (HT.out w).mono ?_
  rintro e w1 ⟨rfl,hb1⟩
  go_wp2_with fail
  refine (HO.out _).mono ?_
  rintro e w2 ⟨rfl,hb2⟩
  go_wp2_with fail
  go_ret2
  exact ⟨rfl,(hb1.trans ((new_below w1 _).mono hb1.size)).trans (hb2.mono (Nat.le_trans hb1.size (new_below w1 _).size))⟩
 ·have hm:=mulQ_form h0
  have he3:errQ a b=3:=by unfold errQ at h0 ⊢;split <;> simp_all
  have HS:=Lib.hid (show ∀ s,twoS a b s=[] by intro s;unfold twoS;rw [if_neg h0])
  rw [HS.out,HS.out,HS.out,HS.out,he3] at HT
  rw [hm.2.2.2.2.2.2.1,hm.2.2.2.2.2.2.2]
  clear hm he3 h0
  go_enter Tryz.func147,Tryz.ntmps147
  simp only [B_mk]
  go_wp2_with fail
  refine (HT.out w).mono ?_
  rintro e w1 ⟨rfl,hb1⟩
  go_wp2_with fail
  go_ret2
  exact ⟨rfl,hb1.trans ((new_below w1 _).mono hb1.size)⟩
set_option maxRecDepth 100000 in
set_option maxHeartbeats 1000000 in
theorem rqadd_any (a b:List UInt8) (w:World) (ha:a.length≤1000000) (hb:b.length≤1000000) :
  Calls Tryz.prog 96 #[.string (B a),.string (B b)] w fun e w'=>e=.returned (.tuple #[.string (B (addQS a b)),.int .i64 (addQE a b)])∧Below w.heap.size w w':=by
 have HT:=Lib.hid (fun w=>rboth_any a b w ha hb)
 by_cases h0:errQ a b=0
 ·have hr:=errQ_zero.1 h0
  have pa:=rq_parts hr.1
  have pb:=rq_parts hr.2
  have HS:=Lib.hid (show ∀ s,twoS a b s=s by intro s;unfold twoS;rw [if_pos h0])
  rw [HS.out,HS.out,HS.out,HS.out,h0,pa.1,pa.2.1,pb.1,pb.2.1] at HT
  have m1:=pa.2.2.2.1
  have m2:dl ((qd a:Nat):Int)≤4096:=by rw [dl_nat];exact pa.2.2.2.2.1
  have m3:=pb.2.2.2.1
  have m4:dl ((qd b:Nat):Int)≤4096:=by rw [dl_nat];exact pb.2.2.2.2.1
  have z1:=pa.2.2.1
  have z2:=pb.2.2.1
  clear pa pb hr HS
  have H1:=Lib.hid (fun w=>wrmulq_any (qn a) (qd b) w m1 m4)
  have H2:=Lib.hid (fun w=>wrmulq_any (qn b) (qd a) w m3 m2)
  have H3:=Lib.hid (fun w=>wrmulq_any (qd a) (qd b) w m2 m4)
  have HE:=Lib.hid (show addQE a b=if sumOK (qn a*qd b) (qn b*qd a) (qn a*qd b+qn b*qd a) ((qd a:Int)*qd b) then 0 else 4 by unfold addQE;rw [if_pos h0])
  have HV:=Lib.hid (show addQS a b=if addQE a b=0 then lowS (qn a*qd b+qn b*qd a) (qd a*qd b) else [] from rfl)
  have hpos:=Nat.mul_pos z1 z2
  rw [decI_nat] at H1 H2 H3
  have HNZ:((qd a:Int)*qd b)≠0:=Int.mul_ne_zero (by omega) (by omega)
  rw [decI_nat] at H3
  have HQ:=Lib.hid (show quoS (qn a*qd b+qn b*qd a) ((qd a:Int)*qd b)=lowS (qn a*qd b+qn b*qd a) (qd a*qd b) by rw [← Int.natCast_mul,quoS_pos hpos])
  clear m1 m2 m3 m4 z1 z2 h0 hpos
  generalize lowS (qn a*qd b+qn b*qd a) (qd a*qd b)=sres at *
  generalize qn a*(qd b:Int)=X at *
  generalize qn b*(qd a:Int)=Y at *
  generalize (qd a:Int)*(qd b:Int)=Z at *
  generalize decI (qn a)=p at *
  generalize decI (qn b)=r at *
  generalize dec (qd a)=q at *
  generalize dec (qd b)=u at *
  by_cases h1:dl X≤4096
  ·rw [(res_yes h1).1,(res_yes h1).2] at H1
   by_cases h2:dl Y≤4096
   ·rw [(res_yes h2).1,(res_yes h2).2] at H2
    by_cases h3:dl Z≤4096
    ·rw [(res_yes h3).1,(res_yes h3).2] at H3
     have H4:=Lib.hid (fun w=>wraddq_any X Y w h1 h2)
     by_cases h4:dl (X+Y)≤4096
     ·rw [(res_yes h4).1,(res_yes h4).2] at H4
      have H5:=Lib.hid (fun w=>rreduced_any (X+Y) Z w h4 h3 HNZ)
      rw [HQ.out] at H5
      have HR:=Lib.hid (show addQE a b=0∧addQS a b=sres by have e:addQE a b=0:=by { rw [HE.out,if_pos];exact ⟨h1,h2,h4,h3⟩ };exact ⟨e,by rw [HV.out,if_pos e]⟩)
      clear HE HV HQ h1 h2 h3 h4
      go_enter Tryz.func96,Tryz.ntmps96
      simp only [B_mk]
      go_wp2_with fail
      refine (HT.out w).mono ?_
      rintro e w1 ⟨rfl,hb1⟩
      have n1:=new_below w1 (.cells #[.string (B p),.string (B q),.string (B r),.string (B u)] 80)
      have a1:=hb1.trans (n1.mono hb1.size)
      go_wp2_with fail
      refine (H1.out _).mono ?_
      rintro e w2 ⟨rfl,hb2⟩
      have a2:=a1.trans (hb2.mono a1.size)
      have hr2:=row_on row_new hb2
      obtain ⟨⟨c0,c1,c2,c3⟩,_⟩:=row_cells hr2
      go_wp2_with fail
      clear c0 c1 c2 c3
      refine (H2.out _).mono ?_
      rintro e w3 ⟨rfl,hb3⟩
      have a3:=a2.trans (hb3.mono a2.size)
      have hr3:=row_on hr2 hb3
      obtain ⟨⟨c0,c1,c2,c3⟩,_⟩:=row_cells hr3
      go_wp2_with fail
      clear c0 c1 c2 c3
      refine (H3.out _).mono ?_
      rintro e w4 ⟨rfl,hb4⟩
      have a4:=a3.trans (hb4.mono a3.size)
      clear hr2 hr3
      go_wp2_with fail
      refine (H4.out _).mono ?_
      rintro e w5 ⟨rfl,hb5⟩
      have a5:=a4.trans (hb5.mono a4.size)
      go_wp2_with fail
      refine (H5.out _).mono ?_
      rintro e w6 ⟨rfl,hb6⟩
      have a6:=a5.trans (hb6.mono a5.size)
      go_wp2_with fail
      go_ret2
      exact ⟨ret_si' HR.out.2.symm HR.out.1.symm,a6⟩
     ·rw [(res_no h4).1,(res_no h4).2] at H4
      have HR:=Lib.hid (show addQE a b=4∧addQS a b=[] by have e:addQE a b=4:=by { rw [HE.out,if_neg];unfold sumOK;omega };exact ⟨e,by rw [HV.out,e];rfl⟩)
      clear HE HV HQ h1 h2 h3 h4
      go_enter Tryz.func96,Tryz.ntmps96
      simp only [B_mk]
      go_wp2_with fail
      refine (HT.out w).mono ?_
      rintro e w1 ⟨rfl,hb1⟩
      have n1:=new_below w1 (.cells #[.string (B p),.string (B q),.string (B r),.string (B u)] 80)
      have a1:=hb1.trans (n1.mono hb1.size)
      go_wp2_with fail
      refine (H1.out _).mono ?_
      rintro e w2 ⟨rfl,hb2⟩
      have a2:=a1.trans (hb2.mono a1.size)
      have hr2:=row_on row_new hb2
      obtain ⟨⟨c0,c1,c2,c3⟩,_⟩:=row_cells hr2
      go_wp2_with fail
      clear c0 c1 c2 c3
      refine (H2.out _).mono ?_
      rintro e w3 ⟨rfl,hb3⟩
      have a3:=a2.trans (hb3.mono a2.size)
      have hr3:=row_on hr2 hb3
      obtain ⟨⟨c0,c1,c2,c3⟩,_⟩:=row_cells hr3
      go_wp2_with fail
      clear c0 c1 c2 c3
      refine (H3.out _).mono ?_
      rintro e w4 ⟨rfl,hb4⟩
      have a4:=a3.trans (hb4.mono a3.size)
      clear hr2 hr3
      go_wp2_with fail
      refine (H4.out _).mono ?_
      rintro e w5 ⟨rfl,hb5⟩
      have a5:=a4.trans (hb5.mono a4.size)
      go_wp2_with fail
      go_ret2
      exact ⟨ret_si' HR.out.2.symm HR.out.1.symm,a5⟩
    ·rw [(res_no h3).1,(res_no h3).2] at H3
     have HR:=Lib.hid (show addQE a b=4∧addQS a b=[] by have e:addQE a b=4:=by { rw [HE.out,if_neg];unfold sumOK;omega };exact ⟨e,by rw [HV.out,e];rfl⟩)
     clear HE HV HQ h1 h2 h3
     go_enter Tryz.func96,Tryz.ntmps96
     simp only [B_mk]
     go_wp2_with fail
     refine (HT.out w).mono ?_
     rintro e w1 ⟨rfl,hb1⟩
     have n1:=new_below w1 (.cells #[.string (B p),.string (B q),.string (B r),.string (B u)] 80)
     have a1:=hb1.trans (n1.mono hb1.size)
     go_wp2_with fail
     refine (H1.out _).mono ?_
     rintro e w2 ⟨rfl,hb2⟩
     have a2:=a1.trans (hb2.mono a1.size)
     have hr2:=row_on row_new hb2
     obtain ⟨⟨c0,c1,c2,c3⟩,_⟩:=row_cells hr2
     go_wp2_with fail
     clear c0 c1 c2 c3
     refine (H2.out _).mono ?_
     rintro e w3 ⟨rfl,hb3⟩
     have a3:=a2.trans (hb3.mono a2.size)
     have hr3:=row_on hr2 hb3
     obtain ⟨⟨c0,c1,c2,c3⟩,_⟩:=row_cells hr3
     go_wp2_with fail
     clear c0 c1 c2 c3
     refine (H3.out _).mono ?_
     rintro e w4 ⟨rfl,hb4⟩
     have a4:=a3.trans (hb4.mono a3.size)
     clear hr2 hr3
     go_wp2_with fail
     go_ret2
     exact ⟨ret_si' HR.out.2.symm HR.out.1.symm,a4⟩
   ·rw [(res_no h2).1,(res_no h2).2] at H2
    have HR:=Lib.hid (show addQE a b=4∧addQS a b=[] by have e:addQE a b=4:=by { rw [HE.out,if_neg];unfold sumOK;omega };exact ⟨e,by rw [HV.out,e];rfl⟩)
    clear HE HV HQ h1 h2
    generalize resIS Z=s3 at *
    generalize resIE Z=e3 at *
    go_enter Tryz.func96,Tryz.ntmps96
    simp only [B_mk]
    go_wp2_with fail
    refine (HT.out w).mono ?_
    rintro e w1 ⟨rfl,hb1⟩
    have n1:=new_below w1 (.cells #[.string (B p),.string (B q),.string (B r),.string (B u)] 80)
    have a1:=hb1.trans (n1.mono hb1.size)
    go_wp2_with fail
    refine (H1.out _).mono ?_
    rintro e w2 ⟨rfl,hb2⟩
    have a2:=a1.trans (hb2.mono a1.size)
    have hr2:=row_on row_new hb2
    obtain ⟨⟨c0,c1,c2,c3⟩,_⟩:=row_cells hr2
    go_wp2_with fail
    clear c0 c1 c2 c3
    refine (H2.out _).mono ?_
    rintro e w3 ⟨rfl,hb3⟩
    have a3:=a2.trans (hb3.mono a2.size)
    have hr3:=row_on hr2 hb3
    obtain ⟨⟨c0,c1,c2,c3⟩,_⟩:=row_cells hr3
    go_wp2_with fail
    clear c0 c1 c2 c3
    refine (H3.out _).mono ?_
    rintro e w4 ⟨rfl,hb4⟩
    have a4:=a3.trans (hb4.mono a3.size)
    clear hr2 hr3
    go_wp2_with fail
    go_ret2
    exact ⟨ret_si' HR.out.2.symm HR.out.1.symm,a4⟩
  ·rw [(res_no h1).1,(res_no h1).2] at H1
   have HR:=Lib.hid (show addQE a b=4∧addQS a b=[] by have e:addQE a b=4:=by { rw [HE.out,if_neg];unfold sumOK;omega };exact ⟨e,by rw [HV.out,e];rfl⟩)
   clear HE HV HQ h1
   generalize resIS Z=s3 at *
   generalize resIE Z=e3 at *
   generalize resIS Y=s2 at *
   generalize resIE Y=e2 at *
   go_enter Tryz.func96,Tryz.ntmps96
   simp only [B_mk]
   go_wp2_with fail
   refine (HT.out w).mono ?_
   rintro e w1 ⟨rfl,hb1⟩
   have n1:=new_below w1 (.cells #[.string (B p),.string (B q),.string (B r),.string (B u)] 80)
   have a1:=hb1.trans (n1.mono hb1.size)
   go_wp2_with fail
   refine (H1.out _).mono ?_
   rintro e w2 ⟨rfl,hb2⟩
   have a2:=a1.trans (hb2.mono a1.size)
   have hr2:=row_on row_new hb2
   obtain ⟨⟨c0,c1,c2,c3⟩,_⟩:=row_cells hr2
   go_wp2_with fail
   clear c0 c1 c2 c3
   refine (H2.out _).mono ?_
   rintro e w3 ⟨rfl,hb3⟩
   have a3:=a2.trans (hb3.mono a2.size)
   have hr3:=row_on hr2 hb3
   obtain ⟨⟨c0,c1,c2,c3⟩,_⟩:=row_cells hr3
   go_wp2_with fail
   clear c0 c1 c2 c3
   refine (H3.out _).mono ?_
   rintro e w4 ⟨rfl,hb4⟩
   have a4:=a3.trans (hb4.mono a3.size)
   clear hr2 hr3
   go_wp2_with fail
   go_ret2
   exact ⟨ret_si' HR.out.2.symm HR.out.1.symm,a4⟩
 ·have hm:=mulQ_form h0
  have he3:errQ a b=3:=by unfold errQ at h0 ⊢;split <;> simp_all
  have HS:=Lib.hid (show ∀ s,twoS a b s=[] by intro s;unfold twoS;rw [if_neg h0])
  rw [HS.out,HS.out,HS.out,HS.out,he3] at HT
  rw [hm.2.2.1,hm.2.2.2.1]
  clear hm he3 h0
  go_enter Tryz.func96,Tryz.ntmps96
  simp only [B_mk]
  go_wp2_with fail
  refine (HT.out w).mono ?_
  rintro e w1 ⟨rfl,hb1⟩
  go_wp2_with fail
  go_ret2
  exact ⟨rfl,hb1.trans ((new_below w1 _).mono hb1.size)⟩
set_option maxRecDepth 100000 in
theorem rqsub_any (a b:List UInt8) (w:World) (ha:a.length≤100000) (hb:b.length≤100000) :
  Calls Tryz.prog 112 #[.string (B a),.string (B b)] w fun e w'=>e=.returned (.tuple #[.string (B (subQS a b)),.int .i64 (subQE a b)])∧Below w.heap.size w w':=by
 have HA:=Lib.hid (fun w=>rrq_any a w (by omega))
 have HB:=Lib.hid (fun w=>rrq_any b w (by omega))
 cases h1:rightQ a
 ·have hm:=mulQ_form (a:=a) (b:=b) (by unfold errQ;rw [h1];simp)
  have HR:=Lib.hid (show subQS a b=[]∧subQE a b=3 from ⟨hm.2.2.2.2.2.1,hm.2.2.2.2.1⟩)
  rw [h1] at HA
  clear hm
  go_enter Tryz.func112,Tryz.ntmps112
  simp only [B_mk]
  go_wp2_with fail
  refine (HA.out _).mono ?_
  rintro e w1 ⟨rfl,hb1⟩
  go_wp2_with fail
  go_ret2
  exact ⟨ret_si' HR.out.1.symm HR.out.2.symm,hb1⟩
 cases h2:rightQ b
 ·have hm:=mulQ_form (a:=a) (b:=b) (by unfold errQ;rw [h1,h2];simp)
  have HR:=Lib.hid (show subQS a b=[]∧subQE a b=3 from ⟨hm.2.2.2.2.2.1,hm.2.2.2.2.1⟩)
  rw [h1] at HA
  rw [h2] at HB
  clear hm
  go_enter Tryz.func112,Tryz.ntmps112
  simp only [B_mk]
  go_wp2_with fail
  refine (HA.out _).mono ?_
  rintro e w1 ⟨rfl,hb1⟩
  go_wp2_with fail
  refine (HB.out _).mono ?_
  rintro e w2 ⟨rfl,hb2⟩
  go_wp2_with fail
  go_ret2
  exact ⟨ret_si' HR.out.1.symm HR.out.2.symm,hb1.trans (hb2.mono hb1.size)⟩
 rw [h1] at HA
 rw [h2] at HB
 by_cases hz:b=[48]
 ·subst hz
  have HD:=Lib.hid (fun w=>rqadd_any a [48] w (by omega) (by decide))
  rw [(subQ_zero a).1,(subQ_zero a).2] at HD
  go_enter Tryz.func112,Tryz.ntmps112
  simp only [B_mk]
  go_wp2_with fail
  refine (HA.out _).mono ?_
  rintro e w1 ⟨rfl,hb1⟩
  go_wp2_with fail
  refine (HB.out _).mono ?_
  rintro e w2 ⟨rfl,hb2⟩
  have a2:=hb1.trans (hb2.mono hb1.size)
  go_wp2_with fail
  refine (HD.out _).mono ?_
  rintro e w3 ⟨rfl,hb3⟩
  go_wp2_with fail
  go_ret2
  exact ⟨rfl,a2.trans (hb3.mono a2.size)⟩
 ·have hz':(b == [48])=false:=by simpa using hz
  have hne:b≠[]:=by intro h;subst h;exact absurd h2 (by decide)
  have hp:0<b.length:=List.length_pos_iff.2 hne
  have hS:=subQ_negT h1 h2 hz
  have HD:=Lib.hid (fun w=>rqadd_any a (negT b) w (by omega) (by unfold negT;split <;> simp <;> omega))
  rw [hS.1,hS.2] at HD
  clear hS hz hne h1 h2
  cases hn:neg? b
  ·have h3:=neg_not hn
   have h45:(((at8 b 0).toNat:Int) == 45)=false:=by
    rw [beq_eq_false_iff_ne];intro e;exact h3.2 hp (UInt8.toNat_inj.1 (by simp;omega))
   rw [show negT b=45 :: b by unfold negT;rw [hn];rfl] at HD
   clear h3 hn
   go_enter Tryz.func112,Tryz.ntmps112
   simp only [B_mk]
   go_wp2_with fail
   refine (HA.out _).mono ?_
   rintro e w1 ⟨rfl,hb1⟩
   go_wp2_with fail
   refine (HB.out _).mono ?_
   rintro e w2 ⟨rfl,hb2⟩
   have a2:=hb1.trans (hb2.mono hb1.size)
   go_wp2_with fail
   refine (HD.out _).mono ?_
   rintro e w3 ⟨rfl,hb3⟩
   go_wp2_with fail
   go_ret2
   exact ⟨rfl,a2.trans (hb3.mono a2.size)⟩
  ·have h3:=neg_at hn
   have h45:(((at8 b 0).toNat:Int) == 45)=true:=by rw [h3.1];rfl
   rw [show negT b=b.tail by unfold negT;rw [hn,if_pos rfl,List.drop_one]] at HD
   clear h3 hn
   go_enter Tryz.func112,Tryz.ntmps112
   simp only [B_mk]
   go_wp2_with fail
   refine (HA.out _).mono ?_
   rintro e w1 ⟨rfl,hb1⟩
   go_wp2_with fail
   refine (HB.out _).mono ?_
   rintro e w2 ⟨rfl,hb2⟩
   have a2:=hb1.trans (hb2.mono hb1.size)
   go_wp2_with fail
   refine (HD.out _).mono ?_
   rintro e w3 ⟨rfl,hb3⟩
   go_wp2_with fail
   go_ret2
   exact ⟨rfl,a2.trans (hb3.mono a2.size)⟩
end Go.Proofs.YtmppmdmekomjbaaGreatDoor
