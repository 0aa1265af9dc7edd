/- lorryref23.Parse. -/
import Derived.Test.YtljekdpgjaahjaaGreatDoorPtV2
import Derived.Test.YtljekdpgjaahjaaGreatDoorG60
namespace Go.Proofs.YtljekdpgjaahjaaGreatDoor
open Go.RowKit Num Txt Pf
set_option linter.unusedVariables false
attribute [local go_sem] B_size B_get B_toList B_mk B_extract B_append
set_option maxHeartbeats 4000000 in
set_option maxRecDepth 100000 in
theorem rplparse_any (s:Str) (w:World) (hs:s.length≤60000) :
  Calls Tryz.prog 17 #[.string (B s)] w (PlanE (planR s) w):=by
 have hpr:planR s=planX [] 1 (linesG s).1 (!(linesG s).2.isEmpty):=by rw [planX_G];unfold planR;rw [if_neg (by omega)]
 have hlo:=linesG_of s
 generalize (linesG s).1=ls0 at *
 generalize (linesG s).2=t at *
 generalize planR s=R at *
 have HPR:=Lib.hid hpr
 have HLO:=Lib.hid hlo
 obtain ⟨n1,p1⟩:=new_at w planZ
 obtain ⟨n2,p2⟩:=new_at (w.alloc planZ) planZ
 have hs1:(w.alloc planZ).heap.size=w.heap.size+1:=Array.size_push ..
 have q2:=row_keep p1 n2
 have hb2:=below_lift n1 n2
 rw [hs1] at p2
 have hrb:w.heap.size≠w.heap.size+1∧w.heap.size≤w.heap.size+1:=by omega
 have hbig:¬ (65536:Int)<(s.length:Int):=by omega
 clear n1 n2 p1 hs1 hpr hlo
 go_enter Tryz.func17,Tryz.ntmps17
 (try simp only [B_mk])
 go_upto_region 4 with fail
 generalize (w.alloc planZ).alloc planZ=w2 at *
 generalize w.heap.size+1=pb at *
 have HRB:=Lib.hid hrb
 have HP2:=Lib.hid (⟨p2,q2,OwnR.nil _ _ _ _,fun m hm=>absurd hm (by simp)⟩:PlanB w2 w.heap.size pb w.heap.size none 0 [])
 have HB2:=Lib.hid hb2
 clear p2 q2 hb2 hrb hbig
 go_wp2_with fail
 go_loopw [6,7,8,9,10,11,12,13] (fun fv nv iv _ _ _ _ _ wr=>∃ (fr n k:Nat) (ls:List Str) (A:Option Addr) (ca:Nat) (acc:List RouM),fv=.int .i64 fr∧nv=.int .i64 n∧iv=.int .i64 k∧fr≤k∧k≤s.length∧n≤fr+1∧(∀ c ∈ (s.take k).drop fr,c≠10)∧LinesOf (s.drop fr) ls t∧acc.length≤n∧R=planX (acc.map (·.r)) n ls (!t.isEmpty)∧PlanB wr w.heap.size pb w.heap.size A ca acc∧Below w.heap.size w wr) (fun _ _ iv _ _ _ _ _ _=>s.length - (intOf iv).toNat)
 case atStart=>exact ⟨0,1,0,ls0,none,0,[],rfl,rfl,rfl,Nat.le_refl _,Nat.zero_le _,Nat.le_refl _,by simp,HLO.out,by simp,HPR.out,HP2.out,HB2.out⟩
 case round =>
  clear HPR HLO HP2 HB2
  obtain ⟨fr,n,k,ls,A,ca,acc,rfl,rfl,rfl,hfk,hks,hnf,hno,hls,hac,hR,hpb,hbel⟩:=hrel
  have HR:=Lib.hid hR
  have HPB:=Lib.hid hpb
  have HLS:=Lib.hid hls
  have HBL:=Lib.hid hbel
  have HNO:=Lib.hid hno
  clear hR hpb hls hbel hno
  by_cases hlt:k<s.length
  ·have hlt1:(k:Int)<(s.length:Int):=by omega
   have hfki:(fr:Int)≤(k:Int):=by omega
   generalize hcc:at8 s k=d at *
   by_cases hd:d=10
   ·have e1:((d.toNat:Int) != 10)=false:=by rw [hd];rfl
    have hcut:=drop_cut hlt hfk
    rw [hcc,hd] at hcut
    rw [hcut] at HLS
    obtain ⟨ls',hls',hl2,hx⟩:=lines_step HLS.out HNO.out
    subst hls'
    have HL2:=Lib.hid hl2
    have hrs:s.drop (k+1)=[]↔ls'=[]∧t=[]:=by rw [hx];exact unl_nil
    have hlen:k+1<s.length↔¬ (ls'=[]∧t=[]):=by rw [← hrs,List.drop_eq_nil_iff];omega
    have HLEN:=Lib.hid hlen
    have hll:((s.take k).drop fr).length≤60000:=by rw [List.length_drop,List.length_take];omega
    have HSP:=Lib.hid (fun w'=>rsplit_any ((s.take k).drop fr) w' (by omega))
    have HSL:=Lib.hid (split_le ((s.take k).drop fr))
    have hR:=HR.out
    rw [planX] at hR
    have HR:=Lib.hid hR
    have HSN:=Lib.hid (List.length_pos_iff.2 (splitS_ne ((s.take k).drop fr)))
    clear hR hl2 hx hrs hlen HLS hd hcut HNO
    generalize splitS ((s.take k).drop fr)=wl at *
    have HSW:=Lib.hid (HSP.out wr)
    go_wp2_with fail
    refine HSW.out.mono ?_
    rintro e w4 ⟨WA,wc,rfl,hown,hb4⟩
    have HB4:=Lib.hid (below_lift HBL.out hb4)
    have HPB4:=Lib.hid (HPB.out.below hb4)
    have HOW4:=Lib.hid hown
    clear hb4 HSW HSP HPB HBL hown
    have hwlb:=HSL.out.1
    have hwl0:=HSN.out
    have HU:=Lib.hid (rlast_any wl WA wc w4 HOW4.out.cells HOW4.out.cap (fun x hx=>by have:=HSL.out.2 x hx;omega) (by omega) HSN.out)
    go_wp2_with fail
    refine HU.out.mono ?_
    rintro e w5 ⟨UA,uc,u,ub,rfl,hur,hou,hb5⟩
    have HUR:=Lib.hid hur
    have HOU:=Lib.hid (hou.mono HB4.out.size)
    have HB5:=Lib.hid (below_lift HB4.out hb5)
    have HPB5:=Lib.hid (HPB4.out.below hb5)
    have HOW5:=Lib.hid (HOW4.out.below hb5)
    clear hur hou hb5 HU HPB4 HOW4 HB4
    cases ub with
    |true =>
     by_cases hrn:k+1<s.length
     ·have g2:(k:Int)+1<(s.length:Int):=by omega
      have HG:=Lib.hid (show R=(⟨[],[]⟩,n,3) by
       rw [HR.out,HUR.out]
       show (if ls'=[]∧(!t.isEmpty)=false then _ else _)=_
       rw [if_neg]
       rintro ⟨h1,h2⟩
       refine HLEN.out.1 hrn ⟨h1,?_⟩
       cases t with
       |nil=>rfl
       |cons=>cases h2)
      clear hrn
      obtain ⟨d0,d1⟩:=cells2 HPB5.out.res
      have z0:=frz HPB5.out.res 0
      have z1:=frz HPB5.out.res 1
      go_wp2_with fail
      (try simp only [Exit.inBlock,Exit.then])
      refine bodyPost_ret (res_row2 rfl (ld_plan (pset2 HPB5.out.res)) rfl rfl rfl) rfl ?_
      exact .bad HG.out rfl ((HB5.out.setCell (Nat.le_refl _) _).setCell (Nat.le_refl _) _)
     ·have g2:¬ (k:Int)+1<(s.length:Int):=by omega
      have HG:=Lib.hid (show R=(⟨acc.map (·.r),u⟩,0,0) by
       rw [HR.out,HUR.out]
       have h:ls'=[]∧t=[]:=Classical.byContradiction fun h=>hrn (HLEN.out.2 h)
       show (if ls'=[]∧(!t.isEmpty)=false then _ else _)=_
       rw [if_pos ⟨h.1,by rw [h.2];rfl⟩])
      have HUF:=Lib.hid (unsR_fits HUR.out)
      clear hrn
      obtain ⟨c0,c1⟩:=cells2 HPB5.out.row
      have z1:=frz HPB5.out.row 1
      have hrow:(w5.setCell ⟨pb,1,none⟩ (.slice UA u.length uc)).heap[pb]? = some (.cells #[.slice A acc.length ca,.slice UA u.length uc] 25):=heap_put HPB5.out.row
      have hres:=(Below.heap_setCell w5 ⟨pb,1,none⟩ (.slice UA u.length uc) _ HRB.out.1).trans HPB5.out.res
      have HK:=Lib.hid (OwnR.keptB HPB5.out.own ((KpB.refl pb w5).store 1 (.slice UA u.length uc)) HPB5.out.row (by decide))
      have HKU:=Lib.hid (OwnR.keptB (show OwnR w5 w.heap.size 3 1 UA u.length uc (ints u) from HOU.out) ((KpB.refl pb w5).store 1 (.slice UA u.length uc)) HPB5.out.row (by decide))
      have HKE:=Lib.hid (fun m hm=>(HPB5.out.each m hm).keptB ((KpB.refl pb w5).store 1 (.slice UA u.length uc)) HPB5.out.row (by decide) (by decide))
      have HB6:=Lib.hid (HB5.out.setCell (p:=⟨pb,1,none⟩) HRB.out.2 (.slice UA u.length uc))
      go_upto_region 15 with fail
      generalize w5.setCell ⟨pb,1,none⟩ (.slice UA u.length uc)=w6 at *
      clear c0 c1 z1
      have HROW:=Lib.hid hrow
      have HRES:=Lib.hid hres
      obtain ⟨c0,c1⟩:=cells2 hrow
      obtain ⟨d0,d1⟩:=cells2 hres
      have z0:=frz hres 0
      have z1:=frz hres 1
      clear hrow hres
      go_wp2_with fail
      (try simp only [Exit.inBlock,Exit.then])
      refine bodyPost_ret (res_row2 rfl (ld_plan (pset2 HRES.out)) rfl rfl rfl) rfl ?_
      have hkk:=((KpB.refl w.heap.size w6).store 0 (.slice A acc.length ca)).store 1 (.slice UA u.length uc)
      have k1:=OwnR.keptB HK.out hkk HRES.out (by decide)
      have k2:=OwnR.keptB HKU.out hkk HRES.out (by decide)
      refine ⟨⟨A,ca,acc,UA,uc,u⟩,?_,?_,⟨k1,fun m hm=>(HKE.out m hm).keptB hkk HRES.out (by decide) (by decide),k2,HUF.out⟩,(HB6.out.setCell (Nat.le_refl _) _).setCell (Nat.le_refl _) _⟩
      ·rw [HG.out];rfl
      ·rw [HG.out];rfl
    |false =>
     have HR:=Lib.hid (show R=match rouR wl with
      |some r=>planX (acc.map (·.r) ++ [r]) (n+1) ls' (!t.isEmpty)
      |none=>(⟨[],[]⟩,n,3) by rw [HR.out,HUR.out];rfl)
     have HRO:=Lib.hid (rread_any wl WA wc w5 HOW5.out.cells HOW5.out.cap (fun x hx=>by have:=HSL.out.2 x hx;omega) (by omega))
     clear HOU
     go_wp2_with fail
     refine HRO.out.mono ?_
     rintro e w6 ⟨m,vb,rfl,hrr,hrm,hb6⟩
     have HRR:=Lib.hid hrr
     have HRM:=Lib.hid (hrm.mono HB5.out.size)
     have HB6:=Lib.hid (below_lift HB5.out hb6)
     have HPB6:=Lib.hid (HPB5.out.below hb6)
     clear hrr hrm hb6 HRO HPB5 HOW5 HB5
     obtain ⟨mA,mca,mC,mcc,⟨mk,ms,mr,mv⟩⟩:=m
     obtain ⟨n7,p7⟩:=new_at w6 (.cells #[.int .i64 mk,.int .i64 ms,.slice mA mr.length mca,.slice mC mv.length mcc] 50)
     go_upto_region 17 with fail
     generalize w6.alloc (.cells #[.int .i64 mk,.int .i64 ms,.slice mA mr.length mca,.slice mC mv.length mcc] 50)=w7 at *
     have HB7:=Lib.hid (below_lift HB6.out n7)
     have HPB7:=Lib.hid (HPB6.out.below n7)
     have HRM7:=Lib.hid (HRM.out.below n7)
     obtain ⟨y0,y1,y2,y3⟩:=cells4 p7
     clear n7 p7 HPB6 HB6 HRM
     cases vb with
     |true =>
      have hR:=HR.out
      rw [HRR.out] at hR
      have HR:=Lib.hid (show R=planX ((acc ++ [(⟨mA,mca,mC,mcc,⟨mk,ms,mr,mv⟩⟩:RouM)]).map (fun m=>m.r)) (n+1) ls' (!t.isEmpty) by rw [List.map_append];exact hR)
      clear hR
      obtain ⟨c0,c1⟩:=cells2 HPB7.out.row
      have hsz:=HB7.out.size
      generalize hmr:mr.length=mrl at *
      generalize hmv:mv.length=mvl at *
      have HMR:=Lib.hid hmr
      have HMV:=Lib.hid hmv
      clear hmr hmv
      go_wp2_with (at_builtin;refine wp_appk el_prou rfl _ _ rfl w.heap.size _ _ _ (acc.flatMap RouM.cells) w7 #[.int .i64 mk,.int .i64 ms,.slice mA mrl mca,.slice mC mvl mcc] rfl HPB7.out.own rfl rfl (by intro u hu;simp at hu;rcases hu with rfl | rfl | rfl | rfl <;> rfl) (by unfold maxLen;omega) (by omega) hsz ?_;intro A' c' w8 hown8 hb8 hk8;have p8:=hk8.row HPB7.out.row (HPB7.out.own.far HPB7.out.row (by decide));have z0:=frz p8 0;obtain ⟨e0,e1⟩:=cells2 p8)
      have hkb:=(KpB.refl pb w8).store 0 (.slice A' (acc.length+1) c')
      have hp9:(w8.setCell ⟨pb,0,none⟩ (.slice A' (acc.length+1) c')).heap[pb]? = some (.cells #[.slice A' (acc.length+1) c',.slice none 0 0] 25):=heap_put p8
      have hq9:=(Below.heap_setCell w8 ⟨pb,0,none⟩ (.slice A' (acc.length+1) c') _ HRB.out.1).trans (hk8.row HPB7.out.res (HPB7.out.own.far HPB7.out.res (by decide)))
      have ho9:=OwnR.keptB hown8 hkb p8 (by decide)
      have hxs:acc.flatMap RouM.cells ++ #[Value.int .i64 mk,.int .i64 ms,.slice mA mrl mca,.slice mC mvl mcc].toList=(acc ++ [(⟨mA,mca,mC,mcc,⟨mk,ms,mr,mv⟩⟩:RouM)]).flatMap RouM.cells:=by
       rw [← HMR.out,← HMV.out];exact flat_snoc RouM.cells acc ⟨mA,mca,mC,mcc,⟨mk,ms,mr,mv⟩⟩
      rw [hxs] at ho9
      have hle:(acc ++ [(⟨mA,mca,mC,mcc,⟨mk,ms,mr,mv⟩⟩:RouM)]).length=acc.length+1:=by simp
      have hpb9:PlanB (w8.setCell ⟨pb,0,none⟩ (.slice A' (acc.length+1) c')) w.heap.size pb w.heap.size A' c' (acc ++ [⟨mA,mca,mC,mcc,⟨mk,ms,mr,mv⟩⟩]):=by
       refine ⟨by rw [hle];exact hp9,hq9,by rw [hle];exact ho9,fun m hm=>?_⟩
       rcases List.mem_append.1 hm with h | h
       ·exact ((HPB7.out.each m h).keptA hk8 HPB7.out.own (by decide) (by decide)).keptB hkb p8 (by decide) (by decide)
       ·rw [List.mem_singleton.1 h];exact (HRM7.out.keptA hk8 HPB7.out.own (by decide) (by decide)).keptB hkb p8 (by decide) (by decide)
      have hb9:=(HB7.out.trans hb8).setCell (p:=⟨pb,0,none⟩) HRB.out.2 (.slice A' (acc.length+1) c')
      have hempty:∀ c ∈ (s.take (k+1)).drop (k+1),c≠10:=by
       intro c hc;rw [List.drop_of_length_le (by rw [List.length_take];omega)] at hc;exact absurd hc (by simp)
      first
       |exact ⟨⟨k+1,n+1,k+1,ls',A',c',acc ++ [⟨mA,mca,mC,mcc,⟨mk,ms,mr,mv⟩⟩],by go_num,by go_num,by go_num,Nat.le_refl _,by omega,by omega,hempty,HL2.out,by rw [hle];omega,HR.out,hpb9,hb9⟩,by simp [intOf];omega⟩
       |(go_roundw
         case rel=>exact ⟨k+1,n+1,k+1,ls',A',c',acc ++ [⟨mA,mca,mC,mcc,⟨mk,ms,mr,mv⟩⟩],by go_num,by go_num,by go_num,Nat.le_refl _,by omega,by omega,hempty,HL2.out,by rw [hle];omega,HR.out,hpb9,hb9⟩
         case measure=>simp [intOf];omega)
     |false =>
      have HG:=Lib.hid (show R=(⟨[],[]⟩,n,3) by rw [HR.out,HRR.out];rfl)
      obtain ⟨d0,d1⟩:=cells2 HPB7.out.res
      have z0:=frz HPB7.out.res 0
      have z1:=frz HPB7.out.res 1
      go_wp2_with fail
      (try simp only [Exit.inBlock,Exit.then])
      refine bodyPost_ret (res_row2 rfl (ld_plan (pset2 HPB7.out.res)) rfl rfl rfl) rfl ?_
      exact .bad HG.out rfl ((HB7.out.setCell (Nat.le_refl _) _).setCell (Nat.le_refl _) _)
   ·have e1:((d.toNat:Int) != 10)=true:=by have:=u8_not hd;simp at this ⊢;omega
    have HNO2:=Lib.hid (take_no hlt hfk HNO.out (by rw [hcc];exact hd))
    clear hd
    go_wp2_with fail
    first
     |exact ⟨⟨fr,n,k+1,ls,A,ca,acc,rfl,rfl,by go_num,by omega,by omega,hnf,HNO2.out,HLS.out,hac,HR.out,HPB.out,HBL.out⟩,by simp [intOf];omega⟩
     |(go_roundw
       case rel=>exact ⟨fr,n,k+1,ls,A,ca,acc,rfl,rfl,by go_num,by omega,by omega,hnf,HNO2.out,HLS.out,hac,HR.out,HPB.out,HBL.out⟩
       case measure=>simp [intOf];omega)
  ·have hlt1:¬ (k:Int)<(s.length:Int):=by omega
   have hke:k=s.length:=by omega
   subst hke
   have HG:=Lib.hid (show R=(⟨[],[]⟩,n,3) by
    have h1:=HNO.out
    rw [List.take_of_length_le (Nat.le_refl _)] at h1
    have h2:=lines_end HLS.out h1
    rw [HR.out,h2];rfl)
   obtain ⟨d0,d1⟩:=cells2 HPB.out.res
   have z0:=frz HPB.out.res 0
   have z1:=frz HPB.out.res 1
   go_wp2_with fail
   (try simp only [Exit.inBlock,Exit.then])
   refine bodyPost_ret (res_row2 rfl (ld_plan (pset2 HPB.out.res)) rfl rfl rfl) rfl ?_
   exact .bad HG.out rfl ((HBL.out.setCell (Nat.le_refl _) _).setCell (Nat.le_refl _) _)
end Go.Proofs.YtljekdpgjaahjaaGreatDoor
