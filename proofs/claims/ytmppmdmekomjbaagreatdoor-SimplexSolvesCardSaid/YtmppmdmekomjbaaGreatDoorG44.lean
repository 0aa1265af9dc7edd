/- lorryref26: values. -/
import Derived.Test.YtmppmdmekomjbaaGreatDoorG42
import Derived.Test.YtmppmdmekomjbaaGreatDoorSxKf
import Derived.Test.YtmppmdmekomjbaaGreatDoorG34
import Derived.Deep.RegionHeld3
namespace Go.Proofs.YtmppmdmekomjbaaGreatDoor
open Go.RowKit Num
set_option linter.unusedVariables false
attribute [local go_sem] B_size B_get B_toList B_mk B_extract B_append
attribute [local go_sem high] run_max2
def valK (turn:Bool) (s:Str):Str:=if turn then subQS [48] (mulQS [49] s) else s
def XkP (turn:Bool) (E:List (List Str)) (b:Nat→Nat) (rhs i x:Nat) (s:Str):Prop:=(∃ l,l<i∧b l=x∧s=valK turn (cellM E l rhs))∨((∀ l,l<i→b l≠x)∧s=[48])
theorem XkP.new {turn:Bool} {E:List (List Str)} {b:Nat→Nat} {rhs i:Nat}:XkP turn E b rhs (i+1) (b i) (valK turn (cellM E i rhs)):=.inl ⟨i,Nat.lt_succ_self i,rfl,rfl⟩
theorem XkP.old {turn:Bool} {E:List (List Str)} {b:Nat→Nat} {rhs i x:Nat} {s:Str} (h:XkP turn E b rhs i x s) (hx:b i≠x):XkP turn E b rhs (i+1) x s:=by
 rcases h with ⟨l,h1,h2,h3⟩ | ⟨h1,h2⟩
 ·exact .inl ⟨l,by omega,h2,h3⟩
 ·refine .inr ⟨fun l hl=>?_,h2⟩
  by_cases e:l=i
  ·rw [e];exact hx
  ·exact h1 l (by omega)
theorem SxK.sayR {w:World} {Bs:Nat} {H:KH} {vars aux:Nat} {rs:List VecV} {bs:List Nat} {tv:List Bool} (h:SxK w Bs H vars aux rs bs tv) {i c:Nat} (hi:i<rs.length) (hb:i<bs.length) (hc:c<((rtx rs).getD i []).length) :
  ∃ (g gb b off cl:Nat),rs[i].xs.length≤cl∧cl≤maxLen∧∀ w',Below w.heap.size w w'→w'.cell? ⟨H.kt,0,none⟩=some (.slice (some ⟨g,0,none⟩) rs.length H.c)∧w'.cell? ⟨H.kt,1,none⟩=some (.int .i64 vars)∧w'.cell? ⟨H.kt,2,none⟩=some (.int .i64 aux)∧w'.cell? ⟨H.kt,3,none⟩=some (.slice (some ⟨gb,0,none⟩) bs.length H.cb) ∧
   w'.cell? ⟨g,i,none⟩=some (.slice (some ⟨b,off,none⟩) ((rtx rs).getD i []).length cl)∧w'.cell? ⟨b,off+c,none⟩=some (.string (B (cellM (rtx rs) i c)))∧w'.cell? ⟨gb,i,none⟩=some (.int .i64 (bs.getD i 0:Nat)):=by
 obtain ⟨g,hg,_,hg2,hsay⟩:=h.say (by omega)
 have hx:=rtx_get hi
 rw [hx] at hc
 obtain ⟨b,off,hb1,hb2,hnum⟩:=h.num (j:=c) hi hc
 obtain ⟨gb,hgb,_,hgb2,hgb3,_⟩:=h.part.bas.at_ (by omega)
 have hcap:=(h.part.rows _ (List.getElem_mem hi)).cap
 refine ⟨g,gb,b,off,rs[i].c,hcap.1,hcap.2,fun w' hb3=>?_⟩
 obtain ⟨y0,y3,yA,_⟩:=hsay w' hb3
 have yr:=yA i hi
 rw [hb1] at yr
 rw [hgb] at y3
 refine ⟨y0,?_,?_,y3,by rw [hx];exact yr,?_,?_⟩
 ·rw [hb3.cell (p:=⟨H.kt,1,none⟩) h.lt,h.cell 1];rfl
 ·rw [hb3.cell (p:=⟨H.kt,2,none⟩) h.lt,h.cell 2];rfl
 ·rw [hnum w' hb3 c hc];unfold cellM;rw [hx]
 ·rw [hb3.cell (p:=⟨gb,i,none⟩) hgb2,hgb3 i hb,nums_get _ _ hb];rfl
set_option maxHeartbeats 8000000 in
set_option maxRecDepth 100000 in
theorem rxvalues_any {m c vars aux:Nat} {bs:List Nat} {tv:List Bool} {vs:List VecV} {H:KH} (turn:Bool) (Bs:Nat) (w:World)
  (hS:SxK w Bs H vars aux vs bs tv) (hbl:bs.length=m) (hvl:m≤vs.length) (hrow:∀ i,i<m→c<((rtx vs).getD i []).length) (hrl:∀ i,i<m→((rtx vs).getD i []).length≤1000) (hok:∀ i,i<m→(cellM (rtx vs) i c).length≤100000∧(turn=true→mulQE [49] (cellM (rtx vs) i c)=0∧subQE [48] (mulQS [49] (cellM (rtx vs) i c))=0)) (hc:c≤1000) (hm:m≤500) (hv:vs.length≤600) (hvars:vars≤1000) :
  Calls Tryz.prog 39 #[.pointer (some ⟨H.kt,0,none⟩),.int .i64 c,.bool turn] w fun e w'=>∃ (X:Option Addr) (cx:Nat) (xs:List Str),e=.returned (.slice X vars cx)∧OwnS w' w.heap.size 29 X vars cx (strs xs)∧TxL vars (XkP turn (rtx vs) (fun l=>bs.getD l 0) c m) xs∧Below w.heap.size w w':=by
 have hkt:=hS.lt
 have c1:=hS.cell 1
 have HC1:=Lib.hid c1
 have HC3:=Lib.hid (hS.cell 3)
 have hcapA:=hS.part.outer.cap
 have hcapB:=hS.part.bas.cap
 unfold maxLen at hcapA hcapB
 have HSAY:=Lib.hid (fun i (hi:i<m)=>hS.sayR (i:=i) (c:=c) (by omega) (by omega) (hrow i hi))
 have HROW:=Lib.hid hrow
 have HOK:=Lib.hid hok
 have HRL:=Lib.hid hrl
 have HXL:=Lib.hid (fun i (hi:i<vs.length)=>rtx_get hi)
 rw [hbl] at hcapB HC3
 simp only [hbl] at HSAY
 clear hS hrow hok hbl hrl
 go_enter Tryz.func39,Tryz.ntmps39
 simp only [B_mk]
 go_wp2_with (refine wp_mkn el_mrat rfl _ _ rfl w.heap.size _ .i64 .i64 _ _ vars rfl rfl rfl rfl (by omega) (by unfold maxLen;omega) (Nat.le_refl _) rfl ?_;intro X0 w1 hown0 hb1)
 clear c1
 have HST:=Lib.hid (show ∃ xs:List Str,OwnS w1 w.heap.size 29 X0 vars vars (strs xs)∧TxL vars (fun x s=>x<0→s=[48]) xs from ⟨List.replicate vars [],by rw [← strs_rep];exact hown0,by simp,fun x _ h=>absurd h (Nat.not_lt_zero _)⟩)
 clear hown0
 go_loopw [8] (fun i wr=>∃ (j:Nat) (xs:List Str),j≤vars∧i=.int .i64 j∧OwnS wr w.heap.size 29 X0 vars vars (strs xs)∧TxL vars (fun x s=>x<j→s=[48]) xs∧Below w.heap.size w wr) (fun i _=>vars - (intOf i).toNat)
 case atStart =>
  obtain ⟨xs,h1,h2⟩:=HST.out
  exact ⟨0,xs,Nat.zero_le _,rfl,h1,h2,hb1⟩
 case round =>
  clear hb1 HST
  obtain ⟨j,xs,hj,rfl,hown,htx,hb⟩:=hrel
  have HTX:=Lib.hid htx
  have HOW:=Lib.hid hown
  have c1:=(hb.cell (p:=⟨H.kt,1,none⟩) hkt).trans HC1.out
  by_cases hlj:j<vars
  ·obtain ⟨gx,e,hgx1,hgx2,hgc,hgf⟩:=hown.at_ (by omega)
   subst e
   have d0:=hgc j hlj
   rw [strs_get _ _ (by rw [htx.1];exact hlj)] at d0
   have d1:=hgf j
   have HS:=Lib.hid (hown.stored j (.string (B [48])))
   have HN:=Lib.hid (show TxL vars (fun x s=>x<j+1→s=[48]) (xs.set j [48]) from htx.set (fun _=>rfl) (fun x _ hne u h hx=>h (by omega)))
   clear hgc hgf hown htx
   generalize xs.getD j []=u0 at *
   go_wp2_with fail
   go_roundw
   case rel=>exact ⟨j+1,xs.set j [48],by omega,by go_num,by rw [← strs_set];exact HS.out,HN.out,hb.setCell hgx1 _⟩
   case measure=>simp [intOf];omega
  ·have HZ:=Lib.hid (show TxL vars (XkP turn (rtx vs) (fun l=>bs.getD l 0) c 0) xs from htx.imp fun x hx u h=>.inr ⟨fun l hl=>absurd hl (Nat.not_lt_zero _),h (by omega)⟩)
   have c2:=(hb.cell (p:=⟨H.kt,3,none⟩) hkt).trans HC3.out
   have hjx:¬ (j:Int)<(vars:Int):=by omega
   clear htx hown HTX
   go_wp2_with fail
   clear c2 c1
   go_loopw [9] (fun i wr=>∃ (i':Nat) (xs:List Str),i'≤m∧i=.int .i64 i'∧OwnS wr w.heap.size 29 X0 vars vars (strs xs)∧TxL vars (XkP turn (rtx vs) (fun l=>bs.getD l 0) c i') xs∧Below w.heap.size w wr) (fun i _=>m - (intOf i).toNat)
   case atStart=>exact ⟨0,xs,Nat.zero_le _,rfl,HOW.out,HZ.out,hb⟩
   case round =>
    clear hb HOW HZ hj hjx hlj
    obtain ⟨i,ys,hi,rfl,hown,htx,hb⟩:=hrel
    have HTX:=Lib.hid htx
    have HOW:=Lib.hid hown
    have HBO:=Lib.hid hb
    have c3:=(hb.cell (p:=⟨H.kt,3,none⟩) hkt).trans HC3.out
    by_cases hlt2:i<m
    ·obtain ⟨gA,gb,br,ro,cl,hcl1,hcl2,hsay⟩:=HSAY.out i hlt2
     rw [HXL.out i (by omega)] at hsay
     have hrl1:=HRL.out i hlt2
     have hrc1:=HROW.out i hlt2
     rw [HXL.out i (by omega)] at hrl1 hrc1
     unfold maxLen at hcl2
     have HSY:=Lib.hid hsay
     obtain ⟨y0,y1,_,y3,yr,yn,yb⟩:=hsay wr hb
     clear hsay c3
     generalize vs[i].xs.length=rl at *
     by_cases hbv:bs.getD i 0<vars
     ·obtain ⟨gx,e,hgx1,hgx2,hgc,hgf⟩:=hown.at_ (by omega)
      subst e
      have hbd:=below_drew hb
      obtain ⟨d0,_,_,d2,d3,d4,d5⟩:=HSY.out wr.drew hbd
      have d7:wr.drew.cell? ⟨gx,bs.getD i 0,none⟩=some (.string (B (ys.getD (bs.getD i 0) []))):=by
       have:=hgc (bs.getD i 0) hbv
       rw [strs_get _ _ (by rw [htx.1];exact hbv)] at this
       exact this
      have d8:wr.drew.frozen? ⟨gx,bs.getD i 0,none⟩=false:=hgf _
      have hbvI:((bs.getD i 0:Nat):Int)<(vars:Int):=by omega
      have hlt:¬ (vars:Int)≤((bs.getD i 0:Nat):Int):=by omega
      obtain ⟨hal,hok2⟩:=HOK.out i hlt2
      have HN:=Lib.hid (show TxL vars (XkP turn (rtx vs) (fun l=>bs.getD l 0) c (i+1)) (ys.set (bs.getD i 0) (valK turn (cellM (rtx vs) i c))) from htx.set XkP.new (fun x _ hne u h=>h.old (fun e=>hne e.symm)))
      have HS1:=Lib.hid ((hown.stored (bs.getD i 0) (.string (B (cellM (rtx vs) i c)))).below (below_drew (below_drew (Below.refl _ _))))
      have HBS:=Lib.hid (below_drew (below_drew (hb.setCell hgx1 (.string (B (cellM (rtx vs) i c))) (p:=⟨gx,bs.getD i 0,none⟩))))
      have HGX:=Lib.hid hgx1
      have HBD:=Lib.hid hbd
      have hgxw:gx<wr.drew.heap.size:=hgx2
      have hysl:ys.length=vars:=htx.1
      clear hgc hgf hown htx
      generalize ys.getD (bs.getD i 0) []=u0 at *
      generalize cellM (rtx vs) i c=a at *
      generalize bs.getD i 0=bi at *
      go_wp2_with fail
      go_region
      all_goals
       go_upto_region 10 with fail
       go_region
      all_goals
       generalize (wr.setCell ⟨gx,bi,none⟩ (.string (B a))).drew.drew=wS at *
       clear d0 d2 d3 d4 d5 d7 d8 y0 y1 y3 yr yn yb
       cases turn
       ·have hown1:=HS1.out
        rw [strs_set] at hown1
        go_wp2_with fail
        go_roundw
        case rel=>exact ⟨i+1,_,by omega,by go_num,hown1,HN.out,HBS.out⟩
        case measure=>simp [intOf];omega
       ·have hiv:i<vs.length:=by omega
        obtain ⟨m1,m2⟩:=hok2 rfl
        have HLS:=Lib.hid (fun (p:Value) (w':World)=>rxless_any p [48] [49] a w' (by simp) (by simp) hal m1 m2)
        have hvk:valK true a=subQS [48] (mulQS [49] a):=rfl
        rw [hvk] at HN
        generalize subQS [48] (mulQS [49] a)=y at *
        have HALL:=Lib.hid (fun w' (h:Below w.heap.size w w')=>(show Below w.heap.size w w'∧w'.cell? ⟨H.kt,0,none⟩=some (.slice (some ⟨gA,0,none⟩) vs.length H.c)∧w'.cell? ⟨H.kt,3,none⟩=some (.slice (some ⟨gb,0,none⟩) m H.cb)∧w'.cell? ⟨gA,i,none⟩=some (.slice (some ⟨br,ro,none⟩) rl cl)∧w'.cell? ⟨br,ro+c,none⟩=some (.string (B a))∧w'.cell? ⟨gb,i,none⟩=some (.int .i64 (bi:Nat)) from by obtain ⟨a0,_,_,a3,a4,a5,a6⟩:=HSY.out w' h;exact ⟨h,a0,a3,a4,a5,a6⟩))
        have HKP:=Lib.hid (fun (wo wn:World) (h:Below w.heap.size w wo∧wo.cell? ⟨H.kt,0,none⟩=some (.slice (some ⟨gA,0,none⟩) vs.length H.c)∧wo.cell? ⟨H.kt,3,none⟩=some (.slice (some ⟨gb,0,none⟩) m H.cb)∧wo.cell? ⟨gA,i,none⟩=some (.slice (some ⟨br,ro,none⟩) rl cl)∧wo.cell? ⟨br,ro+c,none⟩=some (.string (B a))∧wo.cell? ⟨gb,i,none⟩=some (.int .i64 (bi:Nat))) (hbz:Below wo.heap.size wo wn)=>HALL.out wn (h.1.trans (hbz.mono h.1.size)))
        have HKS:=Lib.hid (fun (wo:World) (h:Below w.heap.size w wo∧wo.cell? ⟨H.kt,0,none⟩=some (.slice (some ⟨gA,0,none⟩) vs.length H.c)∧wo.cell? ⟨H.kt,3,none⟩=some (.slice (some ⟨gb,0,none⟩) m H.cb)∧wo.cell? ⟨gA,i,none⟩=some (.slice (some ⟨br,ro,none⟩) rl cl)∧wo.cell? ⟨br,ro+c,none⟩=some (.string (B a))∧wo.cell? ⟨gb,i,none⟩=some (.int .i64 (bi:Nat)))=>HALL.out (wo.setCell ⟨gx,bi,none⟩ (.string (B y))) (h.1.setCell HGX.out (.string (B y)) (p:=⟨gx,bi,none⟩)))
        have hown1:=HS1.out
        rw [strs_set] at hown1
        obtain ⟨gy,e,_,hgw,hgc,hgf⟩:=hown1.at_ (by omega)
        obtain rfl:gx=gy:=by injection e with e;injection e with e _ _
        have HG:=Lib.hid (fun (w2:World) (h:Below wS.heap.size wS w2)=>show w2.cell? ⟨gx,bi,none⟩=some (.string (B ((ys.set bi a).getD bi [])))∧w2.frozen? ⟨gx,bi,none⟩=false from ⟨(h.cell (p:=⟨gx,bi,none⟩) hgw).trans (by rw [hgc bi (by omega),strs_get _ _ (by rw [List.length_set];omega)]),(h.frozen (p:=⟨gx,bi,none⟩) hgw).trans (hgf bi)⟩)
        have HO1:=Lib.hid (fun w' (h:Below wS.heap.size wS w')=>(hown1.below h).stored bi (.string (B y)))
        clear hown1 hgc hgf HBD
        go_wp2_with fail
        have hS0:=HALL.out wS.drew (below_drew HBS.out)
        go_region_held3 (fun w'=>Below w.heap.size w w'∧w'.cell? ⟨H.kt,0,none⟩=some (.slice (some ⟨gA,0,none⟩) vs.length H.c)∧w'.cell? ⟨H.kt,3,none⟩=some (.slice (some ⟨gb,0,none⟩) m H.cb)∧w'.cell? ⟨gA,i,none⟩=some (.slice (some ⟨br,ro,none⟩) rl cl)∧w'.cell? ⟨br,ro+c,none⟩=some (.string (B a))∧w'.cell? ⟨gb,i,none⟩=some (.int .i64 (bi:Nat)))
         (first | (exact HKP.out _ _ (by assumption) hbz) | (exact HKS.out _ (by assumption)) | (with_reducible exact hS0))
         (first | (go_at_call 70;((with_reducible refine (HLS.out _ _).mono ?_);rintro e wz ⟨rfl,hbz⟩;have hbL:=(below_drew (Below.refl wS.heap.size wS)).trans hbz;obtain ⟨n0,n1⟩:=HG.out wz hbL)))
        all_goals
         have hown2:=HO1.out wz hbL
         rw [strs_set,List.set_set] at hown2
         have hb3:=(HBS.out.trans (hbL.mono HBS.out.size)).setCell HGX.out (.string (B y)) (p:=⟨gx,bi,none⟩)
         go_wp2_with fail
         go_roundw
         case rel=>exact ⟨i+1,_,by omega,by go_num,hown2,HN.out,hb3⟩
         case measure=>simp [intOf];omega
     ·have hbvI:¬ ((bs.getD i 0:Nat):Int)<(vars:Int):=by omega
      have HN:=Lib.hid (show TxL vars (XkP turn (rtx vs) (fun l=>bs.getD l 0) c (i+1)) ys from htx.imp (fun x hx u h=>h.old (fun e=>hbv (by have e:bs.getD i 0=x:=e;omega))))
      have hge:(vars:Int)≤((bs.getD i 0:Nat):Int):=by omega
      clear hown htx hbv
      generalize bs.getD i 0=bi at *
      go_wp2_with fail
      go_region
      all_goals
       go_wp2_with fail
       go_roundw
       case rel=>exact ⟨i+1,ys,by omega,by go_num,HOW.out.below (below_drew (Below.refl _ _)),HN.out,below_drew HBO.out⟩
       case measure=>simp [intOf];omega
    ·have him:i=m:=by omega
     have hix:¬ (i:Int)<(m:Int):=by omega
     have HX:=Lib.hid (show TxL vars (XkP turn (rtx vs) (fun l=>bs.getD l 0) c m) ys by rw [him] at htx;exact htx)
     clear him htx hown HTX
     go_wp2_with fail
     go_ret
     first
      | exact ⟨X0,vars,ys,rfl,HOW.out,HX.out,HBO.out⟩
      | exact ⟨X0,vars,rfl,ys,HOW.out,HX.out,HBO.out⟩
      | exact ⟨X0,vars,rfl,⟨ys,HOW.out,HX.out⟩,HBO.out⟩
theorem one_mul_t {D:Nat} {a:Str} (h:FrD D D a) (hD:1+D≤4096):mulQE [49] a=0∧mulQS [49] a=a:=by
 have h1:=(fr_small (.inr rfl):FrD 1 1 [49]).mul h (by omega) (by omega)
 refine ⟨h1.1,rq_inj (h1.2.1.right (by omega) (by omega)) (h.right (by omega) (by omega)) ?_⟩
 rw [h1.2.2,rq_o1]
 have:((1:Int):Rat)=1:=rfl
 rw [this];grind
set_option maxHeartbeats 8000000 in
set_option maxRecDepth 100000 in
theorem rxduals_any {D m vars ci:Nat} {R:Nat→Nat→Int} {bs:List Nat} {tv:List Bool} {vs:List VecV} {T:Mx} {H:KH} (κ:Str) (hκ:κ=[48]∨κ=[49]) (hE:SxE D m ci R (rtx vs) bs T) (hD:3*D+16≤4096) (Bs:Nat) (w:World)
  (hS:SxK w Bs H vars ci vs bs tv) (htv:tv.length=m) (hk:ci+m+1≤1000) (hm:m≤500) :
  Calls Tryz.prog 37 #[.pointer (some ⟨H.kt,0,none⟩),.string (B κ)] w fun e w'=>∃ (Y:Option Addr) (cy:Nat) (ys:List Str),e=.returned (.slice Y m cy)∧OwnS w' w.heap.size 29 Y m cy (strs ys)∧DuL D m ci T (rq κ) tv m ys∧Below w.heap.size w w':=by
 have hbl:=hE.blen
 have hvl:vs.length=m+1:=by rw [← rtx_length];exact hE.len
 have hkt:=hS.lt
 have hcapA:=hS.part.outer.cap
 have hcapB:=hS.part.bas.cap
 have hcapV:=hS.part.tur.cap
 unfold maxLen at hcapA hcapB hcapV
 rw [hbl] at hcapB
 rw [htv] at hcapV
 have hxr:vs[m].xs=(rtx vs).getD m []:=(rtx_get (by omega)).symm
 have hxl:vs[m].xs.length=ci+m+1:=by rw [hxr];exact (hE.mat.row (by rw [hE.len];omega)).1
 obtain ⟨gA,hgA,_,hgA2,hsay⟩:=hS.say (by omega)
 obtain ⟨br,ro,hbr,hbr2,hnum⟩:=hS.num (i:=m) (j:=0) (by omega) (by omega)
 have hcapR:=(hS.part.rows _ (List.getElem_mem (show m<vs.length by omega))).cap
 rw [hxl] at hcapR
 unfold maxLen at hcapR
 have HC2:=Lib.hid (hS.cell 2)
 have HC4:=Lib.hid (hS.cell 4)
 have HV:=Lib.hid (fun (h:0<m)=>hS.part.tur.at_ (show 0<tv.length by omega))
 have HSY:=Lib.hid (fun w' (hb:Below w.heap.size w w')=>(show w'.cell? ⟨H.kt,0,none⟩=some (.slice (some ⟨gA,0,none⟩) (m+1) H.c)∧w'.cell? ⟨H.kt,3,none⟩=some (.slice H.Bb m H.cb)∧w'.cell? ⟨gA,m,none⟩=some (.slice (some ⟨br,ro,none⟩) (ci+m+1) vs[m].c)∧∀ j,j<ci+m+1→w'.cell? ⟨br,ro+j,none⟩=some (.string (B (cellM (rtx vs) m j))) from by
  obtain ⟨h1,h2,h3,_⟩:=hsay w' hb
  have h4:=h3 m (by omega)
  rw [hbr,hxl] at h4
  rw [hvl] at h1
  rw [hbl] at h2
  refine ⟨h1,h2,h4,fun j hj=>?_⟩
  have h5:=hnum w' hb j (by rw [hxl];exact hj)
  rw [hxr] at h5
  exact h5))
 have HE:=Lib.hid hE
 have HK:=Lib.hid hκ
 have HD:=Lib.hid hD
 have HTL:=Lib.hid htv
 have hcr:=hcapR.1
 have hN:ci+m<ci+m+1:=by omega
 generalize vs[m].c=cr at *
 obtain ⟨x0,x3,xm,_⟩:=HSY.out w (Below.refl _ _)
 clear hS hE hκ hD hsay hnum hbr hxr hxl htv
 go_enter Tryz.func37,Tryz.ntmps37
 simp only [B_mk]
 go_upto_region 2 with fail
 go_region
 all_goals
  have HBD0:=Lib.hid (below_drew (Below.refl w.heap.size w))
  generalize w.drew=w1 at *
  clear x0 x3 xm
 go_wp2_with fail
 go_loopw [5,7,8] (fun o i _ wr=>∃ (j:Nat) (Y:Option Addr) (cy:Nat) (ys:List Str),j≤m∧i=.int .i64 j∧o=.slice Y j cy∧OwnS wr w.heap.size 29 Y j cy (strs ys)∧DuL D m ci T (rq κ) tv j ys∧Below w.heap.size w wr) (fun _ i _ _=>m - (intOf i).toNat)
 case atStart=>exact ⟨0,none,0,[],Nat.zero_le _,rfl,rfl,OwnS.nil _ _ _,⟨rfl,fun l hl=>absurd hl (Nat.not_lt_zero _)⟩,HBD0.out⟩
 case round =>
  obtain ⟨j,Y,cy,ys,hj,rfl,rfl,hown,hdu,hb⟩:=hrel
  have HDU:=Lib.hid hdu
  clear hdu
  obtain ⟨x0,x3,xm,xc⟩:=HSY.out wr hb
  by_cases hlj:j<m
  ·obtain ⟨gv,hgv,_,hgv2,hgv3,_⟩:=HV.out (by omega)
   have d4:=(hb.cell (p:=⟨gv,j,none⟩) hgv2).trans (hgv3 j (by rw [HTL.out];exact hlj))
   rw [boolsV_get _ _ (by rw [HTL.out];exact hlj)] at d4
   have d2:=(hb.cell (p:=⟨H.kt,2,none⟩) hkt).trans HC2.out
   have d4h:=(hb.cell (p:=⟨H.kt,4,none⟩) hkt).trans HC4.out
   have d4h:wr.cell? ⟨H.kt,4,none⟩=some (.slice (some ⟨gv,0,none⟩) m H.cv):=by rw [d4h,← HTL.out,← hgv];rfl
   have dp:=xc (ci+j) (by omega)
   have hD:=HD.out
   have hfp:=HE.out.mat.cell (i:=m) (c:=ci+j) (by rw [HE.out.len];omega) (by omega)
   have hlp:=frx_len hfp
   have hlk:κ.length≤1:=by rcases HK.out with h | h <;> rw [h] <;> simp
   have hs:=(fr_small HK.out).sub hfp (by omega) (by omega)
   have hv:=HE.out.val m (by omega) (ci+j) (by omega)
   have hom:=one_mul_t hfp (by omega)
   have HS1:=Lib.hid (fun (p:Value) (w':World)=>rxless_any p κ [49] (cellM (rtx vs) m (ci+j)) w' (by omega) (by simp) (by omega) hom.1 (by rw [hom.2];exact hs.1))
   rw [hom.2] at HS1
   have hdF:FrD (D+2) (D+1) (subQS κ (cellM (rtx vs) m (ci+j))):=hs.2.1.mono (by omega) (by omega)
   have hdq:rq (subQS κ (cellM (rtx vs) m (ci+j)))=rq κ - T m (ci+j):=by rw [hs.2.2,hv]
   generalize cellM (rtx vs) m (ci+j)=a at *
   generalize subQS κ a=d at *
   have hdF2:=hdF.mono (n':=D+2) (d':=D+2) (by omega) (by omega)
   have hdl:=frx_len hdF2
   have hs2:=(fr_small (.inl rfl):FrD 1 1 [48]).sub hdF (by omega) (by omega)
   have hom2:=one_mul_t hdF2 (by omega)
   have HS2:=Lib.hid (fun (p:Value) (w':World)=>rxless_any p [48] [49] d w' (by simp) (by simp) (by omega) hom2.1 (by rw [hom2.2];exact hs2.1))
   rw [hom2.2] at HS2
   have HY1:=Lib.hid (show tv.getD j false=false→DuP D m ci T (rq κ) tv j d from fun h=>⟨hdF.mono (by omega) (by omega),by rw [h,hdq];simp⟩)
   have HY2:=Lib.hid (show tv.getD j false=true→DuP D m ci T (rq κ) tv j (subQS [48] d) from fun h=>⟨hs2.2.1.mono (by omega) (by omega),by rw [h,hs2.2.2,hdq,rq_zero];simp;grind⟩)
   have HOC:=Lib.hid hown.cap
   have hul:ci+j<ci+m+1:=by omega
   have huI:(ci:Int)+(j:Int)=((ci+j:Nat):Int):=by omega
   have hwu:=wrap_nat (n:=ci+j) (by omega)
   generalize ci+j=cu at *
   clear hs hv hdF hdq hdl hs2 hfp hlp hlk hgv3 hom hom2 hdF2 hD xc x0 xm
   generalize subQS [48] d=d2' at *
   cases htj:tv.getD j false with
   | false =>
    rw [htj] at d4
    have HY:=Lib.hid (HDU.out.snoc (HY1.out htj))
    clear htj HY1 HY2 HS2
    go_wp2_with fail
    refine (HS1.out _ wr).mono ?_
    rintro e w2 ⟨rfl,hb2⟩
    have hgvw:=Nat.lt_of_lt_of_le hgv2 hb.size
    have hltw:=Nat.lt_of_lt_of_le hkt hb.size
    have e4:=(hb2.cell (p:=⟨gv,j,none⟩) hgvw).trans d4
    have e4h:=(hb2.cell (p:=⟨H.kt,4,none⟩) hltw).trans d4h
    have hb3:=below_lift3 hb hb2
    have hown2:=hown.below hb2
    clear d2 d4 d4h dp hown hgvw hltw hb2
    go_wp2_with (at_builtin;refine wp_app1 el_mrat rfl _ _ rfl w.heap.size _ _ _ _ _ (.string (B d)) rfl hown2 rfl rfl (by unfold maxLen;omega) (by omega) hb3.size ?_;intro A3 c3 w3 hown3 hb4)
    rw [strs_snoc_x] at hown3
    go_roundw
    case rel=>exact ⟨j+1,A3,c3,ys ++ [d],by omega,by go_num,rfl,hown3,HY.out,hb3.trans hb4⟩
    case measure=>simp [intOf];omega
   | true =>
    rw [htj] at d4
    have HY:=Lib.hid (HDU.out.snoc (HY2.out htj))
    clear htj HY1 HY2
    go_wp2_with fail
    refine (HS1.out _ wr).mono ?_
    rintro e w2 ⟨rfl,hb2⟩
    have hgvw:=Nat.lt_of_lt_of_le hgv2 hb.size
    have hltw:=Nat.lt_of_lt_of_le hkt hb.size
    have e4:=(hb2.cell (p:=⟨gv,j,none⟩) hgvw).trans d4
    have e4h:=(hb2.cell (p:=⟨H.kt,4,none⟩) hltw).trans d4h
    have hb3:=below_lift3 hb hb2
    have hown2:=hown.below hb2
    clear d2 d4 d4h dp hown hgvw hltw hb2
    go_wp2_with fail
    refine (HS2.out _ w2).mono ?_
    rintro e w3 ⟨rfl,hb4⟩
    have hb5:=below_lift3 hb3 hb4
    have hown3:=hown2.below hb4
    clear e4 e4h hown2
    go_wp2_with (at_builtin;refine wp_app1 el_mrat rfl _ _ rfl w.heap.size _ _ _ _ _ (.string (B d2')) rfl hown3 rfl rfl (by unfold maxLen;omega) (by omega) hb5.size ?_;intro A4 c4 w4 hown4 hb6)
    rw [strs_snoc_x] at hown4
    go_roundw
    case rel=>exact ⟨j+1,A4,c4,ys ++ [d2'],by omega,by go_num,rfl,hown4,HY.out,hb5.trans hb6⟩
    case measure=>simp [intOf];omega
  ·have hjm:j=m:=by omega
   have hjx:¬ (j:Int)<(m:Int):=by omega
   have HX:=Lib.hid (show DuL D m ci T (rq κ) tv m ys by have:=HDU.out;rwa [hjm] at this)
   subst hjm
   clear xc xm
   go_wp2_with fail
   go_ret
   first
    | exact ⟨Y,cy,ys,rfl,hown,HX.out,hb⟩
    | exact ⟨Y,cy,rfl,ys,hown,HX.out,hb⟩
    | exact ⟨Y,cy,rfl,⟨ys,hown,HX.out⟩,hb⟩
end Go.Proofs.YtmppmdmekomjbaaGreatDoor
