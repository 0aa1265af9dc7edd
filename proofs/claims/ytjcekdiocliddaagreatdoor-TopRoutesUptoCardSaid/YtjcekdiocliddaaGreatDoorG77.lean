/- carry.start, Loads, Fits. (Printed by wip/tk/mkTmL.py.) -/
import Derived.Test.YtjcekdiocliddaaGreatDoorG76
import Derived.Test.YtjcekdiocliddaaGreatDoorG72
namespace Go.Proofs.YtjcekdiocliddaaGreatDoor
open Lib (hid)
open Go.RowKit Num Txt Pf Tk
set_option maxHeartbeats 32000000
set_option maxRecDepth 100000
set_option linter.unusedVariables false
attribute [local go_sem] BS Bg Bt Bm Be Ba
def lK (x:IV) (l:List Int):List Int:=l.foldl (fun acc i=>if PN x i then aD acc (lF x i) else acc) (List.replicate (dV x) 0)
def lO (x:IV) (s:Nat):List Int:=lK x (MS s)
def Ap (x:IV) (acc:List Int) (v:Int × Bool):List Int:=if v.2 then Cy acc (lF x v.1) else aD acc (lF x v.1)
def loadAt (x:IV) (s:Nat) (vs:List (Int × Bool)):List Int:=vs.foldl (Ap x) (lO x s)
theorem LK (x:IV) (l:List Int) (i:Int):lK x (l ++ [i])=if PN x i then aD (lK x l) (lF x i) else lK x l:=by unfold lK;rw [List.foldl_append];rfl
theorem Ts {α:Type} {l:List α} {k:Nat} (h:k<l.length):l.take (k+1)=l.take k ++ [l[k]]:=by rw [List.take_add_one,List.getElem?_eq_getElem h];rfl
theorem lC (x:IV) (s:Nat) (vs:List (Int × Bool)) (v:Int × Bool):loadAt x s (vs ++ [v])=Ap x (loadAt x s vs) v:=by unfold loadAt;rw [List.foldl_append];rfl
structure LO (x:IV) (K:Int) (l:List Int):Prop where
 len:l.length=dV x
 bnd:Bnd K l
theorem LO.mono {x:IV} {K K':Int} {l:List Int} (h:LO x K l) (hk:K<=K'):LO x K' l:=⟨h.len,h.bnd.mono hk⟩
theorem Om {x:IV} {i:Int} {o:OrdV} (h:OA x i=some o):o ∈ x.ords:=by
 unfold OA at h;split at h
 ·cases h
 ·exact List.mem_of_getElem? h
theorem lk {x:IV} (hok:IK x) {i:Int} (h0:0<=i) (h1:i<(x.ords.length:Int)):LO x 1000 (lF x i):=by
 unfold lF
 cases h:OA x i with
 |none =>
  unfold OA at h;rw [if_neg (by omega)] at h;have:=List.getElem?_eq_none_iff.1 h;omega
 |some o =>
  have:=hok.ordsX o (Om h);exact ⟨by have:=this.load;simp only;omega,fun n hn=>by have:=this.loads n hn;omega⟩
theorem addL_ok {x:IV} {K J:Int} {a b:List Int} (ha:LO x K a) (hb:LO x J b):LO x (K+J) (aD a b):=⟨by rw [addL_len];exact ha.len,addL_bnd ha.bnd hb.bnd (ha.len.trans hb.len.symm)⟩
theorem subL_ok {x:IV} {K J:Int} {a b:List Int} (ha:LO x K a) (hb:LO x J b):LO x (K+J) (Cy a b):=⟨by rw [subL_len];exact ha.len,subL_bnd ha.bnd hb.bnd (ha.len.trans hb.len.symm)⟩
theorem zero_ok (x:IV):LO x 0 (List.replicate (dV x) 0):=⟨by simp,fun n hn=>by have:=(List.mem_replicate.1 hn).2;omega⟩
theorem loadK_ok {x:IV} (hok:IK x):∀ (l:List Int),(∀ i ∈ l,0<=i/\i<(x.ords.length:Int))->LO x (1000*(l.length:Int)) (lK x l):=by
 intro l;generalize hn:l.length=n
 induction n generalizing l with
 |zero =>
  intro _;have:l=[]:=List.length_eq_zero_iff.1 hn;subst this;exact (zero_ok x).mono (by omega)
 |succ n ih =>
  intro h;obtain ⟨ds,b,rfl⟩:∃ ds b,l=ds ++ [b]:=⟨l.dropLast,l.getLast (by intro e;rw [e] at hn;cases hn),(List.dropLast_concat_getLast _).symm⟩
  have hd:ds.length=n:=by rw [List.length_append] at hn;simpa using hn
  have h1:=ih ds hd fun i hi=>h i (by simp [hi]);have h2:=h b (by simp);rw [LK];split
  ·exact (addL_ok h1 (lk hok h2.1 h2.2)).mono (by omega)
  ·exact h1.mono (by omega)
theorem loadV_ok {x:IV} (hok:IK x) {K:Int} {a:List Int} (ha:LO x K a) {v:Int × Bool} (h0:0<=v.1) (h1:v.1<(x.ords.length:Int)):LO x (K+1000) (Ap x a v):=by
 unfold Ap;split
 ·exact subL_ok ha (lk hok h0 h1)
 ·exact addL_ok ha (lk hok h0 h1)
theorem Co {x:IV} (hok:IK x) {s:Nat} (hs:∀ i ∈ MS s,i<(x.ords.length:Int)):∀ (vs:List (Int × Bool)),(∀ v ∈ vs,0<=v.1/\v.1<(x.ords.length:Int))->LO x (63000+1000*(vs.length:Int)) (loadAt x s vs):=by
 intro l;generalize hn:l.length=n
 induction n generalizing l with
 |zero =>
  intro _;have:l=[]:=List.length_eq_zero_iff.1 hn;subst this;have h63:=mK s 63;have hm:∀ i ∈ MS s,0<=i/\i<(x.ords.length:Int):=fun i hi=>⟨by have h2:=mS.1 hi;unfold Aa at h2;exact (of_decide_eq_true h2).1,hs i hi⟩
  exact (loadK_ok hok (MS s) hm).mono (by unfold MS;omega)
 |succ n ih =>
  intro h;obtain ⟨ds,b,rfl⟩:∃ ds b,l=ds ++ [b]:=⟨l.dropLast,l.getLast (by intro e;rw [e] at hn;cases hn),(List.dropLast_concat_getLast _).symm⟩
  have hd:ds.length=n:=by rw [List.length_append] at hn;simpa using hn
  have h1:=ih ds hd fun i hi=>h i (by simp [hi]);have h2:=h b (by simp);rw [lC];exact (loadV_ok hok h1 h2.1 h2.2).mono (by omega)
def StartE (x:IV) (s:Nat) (w:World) (e:Ending) (w':World):Prop:=∃ (A:Option Addr) (c:Nat),e=.returned (.slice A (lO x s).length c)/\Ao w' w.heap.size A c (lO x s)/\Below w.heap.size w w'
theorem df {x:IV} (h:IK x):dV x<=3:=by
 unfold dV
 cases hx:x.types with
 |nil=>simp
 |cons t l=>exact (h.typesX t (by rw [hx];simp)).few
theorem cstart_any (m:IM) (s:Nat) (w:World) (hm:IA w m) (hok:IK m.v) (hml:m.ords.length<=3) (hs8:s<1048576) (hs:∀ i ∈ MS s,i<(m.ords.length:Int)) :
  Calls Tryz.prog 119 #[iA m,.int .i64 s,.int .i64 (dV m.v)] w (StartE m.v s w):=by
 obtain ⟨k1,p1⟩:=Na w (.cells (iQ m) 30);obtain ⟨k2,p2⟩:=Na (w.alloc (.cells (iQ m) 30)) (.cells (madeCells #[.int .i64 0] (dV m.v)) 3);have HB:=hid (bL k1 k2);have HK1:=hid (rK p1 k2)
 have HK2:=hid (show ((w.alloc (.cells (iQ m) 30)).alloc (.cells (madeCells #[.int .i64 0] (dV m.v)) 3)).heap[(w.alloc (.cells (iQ m) 30)).heap.size]? = some (.cells (ints (List.replicate (dV m.v) 0)).toArray 3) by rw [p2,mI]);have HG2:=hid (show w.heap.size<=(w.alloc (.cells (iQ m) 30)).heap.size from k1.size)
 have HM:=hid (fun w' (hb:Below w.heap.size w w')=>hm.below hb);have HOK:=hid hok;have hol:=hm.ol;have hd3:=df hok;have HMS:=hid (show ∀ i ∈ MS s,0<=i/\i<(m.ords.length:Int) from fun i hi=>⟨by have h2:=mS.1 hi;unfold Aa at h2;exact (of_decide_eq_true h2).1,hs i hi⟩);have HLD:=hid (show lO m.v s=lK m.v (MS s) from rfl)
 have hmk:=Mi (dV m.v) (by omega);have HML:=hid (show (MS s).length<=63 from mK s 63);unfold maxLen at hol;have HL2:=hid (oL m);clear hm hok k1 k2 p1 p2 hs;obtain ⟨d,hd⟩:∃ d,d=dV m.v:=⟨_,rfl⟩
 rw [<- hd] at HB HK1 HK2 hd3 hmk;rw [<- hd];have HDD:=hid hd;clear hd;go_enter Tryz.func119,Tryz.ntmps119;(try simp only [Bm]);go_upto_region 1 with fail;rw [iq];go_upto_region 2 with fail;generalize (w.alloc (.cells (iQ m) 30)).alloc (.cells (madeCells #[.int .i64 0] d) 3)=wa at *;obtain ⟨h2,hh2⟩:∃ h2,h2=w.heap.size+1:=⟨_,rfl⟩
 rw [show (w.alloc (.cells (iQ m) 30)).heap.size=h2 by rw [hh2];simp] at HK2 HG2;obtain ⟨h1,hh1⟩:∃ h1,h1=w.heap.size:=⟨_,rfl⟩
 rw [<- hh1] at HK1;rw [<- hh2,<- hh1];clear hh1 hh2 hmk;go_wp2_with fail;refine (ma s wa hs8).mono ?_;rintro e w1 ⟨A1,c1,rfl,hown1,hb1⟩;have HCM:=hid (OR.cells hown1);have hcm:=OR.cap hown1;have HB1:=hid (bL HB.out hb1);have HK11:=hid (rK HK1.out hb1)
 have HZ:=hid (show Ao w1 w.heap.size (some ⟨h2,0,none⟩) d (lK m.v []) from by
  show OR w1 w.heap.size _ _ _ (List.replicate (dV m.v) (0:Int)).length _ (ints (List.replicate (dV m.v) 0))
  rw [List.length_replicate,<- HDD.out];exact oM (rK HK2.out hb1) HG2.out (by simp) (by unfold maxLen;omega))
 have hlm:=HML.out;unfold maxLen at hcm;clear hown1 hb1 HB HK1 HK2 HML;obtain ⟨ms,hms⟩:∃ ms,ms=MS s:=⟨_,rfl⟩
 rw [<- hms] at HCM hcm hlm HMS HLD;rw [<- hms];clear hms;go_wp2_with fail;go_loopw [7,9,15] (fun l _ j wr=>∃ (k:Nat) (A:Option Addr) (c n:Nat),k<=ms.length/\j=.int .i64 k/\l=.slice A n c/\n=(lK m.v (ms.take k)).length/\Ao wr w.heap.size A c (lK m.v (ms.take k))/\wr.heap[h1]? = some (.cells (iQ m) 30)/\Below w1.heap.size w1 wr) (fun _ _ j _=>ms.length - (intOf j).toNat)
 case atStart=>exact ⟨0,_,d,d,Nat.zero_le _,rfl,rfl,by rw [HDD.out];simp [lK],HZ.out,HK11.out,Below.refl _ _⟩
 case round =>
  clear HZ HK11;obtain ⟨k,A,c,n,hk,rfl,rfl,hn,hown,hr1,hbel⟩:=hrel;have HOW:=hid hown;have HBR:=hid hbel;have HR1:=hid hr1;have HN:=hid hn;clear hown hbel hr1 hn;by_cases hlt:k<ms.length
  ·have hlt1:(k:Int)<(ms.length:Int):=by omega
   obtain ⟨g1,o1,hA1,hg1,hx1⟩:=HCM.out (by rw [il];omega);have x0:=(HBR.out.cell (p:=⟨g1,o1+k,none⟩) hg1).trans (hx1 k _ (iK ms k hlt));have hu:=HMS.out _ (List.getElem_mem hlt);have HSN:=hid (LK m.v (ms.take k) ms[k]);rw [<- Ts hlt] at HSN;have HOKL:=hid (loadK_ok HOK.out (ms.take k) fun i hi=>by rw [HL2.out];exact HMS.out i (List.mem_of_mem_take hi))
   rw [List.length_take,Nat.min_eq_left (by omega)] at HOKL;rw [hA1];clear hx1 hA1;obtain ⟨u,hu'⟩:∃ u,u=ms[k]:=⟨_,rfl⟩
   rw [<- hu'] at x0 HSN hu;clear hu';obtain ⟨o,rfl⟩:∃ o:Nat,u=(o:Int):=⟨u.toNat,by omega⟩
   have ho:o<m.ords.length:=by omega
   have ho1:(o:Int)<(m.ords.length:Int):=by omega
   have HOO:=hid (oL m);obtain ⟨go,oo,hO1,hgo,hoc⟩:=eP OM.cells_len (by decide) (HM.out wr (HB1.out.trans (HBR.out.mono HB1.out.size))).ords (by omega);have HPN:=hid (pickNeg_in ho);have HLO:=hid (Ln ho);have HLK:=hid (lk HOK.out (i:=(o:Int)) (by omega) (by rw [oL];omega))
   have HOE:=hid ((HM.out wr (HB1.out.trans (HBR.out.mono HB1.out.size))).ordE _ (List.getElem_mem ho));have x1:=hoc o ho 1 _ rfl;have x2:=hoc o ho 2 _ rfl;generalize m.ords[o]=om at *;have y3:=CX HR1.out 3 (.slice m.oA m.ords.length m.oc) rfl;rw [hO1] at y3;clear hoc hO1 hu;by_cases hp:om.o.pick.place<0
   ·have HS2:=hid (show lK m.v (ms.take (k+1))=aD (lK m.v (ms.take k)) om.o.load by rw [HSN.out,HPN.out,decide_eq_true hp,HLO.out];rfl)
    rw [HLO.out] at HLK;clear HSN HPN HLO;obtain ⟨l,hl⟩:∃ l,l=lK m.v (ms.take k):=⟨_,rfl⟩
    rw [<- hl] at HS2 HOW HN HOKL;clear hl;obtain rfl:=HN.out;have HAD:=hid (Cf l om.o.load A om.A c om.ca wr (OR.cells HOW.out) HOE.out.load (OR.cap HOW.out) HOE.out.ll (HOKL.out.len.trans HLK.out.len.symm) (by rw [HOKL.out.len];have:=HDD.out;omega) (HOKL.out.bnd.mono (by omega)) (HLK.out.bnd.mono (by omega)));go_wp2_with fail;refine HAD.out.mono ?_;rintro e w2 ⟨A2,c2,rfl,ho2,hb2⟩
    have HO2:=hid (ho2.mono (HB1.out.trans (HBR.out.mono HB1.out.size)).size);have HB2:=hid (bL HBR.out hb2);have HR2:=hid (rK HR1.out hb2);clear ho2 hb2 HAD x0 x1 x2 y3;go_wp2_with fail;go_roundw
    case rel=>exact ⟨k+1,A2,c2,_,by omega,by go_num,rfl,by rw [HS2.out],by rw [HS2.out];exact HO2.out,HR2.out,HB2.out⟩
    case measure=>simp [intOf];omega
   ·have HS2:=hid (show lK m.v (ms.take (k+1))=lK m.v (ms.take k) by rw [HSN.out,HPN.out,decide_eq_false hp];rfl)
    clear HSN HPN HLO;go_wp2_with fail;go_roundw
    case rel=>exact ⟨k+1,A,c,n,by omega,by go_num,rfl,by rw [HS2.out];exact HN.out,by rw [HS2.out];exact HOW.out,HR1.out,HBR.out⟩
    case measure=>simp [intOf];omega
  ·have hlt1:¬ (k:Int)<(ms.length:Int):=by omega
   have HE:=hid (show lK m.v (ms.take k)=lO m.v s by rw [HLD.out,List.take_of_length_le (by omega)]);go_wp2_with fail;go_ret;exact ⟨A,c,Rs (by rw [HN.out,HE.out]),by rw [<- HE.out];exact HOW.out,HB1.out.trans (HBR.out.mono HB1.out.size)⟩
structure Lo where
 A:Option Addr
 c:Nat
 l:List Int
def Lo.val (m:Lo):Value:=.slice m.A m.l.length m.c
def loadC (m:Lo):List Value:=[m.val]
theorem loadC_len (m:Lo):(loadC m).length=1:=rfl
theorem lod_info:(Tryz.prog.info? 46).map (fun i=>(i.zero,i.size,i.bytes))=some (some (.slice none 0 0),1,24):=by kernel_rfl
theorem el_lod:ER Tryz.prog 143 46 (.slice none 0 0) 1 24:=⟨Tryz.underlying143,info_parts lod_info,rfl,by decide⟩
structure Bd (w:World) (Bs:Nat) (A:Option Addr) (c:Nat) (ms:List Lo):Prop where
 row:OR w Bs 46 1 A ms.length c (ms.flatMap loadC)
 each:∀ m ∈ ms,Ao w Bs m.A m.c m.l
theorem Bd.below {w w':World} {Bs:Nat} {A:Option Addr} {c:Nat} {ms:List Lo} (h:Bd w Bs A c ms) (hb:Below w.heap.size w w'):Bd w' Bs A c ms:=⟨OR.below h.row hb,fun m hm=>OR.below (h.each m hm) hb⟩
section
variable {P:Program} {ops:Array Oper} {rest:List Oper} {o:Oper} {a:Act} {Q:Exit->Act->World->Prop}
theorem Il:3≠46:=by decide
theorem wp_lod {t e:TypeId} {z:Value} {sz bytes:Nat} (he:ER P t e z sz bytes) (hgd:o.guard=none) (s x:Operand) (ho:o.op=.call { callee:=.builtin .append,args:=#[s,x],argTypes:=#[t,t] }) (het:e=46) (hsz:sz=1) (hby:bytes=24)
  (Bs:Nat) (A:Option Addr) (n c:Nat) (ms:List Lo) (hn:n=ms.length) (w:World) (k:Lo) (hs:a.eval s=.slice A n c) (hown:Bd w Bs A c ms) (hk:Ao w Bs k.A k.c k.l)
  (hx:a.eval x=.slice (some ⟨w.heap.size,0,none⟩) 1 1) (hl:ms.length<=1000000) (hbase:Bs<=w.heap.size)
  (h:∀ A' c' w',Bd w' Bs A' c' (ms ++ [k])->Below Bs w w'->KA A w w'->wpList P ops Q rest (a.put o.dst (.slice A' (n+1) c')) w') :
  wpList P ops Q (o :: rest) a (w.alloc (.cells #[k.val] e)):=by
 subst het hsz hby hn;refine wk he hgd s x ho Bs A ms.length c (ms.flatMap loadC) w #[k.val] hs hown.row hx rfl (by intro u hu;simp at hu;subst hu;rfl) (by unfold maxLen;omega) (by omega) hbase ?_;intro A' c' w' h1 h2 h3;have hlen:=sL ms k;have e2:(ms ++ [k]).flatMap loadC=ms.flatMap loadC ++ [k.val]:=by rw [<- Fs];rfl
 refine h A' c' w' ⟨by rw [hlen,e2];exact h1,fun m hm=>?_⟩ h2 h3;rcases List.mem_append.1 hm with hm | hm
 ·exact OR.keptA (hown.each m hm) h3 hown.row Il
 ·rw [List.mem_singleton.1 hm]
  exact OR.keptA hk h3 hown.row Il
end
theorem own_one {w:World} {Bs g:Nat} {v:Value} {e:TypeId} (h:w.heap[g]? = some (.cells #[v] e)) (hg:Bs<=g) (hv:v.oneCell'=true):OR w Bs e 1 (some ⟨g,0,none⟩) 1 1 [v]:=by
 refine ⟨rfl,.inr ⟨g,1,#[v],rfl,hg,h,Nat.le_refl _,by unfold maxLen;omega,rfl,rfl⟩⟩
def lP (x:IV) (s:Nat) (vs:List (Int × Bool)) (k:Nat):List (List Int):=(List.range k).map fun i=>loadAt x s (vs.take i)
theorem loadsP_snoc (x:IV) (s:Nat) (vs:List (Int × Bool)) (k:Nat):lP x s vs (k+1)=lP x s vs k ++ [loadAt x s (vs.take k)]:=by unfold lP;rw [List.range_succ,List.map_append];rfl
def LoadsE (x:IV) (vs:List (Int × Bool)) (w:World) (e:Ending) (w':World):Prop:=∃ (A:Option Addr) (c:Nat) (ms:List Lo),e=.returned (.tuple #[.slice A ms.length c,.int .i64 0])/\Bd w' w.heap.size A c ms/\ms.map (·.l)=lP x (sV vs) vs (vs.length+1)/\Below w.heap.size w w'
theorem mem_setV {vs:List (Int × Bool)} {n:Nat} (hn:n<=3) (h:∀ v ∈ vs,0<=v.1/\v.1<(n:Int)):∀ i ∈ MS (sV vs),i<(n:Int):=by
 have key:∀ (l:List (Int × Bool)) (s:Nat),s<2 ^ n->(∀ v ∈ l,0<=v.1/\v.1<(n:Int))->l.foldl (fun s v=>s ||| 1 <<< v.1.toNat) s<2 ^ n:=by
  intro l
  induction l with
  |nil=>intro s hs _;exact hs
  |cons v l ih =>
   intro s hs hl;rw [List.foldl_cons];refine ih _ ?_ fun u hu=>hl u (by simp [hu]);refine Nat.or_lt_two_pow hs ?_;have h3:=hl v (by simp);rw [Nat.one_shiftLeft];exact Nat.pow_lt_pow_right (by decide) (by omega)
 have hlt:sV vs<2 ^ n:=key vs 0 (Nat.pow_pos (by decide)) h;intro i hi;have h2:=mS.1 hi;unfold Aa at h2;obtain ⟨h3,h4,h5⟩:=of_decide_eq_true h2;rcases Int.lt_or_le i (n:Int) with h6 | h6
 ·exact h6
 ·exfalso
  have h7:sV vs<2 ^ i.toNat:=Nat.lt_of_lt_of_le hlt (Nat.pow_le_pow_right (by decide) (by omega));have h8:((sV vs:Nat):Int) / 2 ^ i.toNat=0:=Int.ediv_eq_zero_of_lt (by omega) (by exact_mod_cast h7);rw [h8] at h5;cases h5
theorem cloads_any (m:IM) (r:RM) (w:World) (hm:IA w m) (hok:IK m.v) (hml:m.ords.length<=3) (hr:Rt w r) (hv8:r.r.vis.length<=8) (hse:sE m.v r.r.vis=0) :
  Calls Tryz.prog 64 #[iA m,ro r] w (LoadsE m.v r.r.vis w):=by
 obtain ⟨k1,k2,k3⟩:=aL w (.cells (iQ m) 30) (.cells (rR r) 34);have HB:=hid k3;have HK1:=hid k1;have HK2:=hid k2;have HM:=hid (fun w' (hb:Below w.heap.size w w')=>hm.below hb);have HOK:=hid hok;have HV:=hid hr.vis;have hvl:=hr.vl;have hol:=hm.ol;have HLR:=hid (oL m)
 have HRNG:=hid (show ∀ v ∈ r.r.vis,0<=v.1/\v.1<(m.ords.length:Int) from fun v hv=>by rw [<- oL m];exact sG hse v hv);have HSC:=hid (scheck_any m r _ (hm.below k3) hml (hr.below k3));unfold Dc at HSC;rw [hse] at HSC;have HSO:=hid (fun w' (hb:Below w.heap.size w w')=>sorders_any r w' (hr.below hb) fun v hv=>by have:=HRNG.out v hv;omega)
 have HMS:=hid (mem_setV (vs:=r.r.vis) (n:=m.ords.length) hml HRNG.out);have hs8:=setV_lt (vs:=r.r.vis) fun v hv=>by have:=(HRNG.out v hv).2;omega
 unfold maxLen at hvl hol;clear hm hr k1 k2 k3 hok hse;go_enter Tryz.func64,Tryz.ntmps64;(try simp only [Bm]);go_upto_region 1 with fail;rw [iq,rq];generalize (w.alloc (.cells (iQ m) 30)).alloc (.cells (rR r) 34)=wa at *;obtain ⟨h1,hh1⟩:∃ h1,h1=w.heap.size:=⟨_,rfl⟩
 obtain ⟨h2,hh2⟩:∃ h2,h2=w.heap.size+1:=⟨_,rfl⟩
 rw [<- hh2] at HK2;rw [<- hh1] at HK1;rw [<- hh2,<- hh1];clear hh1 hh2;go_wp2_with (first | (refine lr HK1.out Tryz.underlying30 ?_) | (refine lr HK2.out Tryz.underlying34 ?_))
 refine HSC.out.mono ?_;rintro e w1 ⟨rfl,hb1⟩;have HB1:=hid (bL HB.out hb1);have HK11:=hid (rK HK1.out hb1);have HK21:=hid (rK HK2.out hb1);clear hb1 HSC HB HK1 HK2;go_wp2_with (refine lr HK21.out Tryz.underlying34 ?_)
 refine (HSO.out w1 HB1.out).mono ?_;rintro e w3 ⟨rfl,hb3⟩;have HB3:=hid (bL HB1.out hb3);have HK13:=hid (rK HK11.out hb3);have HK23:=hid (rK HK21.out hb3);clear hb3 HSO HB1 HK11 HK21;obtain ⟨s,hs⟩:∃ s,s=sV r.r.vis:=⟨_,rfl⟩
 rw [<- hs] at HMS hs8;rw [<- hs];have HSV:=hid hs;clear hs;have hd:Below w3.heap.size w3 w3.drew:=(Below.refl _ w3).drew
 have HDM:=hid (fun w' (hb:Below w3.heap.size w3 w')=>fdims_any m.types m.tA m.tc w' (HM.out w' (bL HB3.out hb)).types (HM.out w' (bL HB3.out hb)).tl (by have h:=HOK.out.nt;unfold IM.v at h;rw [List.length_map] at h;exact h) (fun t ht=>(HOK.out.typesX _ (Ti ht)).few));rw [<- dimsV_eq] at HDM
 have HST:=hid (fun w' (hb:Below w3.heap.size w3 w')=>cstart_any m s w' (HM.out w' (bL HB3.out hb)) HOK.out hml (by omega) HMS.out);go_upto_region 7 with fail;have hS0:(fun w'=>Below w3.heap.size w3 w') w3.drew:=hd;refine wp_region_held_drew (S:=fun w'=>Below w3.heap.size w3 w') (by kernel_rfl) hS0 (fun hHeld=>?_);refine tkr 0 Tryz.underlying30 (fun w hSw=>rK HK13.out hSw) ?_
 refine td 1 ?_;refine td 2 ?_;refine tq 3 (fun w hSw=>CX (rK HK13.out hSw) 2 (.slice m.tA m.types.length m.tc) rfl) ?_;(try simp only [Act.put,P1,pu,P3]);refine one 4 (fun K hK=>?_);go_simp;refine (HDM.out _ hd).mono ?_;rintro e w4 ⟨rfl,rfl⟩;refine hK.out _ _ (hd) (fun hHeld=>?_);clear hK K;(try simp only [Act.put,P1,pu,P3]);refine one 5 (fun K hK=>?_);go_simp
 refine (HST.out _ hd).mono ?_;rintro e w5 ⟨A5,c5,rfl,ho5,hb5⟩;have HO5:=hid ho5;have HB5:=hid (bL hd hb5);refine hK.out _ _ (bL hd hb5) (fun hHeld=>?_);clear hK K;refine td 6 ?_;(try simp only [Act.put,P1,pu,P3]);refine wpAnyH_done (by kernel_rfl) ?_ _;have HK15:=hid (rK HK13.out HB5.out);have HK25:=hid (rK HK23.out HB5.out)
 have HBW5:=hid (bL HB3.out HB5.out);have HO5b:=hid (show Ao w5 w.heap.size A5 c5 (lO m.v s) from HO5.out.mono (bL HB3.out hd).size);clear HST HDM HB5 HK13 HK23 HO5;clear hHeld;obtain ⟨n6,p6⟩:=Na w5 (.cells #[.slice A5 (lO m.v s).length c5] 46);go_upto_region 9 with fail;generalize hw6:w5.alloc (.cells #[.slice A5 (lO m.v s).length c5] 46)=w6 at *;clear hw6
 have HK16:=hid (rK HK15.out n6);have HK26:=hid (rK HK25.out n6);have HBW6:=hid (bL HBW5.out n6);have HO6:=hid (OR.below HO5b.out n6);have HL6:=hid (show Bd w6 w.heap.size (some ⟨w5.heap.size,0,none⟩) 1 [⟨A5,c5,lO m.v s⟩] from ⟨own_one p6 HBW5.out.size rfl,fun k hk=>by rw [List.mem_singleton.1 hk];exact HO6.out⟩);generalize w5.heap.size=g6 at *
 clear n6 p6 HK15 HK25 HBW5 HO5b;have r3:=CX HK26.out 3 (.slice r.C r.r.vis.length r.cc) rfl;obtain ⟨vs,hvs⟩:∃ vs,vs=r.r.vis:=⟨_,rfl⟩
 rw [<- hvs] at HV hvl r3 HRNG HSV hv8;have HVS:=hid hvs;clear hvs;go_wp2_with fail;clear r3
 go_loopw [9,10,39] (fun l o j wr=>∃ (k:Nat) (A AO:Option Addr) (c cO n:Nat) (ms:List Lo),k<=vs.length/\j=.int .i64 k/\l=.slice A n c/\o=.slice AO (k+1) cO/\ms.length=k+1/\n=(loadAt m.v s (vs.take k)).length/\Ao wr w.heap.size A c (loadAt m.v s (vs.take k))/\Bd wr w.heap.size AO cO ms/\ms.map (·.l)=lP m.v s vs (k+1)/\wr.heap[h1]? = some (.cells (iQ m) 30)/\Below w.heap.size w wr) (fun _ _ j _=>vs.length - (intOf j).toNat)
 case atStart=>exact ⟨0,A5,_,c5,1,_,[⟨A5,c5,lO m.v s⟩],Nat.zero_le _,rfl,rfl,rfl,rfl,rfl,HO6.out,HL6.out,rfl,HK16.out,HBW6.out⟩
 case round =>
  clear HO6 HL6 HK16 HBW6 HK26;obtain ⟨k,A,AO,c,cO,n,ms,hk,rfl,rfl,rfl,hml2,hn,hown,hlo,hmap,hr1,hbel⟩:=hrel;have HOW:=hid hown;have HLO:=hid hlo;have HMAP:=hid hmap;have HML:=hid hml2;have HBR:=hid hbel;have HR1:=hid hr1;have HN:=hid hn;clear hown hbel hr1 hn hlo hmap hml2;by_cases hlt:k<vs.length
  ·have hlt1:(k:Int)<(vs.length:Int):=by omega
   obtain ⟨g1,o1,hA1,hg1,hx1⟩:=eP vC (by decide) (HV.out.below HBR.out) (by omega);have x0:=hx1 k hlt 0 _ rfl;have x1:=hx1 k hlt 1 _ rfl;rw [Nat.add_zero] at x0;have hu:=HRNG.out _ (List.getElem_mem hlt);have HSN:=hid (lC m.v s (vs.take k) vs[k]);rw [<- Ts hlt] at HSN
   have HOKL:=hid (Co HOK.out (s:=s) (by rw [HLR.out];exact HMS.out) (vs.take k) fun v hv=>by rw [HLR.out];exact HRNG.out v (List.mem_of_mem_take hv));rw [List.length_take,Nat.min_eq_left (by omega)] at HOKL;have HSNP:=hid (loadsP_snoc m.v s vs (k+1));rw [hA1];clear hx1 hA1;obtain ⟨u,hu'⟩:∃ u,u=vs[k]:=⟨_,rfl⟩
   rw [<- hu'] at x0 x1 HSN hu;clear hu';obtain ⟨u0,u1⟩:=u;simp only at x0 x1 hu HSN;obtain ⟨o,rfl⟩:∃ o:Nat,u0=(o:Int):=⟨u0.toNat,by omega⟩
   have ho:o<m.ords.length:=by omega
   have ho1:(o:Int)<(m.ords.length:Int):=by omega
   obtain ⟨n5,p5⟩:=Na wr (.cells #[.int .i64 (o:Int),.bool u1] 92);go_upto_region 12 with fail;generalize hw5:wr.alloc (.cells #[.int .i64 (o:Int),.bool u1] 92)=w7 at *;clear hw5;have HB7:=hid (bL HBR.out n5);have HR17:=hid (rK HR1.out n5);have HOW7:=hid (OR.below HOW.out n5);have HLO7:=hid (HLO.out.below n5);have y0:=CX p5 0 (.int .i64 (o:Int)) rfl
   have y1:=CX p5 1 (.bool u1) rfl;clear n5 p5 x0 x1 HBR HR1 HOW HLO;obtain ⟨go,oo,hO1,hgo,hoc⟩:=eP OM.cells_len (by decide) (HM.out w7 HB7.out).ords (by omega);have HLE:=hid (Ln ho);have HLK:=hid (lk HOK.out (i:=(o:Int)) (by omega) (by rw [oL];omega));have HOE:=hid ((HM.out w7 HB7.out).ordE _ (List.getElem_mem ho));have z1:=hoc o ho 1 _ rfl
   generalize m.ords[o]=om at *;have y3:=CX HR17.out 3 (.slice m.oA m.ords.length m.oc) rfl;rw [hO1] at y3;rw [HLE.out] at HLK;clear hoc hO1 hu;obtain ⟨l,hl⟩:∃ l,l=loadAt m.v s (vs.take k):=⟨_,rfl⟩
   rw [<- hl] at HSN HOW7 HN HOKL;clear hl;obtain rfl:=HN.out
   cases u1 with
   |false =>
    have HS2:=hid (show loadAt m.v s (vs.take (k+1))=aD l om.o.load by rw [HSN.out];unfold Ap;rw [HLE.out];rfl);have HAD:=hid (Cf l om.o.load A om.A c om.ca w7 (OR.cells HOW7.out) HOE.out.load (OR.cap HOW7.out) HOE.out.ll (HOKL.out.len.trans HLK.out.len.symm) (by rw [HOKL.out.len];exact df HOK.out) (HOKL.out.bnd.mono (by omega)) (HLK.out.bnd.mono (by omega)))
    clear HSN HLE;go_wp2_with fail;refine HAD.out.mono ?_;rintro e w8 ⟨A2,c2,rfl,ho2,hb8⟩;have HO2:=hid (ho2.mono HB7.out.size);have HB8:=hid (bL HB7.out hb8);have HR18:=hid (rK HR17.out hb8);have HLO8:=hid (HLO7.out.below hb8);clear ho2 hb8 HAD z1 y0 y1 y3 HB7 HR17 HOW7 HLO7;rw [<- HS2.out] at HO2;rw [<- HS2.out]
    obtain ⟨l2,hl2⟩:∃ l2,l2=loadAt m.v s (vs.take (k+1)):=⟨_,rfl⟩
    rw [<- hl2] at HO2 HSNP;rw [<- hl2];have HL2:=hid hl2;have hml3:ms.length<=1000000:=by rw [HML.out];omega
    clear hl2;go_wp2_with (at_builtin;refine wp_lod el_lod rfl _ _ rfl rfl rfl rfl w.heap.size AO (k+1) cO ms HML.out.symm w8 ⟨A2,c2,l2⟩ rfl HLO8.out HO2.out rfl hml3 HB8.out.size ?_;intro A9 c9 w9 hlo9 hb9 hkp9)
    go_roundw
    case rel=>exact ⟨k+1,A2,A9,c2,c9,_,ms ++ [⟨A2,c2,l2⟩],by omega,by go_num,rfl,rfl,by rw [List.length_append,HML.out];rfl,by rw [<- HL2.out],by rw [<- HL2.out];exact OR.keptA HO2.out hkp9 HLO8.out.row Il,hlo9,by rw [List.map_append,HMAP.out,HSNP.out];rfl,hkp9.row HR18.out (HLO8.out.row.far HR18.out (by decide)),HB8.out.trans hb9⟩
    case measure=>simp [intOf];omega
   |true =>
    have HS2:=hid (show loadAt m.v s (vs.take (k+1))=Cy l om.o.load by rw [HSN.out];unfold Ap;rw [HLE.out];rfl);have HAD:=hid (lsub_any l om.o.load A om.A c om.ca w7 (OR.cells HOW7.out) HOE.out.load (OR.cap HOW7.out) HOE.out.ll (HOKL.out.len.trans HLK.out.len.symm) (by rw [HOKL.out.len];exact df HOK.out) (HOKL.out.bnd.mono (by omega)) (HLK.out.bnd.mono (by omega)))
    clear HSN HLE;go_wp2_with fail;refine HAD.out.mono ?_;rintro e w8 ⟨A2,c2,rfl,ho2,hb8⟩;have HO2:=hid (ho2.mono HB7.out.size);have HB8:=hid (bL HB7.out hb8);have HR18:=hid (rK HR17.out hb8);have HLO8:=hid (HLO7.out.below hb8);clear ho2 hb8 HAD z1 y0 y1 y3 HB7 HR17 HOW7 HLO7;rw [<- HS2.out] at HO2;rw [<- HS2.out]
    obtain ⟨l2,hl2⟩:∃ l2,l2=loadAt m.v s (vs.take (k+1)):=⟨_,rfl⟩
    rw [<- hl2] at HO2 HSNP;rw [<- hl2];have HL2:=hid hl2;have hml3:ms.length<=1000000:=by rw [HML.out];omega
    clear hl2;go_wp2_with (at_builtin;refine wp_lod el_lod rfl _ _ rfl rfl rfl rfl w.heap.size AO (k+1) cO ms HML.out.symm w8 ⟨A2,c2,l2⟩ rfl HLO8.out HO2.out rfl hml3 HB8.out.size ?_;intro A9 c9 w9 hlo9 hb9 hkp9)
    go_roundw
    case rel=>exact ⟨k+1,A2,A9,c2,c9,_,ms ++ [⟨A2,c2,l2⟩],by omega,by go_num,rfl,rfl,by rw [List.length_append,HML.out];rfl,by rw [<- HL2.out],by rw [<- HL2.out];exact OR.keptA HO2.out hkp9 HLO8.out.row Il,hlo9,by rw [List.map_append,HMAP.out,HSNP.out];rfl,hkp9.row HR18.out (HLO8.out.row.far HR18.out (by decide)),HB8.out.trans hb9⟩
    case measure=>simp [intOf];omega
  ·have hlt1:¬ (k:Int)<(vs.length:Int):=by omega
   have hke:k=vs.length:=by omega
   have HE:=hid (show ms.map (·.l)=lP m.v (sV r.r.vis) r.r.vis (r.r.vis.length+1) by rw [HMAP.out,<- HVS.out,<- HSV.out,hke]);clear hke;go_wp2_with fail;go_ret2;exact ⟨AO,cO,ms,by rw [HML.out];rfl,HLO.out,HE.out,HBR.out⟩
def BL (cap:List Int) (l:List Int):Bool:=!fL l cap
theorem cfits1_any (m:IM) (r:RM) (k:Lo) (g1 g2:Nat) (w:World) (hm:IA w m) (hok:IK m.v) (hk0:0<=r.r.kind) (hkl:r.r.kind.toNat<m.types.length) (hk:Cs w k.A (ints k.l)) (hkc:k.l.length<=k.c/\k.c<=maxLen) (hkd:k.l.length=dV m.v)
  (hg1:w.heap[g1]? = some (.cells (iQ m) 30)) (hg2:w.heap[g2]? = some (.cells (rR r) 34)) :
  Calls Tryz.prog 66 #[k.val,.pointer (some ⟨g1,0,none⟩),.pointer (some ⟨g2,0,none⟩)] w fun e w'=>e=.returned (.bool (BL m.types[r.r.kind.toNat].t.cap k.l))/\Below w.heap.size w w':=by
 have htl:=hm.tl;unfold maxLen at htl;have hkl2:r.r.kind<(m.types.length:Int):=by omega
 obtain ⟨gt,ot,hA1,hgt,hx1⟩:=eP Ty.cells_len (by decide) hm.types (by omega);have HTE:=hid (hm.typeE _ (List.getElem_mem hkl));have HTX:=hid (hok.typesX _ (Ti (List.getElem_mem hkl)));have x4:=hx1 r.r.kind.toNat hkl 4 _ rfl;generalize m.types[r.r.kind.toNat]=t at *;have y2:=CX hg1 2 (.slice m.tA m.types.length m.tc) rfl;have y0:=CX hg2 0 (.int .i64 r.r.kind) rfl
 rw [hA1] at y2;have HF:=hid (Ly k.l t.t.cap k.A t.A k.c t.ca w hk HTE.out.cap hkc HTE.out.cl (by rw [hkd];have:=HTX.out.cap;omega));have HV:=hid (show BL t.t.cap k.l=!fL k.l t.t.cap from rfl);clear hm hok hk hkc hkd hg1 hg2 hx1 hA1 HTE HTX;obtain ⟨kA,kc,kl⟩:=k;simp only [Lo.val] at *;go_enter Tryz.func66,Tryz.ntmps66;(try simp only [Bm]);go_wp2_with fail
 refine HF.out.mono ?_;rintro e w1 ⟨rfl,hw⟩;obtain rfl:=hw.symm;clear HF;go_wp2_with fail;go_ret;exact ⟨rb HV.out.symm,Below.refl _ _⟩
theorem cfits_idx (m:IM) (r:RM) (ms:List Lo) (A:Option Addr) (c:Nat) (g1 g2:Nat) (w:World) (hm:IA w m) (hok:IK m.v) (hk0:0<=r.r.kind) (hkl:r.r.kind.toNat<m.types.length) (hc:Cs w A (ms.flatMap loadC)) (hn:ms.length<=c/\c<=maxLen)
  (he:∀ k ∈ ms,Cs w k.A (ints k.l)/\(k.l.length<=k.c/\k.c<=maxLen)/\k.l.length=dV m.v)
  (hg1:w.heap[g1]? = some (.cells (iQ m) 30)) (hg2:w.heap[g2]? = some (.cells (rR r) 34)) :
  Calls Tryz.prog 122 #[.slice A ms.length c,.func (Fn.func 66) #[] #[.pointer (some ⟨g1,0,none⟩),.pointer (some ⟨g2,0,none⟩)]] w fun e w'=>e=.returned (.int .i64 (IZ (fun k=>BL m.types[r.r.kind.toNat].t.cap k.l) ms))/\Below w.heap.size w w':=by
 unfold maxLen at hn;have HC:=hid hc
 have HF:=hid (show ∀ k ∈ ms,∀ w',Below w.heap.size w w'->Calls Tryz.prog 66 #[k.val,.pointer (some ⟨g1,0,none⟩),.pointer (some ⟨g2,0,none⟩)] w' (fun e w2=>e=.returned (.bool (BL m.types[r.r.kind.toNat].t.cap k.l))/\Below w'.heap.size w' w2) from fun k hk w' hb=>cfits1_any m r k g1 g2 w' (hm.below hb) hok hk0 hkl ((he k hk).1.below hb) (he k hk).2.1 (he k hk).2.2 (rK hg1 hb) (rK hg2 hb))
 obtain ⟨cap,hcap⟩:∃ cap,cap=m.types[r.r.kind.toNat].t.cap:=⟨_,rfl⟩
 rw [<- hcap] at HF;rw [<- hcap];clear hc hm hok he hg1 hg2 hcap hk0 hkl;go_enter Tryz.func122,Tryz.ntmps122;go_wp2_with fail;go_loopw [4,5,8] (fun _ _ j wr=>∃ k:Nat,k<=ms.length/\j=.int .i64 k/\(∀ i (h:i<ms.length),i<k->BL cap ms[i].l=false)/\Below w.heap.size w wr) (fun _ _ j _=>ms.length - (intOf j).toNat)
 case atStart=>exact ⟨0,Nat.zero_le _,rfl,fun i _ h=>absurd h (Nat.not_lt_zero _),Below.refl _ _⟩
 case round =>
  obtain ⟨k,hk,rfl,hno,hbel⟩:=hrel;have HB:=hid hbel;have HNO:=hid hno;clear hbel hno;by_cases hlt:k<ms.length
  ·have hlt1:(k:Int)<(ms.length:Int):=by omega
   obtain ⟨ga,oa,hA1,hga,hx1⟩:=eP loadC_len (by decide) HC.out (by omega);have x0:=(HB.out.cell (p:=⟨ga,oa+k*1+0,none⟩) hga).trans (hx1 k hlt 0 _ rfl);rw [Nat.mul_one,Nat.add_zero] at x0;rw [hA1];have HFK:=hid (HF.out _ (List.getElem_mem hlt) wr HB.out);have HYES:=hid (fun h=>It (p:=fun k=>BL cap k.l) hlt HNO.out h)
   have HNEXT:=hid (show BL cap ms[k].l=false->∀ i (h:i<ms.length),i<k+1->BL cap ms[i].l=false from fun h i hi hik=>by
    by_cases e:i=k
    ·subst e;exact h
    ·exact HNO.out i hi (by omega))
   obtain ⟨u,hu⟩:∃ u,u=ms[k]:=⟨_,rfl⟩
   rw [<- hu] at x0 HFK HYES HNEXT;clear hx1 hA1 hu;obtain ⟨uA,uc,ul⟩:=u;simp only [Lo.val] at x0 HFK HYES HNEXT;go_wp2_with fail;refine HFK.out.mono ?_;rintro e w3 ⟨rfl,hb3⟩;have HB3:=hid (bL HB.out hb3);clear hb3 HFK x0
   cases hp:BL cap ul with
   |true =>
    have HR:=hid (HYES.out hp);clear hp HYES HNEXT;go_wp2_with fail;go_ret;exact ⟨ri HR.out.symm,HB3.out⟩
   |false =>
    have HR:=hid (HNEXT.out hp);clear hp HYES HNEXT;go_wp2_with fail;go_roundw
    case rel=>exact ⟨k+1,by omega,by go_num,HR.out,HB3.out⟩
    case measure=>simp [intOf];omega
  ·have hlt1:¬ (k:Int)<(ms.length:Int):=by omega
   have HR:=hid (io (p:=fun k=>BL cap k.l) (l:=ms) fun j hj=>HNO.out j hj (by omega));go_wp2_with fail;go_ret;exact ⟨ri HR.out.symm,HB.out⟩
theorem cfits_cont (m:IM) (r:RM) (ms:List Lo) (A:Option Addr) (c:Nat) (g1 g2:Nat) (w:World) (hm:IA w m) (hok:IK m.v) (hk0:0<=r.r.kind) (hkl:r.r.kind.toNat<m.types.length) (hc:Cs w A (ms.flatMap loadC)) (hn:ms.length<=c/\c<=maxLen)
  (he:∀ k ∈ ms,Cs w k.A (ints k.l)/\(k.l.length<=k.c/\k.c<=maxLen)/\k.l.length=dV m.v)
  (hg1:w.heap[g1]? = some (.cells (iQ m) 30)) (hg2:w.heap[g2]? = some (.cells (rR r) 34)) :
  Calls Tryz.prog 65 #[.slice A ms.length c,.func (Fn.func 66) #[] #[.pointer (some ⟨g1,0,none⟩),.pointer (some ⟨g2,0,none⟩)]] w fun e w'=>e=.returned (.bool (ms.any fun k=>BL m.types[r.r.kind.toNat].t.cap k.l))/\Below w.heap.size w w':=by
 have H:=hid (cfits_idx m r ms A c g1 g2 w hm hok hk0 hkl hc hn he hg1 hg2);have HZ:=hid (Iy (fun k:Lo=>BL m.types[r.r.kind.toNat].t.cap k.l) ms);have hzb:=iZ (fun k:Lo=>BL m.types[r.r.kind.toNat].t.cap k.l) ms;clear hc hn hm hok he hg1 hg2;go_enter Tryz.func65,Tryz.ntmps65;go_wp2_with fail;refine H.out.mono ?_;rintro e w1 ⟨rfl,hb⟩;have HB:=hid hb;clear hb H
 generalize IZ (fun k:Lo=>BL m.types[r.r.kind.toNat].t.cap k.l) ms=z at *;go_wp2_with fail;go_ret;exact ⟨rb HZ.out,HB.out⟩
def cB (x:IV) (t:TV) (vs:List (Int × Bool)):Bool:=(lP x (sV vs) vs (vs.length+1)).all fun l=>fL l t.cap
def CE (x:IV) (t:TV) (vs:List (Int × Bool)) (w:World) (e:Ending) (w':World):Prop:=∃ k:Int,e=.returned (.int .i64 k)/\(k=0↔cB x t vs=true)/\Below w.heap.size w w'
theorem CE.no {x:IV} {t:TV} {vs:List (Int × Bool)} {w w':World} (h:cB x t vs=false) (hb:Below w.heap.size w w'):CE x t vs w (.returned (.int .i64 17)) w':=⟨17,rfl,⟨fun h2=>absurd h2 (by decide),fun h2=>by rw [h] at h2;cases h2⟩,hb⟩
theorem CE.yes {x:IV} {t:TV} {vs:List (Int × Bool)} {w w':World} (h:cB x t vs=true) (hb:Below w.heap.size w w'):CE x t vs w (.returned (.int .i64 0)) w':=⟨0,rfl,⟨fun _=>h,fun _=>rfl⟩,hb⟩
theorem carryB_of {x:IV} {t:TV} {vs:List (Int × Bool)} {ms:List Lo} (h:ms.map (·.l)=lP x (sV vs) vs (vs.length+1)):cB x t vs=!(ms.any fun k=>BL t.cap k.l):=by
 unfold cB;rw [<- h,List.all_map,List.not_any_eq_all_not];unfold BL;simp only [Bool.not_not];rfl
theorem loadsP_dims {x:IV} (hok:IK x) {vs:List (Int × Bool)} (h:∀ v ∈ vs,0<=v.1/\v.1<(x.ords.length:Int)):∀ l ∈ lP x (sV vs) vs (vs.length+1),l.length=dV x:=by
 intro l hl;unfold lP at hl;obtain ⟨i,_,rfl⟩:=List.mem_map.1 hl;exact (Co hok (mem_setV (n:=x.ords.length) hok.no h) (vs.take i) fun v hv=>h v (List.mem_of_mem_take hv)).len
theorem cfits_any (m:IM) (r:RM) (w:World) (hm:IA w m) (hok:IK m.v) (hml:m.ords.length<=3) (hr:Rt w r) (hv8:r.r.vis.length<=8) (hse:sE m.v r.r.vis=0) (hk0:0<=r.r.kind) (hkl:r.r.kind.toNat<m.types.length) :
  Calls Tryz.prog 21 #[iA m,ro r] w (CE m.v m.types[r.r.kind.toNat].t r.r.vis w):=by
 obtain ⟨k1,k2,k3⟩:=aL w (.cells (iQ m) 30) (.cells (rR r) 34);have HB:=hid k3;have HK1:=hid k1;have HK2:=hid k2;have hkl2:r.r.kind<(m.types.length:Int):=by omega
 have htl:=hm.tl;have HCL:=hid (cloads_any m r _ (hm.below k3) hok hml (hr.below k3) hv8 hse);have HCC:=hid (fun ms A c g1 g2 w' (hb:Below w.heap.size w w')=>cfits_cont m r ms A c g1 g2 w' (hm.below hb) hok hk0 hkl);have HDM:=hid (loadsP_dims hok (vs:=r.r.vis) (sG hse));unfold maxLen at htl;clear hm hr k1 k2 k3 hok hse;go_enter Tryz.func21,Tryz.ntmps21;(try simp only [Bm])
 go_upto_region 1 with fail;rw [iq,rq];generalize (w.alloc (.cells (iQ m) 30)).alloc (.cells (rR r) 34)=wa at *;obtain ⟨h1,hh1⟩:∃ h1,h1=w.heap.size:=⟨_,rfl⟩
 obtain ⟨h2,hh2⟩:∃ h2,h2=w.heap.size+1:=⟨_,rfl⟩
 rw [<- hh2] at HK2;rw [<- hh1] at HK1;rw [<- hh2,<- hh1];clear hh1 hh2;have q2:=CX HK1.out 2 (.slice m.tA m.types.length m.tc) rfl;have q0:=CX HK2.out 0 (.int .i64 r.r.kind) rfl;have t1:¬ r.r.kind<0:=by omega
 have t2:¬ (m.types.length:Int)<=r.r.kind:=by omega
 go_wp2_with (first | (refine lr HK1.out Tryz.underlying30 ?_) | (refine lr HK2.out Tryz.underlying34 ?_))
 refine HCL.out.mono ?_;rintro e w1 ⟨A1,c1,ms,rfl,hlo,hmap,hb1⟩;have HB1:=hid (bL HB.out hb1);have HK11:=hid (rK HK1.out hb1);have HK21:=hid (rK HK2.out hb1)
 have HCO:=hid (HCC.out ms A1 c1 h1 h2 w1 HB1.out (OR.cells hlo.row) (OR.cap hlo.row) (fun k hk=>⟨OR.cells (hlo.each k hk),OR.cap (hlo.each k hk),HDM.out _ (by rw [<- hmap];exact List.mem_map.2 ⟨k,hk,rfl⟩)⟩) HK11.out HK21.out);have HCB:=hid (carryB_of (t:=m.types[r.r.kind.toNat].t) hmap);clear hlo hmap hb1 HCL HB HK1 HK2 q2 q0 HCC HDM
 generalize (ms.any fun k=>BL m.types[r.r.kind.toNat].t.cap k.l)=b at *;go_wp2_with fail;refine HCO.out.mono ?_;rintro e w2 ⟨rfl,hb2⟩;have HB2:=hid (bL HB1.out hb2);clear hb2 HCO
 cases b with
 |true =>
  go_wp2_with fail;go_ret;exact CE.no HCB.out HB2.out
 |false =>
  go_wp2_with fail;go_ret;exact CE.yes HCB.out HB2.out
def fB (a b:Int):Bool:=a != -1 && a != b
theorem Fa (a b:Int) (w:World):Calls Tryz.prog 70 #[.int .i64 a,.int .i64 b] w fun e w'=>e=.returned (.bool (fB a b))/\w'=w:=by
 have HV:=hid (show fB a b=(a != -1 && a != b) from rfl);go_enter Tryz.func70,Tryz.ntmps70;(try simp only [Bm]);by_cases h1:a = -1
 ·have hb:=iB h1
  have hq:(a != -1)=false:=by simp [h1]
  rw [hq] at HV;clear h1;go_wp2_with fail;go_ret;exact ⟨rb HV.out.symm,rfl⟩
 ·have hb:=ib h1
  have hq:(a != -1)=true:=by simpa using h1
  rw [hq] at HV;clear h1;go_wp2_with fail;go_ret;exact ⟨rb HV.out.symm,rfl⟩
end Go.Proofs.YtjcekdiocliddaaGreatDoor
