/- An instance that came in, as the walk wants it. (Printed by wip/mktko.py.) -/
import Derived.Test.YtjcekdiocliddaaGreatDoorG66
import Derived.Test.YtjcekdiocliddaaGreatDoorG55
import Derived.OpenShut
namespace Go.Proofs.YtjcekdiocliddaaGreatDoor
open Go.ChangeShapes Go.WideShapes Go.RowKit Num Txt Pf Tk
set_option linter.unusedVariables false
section
variable {H:Type} {enc:TypeId × Value->H} {W:World} {P:Program}
theorem B_data (s:ByteArray):s=B s.data.toList:=by cases s;rfl
theorem open_str1 {t:TypeId} (ht:P.underlying t=some .string) {fuel:Nat} {cs:List Value} {x:DataW H × List MemPlace} (hf:DataW.trod enc P W 0 (fun _=>true) true fuel t cs=some x):∃ l:Sr,cs=[.string (B l)]/\l.length<=maxLen:=by
 obtain ⟨s,h1,_,h2⟩:=DataW.trod_string ht hf;refine ⟨s.data.toList,by rw [h1,<- B_data],?_⟩;rw [Array.length_toList];exact h2
structure Is (P:Program) (tI tB tS tIs tSs tPt tPts tA tAs tT tTs tSt tO tOs tPr tPrs tN tX:TypeId):Prop where
 i:P.underlying tI=some (.int .i64)
 b:P.underlying tB=some .bool
 s:P.underlying tS=some .string
 is:P.underlying tIs=some (.slice tI)
 ss:P.underlying tSs=some (.slice tS)
 pts:P.underlying tPts=some (.slice tPt)
 arcs_:P.underlying tAs=some (.slice tA)
 ts:P.underlying tTs=some (.slice tT)
 os_:P.underlying tOs=some (.slice tO)
 prs:P.underlying tPrs=some (.slice tPr)
 pr:P.underlying tPr=some (.array 2 tI)
 pt:∃ f0 f1:Field,P.underlying tPt=some (.struct #[f0,f1])/\(f0.type=tI/\f0.offset=0)/\(f1.type=tI/\f1.offset=1)
 a:∃ f0 f1 f2 f3 f4 f5:Field,P.underlying tA=some (.struct #[f0,f1,f2,f3,f4,f5])/\(f0.type=tI/\f0.offset=0)/\(f1.type=tI/\f1.offset=1)/\(f2.type=tI/\f2.offset=2)/\(f3.type=tI/\f3.offset=3)/\(f4.type=tPts/\f4.offset=4)/\(f5.type=tPts/\f5.offset=5)
 t:∃ f0 f1 f2 f3 f4 f5 f6 f7 f8 f9 f10 f11 f12 f13:Field,P.underlying tT=some (.struct #[f0,f1,f2,f3,f4,f5,f6,f7,f8,f9,f10,f11,f12,f13])/\(f0.type=tS/\f0.offset=0)/\(f1.type=tI/\f1.offset=1)/\(f2.type=tI/\f2.offset=2)/\(f3.type=tI/\f3.offset=3)/\(f4.type=tIs/\f4.offset=4)/\(f5.type=tI/\f5.offset=5)/\(f6.type=tI/\f6.offset=6)/\(f7.type=tI/\f7.offset=7)/\(f8.type=tI/\f8.offset=8)/\(f9.type=tI/\f9.offset=9)/\(f10.type=tI/\f10.offset=10)/\(f11.type=tI/\f11.offset=11)/\(f12.type=tI/\f12.offset=12)/\(f13.type=tI/\f13.offset=13)
 st:∃ f0 f1 f2 f3:Field,P.underlying tSt=some (.struct #[f0,f1,f2,f3])/\(f0.type=tI/\f0.offset=0)/\(f1.type=tI/\f1.offset=1)/\(f2.type=tI/\f2.offset=2)/\(f3.type=tI/\f3.offset=3)
 o:∃ f0 f1 f2 f3 f4 f5 f6 f7 f8 f9:Field,P.underlying tO=some (.struct #[f0,f1,f2,f3,f4,f5,f6,f7,f8,f9])/\(f0.type=tS/\f0.offset=0)/\(f1.type=tIs/\f1.offset=1)/\(f2.type=tSt/\f2.offset=2)/\(f3.type=tSt/\f3.offset=6)/\(f4.type=tI/\f4.offset=10)/\(f5.type=tI/\f5.offset=11)/\(f6.type=tI/\f6.offset=12)/\(f7.type=tI/\f7.offset=13)/\(f8.type=tI/\f8.offset=14)/\(f9.type=tB/\f9.offset=15)
 n:∃ f0 f1:Field,P.underlying tN=some (.struct #[f0,f1])/\(f0.type=tSs/\f0.offset=0)/\(f1.type=tAs/\f1.offset=1)
 x:∃ f0 f1 f2 f3 f4:Field,P.underlying tX=some (.struct #[f0,f1,f2,f3,f4])/\(f0.type=tN/\f0.offset=0)/\(f1.type=tTs/\f1.offset=2)/\(f2.type=tOs/\f2.offset=3)/\(f3.type=tPrs/\f3.offset=4)/\(f4.type=tPrs/\f4.offset=5)
 cells:P.cellsOf tI=1/\P.cellsOf tB=1/\P.cellsOf tS=1/\P.cellsOf tIs=1/\P.cellsOf tSs=1/\P.cellsOf tPts=1/\P.cellsOf tAs=1/\P.cellsOf tTs=1/\P.cellsOf tOs=1/\P.cellsOf tPrs=1/\P.cellsOf tPr=2/\P.cellsOf tPt=2/\P.cellsOf tA=6/\P.cellsOf tT=14/\P.cellsOf tSt=4/\P.cellsOf tO=16/\P.cellsOf tN=2/\P.cellsOf tX=6
section
variable {tI tB tS tIs tSs tPt tPts tA tAs tT tTs tSt tO tOs tPr tPrs tN tX:TypeId}
theorem Df (T:Is P tI tB tS tIs tSs tPt tPts tA tAs tT tTs tSt tO tOs tPr tPrs tN tX) {fuel:Nat} {cs:List Value} {x:DataW H × List MemPlace} (hf:DataW.trod enc P W 0 (fun _=>true) true fuel tPt cs=some x) :
  ∃ p:Int × Int,cs=PC p/\F2 p:=by
 obtain ⟨f0,f1,hr,t0,t1⟩:=T.pt;obtain ⟨c_tI,c_tB,c_tS,c_tIs,c_tSs,c_tPts,c_tAs,c_tTs,c_tOs,c_tPrs,c_tPr,c_tPt,c_tA,c_tT,c_tSt,c_tO,c_tN,c_tX⟩:=T.cells;obtain ⟨xs,n,_,rfl,hl,hlen,hg⟩:=DataW.trod_struct hr hf;rw [c_tPt] at hl
 match cs,hl with
 |[u0,u1],_ =>
  match xs,hlen with
  |[y0,y1],_ =>
   have q0:=hg 0 f0 rfl;have q1:=hg 1 f1 rfl;rw [t0.1,t0.2,c_tI] at q0;rw [t1.1,t1.2,c_tI] at q1;simp only [List.drop_zero,List.take_succ_cons,List.take_zero,List.drop_succ_cons,List.getElem?_cons_zero,List.getElem?_cons_succ] at q0 q1;obtain ⟨a0,e0,_,w0⟩:=DataW.trod_int T.i q0;injection e0 with e0 _
   obtain ⟨a1,e1,_,w1⟩:=DataW.trod_int T.i q1;injection e1 with e1 _
   exact ⟨(a0,a1),by rw [e0,e1];rfl,Wf w0,Wf w1⟩
theorem open_pair (T:Is P tI tB tS tIs tSs tPt tPts tA tAs tT tTs tSt tO tOs tPr tPrs tN tX) {fuel:Nat} {cs:List Value} {x:DataW H × List MemPlace} (hf:DataW.trod enc P W 0 (fun _=>true) true fuel tPr cs=some x) :
  ∃ p:Int × Int,cs=PC p/\F2 p:=by
 obtain ⟨c_tI,c_tB,c_tS,c_tIs,c_tSs,c_tPts,c_tAs,c_tTs,c_tOs,c_tPrs,c_tPr,c_tPt,c_tA,c_tT,c_tSt,c_tO,c_tN,c_tX⟩:=T.cells;obtain ⟨xs,n,_,rfl,hl,hlen,hg⟩:=DataW.trod_array T.pr hf;rw [c_tPr] at hl
 match cs,hl with
 |[u0,u1],_ =>
  match xs,hlen with
  |[y0,y1],_ =>
   have q0:=hg 0 (by decide);have q1:=hg 1 (by decide);rw [c_tI] at q0 q1;simp only [Nat.zero_mul,Nat.one_mul,List.drop_zero,List.take_succ_cons,List.take_zero,List.drop_succ_cons,List.getElem?_cons_zero,List.getElem?_cons_succ] at q0 q1;obtain ⟨a0,e0,_,w0⟩:=DataW.trod_int T.i q0;injection e0 with e0 _
   obtain ⟨a1,e1,_,w1⟩:=DataW.trod_int T.i q1;injection e1 with e1 _
   exact ⟨(a0,a1),by rw [e0,e1];rfl,Wf w0,Wf w1⟩
theorem open_arc (T:Is P tI tB tS tIs tSs tPt tPts tA tAs tT tTs tSt tO tOs tPr tPrs tN tX) {fuel:Nat} {cs:List Value} {x:DataW H × List MemPlace} (hf:DataW.trod enc P W 0 (fun _=>true) true fuel tA cs=some x) :
  ∃ m:AM,cs=m.cells/\AR W m:=by
 obtain ⟨f0,f1,f2,f3,f4,f5,hr,t0,t1,t2,t3,t4,t5⟩:=T.a;obtain ⟨c_tI,c_tB,c_tS,c_tIs,c_tSs,c_tPts,c_tAs,c_tTs,c_tOs,c_tPrs,c_tPr,c_tPt,c_tA,c_tT,c_tSt,c_tO,c_tN,c_tX⟩:=T.cells;obtain ⟨xs,n,_,rfl,hl,hlen,hg⟩:=DataW.trod_struct hr hf;rw [c_tA] at hl
 match cs,hl with
 |[u0,u1,u2,u3,u4,u5],_ =>
  match xs,hlen with
  |[y0,y1,y2,y3,y4,y5],_ =>
   have q0:=hg 0 f0 rfl;have q1:=hg 1 f1 rfl;have q2:=hg 2 f2 rfl;have q3:=hg 3 f3 rfl;have q4:=hg 4 f4 rfl;have q5:=hg 5 f5 rfl;rw [t0.1,t0.2,c_tI] at q0;rw [t1.1,t1.2,c_tI] at q1;rw [t2.1,t2.2,c_tI] at q2;rw [t3.1,t3.2,c_tI] at q3;rw [t4.1,t4.2,c_tPts] at q4;rw [t5.1,t5.2,c_tPts] at q5
   simp only [List.drop_zero,List.take_succ_cons,List.take_zero,List.drop_succ_cons,List.getElem?_cons_zero,List.getElem?_cons_succ] at q0 q1 q2 q3 q4 q5;obtain ⟨a0,e0,_,w0⟩:=DataW.trod_int T.i q0;injection e0 with e0 _
   obtain ⟨a1,e1,_,w1⟩:=DataW.trod_int T.i q1;injection e1 with e1 _
   obtain ⟨a2,e2,_,w2⟩:=DataW.trod_int T.i q2;injection e2 with e2 _
   obtain ⟨a3,e3,_,w3⟩:=DataW.trod_int T.i q3;injection e3 with e3 _
   obtain ⟨X,lX,cX,e4,nX,hX,gX⟩:=oF (f:=PC) (k:=2) pC (by decide) T.pts c_tPt F2 (fun h=>Df T h) q4;injection e4 with e4 _
   obtain ⟨Y,lY,cY,e5,nY,hY,gY⟩:=oF (f:=PC) (k:=2) pC (by decide) T.pts c_tPt F2 (fun h=>Df T h) q5;injection e5 with e5 _
   exact ⟨⟨X,cX,Y,cY,⟨a0,a1,a2,a3,lX,lY⟩⟩,by rw [e0,e1,e2,e3,e4,e5];rfl,⟨hX,hY,nX,nY,gX,gY,Wf w0,Wf w1,Wf w2,Wf w3⟩⟩
theorem open_type (T:Is P tI tB tS tIs tSs tPt tPts tA tAs tT tTs tSt tO tOs tPr tPrs tN tX) {fuel:Nat} {cs:List Value} {x:DataW H × List MemPlace} (hf:DataW.trod enc P W 0 (fun _=>true) true fuel tT cs=some x) :
  ∃ m:Ty,cs=m.cells/\TY W m:=by
 obtain ⟨f0,f1,f2,f3,f4,f5,f6,f7,f8,f9,f10,f11,f12,f13,hr,t0,t1,t2,t3,t4,t5,t6,t7,t8,t9,t10,t11,t12,t13⟩:=T.t;obtain ⟨c_tI,c_tB,c_tS,c_tIs,c_tSs,c_tPts,c_tAs,c_tTs,c_tOs,c_tPrs,c_tPr,c_tPt,c_tA,c_tT,c_tSt,c_tO,c_tN,c_tX⟩:=T.cells;obtain ⟨xs,n,_,rfl,hl,hlen,hg⟩:=DataW.trod_struct hr hf;rw [c_tT] at hl
 match cs,hl with
 |[u0,u1,u2,u3,u4,u5,u6,u7,u8,u9,u10,u11,u12,u13],_ =>
  match xs,hlen with
  |[y0,y1,y2,y3,y4,y5,y6,y7,y8,y9,y10,y11,y12,y13],_ =>
   have q0:=hg 0 f0 rfl;have q1:=hg 1 f1 rfl;have q2:=hg 2 f2 rfl;have q3:=hg 3 f3 rfl;have q4:=hg 4 f4 rfl;have q5:=hg 5 f5 rfl;have q6:=hg 6 f6 rfl;have q7:=hg 7 f7 rfl;have q8:=hg 8 f8 rfl;have q9:=hg 9 f9 rfl;have q10:=hg 10 f10 rfl;have q11:=hg 11 f11 rfl;have q12:=hg 12 f12 rfl;have q13:=hg 13 f13 rfl;rw [t0.1,t0.2,c_tS] at q0;rw [t1.1,t1.2,c_tI] at q1;rw [t2.1,t2.2,c_tI] at q2
   rw [t3.1,t3.2,c_tI] at q3;rw [t4.1,t4.2,c_tIs] at q4;rw [t5.1,t5.2,c_tI] at q5;rw [t6.1,t6.2,c_tI] at q6;rw [t7.1,t7.2,c_tI] at q7;rw [t8.1,t8.2,c_tI] at q8;rw [t9.1,t9.2,c_tI] at q9;rw [t10.1,t10.2,c_tI] at q10;rw [t11.1,t11.2,c_tI] at q11;rw [t12.1,t12.2,c_tI] at q12;rw [t13.1,t13.2,c_tI] at q13
   simp only [List.drop_zero,List.take_succ_cons,List.take_zero,List.drop_succ_cons,List.getElem?_cons_zero,List.getElem?_cons_succ] at q0 q1 q2 q3 q4 q5 q6 q7 q8 q9 q10 q11 q12 q13;obtain ⟨s0,e0,w0⟩:=open_str1 T.s q0;injection e0 with e0 _
   obtain ⟨a1,e1,_,w1⟩:=DataW.trod_int T.i q1;injection e1 with e1 _
   obtain ⟨a2,e2,_,w2⟩:=DataW.trod_int T.i q2;injection e2 with e2 _
   obtain ⟨a3,e3,_,w3⟩:=DataW.trod_int T.i q3;injection e3 with e3 _
   obtain ⟨X,lX,cX,e4,nX1,nX2,hX,gX⟩:=oI T.is T.i c_tI q4;injection e4 with e4 _
   obtain ⟨a5,e5,_,w5⟩:=DataW.trod_int T.i q5;injection e5 with e5 _
   obtain ⟨a6,e6,_,w6⟩:=DataW.trod_int T.i q6;injection e6 with e6 _
   obtain ⟨a7,e7,_,w7⟩:=DataW.trod_int T.i q7;injection e7 with e7 _
   obtain ⟨a8,e8,_,w8⟩:=DataW.trod_int T.i q8;injection e8 with e8 _
   obtain ⟨a9,e9,_,w9⟩:=DataW.trod_int T.i q9;injection e9 with e9 _
   obtain ⟨a10,e10,_,w10⟩:=DataW.trod_int T.i q10;injection e10 with e10 _
   obtain ⟨a11,e11,_,w11⟩:=DataW.trod_int T.i q11;injection e11 with e11 _
   obtain ⟨a12,e12,_,w12⟩:=DataW.trod_int T.i q12;injection e12 with e12 _
   obtain ⟨a13,e13,_,w13⟩:=DataW.trod_int T.i q13;injection e13 with e13 _
   exact ⟨⟨X,cX,⟨s0,a1,a2,a3,lX,a5,a6,a7,a8,a9,a10,a11,a12,a13⟩⟩,by rw [e0,e1,e2,e3,e4,e5,e6,e7,e8,e9,e10,e11,e12,e13];rfl,⟨hX,⟨nX1,nX2⟩,gX,⟨w0,Wf w1,Wf w2,Wf w3,Wf w5,Wf w6,Wf w7,Wf w8,Wf w9,Wf w10,Wf w11,Wf w12,Wf w13⟩⟩⟩
theorem open_stop (T:Is P tI tB tS tIs tSs tPt tPts tA tAs tT tTs tSt tO tOs tPr tPrs tN tX) {fuel:Nat} {cs:List Value} {x:DataW H × List MemPlace} (hf:DataW.trod enc P W 0 (fun _=>true) true fuel tSt cs=some x) :
  ∃ s:St,cs=Bw s/\StopF s:=by
 obtain ⟨f0,f1,f2,f3,hr,t0,t1,t2,t3⟩:=T.st;obtain ⟨c_tI,c_tB,c_tS,c_tIs,c_tSs,c_tPts,c_tAs,c_tTs,c_tOs,c_tPrs,c_tPr,c_tPt,c_tA,c_tT,c_tSt,c_tO,c_tN,c_tX⟩:=T.cells;obtain ⟨xs,n,_,rfl,hl,hlen,hg⟩:=DataW.trod_struct hr hf;rw [c_tSt] at hl
 match cs,hl with
 |[u0,u1,u2,u3],_ =>
  match xs,hlen with
  |[y0,y1,y2,y3],_ =>
   have q0:=hg 0 f0 rfl;have q1:=hg 1 f1 rfl;have q2:=hg 2 f2 rfl;have q3:=hg 3 f3 rfl;rw [t0.1,t0.2,c_tI] at q0;rw [t1.1,t1.2,c_tI] at q1;rw [t2.1,t2.2,c_tI] at q2;rw [t3.1,t3.2,c_tI] at q3;simp only [List.drop_zero,List.take_succ_cons,List.take_zero,List.drop_succ_cons,List.getElem?_cons_zero,List.getElem?_cons_succ] at q0 q1 q2 q3;obtain ⟨a0,e0,_,w0⟩:=DataW.trod_int T.i q0
   injection e0 with e0 _
   obtain ⟨a1,e1,_,w1⟩:=DataW.trod_int T.i q1;injection e1 with e1 _
   obtain ⟨a2,e2,_,w2⟩:=DataW.trod_int T.i q2;injection e2 with e2 _
   obtain ⟨a3,e3,_,w3⟩:=DataW.trod_int T.i q3;injection e3 with e3 _
   exact ⟨⟨a0,a1,a2,a3⟩,by rw [e0,e1,e2,e3];rfl,⟨Wf w0,Wf w1,Wf w2,Wf w3⟩⟩
theorem open_ord (T:Is P tI tB tS tIs tSs tPt tPts tA tAs tT tTs tSt tO tOs tPr tPrs tN tX) {fuel:Nat} {cs:List Value} {x:DataW H × List MemPlace} (hf:DataW.trod enc P W 0 (fun _=>true) true fuel tO cs=some x) :
  ∃ m:OM,cs=m.cells/\Ot W m:=by
 obtain ⟨f0,f1,f2,f3,f4,f5,f6,f7,f8,f9,hr,t0,t1,t2,t3,t4,t5,t6,t7,t8,t9⟩:=T.o;obtain ⟨c_tI,c_tB,c_tS,c_tIs,c_tSs,c_tPts,c_tAs,c_tTs,c_tOs,c_tPrs,c_tPr,c_tPt,c_tA,c_tT,c_tSt,c_tO,c_tN,c_tX⟩:=T.cells;obtain ⟨xs,n,_,rfl,hl,hlen,hg⟩:=DataW.trod_struct hr hf;rw [c_tO] at hl
 match cs,hl with
 |[u0,u1,u2,u3,u4,u5,u6,u7,u8,u9,u10,u11,u12,u13,u14,u15],_ =>
  match xs,hlen with
  |[y0,y1,y2,y3,y4,y5,y6,y7,y8,y9],_ =>
   have q0:=hg 0 f0 rfl;have q1:=hg 1 f1 rfl;have q2:=hg 2 f2 rfl;have q3:=hg 3 f3 rfl;have q4:=hg 4 f4 rfl;have q5:=hg 5 f5 rfl;have q6:=hg 6 f6 rfl;have q7:=hg 7 f7 rfl;have q8:=hg 8 f8 rfl;have q9:=hg 9 f9 rfl;rw [t0.1,t0.2,c_tS] at q0;rw [t1.1,t1.2,c_tIs] at q1;rw [t2.1,t2.2,c_tSt] at q2;rw [t3.1,t3.2,c_tSt] at q3;rw [t4.1,t4.2,c_tI] at q4;rw [t5.1,t5.2,c_tI] at q5;rw [t6.1,t6.2,c_tI] at q6
   rw [t7.1,t7.2,c_tI] at q7;rw [t8.1,t8.2,c_tI] at q8;rw [t9.1,t9.2,c_tB] at q9;simp only [List.drop_zero,List.take_succ_cons,List.take_zero,List.drop_succ_cons,List.getElem?_cons_zero,List.getElem?_cons_succ] at q0 q1 q2 q3 q4 q5 q6 q7 q8 q9;obtain ⟨s0,e0,w0⟩:=open_str1 T.s q0;injection e0 with e0 _
   obtain ⟨X,lX,cX,e1,nX1,nX2,hX,gX⟩:=oI T.is T.i c_tI q1;injection e1 with e1 _
   obtain ⟨sp,e2,w2⟩:=open_stop T q2;unfold Bw at e2;injection e2 with e2a e2
   injection e2 with e2b e2
   injection e2 with e2c e2
   injection e2 with e2d _
   obtain ⟨sd,e3,w3⟩:=open_stop T q3;unfold Bw at e3;injection e3 with e3a e3
   injection e3 with e3b e3
   injection e3 with e3c e3
   injection e3 with e3d _
   obtain ⟨a4,e4,_,w4⟩:=DataW.trod_int T.i q4;injection e4 with e4 _
   obtain ⟨a5,e5,_,w5⟩:=DataW.trod_int T.i q5;injection e5 with e5 _
   obtain ⟨a6,e6,_,w6⟩:=DataW.trod_int T.i q6;injection e6 with e6 _
   obtain ⟨a7,e7,_,w7⟩:=DataW.trod_int T.i q7;injection e7 with e7 _
   obtain ⟨a8,e8,_,w8⟩:=DataW.trod_int T.i q8;injection e8 with e8 _
   obtain ⟨b9,e9,_⟩:=DataW.trod_bool T.b q9;injection e9 with e9 _
   exact ⟨⟨X,cX,⟨s0,lX,sp,sd,a4,a5,a6,a7,a8,b9⟩⟩,by rw [e0,e1,e2a,e2b,e2c,e2d,e3a,e3b,e3c,e3d,e4,e5,e6,e7,e8,e9];rfl,⟨hX,⟨nX1,nX2⟩,gX,w0,w2,w3,Wf w4,Wf w5,Wf w6,Wf w7,Wf w8⟩⟩
theorem open_net (T:Is P tI tB tS tIs tSs tPt tPts tA tAs tT tTs tSt tO tOs tPr tPrs tN tX) {fuel:Nat} {cs:List Value} {x:DataW H × List MemPlace} (hf:DataW.trod enc P W 0 (fun _=>true) true fuel tN cs=some x) :
  ∃ (X:Option Addr) (lX:List Sr) (cX:Nat) (Y:Option Addr) (lY:List AM) (cY:Nat),cs=[.slice X lX.length cX,.slice Y lY.length cY]/\(lX.length<=cX/\cX<=maxLen)/\Cs W X (strs lX)/\(∀ s ∈ lX,s.length<=maxLen)/\(lY.length<=cY/\cY<=maxLen)/\Cs W Y (lY.flatMap AM.cells)/\∀ a ∈ lY,AR W a:=by
 obtain ⟨f0,f1,hr,t0,t1⟩:=T.n;obtain ⟨c_tI,c_tB,c_tS,c_tIs,c_tSs,c_tPts,c_tAs,c_tTs,c_tOs,c_tPrs,c_tPr,c_tPt,c_tA,c_tT,c_tSt,c_tO,c_tN,c_tX⟩:=T.cells;obtain ⟨xs,n,_,rfl,hl,hlen,hg⟩:=DataW.trod_struct hr hf;rw [c_tN] at hl
 match cs,hl with
 |[u0,u1],_ =>
  match xs,hlen with
  |[y0,y1],_ =>
   have q0:=hg 0 f0 rfl;have q1:=hg 1 f1 rfl;rw [t0.1,t0.2,c_tSs] at q0;rw [t1.1,t1.2,c_tAs] at q1;simp only [List.drop_zero,List.take_succ_cons,List.take_zero,List.drop_succ_cons,List.getElem?_cons_zero,List.getElem?_cons_succ] at q0 q1;obtain ⟨X,lX,cX,e0,nX,hX,gX⟩:=oP T.ss T.s c_tS q0;injection e0 with e0 _
   obtain ⟨Y,lY,cY,e1,nY,hY,gY⟩:=oF (f:=AM.cells) (k:=6) AM.cells_len (by decide) T.arcs_ c_tA (fun m=>AR W m) (fun h=>open_arc T h) q1;injection e1 with e1 _
   exact ⟨X,lX,cX,Y,lY,cY,by rw [e0,e1],nX,hX,gX,nY,hY,gY⟩
theorem open_ins0 (T:Is P tI tB tS tIs tSs tPt tPts tA tAs tT tTs tSt tO tOs tPr tPrs tN tX) {fuel:Nat} {cs:List Value} {x:DataW H × List MemPlace} (hf:DataW.trod enc P W 0 (fun _=>true) true fuel tX cs=some x) :
  ∃ m:IM,cs=[.slice m.pA m.places.length m.pc,.slice m.aA m.arcs.length m.ac,.slice m.tA m.types.length m.tc,.slice m.oA m.ords.length m.oc,.slice m.xA m.apart.length m.xc,.slice m.bA m.before.length m.bc]/\IA W m:=by
 obtain ⟨f0,f1,f2,f3,f4,hr,t0,t1,t2,t3,t4⟩:=T.x;obtain ⟨c_tI,c_tB,c_tS,c_tIs,c_tSs,c_tPts,c_tAs,c_tTs,c_tOs,c_tPrs,c_tPr,c_tPt,c_tA,c_tT,c_tSt,c_tO,c_tN,c_tX⟩:=T.cells;obtain ⟨xs,n,_,rfl,hl,hlen,hg⟩:=DataW.trod_struct hr hf;rw [c_tX] at hl
 match cs,hl with
 |[u0,u1,u2,u3,u4,u5],_ =>
  match xs,hlen with
  |[y0,y1,y2,y3,y4],_ =>
   have q0:=hg 0 f0 rfl;have q1:=hg 1 f1 rfl;have q2:=hg 2 f2 rfl;have q3:=hg 3 f3 rfl;have q4:=hg 4 f4 rfl;rw [t0.1,t0.2,c_tN] at q0;rw [t1.1,t1.2,c_tTs] at q1;rw [t2.1,t2.2,c_tOs] at q2;rw [t3.1,t3.2,c_tPrs] at q3;rw [t4.1,t4.2,c_tPrs] at q4;simp only [List.drop_zero,List.take_succ_cons,List.take_zero,List.drop_succ_cons,List.getElem?_cons_zero,List.getElem?_cons_succ] at q0 q1 q2 q3 q4
   obtain ⟨X,lX,cX,Y,lY,cY,e0,nX,hX,gX,nY,hY,gY⟩:=open_net T q0;injection e0 with e0a e0
   injection e0 with e0b _
   obtain ⟨U,lU,cU,e1,nU,hU,gU⟩:=oF (f:=Ty.cells) (k:=14) Ty.cells_len (by decide) T.ts c_tT (fun m=>TY W m) (fun h=>open_type T h) q1;injection e1 with e1 _
   obtain ⟨V,lV,cV,e2,nV,hV,gV⟩:=oF (f:=OM.cells) (k:=16) OM.cells_len (by decide) T.os_ c_tO (fun m=>Ot W m) (fun h=>open_ord T h) q2;injection e2 with e2 _
   obtain ⟨R,lR,cR,e3,nR,hR,gR⟩:=oF (f:=PC) (k:=2) pC (by decide) T.prs c_tPr F2 (fun h=>open_pair T h) q3;injection e3 with e3 _
   obtain ⟨Q,lQ,cQ,e4,nQ,hQ,gQ⟩:=oF (f:=PC) (k:=2) pC (by decide) T.prs c_tPr F2 (fun h=>open_pair T h) q4;injection e4 with e4 _
   exact ⟨⟨X,cX,lX,Y,cY,lY,U,cU,lU,V,cV,lV,R,cR,lR,Q,cQ,lQ⟩,by rw [e0a,e0b,e1,e2,e3,e4],⟨hX,hY,hU,hV,hR,hQ,gY,gU,gV,nX,nY,nU,nV,nR,nQ,gX,gR,gQ⟩⟩
end
end
set_option maxRecDepth 100000
section
variable {H:Type} {enc:TypeId × Value->H} {W:World} {P:Program}
structure BulkF (bk:DataW H->Nat):Prop where
 len:∀ es rest:List (DataW H),es.length<=bk (.slice es rest)
 el:∀ (es rest:List (DataW H)) (d:DataW H),d ∈ es->bk d<=bk (.slice es rest)
 part:∀ (ps:List (DataW H)) (d:DataW H),d ∈ ps->bk d<=bk (.agg ps)
variable {bk:DataW H->Nat} {N:Nat}
theorem oB (hbk:BulkF bk) {ρ:Type} {k:Nat} {f:ρ->List Value} (hf:∀ x,(f x).length=k) (hk:0<k) {t e:TypeId} (ht:P.underlying t=some (.slice e)) (hce:P.cellsOf e=k) (ok:ρ->Prop)
  (hel:∀ {fuel:Nat} {cs:List Value} {x:DataW H × List MemPlace},DataW.trod enc P W 0 (fun _=>true) true fuel e cs=some x->bk x.1<=N->∃ r,cs=f r/\ok r)
  {fuel:Nat} {cs:List Value} {x:DataW H × List MemPlace} (h:DataW.trod enc P W 0 (fun _=>true) true fuel t cs=some x) (hN:bk x.1<=N) :
  ∃ (A:Option Addr) (rs:List ρ) (c:Nat),cs=[.slice A rs.length c]/\(rs.length<=c/\c<=maxLen)/\Cs W A (rs.flatMap f)/\rs.length<=N/\∀ r ∈ rs,ok r:=by
 rcases DataW.trod_slice ht h with ⟨h1,_⟩ | ⟨a,len,cap,elems,rest,n,_,hcc,hxx,_,hl,hm,hlen,hel2,_,_⟩
 ·exact ⟨none,[],0,h1,⟨Nat.le_refl _,by unfold maxLen;omega⟩,Cs.nil _ _,Nat.zero_le _,fun r hr=>absurd hr (by simp)⟩
 ·rw [hce] at hel2
  have key:∀ i,i<len->∃ r:ρ,(∀ j v,(f r)[j]? = some v->W.cell? ((a.add (i*k)).add j)=some v)/\ok r:=by
   intro i hi;have h3:=hel2 i hi;rw [List.getElem?_eq_getElem (show i<elems.length by omega)] at h3;obtain ⟨us,hu1,hu2⟩:=Option.bind_eq_some_iff.1 h3;obtain ⟨_,hu3,hu4⟩:=World.cells?_some hu1;obtain ⟨r,rfl,hr1⟩:=hel hu2 (Nat.le_trans (hbk.el (elems.map (·.1)) (rest.map (·.1)) _ (List.mem_map_of_mem (List.getElem_mem _))) (by have h9:=hN;rw [hxx] at h9;exact h9));refine ⟨r,fun j v hj=>?_,hr1⟩
   have hjl:=(List.getElem?_eq_some_iff.1 hj).1;rw [hu4 j (by rw [hf] at hjl;exact hjl)];exact hj
  obtain ⟨rs,hrl,hrp⟩:=lE len _ key;refine ⟨some a,rs,cap,by rw [hcc,hrl],⟨by omega,hm⟩,fun h0=>?_,?_,fun r hr=>?_⟩
  ·rw [fl f hf] at h0
   have hr0:0<rs.length:=Nat.pos_of_mul_pos_right h0;obtain ⟨b,off,spot⟩:=a;have hg0:∃ v,(f rs[0])[0]? = some v:=⟨_,List.getElem?_eq_getElem (by rw [hf];exact hk)⟩
   obtain ⟨v0,hv0⟩:=hg0;have h00:=(hrp 0 hr0).1 0 v0 hv0;have hspot:spot=none:=by simpa [Addr.add] using World.cell?_spot h00
   subst hspot;rw [add_plain,add_plain] at h00;refine ⟨b,off,rfl,?_,fun j u hu=>?_⟩
   ·exact lt_of_cell (u:=v0) (o:=off+0*k) (j:=0) (by rw [add_plain];exact h00)
   ·have hj:j<rs.length*k:=by rw [<- fl f hf rs];exact (List.getElem?_eq_some_iff.1 hu).1
    have hi:j / k<rs.length:=Nat.div_lt_of_lt_mul (by rw [Nat.mul_comm];exact hj);have hm2:j % k<k:=Nat.mod_lt _ hk;have he:j / k*k+j % k=j:=by rw [Nat.mul_comm];exact Nat.div_add_mod j k
    rw [<- he,flat_get f hf rs _ hi _ hm2] at hu;have h3:=(hrp _ hi).1 _ u hu;rw [add_plain,add_plain] at h3;rw [<- he,<- Nat.add_assoc];exact h3
  ·have h9:=hbk.len (elems.map (·.1)) (rest.map (·.1))
   rw [List.length_map] at h9;rw [hxx] at hN;exact Nat.le_trans (by omega) (Nat.le_trans h9 hN)
  ·obtain ⟨i,hi,rfl⟩:=List.getElem_of_mem hr
   exact (hrp i hi).2
section
variable {tI tB tS tIs tSs tPt tPts tA tAs tT tTs tSt tO tOs tPr tPrs tN tX:TypeId}
theorem open_arcB (hbk:BulkF bk) (T:Is P tI tB tS tIs tSs tPt tPts tA tAs tT tTs tSt tO tOs tPr tPrs tN tX) {fuel:Nat} {cs:List Value} {x:DataW H × List MemPlace} (hf:DataW.trod enc P W 0 (fun _=>true) true fuel tA cs=some x) (hN:bk x.1<=N) :
  ∃ m:AM,cs=m.cells/\AR W m/\m.a.trav.length<=N/\m.a.slow.length<=N:=by
 obtain ⟨f0,f1,f2,f3,f4,f5,hr,t0,t1,t2,t3,t4,t5⟩:=T.a;obtain ⟨c_tI,c_tB,c_tS,c_tIs,c_tSs,c_tPts,c_tAs,c_tTs,c_tOs,c_tPrs,c_tPr,c_tPt,c_tA,c_tT,c_tSt,c_tO,c_tN,c_tX⟩:=T.cells;obtain ⟨xs,n,_,rfl,hl,hlen,hg⟩:=DataW.trod_struct hr hf;rw [c_tA] at hl
 match cs,hl with
 |[u0,u1,u2,u3,u4,u5],_ =>
  match xs,hlen with
  |[y0,y1,y2,y3,y4,y5],_ =>
   have b4:bk y4.1<=N:=Nat.le_trans (hbk.part _ y4.1 (by simp)) hN;have b5:bk y5.1<=N:=Nat.le_trans (hbk.part _ y5.1 (by simp)) hN;have q0:=hg 0 f0 rfl;have q1:=hg 1 f1 rfl;have q2:=hg 2 f2 rfl;have q3:=hg 3 f3 rfl;have q4:=hg 4 f4 rfl;have q5:=hg 5 f5 rfl;rw [t0.1,t0.2,c_tI] at q0;rw [t1.1,t1.2,c_tI] at q1;rw [t2.1,t2.2,c_tI] at q2;rw [t3.1,t3.2,c_tI] at q3;rw [t4.1,t4.2,c_tPts] at q4
   rw [t5.1,t5.2,c_tPts] at q5;simp only [List.drop_zero,List.take_succ_cons,List.take_zero,List.drop_succ_cons,List.getElem?_cons_zero,List.getElem?_cons_succ] at q0 q1 q2 q3 q4 q5;obtain ⟨a0,e0,_,w0⟩:=DataW.trod_int T.i q0;injection e0 with e0 _
   obtain ⟨a1,e1,_,w1⟩:=DataW.trod_int T.i q1;injection e1 with e1 _
   obtain ⟨a2,e2,_,w2⟩:=DataW.trod_int T.i q2;injection e2 with e2 _
   obtain ⟨a3,e3,_,w3⟩:=DataW.trod_int T.i q3;injection e3 with e3 _
   obtain ⟨X,lX,cX,e4,nX,hX,zX,gX⟩:=oB hbk (f:=PC) (k:=2) pC (by decide) T.pts c_tPt F2 (fun h _=>Df T h) q4 b4;injection e4 with e4 _
   obtain ⟨Y,lY,cY,e5,nY,hY,zY,gY⟩:=oB hbk (f:=PC) (k:=2) pC (by decide) T.pts c_tPt F2 (fun h _=>Df T h) q5 b5;injection e5 with e5 _
   exact ⟨⟨X,cX,Y,cY,⟨a0,a1,a2,a3,lX,lY⟩⟩,by rw [e0,e1,e2,e3,e4,e5];rfl,⟨hX,hY,nX,nY,gX,gY,Wf w0,Wf w1,Wf w2,Wf w3⟩,zX,zY⟩
theorem open_netB (hbk:BulkF bk) (T:Is P tI tB tS tIs tSs tPt tPts tA tAs tT tTs tSt tO tOs tPr tPrs tN tX) {fuel:Nat} {cs:List Value} {x:DataW H × List MemPlace} (hf:DataW.trod enc P W 0 (fun _=>true) true fuel tN cs=some x) (hN:bk x.1<=N) :
  ∃ (X:Option Addr) (lX:List Sr) (cX:Nat) (Y:Option Addr) (lY:List AM) (cY:Nat),cs=[.slice X lX.length cX,.slice Y lY.length cY]/\(lX.length<=cX/\cX<=maxLen)/\Cs W X (strs lX)/\(∀ s ∈ lX,s.length<=maxLen)/\(lY.length<=cY/\cY<=maxLen)/\Cs W Y (lY.flatMap AM.cells)/\∀ a ∈ lY,AR W a/\a.a.trav.length<=N/\a.a.slow.length<=N:=by
 obtain ⟨f0,f1,hr,t0,t1⟩:=T.n;obtain ⟨c_tI,c_tB,c_tS,c_tIs,c_tSs,c_tPts,c_tAs,c_tTs,c_tOs,c_tPrs,c_tPr,c_tPt,c_tA,c_tT,c_tSt,c_tO,c_tN,c_tX⟩:=T.cells;obtain ⟨xs,n,_,rfl,hl,hlen,hg⟩:=DataW.trod_struct hr hf;rw [c_tN] at hl
 match cs,hl with
 |[u0,u1],_ =>
  match xs,hlen with
  |[y0,y1],_ =>
   have b1:bk y1.1<=N:=Nat.le_trans (hbk.part _ y1.1 (by simp)) hN;have q0:=hg 0 f0 rfl;have q1:=hg 1 f1 rfl;rw [t0.1,t0.2,c_tSs] at q0;rw [t1.1,t1.2,c_tAs] at q1;simp only [List.drop_zero,List.take_succ_cons,List.take_zero,List.drop_succ_cons,List.getElem?_cons_zero,List.getElem?_cons_succ] at q0 q1;obtain ⟨X,lX,cX,e0,nX,hX,gX⟩:=oP T.ss T.s c_tS q0;injection e0 with e0 _
   obtain ⟨Y,lY,cY,e1,nY,hY,_,gY⟩:=oB hbk (f:=AM.cells) (k:=6) AM.cells_len (by decide) T.arcs_ c_tA (fun m=>AR W m/\m.a.trav.length<=N/\m.a.slow.length<=N) (fun h hx=>open_arcB hbk T h hx) q1 b1;injection e1 with e1 _
   exact ⟨X,lX,cX,Y,lY,cY,by rw [e0,e1],nX,hX,gX,nY,hY,gY⟩
theorem open_insB0 (hbk:BulkF bk) (T:Is P tI tB tS tIs tSs tPt tPts tA tAs tT tTs tSt tO tOs tPr tPrs tN tX) {fuel:Nat} {cs:List Value} {x:DataW H × List MemPlace} (hf:DataW.trod enc P W 0 (fun _=>true) true fuel tX cs=some x) (hN:bk x.1<=N) :
  ∃ m:IM,cs=[.slice m.pA m.places.length m.pc,.slice m.aA m.arcs.length m.ac,.slice m.tA m.types.length m.tc,.slice m.oA m.ords.length m.oc,.slice m.xA m.apart.length m.xc,.slice m.bA m.before.length m.bc]/\IA W m/\∀ t ∈ m.arcs,t.a.trav.length<=N/\t.a.slow.length<=N:=by
 obtain ⟨f0,f1,f2,f3,f4,hr,t0,t1,t2,t3,t4⟩:=T.x;obtain ⟨c_tI,c_tB,c_tS,c_tIs,c_tSs,c_tPts,c_tAs,c_tTs,c_tOs,c_tPrs,c_tPr,c_tPt,c_tA,c_tT,c_tSt,c_tO,c_tN,c_tX⟩:=T.cells;obtain ⟨xs,n,_,rfl,hl,hlen,hg⟩:=DataW.trod_struct hr hf;rw [c_tX] at hl
 match cs,hl with
 |[u0,u1,u2,u3,u4,u5],_ =>
  match xs,hlen with
  |[y0,y1,y2,y3,y4],_ =>
   have b0:bk y0.1<=N:=Nat.le_trans (hbk.part _ y0.1 (by simp)) hN;have q0:=hg 0 f0 rfl;have q1:=hg 1 f1 rfl;have q2:=hg 2 f2 rfl;have q3:=hg 3 f3 rfl;have q4:=hg 4 f4 rfl;rw [t0.1,t0.2,c_tN] at q0;rw [t1.1,t1.2,c_tTs] at q1;rw [t2.1,t2.2,c_tOs] at q2;rw [t3.1,t3.2,c_tPrs] at q3;rw [t4.1,t4.2,c_tPrs] at q4
   simp only [List.drop_zero,List.take_succ_cons,List.take_zero,List.drop_succ_cons,List.getElem?_cons_zero,List.getElem?_cons_succ] at q0 q1 q2 q3 q4;obtain ⟨X,lX,cX,Y,lY,cY,e0,nX,hX,gX,nY,hY,gY⟩:=open_netB hbk T q0 b0;injection e0 with e0a e0
   injection e0 with e0b _
   obtain ⟨U,lU,cU,e1,nU,hU,gU⟩:=oF (f:=Ty.cells) (k:=14) Ty.cells_len (by decide) T.ts c_tT (fun m=>TY W m) (fun h=>open_type T h) q1;injection e1 with e1 _
   obtain ⟨V,lV,cV,e2,nV,hV,gV⟩:=oF (f:=OM.cells) (k:=16) OM.cells_len (by decide) T.os_ c_tO (fun m=>Ot W m) (fun h=>open_ord T h) q2;injection e2 with e2 _
   obtain ⟨R,lR,cR,e3,nR,hR,gR⟩:=oF (f:=PC) (k:=2) pC (by decide) T.prs c_tPr F2 (fun h=>open_pair T h) q3;injection e3 with e3 _
   obtain ⟨Q,lQ,cQ,e4,nQ,hQ,gQ⟩:=oF (f:=PC) (k:=2) pC (by decide) T.prs c_tPr F2 (fun h=>open_pair T h) q4;injection e4 with e4 _
   exact ⟨⟨X,cX,lX,Y,cY,lY,U,cU,lU,V,cV,lV,R,cR,lR,Q,cQ,lQ⟩,by rw [e0a,e0b,e1,e2,e3,e4],⟨hX,hY,hU,hV,hR,hQ,(fun a ha=>(gY a ha).1),gU,gV,nX,nY,nU,nV,nR,nQ,gX,gR,gQ⟩,fun a ha=>(gY a ha).2⟩
theorem open_insB (hbk:BulkF bk) (T:Is P tI tB tS tIs tSs tPt tPts tA tAs tT tTs tSt tO tOs tPr tPrs tN tX) {v:Value} {d:DataW H} {p:List MemPlace} (hv:∃ cs,v=.agg cs/\cs.size=P.cellsOf tX) (h:DataW.Trod enc P W 0 (fun _=>true) true tX v d p) (hN:bk d<=N) :
  ∃ m:IM,v=iA m/\IA W m/\∀ t ∈ m.arcs,t.a.trav.length<=N/\t.a.slow.length<=N:=by
 obtain ⟨cs,rfl,hsz⟩:=hv;obtain ⟨fuel,hf⟩:=h;have hf':DataW.trod enc P W 0 (fun _=>true) true fuel tX cs.toList=some (d,p):=hf;obtain ⟨m,e,hm⟩:=open_insB0 hbk T hf' hN;obtain ⟨l⟩:=cs;have e:l=_:=e;subst e;exact ⟨m,rfl,hm⟩
end
structure RouTys (P:Program) (tI tB tBs tV tVs tR:TypeId):Prop where
 i:P.underlying tI=some (.int .i64)
 b:P.underlying tB=some .bool
 bs:P.underlying tBs=some (.slice tB)
 vs:P.underlying tVs=some (.slice tV)
 v:∃ f0 f1:Field,P.underlying tV=some (.struct #[f0,f1])/\(f0.type=tI/\f0.offset=0)/\(f1.type=tB/\f1.offset=1)
 r:∃ f0 f1 f2 f3:Field,P.underlying tR=some (.struct #[f0,f1,f2,f3])/\(f0.type=tI/\f0.offset=0)/\(f1.type=tI/\f1.offset=1)/\(f2.type=tBs/\f2.offset=2)/\(f3.type=tVs/\f3.offset=3)
 cells:P.cellsOf tI=1/\P.cellsOf tB=1/\P.cellsOf tBs=1/\P.cellsOf tVs=1/\P.cellsOf tV=2/\P.cellsOf tR=4
theorem open_rouR {tI tB tBs tV tVs tR:TypeId} (T:RouTys P tI tB tBs tV tVs tR) {fuel:Nat} {cs:List Value} {x:DataW H × List MemPlace} (hf:DataW.trod enc P W 0 (fun _=>true) true fuel tR cs=some x) :
  ∃ m:RM,cs=m.cells/\Rt W m:=by
 obtain ⟨f0,f1,f2,f3,hr,t0,t1,t2,t3⟩:=T.r;obtain ⟨g0,g1,hv,s0,s1⟩:=T.v;obtain ⟨ci,cb,cbs,cvs,cv,cr⟩:=T.cells;obtain ⟨xs,n,_,rfl,hl,hlen,hg⟩:=DataW.trod_struct hr hf;rw [cr] at hl
 match cs,hl with
 |[u0,u1,u2,u3],_ =>
  match xs,hlen with
  |[y0,y1,y2,y3],_ =>
   have q0:=hg 0 f0 rfl;have q1:=hg 1 f1 rfl;have q2:=hg 2 f2 rfl;have q3:=hg 3 f3 rfl;rw [t0.1,t0.2,ci] at q0;rw [t1.1,t1.2,ci] at q1;rw [t2.1,t2.2,cbs] at q2;rw [t3.1,t3.2,cvs] at q3;simp only [List.drop_zero,List.take_succ_cons,List.take_zero,List.drop_succ_cons,List.getElem?_cons_zero,List.getElem?_cons_succ] at q0 q1 q2 q3;obtain ⟨a,e0,_,w0⟩:=DataW.trod_int T.i q0
   obtain ⟨b,e1,_,w1⟩:=DataW.trod_int T.i q1;obtain ⟨A,ls,c,e2,h1,h2⟩:=Ob T.bs T.b cb q2;obtain ⟨A2,vs,c2,e3,h3,h4,h5⟩:=oF (f:=VC) (k:=2) vC (by decide) T.vs cv (fun v=>fits v.1) (fun h=>open_visP hv T.i T.b ci cb cv s0 s1 h) q3;injection e0 with e0 _
   injection e1 with e1 _
   injection e2 with e2 _
   injection e3 with e3 _
   exact ⟨⟨A,c,A2,c2,⟨a,b,ls,vs⟩⟩,by rw [e0,e1,e2,e3];rfl,⟨h2,h4,h1,h3,Wf w0,Wf w1,h5⟩⟩
theorem open_routeR {tI tB tBs tV tVs tR:TypeId} (T:RouTys P tI tB tBs tV tVs tR) {v:Value} {d:DataW H} {p:List MemPlace} (hv:∃ cs,v=.agg cs/\cs.size=P.cellsOf tR) (h:DataW.Trod enc P W 0 (fun _=>true) true tR v d p) :
  ∃ m:RM,v=ro m/\Rt W m:=by
 obtain ⟨cs,rfl,hsz⟩:=hv;obtain ⟨fuel,hf⟩:=h;have hf':DataW.trod enc P W 0 (fun _=>true) true fuel tR cs.toList=some (d,p):=hf;obtain ⟨m,e,hm⟩:=open_rouR T hf';obtain ⟨l⟩:=cs;have e:l=_:=e;subst e;exact ⟨m,rfl,hm⟩
end
theorem insTys:Is Tryz.prog 3 4 9 46 22 74 75 188 23 81 26 134 136 27 139 28 25 30 where
 i:=Tryz.underlying3
 b:=Tryz.underlying4
 s:=Tryz.underlying9
 is:=Tryz.underlying46
 ss:=Tryz.underlying22
 pts:=Tryz.underlying75
 arcs_:=Tryz.underlying23
 ts:=Tryz.underlying26
 os_:=Tryz.underlying27
 prs:=Tryz.underlying28
 pr:=Tryz.underlying139
 pt:=⟨_,_,Tryz.underlying74,⟨rfl,rfl⟩,⟨rfl,rfl⟩⟩
 a:=⟨_,_,_,_,_,_,Tryz.underlying188,⟨rfl,rfl⟩,⟨rfl,rfl⟩,⟨rfl,rfl⟩,⟨rfl,rfl⟩,⟨rfl,rfl⟩,⟨rfl,rfl⟩⟩
 t:=⟨_,_,_,_,_,_,_,_,_,_,_,_,_,_,Tryz.underlying81,⟨rfl,rfl⟩,⟨rfl,rfl⟩,⟨rfl,rfl⟩,⟨rfl,rfl⟩,⟨rfl,rfl⟩,⟨rfl,rfl⟩,⟨rfl,rfl⟩,⟨rfl,rfl⟩,⟨rfl,rfl⟩,⟨rfl,rfl⟩,⟨rfl,rfl⟩,⟨rfl,rfl⟩,⟨rfl,rfl⟩,⟨rfl,rfl⟩⟩
 st:=⟨_,_,_,_,Tryz.underlying134,⟨rfl,rfl⟩,⟨rfl,rfl⟩,⟨rfl,rfl⟩,⟨rfl,rfl⟩⟩
 o:=⟨_,_,_,_,_,_,_,_,_,_,Tryz.underlying136,⟨rfl,rfl⟩,⟨rfl,rfl⟩,⟨rfl,rfl⟩,⟨rfl,rfl⟩,⟨rfl,rfl⟩,⟨rfl,rfl⟩,⟨rfl,rfl⟩,⟨rfl,rfl⟩,⟨rfl,rfl⟩,⟨rfl,rfl⟩⟩
 n:=⟨_,_,Tryz.underlying25,⟨rfl,rfl⟩,⟨rfl,rfl⟩⟩
 x:=⟨_,_,_,_,_,Tryz.underlying30,⟨rfl,rfl⟩,⟨rfl,rfl⟩,⟨rfl,rfl⟩,⟨rfl,rfl⟩,⟨rfl,rfl⟩⟩
 cells:=⟨by kernel_rfl,by kernel_rfl,by kernel_rfl,by kernel_rfl,by kernel_rfl,by kernel_rfl,by kernel_rfl,by kernel_rfl,by kernel_rfl,by kernel_rfl,by kernel_rfl,by kernel_rfl,by kernel_rfl,by kernel_rfl,by kernel_rfl,by kernel_rfl,by kernel_rfl,by kernel_rfl⟩
theorem rouTys:RouTys Tryz.prog 3 4 31 92 32 34 where
 i:=Tryz.underlying3
 b:=Tryz.underlying4
 bs:=Tryz.underlying31
 vs:=Tryz.underlying32
 v:=⟨_,_,Tryz.underlying92,⟨rfl,rfl⟩,⟨rfl,rfl⟩⟩
 r:=⟨_,_,_,_,Tryz.underlying34,⟨rfl,rfl⟩,⟨rfl,rfl⟩,⟨rfl,rfl⟩,⟨rfl,rfl⟩⟩
 cells:=⟨by kernel_rfl,by kernel_rfl,by kernel_rfl,by kernel_rfl,by kernel_rfl,by kernel_rfl⟩
end Go.Proofs.YtjcekdiocliddaaGreatDoor
