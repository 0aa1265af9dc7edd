/- label.Dominates, keep. (Printed by wip/tk/mkToI.py.) -/
import Derived.Test.YtjcekdiocliddaaGreatDoorG88
import Derived.Test.YtjcekdiocliddaaGreatDoorG87
namespace Go.Proofs.YtjcekdiocliddaaGreatDoor
open Lib (hid)
open Go.RowKit Num Txt Pf Tk
set_option maxHeartbeats 32000000
set_option maxRecDepth 100000
set_option linter.unusedVariables false
attribute [local go_sem] BS Bg Bt Bm Be Ba
theorem nat_ne {a b:Nat}:((a:Int) == (b:Int))=(a == b):=by
 apply Bool.eq_iff_iff.2
 rw [beq_iff_eq,beq_iff_eq];omega
theorem nf {a b:Int} (h:(a == b)=false):(a != b)=true:=by unfold bne;rw [h];rfl
theorem nN {a b:Int} (h:(a == b)=true):(a != b)=false:=by unfold bne;rw [h];rfl
theorem ldom_any (a b:Lb) (w:World) (ha:Ah w a) (hb:Ah w b) (hl:a.l.load.length=b.l.load.length) :
  Calls Tryz.prog 94 #[.agg a.cells.toArray,.agg b.cells.toArray] w fun e w'=>e=.returned (.bool (dB a.l b.l))/\Below w.heap.size w w':=by
 obtain ⟨k1,k2,kb⟩:=aL w (.cells a.cells.toArray 65) (.cells b.cells.toArray 65);have HB:=hid kb;have HK1:=hid k1;have HK2:=hid k2;have HFT:=hid (fun w' (hb2:Below w.heap.size w w')=>Ly a.l.load b.l.load a.B b.B a.cb b.cb w' (ha.load.below hb2) (hb.load.below hb2) ha.ll hb.ll hl)
 have HD:=hid (show dB a.l b.l=(((a.l.kind == b.l.kind) && (a.l.place == b.l.place) && ((a.l.dn:Int) == (b.l.dn:Int)) && ((a.l.op:Int) == (b.l.op:Int))) && (decide (a.l.time<=b.l.time) && decide (a.l.driven<=b.l.driven) && decide (a.l.miles<=b.l.miles) && fL a.l.load b.l.load)) by rw [nat_ne,nat_ne];rfl);clear k1 k2 kb ha hb hl;go_enter Tryz.func94,Tryz.ntmps94;(try simp only [Bm])
 go_upto_region 1 with fail;generalize (w.alloc (.cells a.cells.toArray 65)).alloc (.cells b.cells.toArray 65)=wa at *;obtain ⟨h1,hh1⟩:∃ h1,h1=w.heap.size:=⟨_,rfl⟩
 obtain ⟨h2,hh2⟩:∃ h2,h2=w.heap.size+1:=⟨_,rfl⟩
 rw [<- hh2] at HK2;rw [<- hh1] at HK1;rw [<- hh2,<- hh1];clear hh1 hh2;have qa0:=CX HK1.out 0 (.int .i64 a.l.kind) rfl;have qa2:=CX HK1.out 2 (.int .i64 a.l.place) rfl;have qa3:=CX HK1.out 3 (.int .i64 a.l.time) rfl;have qa4:=CX HK1.out 4 (.int .i64 a.l.driven) rfl;have qa5:=CX HK1.out 5 (.int .i64 a.l.miles) rfl;have qa6:=CX HK1.out 6 (.slice a.B a.l.load.length a.cb) rfl
 have qa7:=CX HK1.out 7 (.int .i64 (a.l.dn:Int)) rfl;have qa8:=CX HK1.out 8 (.int .i64 (a.l.op:Int)) rfl;have qb0:=CX HK2.out 0 (.int .i64 b.l.kind) rfl;have qb2:=CX HK2.out 2 (.int .i64 b.l.place) rfl;have qb3:=CX HK2.out 3 (.int .i64 b.l.time) rfl;have qb4:=CX HK2.out 4 (.int .i64 b.l.driven) rfl;have qb5:=CX HK2.out 5 (.int .i64 b.l.miles) rfl
 have qb6:=CX HK2.out 6 (.slice b.B b.l.load.length b.cb) rfl;have qb7:=CX HK2.out 7 (.int .i64 (b.l.dn:Int)) rfl;have qb8:=CX HK2.out 8 (.int .i64 (b.l.op:Int)) rfl;generalize a.l.kind=a0 at *;generalize b.l.kind=b0 at *;generalize a.l.place=a2 at *;generalize b.l.place=b2 at *;generalize (a.l.dn:Int)=a7 at *;generalize (b.l.dn:Int)=b7 at *;generalize (a.l.op:Int)=a8 at *
 generalize (b.l.op:Int)=b8 at *;generalize a.l.time=a3 at *;generalize b.l.time=b3 at *;generalize a.l.driven=a4 at *;generalize b.l.driven=b4 at *;generalize a.l.miles=a5 at *;generalize b.l.miles=b5 at *
 cases e0:(a0 == b0) with
 |false =>
  have n0:=nf e0;have HR:=hid (show dB a.l b.l=false by rw [HD.out];simp [e0]);clear HD;go_wp2_with fail;go_ret;exact ⟨rb HR.out.symm,HB.out⟩
 |true =>
  have n0:=nN e0
  cases e2:(a2 == b2) with
  |false =>
   have n2:=nf e2;have HR:=hid (show dB a.l b.l=false by rw [HD.out];simp [e0,e2]);clear HD;go_wp2_with fail;go_ret;exact ⟨rb HR.out.symm,HB.out⟩
  |true =>
   have n2:=nN e2
   cases e7:(a7 == b7) with
   |false =>
    have n7:=nf e7;have HR:=hid (show dB a.l b.l=false by rw [HD.out];simp [e0,e2,e7]);clear HD;go_wp2_with fail;go_ret;exact ⟨rb HR.out.symm,HB.out⟩
   |true =>
    have n7:=nN e7
    cases e8:(a8 == b8) with
    |false =>
     have n8:=nf e8;have HR:=hid (show dB a.l b.l=false by rw [HD.out];simp [e0,e2,e7,e8]);clear HD;go_wp2_with fail;go_ret;exact ⟨rb HR.out.symm,HB.out⟩
    |true =>
     have n8:=nN e8;by_cases l3:a3<=b3
     ·skip
      by_cases l4:a4<=b4
      ·skip
       by_cases l5:a5<=b5
       ·skip
        have HR:=hid (show dB a.l b.l=fL a.l.load b.l.load by rw [HD.out];simp [e0,e2,e7,e8,l3,l4,l5]);clear HD;go_wp2_with fail;refine (HFT.out wa HB.out).mono ?_;rintro e w6 ⟨rfl,hw⟩;obtain rfl:=hw.symm;go_wp2_with fail;go_ret;exact ⟨rb HR.out.symm,HB.out⟩
       ·have ld5:decide (a5<=b5)=false:=decide_eq_false l5
        have HR:=hid (show dB a.l b.l=false by rw [HD.out];simp [e0,e2,e7,e8,l3,l4,l5]);clear HD;go_wp2_with fail;go_ret;exact ⟨rb HR.out.symm,HB.out⟩
      ·have ld4:decide (a4<=b4)=false:=decide_eq_false l4
       have HR:=hid (show dB a.l b.l=false by rw [HD.out];simp [e0,e2,e7,e8,l3,l4]);clear HD;go_wp2_with fail;go_ret;exact ⟨rb HR.out.symm,HB.out⟩
     ·have ld3:decide (a3<=b3)=false:=decide_eq_false l3
      have HR:=hid (show dB a.l b.l=false by rw [HD.out];simp [e0,e2,e7,e8,l3]);clear HD;go_wp2_with fail;go_ret;exact ⟨rb HR.out.symm,HB.out⟩
section
variable {P:Program} {ops:Array Oper} {rest:List Oper} {o:Oper} {a:Act} {Q:Exit->Act->World->Prop}
theorem wp_lbl {t e:TypeId} {z:Value} {sz bytes:Nat} (he:ER P t e z sz bytes) (hgd:o.guard=none) (s x:Operand) (ho:o.op=.call { callee:=.builtin .append,args:=#[s,x],argTypes:=#[t,t] }) (het:e=65) (hsz:sz=9) (hby:bytes=104)
  (Bs:Nat) (A:Option Addr) (n c:Nat) (ms:List Lb) (hn:n=ms.length) (w:World) (k:Lb) (hs:a.eval s=.slice A n c) (hown:Ag w Bs A c ms) (hk:Ah w k)
  (hx:a.eval x=.slice (some ⟨w.heap.size,0,none⟩) 1 1) (hl:ms.length<=100000000) (hbase:Bs<=w.heap.size)
  (h:∀ A' c' w',Ag w' Bs A' c' (ms ++ [k])->Below Bs w w'->KA A w w'->wpList P ops Q rest (a.put o.dst (.slice A' (n+1) c')) w') :
  wpList P ops Q (o :: rest) a (w.alloc (.cells k.cells.toArray e)):=by
 subst het hsz hby hn;refine wk he hgd s x ho Bs A ms.length c (ms.flatMap Lb.cells) w k.cells.toArray hs hown.row hx rfl (by intro u hu;simp [Lb.cells] at hu;rcases hu with rfl | rfl | rfl | rfl | rfl | rfl | rfl | rfl | rfl <;> rfl) (by unfold maxLen;omega) (by omega) hbase ?_;intro A' c' w' h1 h2 h3;have hlen:=sL ms k
 have e2:(ms ++ [k]).flatMap Lb.cells=ms.flatMap Lb.cells ++ k.cells:=by rw [<- Fs]
 have hkt:KT [65] w w':=KT.kpa h3 hown.row (by decide);refine h A' c' w' ⟨by rw [hlen,e2];exact h1,fun m hm=>?_⟩ h2 h3;rcases List.mem_append.1 hm with hm | hm
 ·exact (hown.each m hm).kt hkt (by decide) (by decide)
 ·rw [List.mem_singleton.1 hm]
  exact hk.kt hkt (by decide) (by decide)
end
theorem row_of_kpa {w w':World} {B:Option Addr} {Bs b:Nat} {ms:List Lb} {g:Nat} {o:Obj} (hk:KA B w w') (h:w.heap[g]? = some o) (ho:Ag w Bs B b ms) (hg:g<Bs):w'.heap[g]? = some o :=
 hk.row h fun off sp e=>by
  have:=(oH ho.row _ e).1;simp only at this;omega
theorem lkeep_any (L:List Lb) (nx:Lb) (Bs:Nat) (A:Option Addr) (c:Nat) (d:Nat) (w:World) (hl:Ag w Bs A c L) (hnx:Ah w nx) (hB:Bs<=w.heap.size) (hlen:L.length<=10000000) (hd:∀ m ∈ L,m.l.load.length=d) (hd2:nx.l.load.length=d) :
  Calls Tryz.prog 43 #[.slice A L.length c,.agg nx.cells.toArray] w fun e w'=>∃ (A':Option Addr) (c':Nat) (ms:List Lb),e=.returned (.slice A' ms.length c')/\Ag w' Bs A' c' ms/\ms.map (·.l)=KL (L.map (·.l)) nx.l/\(∀ m ∈ ms,m ∈ L∨m=nx)/\Below w.heap.size w w':=by
 obtain ⟨n4,p4⟩:=Na w (.cells nx.cells.toArray 65);have HN4:=hid n4;have HK:=hid p4;have HC:=hid (OR.cells hl.row);have hcp:=OR.cap hl.row;have HL:=hid hl;have HAT:=hid (fun w' (hb:Below w.heap.size w w')=>hnx.below hb);have HLA:=hid (fun w' (hb:Below w.heap.size w w')=>hl.below hb)
 have HDM:=hid (fun (i j:Lb) (w':World) (hi:Ah w' i) (hj:Ah w' j) (h:i.l.load.length=j.l.load.length)=>ldom_any i j w' hi hj h);have HD:=hid hd;have HD2:=hid hd2;have HBS:=hid hB;unfold maxLen at hcp;clear n4 p4 hl hnx hd hB;go_enter Tryz.func43,Tryz.ntmps43;(try simp only [Bm]);go_upto_region 1 with fail;generalize w.alloc (.cells nx.cells.toArray 65)=wa at *
 obtain ⟨h1,hh1⟩:∃ h1,h1=w.heap.size:=⟨_,rfl⟩
 rw [<- hh1] at HK;rw [<- hh1];clear hh1;have HLTH:=hid (lh HK.out);go_wp2_with fail;go_loopw [12] (fun j wr=>∃ k:Nat,k<=L.length/\j=.int .i64 k/\(∀ i (h:i<L.length),i<k->dB L[i].l nx.l=false)/\Below wa.heap.size wa wr) (fun j _=>L.length - (intOf j).toNat)
 case atStart=>exact ⟨0,Nat.zero_le _,rfl,fun i _ h=>absurd h (Nat.not_lt_zero _),Below.refl _ _⟩
 case round =>
  obtain ⟨k,hk,rfl,hno,hbel⟩:=hrel;have HNO:=hid hno;have HB:=hid hbel;clear hno hbel;by_cases hlt:k<L.length
  ·have hlt1:(k:Int)<(L.length:Int):=by omega
   obtain ⟨g1,o1,hA1,hg1,hx1⟩:=eP Lb.cells_len (by decide) (HC.out.below (bL HN4.out HB.out)) (by omega);have HXC:=hid (fun j v h=>hx1 k hlt j v h);have HDK:=hid (HD.out _ (List.getElem_mem hlt));have HLAT:=hid (fun w' (hb:Below w.heap.size w w')=>(HLA.out w' hb).each _ (List.getElem_mem hlt))
   have HYES:=hid (show dB L[k].l nx.l=true->KL (L.map (·.l)) nx.l=L.map (·.l) from fun h=>by
    unfold KL;rw [if_pos (ay (List.mem_map.2 ⟨_,List.getElem_mem hlt,rfl⟩) h)])
   have HNEXT:=hid (show dB L[k].l nx.l=false->∀ i (h:i<L.length),i<k+1->dB L[i].l nx.l=false from fun h i hi hik=>by
    by_cases e:i=k
    ·subst e;exact h
    ·exact HNO.out i hi (by omega))
   rw [hA1];have HA1:=hid hA1;clear hx1 hA1;obtain ⟨u,hu⟩:∃ u,u=L[k]:=⟨_,rfl⟩
   rw [<- hu] at HXC HDK HLAT HYES HNEXT;clear hu;obtain ⟨_,pw6⟩:=Na wr (.cells LZ 65);obtain ⟨q5,b5⟩:=nS wr LZ u.cells.toArray 65;go_upto_region 4 with (first | (refine wL rfl 65 _ rfl g1 (o1+k*9) rfl u.cells _ HXC.out Tryz.underlying65 rfl (by kernel_rfl) ?_) | (refine sw u.cells.toArray pw6 ?_))
   (try simp only [Act.put]);generalize (wr.alloc (.cells LZ 65)).setRow wr.heap.size u.cells.toArray=w6 at *;have HB6:=hid (bL HB.out b5);have HK6:=hid (rK (rK HK.out HB.out) b5);have HQ6:=hid q5;obtain ⟨g6,hg6⟩:∃ g6,g6=wr.heap.size:=⟨_,rfl⟩
   rw [<- hg6] at HQ6;rw [<- hg6];have HBW:=hid (bL HN4.out HB6.out);have HDC:=hid (HDM.out u nx w6 (HLAT.out w6 HBW.out) (HAT.out w6 HBW.out) (HDK.out.trans HD2.out.symm));clear hg6 pw6 q5 b5 HXC;go_wp2_with (first | (refine lr HQ6.out Tryz.underlying65 ?_) | (refine lr HK6.out Tryz.underlying65 ?_))
   refine HDC.out.mono ?_;rintro e w7 ⟨rfl,hb7⟩;have HB7:=hid (bL HB6.out hb7);clear hb7 HDC HB HB6 HK6 HQ6
   cases hdm:dB u.l nx.l with
   |true =>
    have HR:=hid (HYES.out hdm);have hbw:=bL HN4.out HB7.out;clear hdm HYES HNEXT;go_wp2_with fail;go_ret;exact ⟨A,c,L,by rw [HA1.out];rfl,HLA.out _ hbw,HR.out.symm,fun m hm=>.inl hm,hbw⟩
   |false =>
    have HN:=hid (HNEXT.out hdm);clear hdm HYES HNEXT;go_wp2_with fail;go_roundw
    case rel=>exact ⟨k+1,by omega,by go_num,HN.out,HB7.out⟩
    case measure=>simp [intOf];omega
  ·have hlt1:¬ (k:Int)<(L.length:Int):=by omega
   have HALL:=hid (show (L.map (·.l)).any (fun k=>dB k nx.l)=false from am fun a ha=>by
    obtain ⟨b,hb,rfl⟩:=List.mem_map.1 ha;obtain ⟨i,hi,rfl⟩:=List.getElem_of_mem hb;exact HNO.out i hi (by omega))
   have HKP:=hid (show KL (L.map (·.l)) nx.l=(L.map (·.l)).filter (fun k=>!dB nx.l k) ++ [nx.l] by unfold KL;rw [HALL.out];rfl);clear HNO HALL;generalize hwo:wr=wo at *;clear hwo;have HB0:=HB;go_wp2_with fail
   go_loopw [7,23] (fun q j wr=>∃ (k:Nat) (B:Option Addr) (b:Nat) (ms:List Lb),k<=L.length/\j=.int .i64 k/\q=.slice B ms.length b/\Ag wr wa.heap.size B b ms/\ms.map (·.l)=((L.take k).map (·.l)).filter (fun k=>!dB nx.l k)/\(∀ m ∈ ms,m ∈ L)/\ms.length<=k/\Below w.heap.size w wr/\wa.heap.size<=wr.heap.size/\wr.heap[h1]? = some (.cells nx.cells.toArray 65)) (fun _ j _=>L.length - (intOf j).toNat)
   case atStart=>exact ⟨0,none,0,[],Nat.zero_le _,rfl,rfl,Ag.nil _ _,rfl,fun m hm=>absurd hm (by simp),Nat.le_refl _,bL HN4.out HB0.out,HB0.out.size,rK HK.out HB0.out⟩
   case round =>
    clear HB0;obtain ⟨k,B,b,ms,hk,rfl,rfl,hown,heq,hsub,hml,hbel,hszr,hrow⟩:=hrel;have HB:=hid hbel;have HOW:=hid hown;have HEQ:=hid heq;have HSUB:=hid hsub;have HR1:=hid hrow;have HSR:=hid hszr;clear hbel hown heq hsub hrow hszr;by_cases hlt:k<L.length
    ·have hlt1:(k:Int)<(L.length:Int):=by omega
     obtain ⟨g1,o1,hA1,hg1,hx1⟩:=eP Lb.cells_len (by decide) (HC.out.below HB.out) (by omega);have HXC:=hid (fun j v h=>hx1 k hlt j v h);have HDK:=hid (HD.out _ (List.getElem_mem hlt));have HLAT:=hid (fun w' (hb:Below w.heap.size w w')=>(HLA.out w' hb).each _ (List.getElem_mem hlt));have HMEM:=hid (List.getElem_mem hlt)
     have HTK1:=hid (show dB nx.l L[k].l=true->((L.take (k+1)).map (·.l)).filter (fun k=>!dB nx.l k)=((L.take k).map (·.l)).filter (fun k=>!dB nx.l k) from fun h=>by
      rw [Ts hlt,List.map_append,List.filter_append];simp [h])
     have HTK2:=hid (show dB nx.l L[k].l=false->((L.take (k+1)).map (·.l)).filter (fun k=>!dB nx.l k)=((L.take k).map (·.l)).filter (fun k=>!dB nx.l k) ++ [L[k].l] from fun h=>by
      rw [Ts hlt,List.map_append,List.filter_append];simp [h])
     rw [hA1];clear hx1 hA1;obtain ⟨u,hu⟩:∃ u,u=L[k]:=⟨_,rfl⟩
     rw [<- hu] at HXC HDK HLAT HMEM HTK1 HTK2;clear hu;obtain ⟨_,pw6⟩:=Na wr (.cells LZ 65);obtain ⟨q5,b5⟩:=nS wr LZ u.cells.toArray 65;go_upto_region 11 with (first | (refine wL rfl 65 _ rfl g1 (o1+k*9) rfl u.cells _ HXC.out Tryz.underlying65 rfl (by kernel_rfl) ?_) | (refine sw u.cells.toArray pw6 ?_))
     (try simp only [Act.put]);generalize (wr.alloc (.cells LZ 65)).setRow wr.heap.size u.cells.toArray=w6 at *;have HB6:=hid (bL HB.out b5);have HK6:=hid (rK HR1.out b5);have HO6:=hid (HOW.out.below b5);have HQ6:=hid q5;have HSB:=hid b5.size;obtain ⟨g6,hg6⟩:∃ g6,g6=wr.heap.size:=⟨_,rfl⟩
     rw [<- hg6] at HQ6;rw [<- hg6];have HDC:=hid (HDM.out nx u w6 (HAT.out w6 HB6.out) (HLAT.out w6 HB6.out) (HD2.out.trans HDK.out.symm));clear hg6 pw6 q5 b5 HXC HR1 HOW HB;go_wp2_with (first | (refine lr HQ6.out Tryz.underlying65 ?_) | (refine lr HK6.out Tryz.underlying65 ?_))
     refine HDC.out.mono ?_;rintro e w7 ⟨rfl,hb7⟩;have HB7:=hid (bL HB6.out hb7);have HO7:=hid (HO6.out.below hb7);have HK7:=hid (rK HK6.out hb7);have HQ7:=hid (rK HQ6.out hb7);have HSZ:=hid (Nat.le_trans HSR.out (Nat.le_trans HSB.out hb7.size));clear hb7 HDC HO6 HK6 HQ6 HB6
     cases hdm:dB nx.l u.l with
     |true =>
      have HN:=hid (HTK1.out hdm);clear hdm HTK1 HTK2;go_wp2_with fail;go_roundw
      case rel=>exact ⟨k+1,B,b,ms,by omega,by go_num,rfl,HO7.out,HEQ.out.trans HN.out.symm,HSUB.out,by omega,HB7.out,HSZ.out,HK7.out⟩
      case measure=>simp [intOf];omega
     |false =>
      have HN:=hid (HTK2.out hdm);have HAT7:=hid (HLAT.out w7 HB7.out);clear hdm HTK1 HTK2
      go_wp2_with (first | (refine lr HQ7.out Tryz.underlying65 ?_) | (refine wR el_lb rfl 1 _ rfl u.cells.toArray (by decide) (by decide) (by kernel_rfl) ?_) | (at_builtin;go_loud (refine wp_lbl el_lb rfl _ _ rfl rfl rfl rfl wa.heap.size B ms.length b ms rfl w7 u rfl HO7.out HAT7.out rfl (by omega) HSZ.out ?_;intro A4 c4 w8 hown8 hb8 hkp8)))
      go_roundw
      case rel=>exact ⟨k+1,A4,c4,ms ++ [u],by omega,by go_num,by rw [sL],hown8,by rw [List.map_append,HEQ.out,HN.out];rfl,fun m hm=>by
       rcases List.mem_append.1 hm with hm | hm
       ·exact HSUB.out m hm
       ·rw [List.mem_singleton.1 hm];exact HMEM.out,by rw [sL];omega,HB7.out.trans (hb8.mono HN4.out.size),Nat.le_trans HSZ.out hb8.size,row_of_kpa hkp8 HK7.out HO7.out HLTH.out⟩
      case measure=>simp [intOf];omega
    ·have hlt1:¬ (k:Int)<(L.length:Int):=by omega
     have HE:=hid (show ((L.take k).map (·.l)).filter (fun k=>!dB nx.l k)=(L.map (·.l)).filter (fun k=>!dB nx.l k) by rw [List.take_of_length_le (by omega)]);have HSZ:=HSR;have HATR:=hid (HAT.out wr HB.out)
     go_wp2_with (first | (refine lr HR1.out Tryz.underlying65 ?_) | (refine wR el_lb rfl 1 _ rfl nx.cells.toArray (by decide) (by decide) (by kernel_rfl) ?_) | (at_builtin;go_loud (refine wp_lbl el_lb rfl _ _ rfl rfl rfl rfl wa.heap.size B ms.length b ms rfl wr nx rfl HOW.out HATR.out rfl (by omega) HSZ.out ?_;intro A4 c4 w8 hown8 hb8 hkp8)))
     go_ret
     exact ⟨A4,c4,ms ++ [nx],Rs (by rw [sL]),hown8.mono (Nat.le_trans HBS.out HN4.out.size),by rw [List.map_append,HEQ.out,HE.out,HKP.out];rfl,fun m hm=>by
      rcases List.mem_append.1 hm with hm | hm
      ·exact .inl (HSUB.out m hm)
      ·exact .inr (List.mem_singleton.1 hm),HB.out.trans (hb8.mono HN4.out.size)⟩
end Go.Proofs.YtjcekdiocliddaaGreatDoor
