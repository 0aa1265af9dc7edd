/- lorryref12.faults and Check. -/
import Derived.Test.YtjcekdiocliddaaGreatDoorG73
import Derived.Test.YtjcekdiocliddaaGreatDoorTkd
namespace Go.Proofs.YtjcekdiocliddaaGreatDoor
open Lib (hid)
open Go.RowKit Num Txt Pf Tk
set_option maxHeartbeats 32000000
set_option maxRecDepth 100000
set_option linter.unusedVariables false
attribute [local go_sem] BS Bg Bt Bm Be Ba
theorem faults_any (no:Int) (l:List (Int × Int)) (A:Option Addr) (c:Nat) (word:Sr) (turned:Bool) (w:World) (hwd:word.length<=8) (hc:Cs w A (l.flatMap PC)) (hn:l.length<=c/\c<=maxLen) (hl:l.length<=9) :
  Calls Tryz.prog 104 #[.int .i64 no,.slice A l.length c,.string (B word),.bool turned] w (FlE (l.length+1) 40 True w):=by
 have HC:=hid hc;unfold maxLen at hn;clear hc;go_enter Tryz.func104,Tryz.ntmps104;(try simp only [Bm]);go_upto_region 2 with fail;go_cut [18] (fun s wx=>(∃ b:Bool,s=.bool b)/\wx=w)
 case first =>
  as_aux_lemma =>
  have h10:¬ 16<(l.length:Int):=by omega
  go_wp2_with fail;go_meet;exact ⟨⟨_,rfl⟩,rfl⟩
 case rest =>
 obtain ⟨⟨b,rfl⟩,hw⟩:=hcut;obtain rfl:=hw.symm;go_upto_if 18 with (fail)
 go_cut [9] (fun l2 wx=>∃ (A':Option Addr) (c':Nat) (fs:List (Int × Sr)),l2=.slice A' fs.length c'/\FO wx w.heap.size A' c' fs/\fZ 40 fs/\fs.length<=1/\Below w.heap.size w wx)
 case first =>
  as_aux_lemma =>
  cases b with
  |true =>
   go_wp2_with (at_builtin;refine wt ef rfl _ _ rfl rfl rfl rfl w.heap.size none 0 [] w 4 word rfl (OR.nil _ _ _ _) rfl (by decide) (Nat.le_refl _) ?_;intro A3 c3 w6 hown6 hb6 hkp6)
   go_meet;exact ⟨A3,c3,[(4,word)],rfl,hown6,fZ.nil.snoc (by omega) (by decide),Nat.le_refl _,hb6⟩
  |false =>
   go_wp2_with fail;go_meet;exact ⟨none,0,[],rfl,OR.nil _ _ _ _,fZ.nil,Nat.zero_le _,Below.refl _ _⟩
 case rest =>
  rename World=>w1;obtain ⟨A1,c1,fs1,rfl,hown1,hfs1,hl1,hb1⟩:=hcut;have HO1:=hid hown1;have HS1:=hid hfs1;have HB1:=hid hb1;clear hown1 hfs1 hb1;go_wp2_with fail
  go_loopw [9,10,11,12,13,14,15] (fun o i _ _ _ _ _ wr=>∃ (k:Nat) (A':Option Addr) (c':Nat) (fs:List (Int × Sr)),k<=l.length/\i=.int .i64 k/\o=.slice A' fs.length c'/\FO wr w.heap.size A' c' fs/\fZ 40 fs/\fs.length<=k+1/\Below w.heap.size w wr) (fun _ i _ _ _ _ _ _=>l.length - (intOf i).toNat)
  case atStart=>exact ⟨0,A1,c1,fs1,Nat.zero_le _,rfl,rfl,HO1.out,HS1.out,by omega,HB1.out⟩
  case round =>
   clear HO1 HS1 HB1 hl1;obtain ⟨k,A',c',fs,hk,rfl,rfl,hown,hfs,hlen,hbel⟩:=hrel;have HO:=hid hown;have HS:=hid hfs;have HB:=hid hbel;clear hown hfs hbel;by_cases hlt:k<l.length
   ·have hlt1:(k:Int)<(l.length:Int):=by omega
    obtain ⟨g1,o1,hA1,hg1,hx⟩:=eP pC (by decide) HC.out (show 0<l.length by omega);subst hA1
    have HX:=hid (fun (wn:World) (hb:Below w.heap.size w wn) (j:Nat) (hj:j<l.length)=>(⟨(hb.cell (p:=⟨g1,o1+j*2,none⟩) hg1).trans (hx j hj 0 (.int .i64 l[j].1) rfl),(hb.cell (p:=⟨g1,o1+j*2+1,none⟩) hg1).trans (hx j hj 1 (.int .i64 l[j].2) rfl)⟩:wn.cell? ⟨g1,o1+j*2,none⟩=some (.int .i64 l[j].1)/\wn.cell? ⟨g1,o1+j*2+1,none⟩=some (.int .i64 l[j].2)));obtain ⟨q0,q1⟩:=HX.out wr HB.out k hlt
    have HDC:=hid (dec12_any (k:Int) wr (by omega) (by omega));have HPK:=hid (show ∃ p,l[k]=p from ⟨_,rfl⟩);obtain ⟨p,hpp⟩:=HPK.out;rw [hpp] at q0 q1;clear hx hpp HPK;go_wp2_with fail;refine HDC.out.mono ?_;rintro e w3 ⟨⟨ds,rfl,hds⟩,hb3⟩;have HO3:=hid (HO.out.below hb3);have HB3:=hid (bL HB.out hb3);clear hb3 HO HB HDC q0 q1;generalize wr=wo at *;go_upto_region 10 with fail
    go_cut [65] (fun s wx=>(∃ b:Bool,s=.bool b/\(b=false->True))/\wx=w3)
    case first =>
     as_aux_lemma =>
     by_cases hc0:p.1<0
     ·have hd0:decide (p.1<0)=true:=decide_eq_true hc0
      go_wp2_with fail;go_meet;exact ⟨⟨true,rfl,fun h=>absurd h (by decide)⟩,rfl⟩
     ·have hd0:decide (p.1<0)=false:=decide_eq_false hc0
      by_cases hc1:p.1 >= no
      ·have hd1:decide (p.1 >= no)=true:=decide_eq_true hc1
       go_wp2_with fail;go_meet;exact ⟨⟨true,rfl,fun h=>absurd h (by decide)⟩,rfl⟩
      ·have hd1:decide (p.1 >= no)=false:=decide_eq_false hc1
       by_cases hc2:p.2<0
       ·have hd2:decide (p.2<0)=true:=decide_eq_true hc2
        go_wp2_with fail;go_meet;exact ⟨⟨true,rfl,fun h=>absurd h (by decide)⟩,rfl⟩
       ·have hd2:decide (p.2<0)=false:=decide_eq_false hc2
        by_cases hc3:p.2 >= no
        ·have hd3:decide (p.2 >= no)=true:=decide_eq_true hc3
         go_wp2_with fail;go_meet;exact ⟨⟨true,rfl,fun h=>absurd h (by decide)⟩,rfl⟩
        ·have hd3:decide (p.2 >= no)=false:=decide_eq_false hc3
         by_cases hc4:p.1=p.2
         ·have hd4:=iB hc4
          clear hc4;go_wp2_with fail;go_meet;exact ⟨⟨true,rfl,fun h=>absurd h (by decide)⟩,rfl⟩
         ·have hd4:=ib hc4
          clear hc4;go_wp2_with fail;go_meet;exact ⟨⟨false,rfl,fun _=>trivial⟩,rfl⟩
    case rest =>
    obtain ⟨⟨b,rfl,_⟩,hw⟩:=hcut;obtain rfl:=hw.symm
    cases b with
    |true =>
     go_wp2_with (at_builtin;refine wt ef rfl _ _ rfl rfl rfl rfl w.heap.size A' c' fs w3 2 _ rfl HO3.out rfl (by omega) HB3.out.size ?_;intro A3 c3 w6 hown6 hb6 hkp6)
     go_roundw
     case rel=>exact ⟨k+1,A3,c3,_,by omega,by go_num,by rw [sL],hown6,HS.out.snoc (by simp;omega) (by decide),by rw [sL];omega,HB3.out.trans hb6⟩
     case measure=>simp [intOf];omega
    |false =>
     go_wp2_with fail;go_loopw [14,15] (fun b2 j2 wr=>∃ (j:Nat) (b:Bool),j<=k/\j2=.int .i64 j/\b2=.bool b/\wr=w3) (fun _ j2 _=>k - (intOf j2).toNat)
     case atStart=>exact ⟨0,false,Nat.zero_le _,rfl,rfl,by trivial⟩
     case round =>
      obtain ⟨j,b,hj,rfl,rfl,rfl⟩:=hrel;by_cases hjl:j<k
      ·have hjl1:(j:Int)<(k:Int):=by omega
       have hjl2:j<l.length:=by omega
       have hjl3:(j:Int)<(l.length:Int):=by omega
       cases b with
       |true =>
        go_wp2_with fail;go_roundw
        case rel=>exact ⟨j+1,true,by omega,by go_num,rfl,by trivial⟩
        case measure=>simp [intOf];omega
       |false =>
        obtain ⟨y0,y1⟩:=HX.out _ HB3.out j hjl2;generalize l[j]=x at *;by_cases hA:x.1=p.1
        ·have bhA:=iB hA
         clear hA;by_cases hB:x.2=p.2
         ·have bhB:=iB hB
          clear hB;go_wp2_with fail;go_roundw
          case rel=>exact ⟨j+1,true,by omega,by go_num,rfl,by trivial⟩
          case measure=>simp [intOf];omega
         ·have bhB:=ib hB
          clear hB
          cases turned with
          |false =>
           go_wp2_with fail;go_roundw
           case rel=>exact ⟨j+1,false,by omega,by go_num,rfl,by trivial⟩
           case measure=>simp [intOf];omega
          |true =>
           by_cases hC:x.1=p.2
           ·have bhC:=iB hC
            clear hC;by_cases hD:x.2=p.1
            ·have bhD:=iB hD
             clear hD;go_wp2_with fail;go_roundw
             case rel=>exact ⟨j+1,true,by omega,by go_num,rfl,by trivial⟩
             case measure=>simp [intOf];omega
            ·have bhD:=ib hD
             clear hD;go_wp2_with fail;go_roundw
             case rel=>exact ⟨j+1,false,by omega,by go_num,rfl,by trivial⟩
             case measure=>simp [intOf];omega
           ·have bhC:=ib hC
            clear hC;go_wp2_with fail;go_roundw
            case rel=>exact ⟨j+1,false,by omega,by go_num,rfl,by trivial⟩
            case measure=>simp [intOf];omega
        ·have bhA:=ib hA
         clear hA
         cases turned with
         |false =>
          go_wp2_with fail;go_roundw
          case rel=>exact ⟨j+1,false,by omega,by go_num,rfl,by trivial⟩
          case measure=>simp [intOf];omega
         |true =>
          by_cases hC:x.1=p.2
          ·have bhC:=iB hC
           clear hC;by_cases hD:x.2=p.1
           ·have bhD:=iB hD
            clear hD;go_wp2_with fail;go_roundw
            case rel=>exact ⟨j+1,true,by omega,by go_num,rfl,by trivial⟩
            case measure=>simp [intOf];omega
           ·have bhD:=ib hD
            clear hD;go_wp2_with fail;go_roundw
            case rel=>exact ⟨j+1,false,by omega,by go_num,rfl,by trivial⟩
            case measure=>simp [intOf];omega
          ·have bhC:=ib hC
           clear hC;go_wp2_with fail;go_roundw
           case rel=>exact ⟨j+1,false,by omega,by go_num,rfl,by trivial⟩
           case measure=>simp [intOf];omega
      ·have hjl1:¬ (j:Int)<(k:Int):=by omega
       cases b with
       |true =>
        go_wp2_with (at_builtin;refine wt ef rfl _ _ rfl rfl rfl rfl w.heap.size A' c' fs _ 6 _ rfl HO3.out rfl (by omega) HB3.out.size ?_;intro A3 c3 w6 hown6 hb6 hkp6)
        go_roundw
        case rel=>exact ⟨k+1,A3,c3,_,by omega,by go_num,by rw [sL],hown6,HS.out.snoc (by simp;omega) (by decide),by rw [sL];omega,HB3.out.trans hb6⟩
        case measure=>simp [intOf];omega
       |false =>
        go_wp2_with fail;go_roundw
        case rel=>exact ⟨k+1,A',c',fs,by omega,by go_num,rfl,HO3.out,HS.out,by omega,HB3.out⟩
        case measure=>simp [intOf];omega
   ·have hlt1:¬ (k:Int)<(l.length:Int):=by omega
    go_wp2_with fail;go_ret;exact ⟨A',c',fs,rfl,HO.out,HS.out,by omega,fun _=>trivial,HB.out⟩
theorem OR.nilC {w:World} {Bs sz n c:Nat} {e:TypeId} {A:Option Addr} {xs:List Value} (h:OR w Bs e sz A n c xs) (hA:A=none):c=0:=by
 rcases h.2 with ⟨hv,_⟩ | ⟨g',cap',cur',hv,_⟩
 ·injection hv
 ·injection hv with hv _ _;rw [hA] at hv;cases hv
section
variable {P:Program} {ops:Array Oper} {rest:List Oper} {o:Oper} {a:Act} {Q:Exit->Act->World->Prop}
theorem wp_appmK {t e:TypeId} {z:Value} {sz bytes:Nat} (he:ER P t e z sz bytes) (hgd:o.guard=none) (s x:Operand) (ho:o.op=.call { callee:=.builtin .append,args:=#[s,x],argTypes:=#[t,t] })
  (Bs:Nat) (A:Option Addr) (n c:Nat) (xs:List Value) (w:World) (X:Option Addr) (m cx:Nat) (news:List Value) (hs:a.eval s=.slice A n c) (hown:OR w Bs e sz A n c xs)
  (hx:a.eval x=.slice X m cx) (hX:Cs w X news) (hX0:X=none->cx=0) (hm:news.length=m*sz) (h1:∀ u ∈ news,u.oneCell'=true) (h63:n+m<=maxLen) (hby:(n+m)*bytes<=140737488355328) (hbase:Bs<=w.heap.size)
  (h:∀ A' c' w',OR w' Bs e sz A' (n+m) c' (xs ++ news)->Below Bs w w'->KA A w w'->wpList P ops Q rest (a.put o.dst (.slice A' (n+m) c')) w') :
  wpList P ops Q (o :: rest) a w:=by
 obtain ⟨ht,⟨i,hi,hz,hsz,hb⟩,hzs,hpos⟩:=he
 have hkp:∀ {w':World},w.grownBy w' (Value.slice A n c).ownBlock->KA A w w':=fun {w'} h3=>⟨h3.size,fun k hk hA=>h3.block k hk (by
  rcases hown.2 with ⟨hv,_⟩ | ⟨g',cap',cur',hv,hg',_⟩
  ·rw [hv];simp [Value.ownBlock]
  ·injection hv with hv1 _ _
   rw [hv1];intro e;have:k=g':=by simpa [Value.ownBlock] using e
   exact hA 0 none (by rw [hv1,this]))⟩
 cases X with
 |none =>
  have hv:news=[]:=by
   cases news with
   |nil=>rfl
   |cons x xs=>obtain ⟨b,off,e,_⟩:=hX (by simp);cases e
  have hcx:=hX0 rfl;subst hcx hv
  obtain rfl:m=0:=by
   rcases Nat.eq_zero_or_pos m with h | h
   ·exact h
   ·have:=Nat.mul_pos h hpos;simp at hm;omega
  refine wpList_append_own_none hgd s x t ho Bs e i sz ht hi (.slice A n c) n xs hs hown hx ?_;exact h A c w (by rw [List.append_nil];exact hown) (Below.refl _ _) ⟨Nat.le_refl _,fun _ _ _=>rfl⟩
 |some ad =>
  have hcell:∀ j u,news[j]? = some u->w.cell? (ad.add j)=some u:=by
   intro j u hu;have h0:0<news.length:=by have:=(List.getElem?_eq_some_iff.1 hu).1;omega
   obtain ⟨b,off,e,hb,h2⟩:=hX h0;injection e with e
   subst e;rw [Go.WideShapes.add_plain];exact h2 j u hu
  refine wpList_append_own _ hgd s x t ho Bs e i z sz bytes ht hi hz hsz hb hzs hpos (.slice A n c) n xs hs hown ad m cx news hx hm hcell h1 h63 hby hbase ?_;intro v' w' h2 h3 _;obtain ⟨A2,c2,rfl⟩:=oS h2;exact h A2 c2 w' h2 ((Below.refl _ _).grown h3 hbase hown.rowb) (hkp h3)
theorem wM {t e:TypeId} {z:Value} {sz bytes:Nat} (he:ER P t e z sz bytes) (hgd:o.guard=none) (s x:Operand) (ho:o.op=.call { callee:=.builtin .append,args:=#[s,x],argTypes:=#[t,t] }) (het:e=193) (hsz:sz=2) (hby:bytes=24)
  (Bs:Nat) (A:Option Addr) (c:Nat) (fs:List (Int × Sr)) (w:World) (Bx:Nat) (X:Option Addr) (cx:Nat) (gs:List (Int × Sr)) (hs:a.eval s=.slice A fs.length c) (hown:FO w Bs A c fs)
  (hx:a.eval x=.slice X gs.length cx) (hX:FO w Bx X cx gs) (hl:fs.length+gs.length<=1099511627776) (hbase:Bs<=w.heap.size)
  (h:∀ A' c' w',FO w' Bs A' c' (fs ++ gs)->Below Bs w w'->KA A w w'->wpList P ops Q rest (a.put o.dst (.slice A' (fs ++ gs).length c')) w') :
  wpList P ops Q (o :: rest) a w:=by
 subst het hsz hby;refine wp_appmK he hgd s x ho Bs A fs.length c (fs.flatMap fC) w X gs.length cx (gs.flatMap fC) hs hown hx hX.cells hX.nilC (flt_len _) flt_one (by unfold maxLen;omega) (by omega) hbase ?_;intro A' c' w' h1 h2 h3;have h4:=h A' c' w' (by show OR _ _ _ _ _ _ _ _;rw [List.length_append,List.flatMap_append];exact h1) h2 h3;rw [List.length_append] at h4;exact h4
end
theorem rucheck_any (no:Int) (la lb:List (Int × Int)) (A C:Option Addr) (ca cb:Nat) (w:World) (hc:Cs w A (la.flatMap PC)) (hn:la.length<=ca/\ca<=maxLen) (hl:la.length<=9) (hc2:Cs w C (lb.flatMap PC)) (hn2:lb.length<=cb/\cb<=maxLen) (hl2:lb.length<=9) :
  Calls Tryz.prog 50 #[.int .i64 no,.slice A la.length ca,.slice C lb.length cb] w (FlE 20 40 True w):=by
 have HC:=hid hc;have HC2:=hid hc2;have HN:=hid hn;have HN2:=hid hn2;clear hc hc2 hn hn2;go_enter Tryz.func50,Tryz.ntmps50;(try simp only [Bm]);go_wp2_with fail;refine (faults_any no la A ca [97,112,97,114,116] true w (by decide) HC.out HN.out hl).mono ?_;rintro e w2 ⟨E,ce,fs1,rfl,ho1,hs1,hl1,_,hb1⟩;have HO1:=hid ho1;have HS1:=hid hs1;have HB1:=hid hb1
 clear ho1 hs1 hb1;go_wp2_with fail;refine (faults_any no lb C cb [98,101,102,111,114,101] false w2 (by decide) (HC2.out.below HB1.out) HN2.out hl2).mono ?_;rintro e w3 ⟨E2,ce2,fs2,rfl,ho2,hs2,hl3,_,hb2⟩;have HO2:=hid ho2;have HS2:=hid hs2;have HB2:=hid hb2;clear ho2 hs2 hb2
 go_wp2_with (at_builtin;refine wM ef rfl _ _ rfl rfl rfl rfl w.heap.size E ce fs1 w3 _ E2 ce2 fs2 rfl (HO1.out.below HB2.out) rfl HO2.out (by omega) (bL HB1.out HB2.out).size ?_;intro A3 c3 w4 hown4 hb4 hkp4)
 go_ret;exact ⟨A3,c3,fs1 ++ fs2,by rw [List.length_append];rfl,hown4,HS1.out.app HS2.out,by rw [List.length_append];omega,fun _=>trivial,(bL HB1.out HB2.out).trans hb4⟩
theorem ua (word:Sr) (gs:List (Int × Sr)) (E:Option Addr) (ce K:Nat) (w:World) (hc:Cs w E (gs.flatMap fC)) (hn:gs.length<=ce/\ce<=maxLen) (hS:fZ K gs) (hK:K<=1000) (hw:word.length<=8) (hl:gs.length<=1073741824) :
  Calls Tryz.prog 45 #[.string (B word),.slice E gs.length ce] w (FlE gs.length (K+10) (gs=[]) w):=by
 have HC:=hid hc;have HS:=hid hS;unfold maxLen at hn;clear hc hS;go_enter Tryz.func45,Tryz.ntmps45;(try simp only [Bm]);go_wp2_with fail
 go_loopw [5,6,7] (fun o i _ wr=>∃ (k:Nat) (A2:Option Addr) (c2:Nat) (fs2:List (Int × Sr)),k<=gs.length/\i=.int .i64 k/\o=.slice A2 fs2.length c2/\FO wr w.heap.size A2 c2 fs2/\fZ (K+10) fs2/\fs2.length<=k/\k<=fs2.length/\Below w.heap.size w wr) (fun _ i _ _=>gs.length - (intOf i).toNat)
 case atStart=>exact ⟨0,none,0,[],Nat.zero_le _,rfl,rfl,OR.nil _ _ _ _,fZ.nil,Nat.le_refl _,Nat.le_refl _,Below.refl _ _⟩
 case round =>
  obtain ⟨k,A2,c2,fs2,hk,rfl,rfl,hown,hfs,hlen,hlen2,hbel⟩:=hrel;have HO:=hid hown;have HF:=hid hfs;have HB:=hid hbel;clear hown hfs hbel;by_cases hlt:k<gs.length
  ·have hlt1:(k:Int)<(gs.length:Int):=by omega
   obtain ⟨ge,oe,hE,hge,hx⟩:=eP FC (by decide) HC.out (show 0<gs.length by omega);subst hE;have x0:=(HB.out.cell (p:=⟨ge,oe+k*2+0,none⟩) hge).trans (hx k hlt 0 _ rfl);have x1:=(HB.out.cell (p:=⟨ge,oe+k*2+1,none⟩) hge).trans (hx k hlt 1 _ rfl);rw [Nat.add_zero] at x0;have hsk:=HS.out _ (List.getElem_mem hlt);have HSK:=hid hsk;have hsl:=hsk.1;clear hx hsk;generalize gs[k]=v at *
   by_cases h0:v.2=[]
   ·have hb0:=str_bt h0
    have hb1:(v.2 != [])=false:=by rw [bne,hb0];rfl
    clear h0;go_wp2_with (at_builtin;refine wt ef rfl _ _ rfl rfl rfl rfl w.heap.size A2 c2 fs2 wr v.1 word rfl HO.out rfl (by omega) HB.out.size ?_;intro A3 c3 w6 hown6 hb6 hkp6)
    go_roundw
    case rel=>exact ⟨k+1,A3,c3,_,by omega,by go_num,by rw [sL],hown6,HF.out.snoc (by omega) HSK.out.2,by rw [sL];omega,by rw [sL];omega,HB.out.trans hb6⟩
    case measure=>simp [intOf];omega
   ·have hb0:=str_bf h0
    have hb1:(v.2 != [])=true:=by rw [bne,hb0];rfl
    clear h0;go_wp2_with (at_builtin;refine wt ef rfl _ _ rfl rfl rfl rfl w.heap.size A2 c2 fs2 wr v.1 _ rfl HO.out rfl (by omega) HB.out.size ?_;intro A3 c3 w6 hown6 hb6 hkp6)
    go_roundw
    case rel=>exact ⟨k+1,A3,c3,_,by omega,by go_num,by rw [sL],hown6,HF.out.snoc (by simp;omega) HSK.out.2,by rw [sL];omega,by rw [sL];omega,HB.out.trans hb6⟩
    case measure=>simp [intOf];omega
  ·have hlt1:¬ (k:Int)<(gs.length:Int):=by omega
   go_wp2_with fail;go_ret;exact ⟨A2,c2,fs2,rfl,HO.out,HF.out,by omega,fun h=>List.length_eq_zero_iff.1 (by rw [h] at hlen2;simp at hlen2;omega),HB.out⟩
theorem netcheck_any (ps:List Sr) (l:List AM) (pA aA:Option Addr) (pc ac:Nat) (w:World) (hp:ps.length<=1048576) (hc:Cs w pA (strs ps)) (hn:ps.length<=pc/\pc<=maxLen) (hf:∀ s ∈ ps,s.length<=maxLen) (hca:Cs w aA (l.flatMap AM.cells)) (hna:l.length<=ac/\ac<=maxLen) (hla:l.length<=40) (hfa:∀ t ∈ l,AR w t) (hlen:∀ t ∈ l,t.a.trav.length<=1048576/\t.a.slow.length<=1048576) :
  Calls Tryz.prog 46 #[.agg #[.slice pA ps.length pc,.slice aA l.length ac]] w (FlE 200000000 30 (∀ t ∈ l,AK t.a) w):=by
 have HC:=hid hc;have HN:=hid hn;have HF:=hid hf;have HCA:=hid hca;have HNA:=hid hna;have HFA:=hid hfa;have HLA:=hid hlen;unfold maxLen at hn hna;obtain ⟨n4,p4⟩:=Na w (.cells #[.slice pA ps.length pc,.slice aA l.length ac] 25);have HN4:=hid n4;have HP4:=hid p4;clear hc hf hca hfa n4 p4 hlen;go_enter Tryz.func46,Tryz.ntmps46;(try simp only [Bm])
 go_upto_region 1 with fail;generalize w.alloc (.cells #[.slice pA ps.length pc,.slice aA l.length ac] 25)=wa at *;obtain ⟨g4,hg4⟩:∃ g4,g4=w.heap.size:=⟨_,rfl⟩
 rw [<- hg4] at HP4;rw [<- hg4];clear hg4;have r0:=cN HP4.out 0 (.slice pA ps.length pc) rfl;have r1:=cN HP4.out 1 (.slice aA l.length ac) rfl;go_wp2_with fail;refine (places_any ps l.length pA aA pc ac wa hp (HC.out.below HN4.out) HN.out HF.out).mono ?_;rintro e w3 ⟨E,ce,fs1,rfl,ho1,hs1,hl1,_,hb1⟩;have HO1:=hid (ho1.mono HN4.out.size);have HS1:=hid hs1
 have HB1:=hid (bL HN4.out hb1);have HR1:=hid (rK HP4.out hb1);clear ho1 hs1 hb1 r0 r1;have r1:=cN HR1.out 1 (.slice aA l.length ac) rfl;have h10:¬ 1024<(l.length:Int):=by omega
 go_wp2_with fail;clear r1
 go_loopw [3,4] (fun o i wr=>∃ (k:Nat) (A2:Option Addr) (c2:Nat) (fs2:List (Int × Sr)),k<=l.length/\i=.int .i64 k/\o=.slice A2 fs2.length c2/\FO wr w.heap.size A2 c2 fs2/\fZ 30 fs2/\fs2.length<=1048577+4000000*k/\(fs2=[]->∀ j (h:j<l.length),j<k->AK l[j].a)/\Below w.heap.size w wr/\wr.heap[g4]? = some (.cells #[.slice pA ps.length pc,.slice aA l.length ac] 25)) (fun _ i _=>l.length - (intOf i).toNat)
 case atStart=>exact ⟨0,E,ce,fs1,Nat.zero_le _,rfl,rfl,HO1.out,HS1.out,by omega,fun _ j _ h=>by omega,HB1.out,HR1.out⟩
 case round =>
  clear HO1 HS1 HB1 HR1 hl1;obtain ⟨k,A2,c2,fs2,hk,rfl,rfl,hown,hfs,hlen,hok,hbel,hrow⟩:=hrel;have HO:=hid hown;have HS:=hid hfs;have HK:=hid hok;have HB:=hid hbel;have HR:=hid hrow;clear hown hfs hok hbel hrow;have r0:=cN HR.out 0 (.slice pA ps.length pc) rfl;have r1:=cN HR.out 1 (.slice aA l.length ac) rfl;by_cases hlt:k<l.length
  ·have hlt1:(k:Int)<(l.length:Int):=by omega
   have hln:=HLA.out _ (List.getElem_mem hlt);go_wp2_with fail;refine (ckarc_any ps.length pA pc l aA ac k wr hp (HCA.out.below HB.out) HNA.out (by omega) hlt (fun t ht=>(HFA.out t ht).below HB.out) hln.1 hln.2).mono ?_;rintro e w7 ⟨E,ce,gs,rfl,hoE,hfE,hle,hokE,hb7⟩;have HKE:=hid hokE;have HFE:=hid hfE;have HOE:=hid hoE;have HO7:=hid (HO.out.below hb7)
   have HB7:=hid (bL HB.out hb7);have HR7:=hid (rK HR.out hb7);clear hokE hfE hoE hb7 r0 r1 HB HO HR;go_wp2_with (at_builtin;refine wM ef rfl _ _ rfl rfl rfl rfl w.heap.size A2 c2 fs2 w7 _ E ce gs rfl HO7.out rfl HOE.out (by omega) HB7.out.size ?_;intro A3 c3 w4 hown4 hb4 hkp4)
   go_roundw
   case rel =>
    refine ⟨k+1,A3,c3,fs2 ++ gs,by omega,by go_num,by first | rfl | rw [List.length_append],hown4,HS.out.app HFE.out,by rw [List.length_append];omega,fun h=>?_,HB7.out.trans hb4,hkp4.row HR7.out (HO7.out.far HR7.out fN)⟩;obtain ⟨h1,h2⟩:=List.append_eq_nil_iff.1 h;intro q hq hqk;rcases Nat.lt_or_eq_of_le (Nat.le_of_lt_succ hqk) with h6 | h6
    ·exact HK.out h1 q hq h6
    ·subst h6;exact HKE.out h2
   case measure=>simp [intOf];omega
  ·have hlt1:¬ (k:Int)<(l.length:Int):=by omega
   go_wp2_with fail;go_ret;refine ⟨A2,c2,fs2,rfl,HO.out,HS.out,by omega,fun h t ht=>?_,HB.out⟩;obtain ⟨j,hj,rfl⟩:=List.getElem_of_mem ht;exact HK.out h j hj (by omega)
end Go.Proofs.YtjcekdiocliddaaGreatDoor
