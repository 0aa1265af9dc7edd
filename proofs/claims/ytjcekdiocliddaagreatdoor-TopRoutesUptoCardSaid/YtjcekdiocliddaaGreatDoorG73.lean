/- lorryref10.Check. -/
import Derived.Test.YtjcekdiocliddaaGreatDoorTka
import Derived.Deep.RegionLaw
namespace Go.Proofs.YtjcekdiocliddaaGreatDoor
open Lib (hid)
open Go.RowKit Num Txt Pf Tk
set_option maxHeartbeats 32000000
set_option maxRecDepth 100000
set_option linter.unusedVariables false
attribute [local go_sem] BS Bg Bt Bm Be Ba
theorem cells_twoK {w:World} {e:TypeId} {u v:Value}:∀ (j:Nat) (x:Value),[u,v][j]? = some x->(w.alloc (.cells #[u,v] e)).cell? ⟨w.heap.size,j,none⟩=some x:=by
 intro j x hj;rw [World.cell?_alloc_new];simpa using hj
section
variable {P:Program} {ops:Array Oper} {rest:List Oper} {o:Oper} {a:Act} {Q:Exit->Act->World->Prop}
theorem step_app1T {K:Act->World->Prop} {E:Prop} {t e:TypeId} {z:Value} {sz bytes:Nat} (he:ER P t e z sz bytes) (hgd:o.guard=none) (s x:Operand) (ho:o.op=.call { callee:=.builtin .append,args:=#[s,x],argTypes:=#[t,t] })
  (Bs:Nat) (A:Option Addr) (n c:Nat) (xs:List Value) (w:World) (g1:Nat) (us:List Value) (hs:a.eval s=.slice A n c) (hown:OR w Bs e sz A n c xs)
  (hx:a.eval x=.slice (some ⟨g1,0,none⟩) 1 1) (hus:us.length=sz) (hcell:∀ j u,us[j]? = some u->w.cell? ⟨g1,j,none⟩=some u) (h1:∀ u ∈ us,u.oneCell'=true) (h63:n+1<=maxLen) (hby:(n+1)*bytes<=140737488355328) (hbase:Bs<=w.heap.size)
  (hK:∀ A' c' w',OR w' Bs e sz A' (n+1) c' (xs ++ us)->Below Bs w w'->(∀ k,k<w.heap.size->A≠some ⟨k,0,none⟩->w'.heap[k]? = w.heap[k]?)->K (a.put o.dst (.slice A' (n+1) c')) w') :
  if Region.wanted o (yielded ops a.tmps)=true then Oper.wp P o a w K Q else E:=by
 obtain ⟨ht,⟨i,hi,hz,hsz,hb⟩,hzs,hpos⟩:=he;have hw:Region.wanted o (yielded ops a.tmps)=true:=by simp [Region.wanted,hgd]
 rw [if_pos hw]
 have hb0:∀ k,(Value.slice A n c).ownBlock=some k->Bs<=k:=by
  intro k hk;rcases hown.2 with ⟨hv,_⟩ | ⟨g',cap',cur',hv,hg',_⟩
  ·rw [hv] at hk;simp [Value.ownBlock] at hk
  ·rw [hv] at hk;simp [Value.ownBlock] at hk;omega
 have hc:∀ j u,us[j]? = some u->w.cell? ((⟨g1,0,none⟩:Addr).add j)=some u:=by
  intro j u hj;have h0:=hcell j u hj;unfold Addr.add;split
  ·rename_i h1;subst h1;exact h0
  ·show w.cell? ⟨g1,0+j,none⟩=_
   rw [Nat.zero_add];exact h0
 obtain ⟨v',w',hrun,r1,r2,r3⟩:=run_append_own (P:=P) w Bs t o.type e i z sz bytes ht hi hz hsz hb hzs hpos (.slice A n c) n xs hown ⟨g1,0,none⟩ 1 1 us (by omega) hc h1 h63 hby hbase;have hne:v'≠.slice none 0 0:=by intro e;have:=(r3.1 e).2;omega
 obtain ⟨A',c',hv⟩:∃ A' c',v'=.slice A' (n+1) c':=by
  rcases r1.2 with ⟨hv,_⟩ | ⟨g,cap,cur,hv,_⟩
  ·exact absurd hv hne
  ·exact ⟨_,_,hv⟩
 subst hv;unfold Oper.wp;simp [execOp,ho,resolve,invoke,builtin,hs,hx,hrun,Result.andThen]
 refine hK A' c' w' r1 ((Below.refl _ _).grown r2 hbase hb0) fun k hk hA=>?_
 have hne2:some k≠(Value.slice A n c).ownBlock:=by
  rcases hown.2 with ⟨hv,_⟩ | ⟨g',cap',cur',hv,hg',_⟩
  ·rw [hv];simp [Value.ownBlock]
  ·injection hv with hv1 _ _
   rw [hv1];intro e;have:k=g':=by simpa [Value.ownBlock] using e
   exact hA (by rw [hv1,this])
 exact r2.block k hk hne2
theorem step_flt {K:Act->World->Prop} {E:Prop} {t e:TypeId} {z:Value} {sz bytes:Nat} (he:ER P t e z sz bytes) (hgd:o.guard=none) (s x:Operand) (ho:o.op=.call { callee:=.builtin .append,args:=#[s,x],argTypes:=#[t,t] }) (het:e=193) (hsz:sz=2) (hby:bytes=24)
  (Bs:Nat) (A:Option Addr) (c:Nat) (fs:List (Int × Sr)) (w:World) (g1:Nat) (k:Int) (str:Sr) (hs:a.eval s=.slice A fs.length c) (hown:FO w Bs A c fs)
  (hx:a.eval x=.slice (some ⟨g1,0,none⟩) 1 1) (hcell:∀ j u,[Value.int .i64 k,.string (B str)][j]? = some u->w.cell? ⟨g1,j,none⟩=some u) (hl:fs.length<=1099511627776) (hbase:Bs<=w.heap.size)
  (hK:∀ A' c' w',FO w' Bs A' c' (fs ++ [(k,str)])->Below Bs w w'->KA A w w'->K (a.put o.dst (.slice A' (fs ++ [(k,str)]).length c')) w') :
  if Region.wanted o (yielded ops a.tmps)=true then Oper.wp P o a w K Q else E:=by
 subst het hsz hby;refine step_app1T he hgd s x ho Bs A fs.length c (fs.flatMap fC) w g1 [.int .i64 k,.string (B str)] hs hown hx rfl hcell (by intro u hu;simp at hu;rcases hu with rfl | rfl <;> rfl) (by unfold maxLen;omega) (by omega) hbase ?_;intro A' c' w' h1 h2 h3;have hlen:(fs ++ [(k,str)]).length=fs.length+1:=by rw [List.length_append];rfl
 have h4:=hK A' c' w' (by show OR _ _ _ _ _ _ _ _;rw [hlen,<- FO.snoc];exact h1) h2 ⟨h2.size,fun k hk hA=>h3 k hk (hA 0 none)⟩;rw [hlen] at h4;exact h4
end
theorem flt_err:42≠193:=by decide
theorem fN:193≠25:=by decide
theorem tycheck_any (np na:Nat) (pA aA:Option Addr) (pc ac:Nat) (l:List Ty) (A:Option Addr) (c:Nat) (w:World) (hp:np<=1048576) (hc:Cs w A (l.flatMap Ty.cells)) (hn:l.length<=c/\c<=maxLen) (hl:l.length<=1048576) (hf:∀ t ∈ l,TY w t) :
  Calls Tryz.prog 47 #[.agg #[.slice pA np pc,.slice aA na ac],.slice A l.length c] w (FlE (9*l.length+1) 21 (∀ t ∈ l,TO t.t/\TX (dN l) t.t) w):=by
 have HF:=hid hf;have HC:=hid hc;have HN:=hid hn;have HP:=hid hp;unfold maxLen at hn;obtain ⟨n4,p4⟩:=Na w (.cells #[.slice pA np pc,.slice aA na ac] 25);have HN4:=hid n4;have HP4:=hid p4;clear hc hf n4 p4;go_enter Tryz.func47,Tryz.ntmps47;(try simp only [Bm]);go_upto_region 2 with fail;generalize w.alloc (.cells #[.slice pA np pc,.slice aA na ac] 25)=wa at *
 obtain ⟨g4,hg4⟩:∃ g4,g4=w.heap.size:=⟨_,rfl⟩
 rw [<- hg4] at HP4;rw [<- hg4];clear hg4;go_cut [12] (fun s wx=>(∃ b:Bool,s=.bool b)/\wx=wa)
 case first =>
  as_aux_lemma =>
  go_wp2_with fail;refine (I1 (l.length:Int) 1 6 _).mono ?_;rintro e w2 ⟨rfl,rfl⟩;go_wp2_with fail;go_meet;exact ⟨⟨_,rfl⟩,rfl⟩
 case rest =>
 obtain ⟨⟨b,rfl⟩,hw⟩:=hcut;obtain rfl:=hw.symm;go_upto_if 12 with (fail)
 go_cut [5] (fun l2 wx=>∃ (A':Option Addr) (c':Nat) (fs:List (Int × Sr)),l2=.slice A' fs.length c'/\FO wx w.heap.size A' c' fs/\fZ 21 fs/\fs.length<=1/\Below w.heap.size w wx/\wx.heap[g4]? = some (.cells #[.slice pA np pc,.slice aA na ac] 25))
 case first =>
  as_aux_lemma =>
  cases b with
  |true =>
   go_wp2_with (at_builtin;refine wt ef rfl _ _ rfl rfl rfl rfl w.heap.size none 0 [] wa 4 [] rfl (OR.nil _ _ _ _) rfl (by decide) HN4.out.size ?_;intro A3 c3 w6 hown6 hb6 hkp6)
   go_meet;exact ⟨A3,c3,[(4,[])],rfl,hown6,fZ.nil.snoc (by decide) (by decide),Nat.le_refl _,HN4.out.trans hb6,hkp6.row HP4.out (fun _ _ h=>by cases h)⟩
  |false =>
   go_wp2_with fail;go_meet;exact ⟨none,0,[],rfl,OR.nil _ _ _ _,fZ.nil,Nat.zero_le _,HN4.out,HP4.out⟩
 case rest =>
  rename World=>w1;obtain ⟨A1,c1,fs1,rfl,hown1,hfs1,hl1,hb1,hrow1⟩:=hcut;have HO1:=hid hown1;have HS1:=hid hfs1;have HB1:=hid hb1;have HR1:=hid hrow1;clear hown1 hfs1 hb1 hrow1 HN4 HP4;go_wp2_with fail
  go_loopw [5,6,7,8] (fun o i _ _ wr=>∃ (k:Nat) (A':Option Addr) (c':Nat) (fs:List (Int × Sr)),k<=l.length/\i=.int .i64 k/\o=.slice A' fs.length c'/\FO wr w.heap.size A' c' fs/\fZ 21 fs/\fs.length<=9*k+1/\(fs=[]->∀ j (h:j<l.length),j<k->TO l[j].t/\TX (dN l) l[j].t)/\Below w.heap.size w wr/\wr.heap[g4]? = some (.cells #[.slice pA np pc,.slice aA na ac] 25)) (fun _ i _ _ _=>l.length - (intOf i).toNat)
  case atStart=>exact ⟨0,A1,c1,fs1,Nat.zero_le _,rfl,rfl,HO1.out,HS1.out,by omega,fun _ j _ h=>by omega,HB1.out,HR1.out⟩
  case round =>
   clear HO1 HS1 HB1 HR1 hl1;obtain ⟨k,A',c',fs,hk,rfl,rfl,hown,hfs,hlen,hok,hbel,hrow⟩:=hrel;have HO:=hid hown;have HS:=hid hfs;have HK:=hid hok;have HB:=hid hbel;have HR:=hid hrow;clear hown hfs hok hbel hrow;by_cases hlt:k<l.length
   ·have hlt1:(k:Int)<(l.length:Int):=by omega
    have r0:=cN HR.out 0 (.slice pA np pc) rfl;have r1:=cN HR.out 1 (.slice aA na ac) rfl;go_wp2_with fail;refine (rules10_any np na pA aA pc ac l A c k wr HP.out (HC.out.below HB.out) HN.out hlt (fun t ht=>(HF.out t ht).below HB.out)).mono ?_;rintro e w7 ⟨E,ce,es,rfl,hoE,hle,hfE,hokE,hb7⟩;have HKE:=hid hokE;have HFE:=hid hfE;have HOE:=hid hoE
    have HO7:=hid (HO.out.below hb7);have HB7:=hid (bL HB.out hb7);have HR7:=hid (rK HR.out hb7);clear hokE hfE hoE hb7 r0 r1 HB HO HR;generalize wr=wo at *;go_wp2_with fail
    go_loopw [5,8] (fun o k2 wi=>∃ (j:Nat) (A2:Option Addr) (c2:Nat) (fs2:List (Int × Sr)),j<=es.length/\k2=.int .i64 j/\o=.slice A2 fs2.length c2/\FO wi w.heap.size A2 c2 fs2/\fZ 21 fs2/\fs2.length<=fs.length+j/\(fs2=[]->fs=[]/\j=0)/\Below w.heap.size w wi/\wi.heap[g4]? = some (.cells #[.slice pA np pc,.slice aA na ac] 25)/\ErO wi wo.heap.size E ce es) (fun _ k2 _=>es.length - (intOf k2).toNat)
    case atStart=>exact ⟨0,A',c',fs,Nat.zero_le _,rfl,rfl,HO7.out,HS.out,by omega,fun h=>⟨h,rfl⟩,HB7.out,HR7.out,HOE.out⟩
    case round =>
     clear HO7 HS HB7 HR7 HOE;obtain ⟨j,A2,c2,fs2,hj,rfl,rfl,hown2,hfs2,hlen2,hok2,hb2,hrow2,hoe2⟩:=hrel;have HO2:=hid hown2;have HS2:=hid hfs2;have HK2:=hid hok2;have HB2:=hid hb2;have HR2:=hid hrow2;have HE2:=hid hoe2;clear hown2 hfs2 hok2 hb2 hrow2 hoe2;by_cases hjl:j<es.length
     ·have hjl1:(j:Int)<(es.length:Int):=by omega
      obtain ⟨ge,oe,hE,hge,hx⟩:=HE2.out.cells (by rw [il];omega);subst hE;have x0:=hx j _ (iK es j hjl);have HL:=hid (fun (w2:World) (hb2:Below wr.drew.heap.size wr.drew w2)=>show w2.cell? ⟨ge,oe+j,none⟩=some (.int .i64 es[j]) from (hb2.cell (p:=⟨ge,oe+j,none⟩) hge).trans x0);have hfe:=HFE.out _ (List.getElem_mem hjl);have HFJ:=hid hfe
      have hk64:fits (k:Int):=by unfold fits;omega
      have HDC:=hid (fun w2:World=>rA (k:Int) w2 hk64);have HDL:=hid (Pf.decI_len hk64);have HOD:=hid (HO2.out.below ((Below.refl _ wr).drew));have HBD:=hid (HB2.out.drew);have HRD:=hid (show wr.drew.heap[g4]? = some (.cells #[.slice pA np pc,.slice aA na ac] 25) from HR2.out);have HED:=hid (HE2.out.below ((Below.refl _ wr).drew));clear hx hfe hk64
      generalize es[j]=ej at *;go_wp2_with fail;go_region_law (first
       |(refine step_flt ef rfl _ _ rfl rfl rfl rfl w.heap.size A2 c2 fs2 _ _ ej (dI (k:Int)) rfl ((HOD.out.below hb3).alloc _) rfl cells_twoK (by omega) (Nat.le_trans (bL HBD.out hb3).size (by simp)) ?_;intro A3 c3 w4 hown4 hb4 hkp4)
       |(go_simp;go_at_call 102;refine (HDC.out _).mono ?_;rintro e w3 ⟨rfl,hb3⟩;have l0:=HL.out w3 hb3))
      all_goals
       have n5:=(Na w3 (.cells #[.int .i64 ej,.string (B (dI (k:Int)))] 193)).1;have ho5:=(HOD.out.below hb3).below n5;have hr5:=rK (rK HRD.out hb3) n5;have hb5:=(bL (bL HBD.out hb3) n5).trans hb4;have hr6:=hkp4.row hr5 (ho5.far hr5 fN);have he6:=((HED.out.below hb3).below n5).keptA hkp4 ho5 flt_err;clear n5 ho5 hr5 l0;go_wp2_with fail;go_roundw
       case rel=>exact ⟨j+1,A3,c3,_,by omega,by go_num,by rw [sL],hown4,HS2.out.snoc HDL.out HFJ.out,by rw [sL];omega,sN,hb5,hr6,he6⟩
       case measure=>simp [intOf];omega
     ·have hjl1:¬ (j:Int)<(es.length:Int):=by omega
      go_wp2_with fail;go_roundw
      case rel =>
       refine ⟨k+1,A2,c2,fs2,by omega,by go_num,rfl,HO2.out,HS2.out,by omega,fun h=>?_,HB2.out,HR2.out⟩;obtain ⟨h1,h2⟩:=HK2.out h;have h3:es=[]:=List.length_eq_zero_iff.1 (by omega);intro q hq hqk;rcases Nat.lt_or_eq_of_le (Nat.le_of_lt_succ hqk) with h6 | h6
       ·exact HK.out h1 q hq h6
       ·subst h6;exact HKE.out h3
      case measure=>simp [intOf];omega
   ·have hlt1:¬ (k:Int)<(l.length:Int):=by omega
    go_wp2_with fail;go_ret;refine ⟨A',c',fs,rfl,HO.out,HS.out,by omega,fun h t ht=>?_,HB.out⟩;obtain ⟨j,hj,rfl⟩:=List.getElem_of_mem ht;exact HK.out h j hj (by omega)
theorem orcheck_any (np na:Nat) (pA aA:Option Addr) (pc ac:Nat) (dd ty:Int) (l:List OM) (A:Option Addr) (c:Nat) (w:World) (hp:np<=1048576) (hc:Cs w A (l.flatMap OM.cells)) (hn:l.length<=c/\c<=maxLen) (hl:l.length<=1048576) (hf:∀ t ∈ l,Ot w t) :
  Calls Tryz.prog 48 #[.agg #[.slice pA np pc,.slice aA na ac],.int .i64 dd,.int .i64 ty,.slice A l.length c] w (FlE (8*l.length+1) 21 (∀ t ∈ l,S2 t/\OrdX dd t.o) w):=by
 have HF:=hid hf;have HC:=hid hc;have HN:=hid hn;have HP:=hid hp;unfold maxLen at hn;obtain ⟨n4,p4⟩:=Na w (.cells #[.slice pA np pc,.slice aA na ac] 25);have HN4:=hid n4;have HP4:=hid p4;clear hc hf n4 p4;go_enter Tryz.func48,Tryz.ntmps48;(try simp only [Bm]);go_upto_region 2 with fail;generalize w.alloc (.cells #[.slice pA np pc,.slice aA na ac] 25)=wa at *
 obtain ⟨g4,hg4⟩:∃ g4,g4=w.heap.size:=⟨_,rfl⟩
 rw [<- hg4] at HP4;rw [<- hg4];clear hg4;go_cut [15] (fun s wx=>(∃ b:Bool,s=.bool b)/\wx=wa)
 case first =>
  as_aux_lemma =>
  by_cases h10:10<(l.length:Int)
  ·go_wp2_with fail
   go_meet;exact ⟨⟨_,rfl⟩,rfl⟩
  ·go_wp2_with fail
   go_meet;exact ⟨⟨_,rfl⟩,rfl⟩
 case rest =>
 obtain ⟨⟨b,rfl⟩,hw⟩:=hcut;obtain rfl:=hw.symm;go_upto_if 15 with (fail)
 go_cut [9] (fun l2 wx=>∃ (A':Option Addr) (c':Nat) (fs:List (Int × Sr)),l2=.slice A' fs.length c'/\FO wx w.heap.size A' c' fs/\fZ 21 fs/\fs.length<=1/\Below w.heap.size w wx/\wx.heap[g4]? = some (.cells #[.slice pA np pc,.slice aA na ac] 25))
 case first =>
  as_aux_lemma =>
  cases b with
  |true =>
   go_wp2_with (at_builtin;refine wt ef rfl _ _ rfl rfl rfl rfl w.heap.size none 0 [] wa 4 [] rfl (OR.nil _ _ _ _) rfl (by decide) HN4.out.size ?_;intro A3 c3 w6 hown6 hb6 hkp6)
   go_meet;exact ⟨A3,c3,[(4,[])],rfl,hown6,fZ.nil.snoc (by decide) (by decide),Nat.le_refl _,HN4.out.trans hb6,hkp6.row HP4.out (fun _ _ h=>by cases h)⟩
  |false =>
   go_wp2_with fail;go_meet;exact ⟨none,0,[],rfl,OR.nil _ _ _ _,fZ.nil,Nat.zero_le _,HN4.out,HP4.out⟩
 case rest =>
  rename World=>w1;obtain ⟨A1,c1,fs1,rfl,hown1,hfs1,hl1,hb1,hrow1⟩:=hcut;have HO1:=hid hown1;have HS1:=hid hfs1;have HB1:=hid hb1;have HR1:=hid hrow1;clear hown1 hfs1 hb1 hrow1 HN4 HP4;go_wp2_with fail
  go_loopw [9,10,11,12] (fun o i _ _ wr=>∃ (k:Nat) (A':Option Addr) (c':Nat) (fs:List (Int × Sr)),k<=l.length/\i=.int .i64 k/\o=.slice A' fs.length c'/\FO wr w.heap.size A' c' fs/\fZ 21 fs/\fs.length<=8*k+1/\(fs=[]->∀ j (h:j<l.length),j<k->S2 l[j]/\OrdX dd l[j].o)/\Below w.heap.size w wr/\wr.heap[g4]? = some (.cells #[.slice pA np pc,.slice aA na ac] 25)) (fun _ i _ _ _=>l.length - (intOf i).toNat)
  case atStart=>exact ⟨0,A1,c1,fs1,Nat.zero_le _,rfl,rfl,HO1.out,HS1.out,by omega,fun _ j _ h=>by omega,HB1.out,HR1.out⟩
  case round =>
   clear HO1 HS1 HB1 HR1 hl1;obtain ⟨k,A',c',fs,hk,rfl,rfl,hown,hfs,hlen,hok,hbel,hrow⟩:=hrel;have HO:=hid hown;have HS:=hid hfs;have HK:=hid hok;have HB:=hid hbel;have HR:=hid hrow;clear hown hfs hok hbel hrow;by_cases hlt:k<l.length
   ·have hlt1:(k:Int)<(l.length:Int):=by omega
    have r0:=cN HR.out 0 (.slice pA np pc) rfl;have r1:=cN HR.out 1 (.slice aA na ac) rfl;go_wp2_with fail;refine (rules11_any (np:Int) dd ty l A c k wr ⟨by omega,by omega⟩ (HC.out.below HB.out) HN.out hlt (fun t ht=>(HF.out t ht).below HB.out)).mono ?_;rintro e w7 ⟨E,ce,es,rfl,hoE,hle,hfE,hokE,hb7⟩;have HKE:=hid hokE;have HFE:=hid hfE;have HOE:=hid hoE
    have HO7:=hid (HO.out.below hb7);have HB7:=hid (bL HB.out hb7);have HR7:=hid (rK HR.out hb7);clear hokE hfE hoE hb7 r0 r1 HB HO HR;generalize wr=wo at *;go_wp2_with fail
    go_loopw [9,12] (fun o k2 wi=>∃ (j:Nat) (A2:Option Addr) (c2:Nat) (fs2:List (Int × Sr)),j<=es.length/\k2=.int .i64 j/\o=.slice A2 fs2.length c2/\FO wi w.heap.size A2 c2 fs2/\fZ 21 fs2/\fs2.length<=fs.length+j/\(fs2=[]->fs=[]/\j=0)/\Below w.heap.size w wi/\wi.heap[g4]? = some (.cells #[.slice pA np pc,.slice aA na ac] 25)/\ErO wi wo.heap.size E ce es) (fun _ k2 _=>es.length - (intOf k2).toNat)
    case atStart=>exact ⟨0,A',c',fs,Nat.zero_le _,rfl,rfl,HO7.out,HS.out,by omega,fun h=>⟨h,rfl⟩,HB7.out,HR7.out,HOE.out⟩
    case round =>
     clear HO7 HS HB7 HR7 HOE;obtain ⟨j,A2,c2,fs2,hj,rfl,rfl,hown2,hfs2,hlen2,hok2,hb2,hrow2,hoe2⟩:=hrel;have HO2:=hid hown2;have HS2:=hid hfs2;have HK2:=hid hok2;have HB2:=hid hb2;have HR2:=hid hrow2;have HE2:=hid hoe2;clear hown2 hfs2 hok2 hb2 hrow2 hoe2;by_cases hjl:j<es.length
     ·have hjl1:(j:Int)<(es.length:Int):=by omega
      obtain ⟨ge,oe,hE,hge,hx⟩:=HE2.out.cells (by rw [il];omega);subst hE;have x0:=hx j _ (iK es j hjl);have HL:=hid (fun (w2:World) (hb2:Below wr.drew.heap.size wr.drew w2)=>show w2.cell? ⟨ge,oe+j,none⟩=some (.int .i64 es[j]) from (hb2.cell (p:=⟨ge,oe+j,none⟩) hge).trans x0);have hfe:=HFE.out _ (List.getElem_mem hjl);have HFJ:=hid hfe
      have hk64:fits (k:Int):=by unfold fits;omega
      have HDC:=hid (fun w2:World=>rA (k:Int) w2 hk64);have HDL:=hid (Pf.decI_len hk64);have HOD:=hid (HO2.out.below ((Below.refl _ wr).drew));have HBD:=hid (HB2.out.drew);have HRD:=hid (show wr.drew.heap[g4]? = some (.cells #[.slice pA np pc,.slice aA na ac] 25) from HR2.out);have HED:=hid (HE2.out.below ((Below.refl _ wr).drew));clear hx hfe hk64
      generalize es[j]=ej at *;go_wp2_with fail;go_region_law (first
       |(refine step_flt ef rfl _ _ rfl rfl rfl rfl w.heap.size A2 c2 fs2 _ _ ej (dI (k:Int)) rfl ((HOD.out.below hb3).alloc _) rfl cells_twoK (by omega) (Nat.le_trans (bL HBD.out hb3).size (by simp)) ?_;intro A3 c3 w4 hown4 hb4 hkp4)
       |(go_simp;go_at_call 102;refine (HDC.out _).mono ?_;rintro e w3 ⟨rfl,hb3⟩;have l0:=HL.out w3 hb3))
      all_goals
       have n5:=(Na w3 (.cells #[.int .i64 ej,.string (B (dI (k:Int)))] 193)).1;have ho5:=(HOD.out.below hb3).below n5;have hr5:=rK (rK HRD.out hb3) n5;have hb5:=(bL (bL HBD.out hb3) n5).trans hb4;have hr6:=hkp4.row hr5 (ho5.far hr5 fN);have he6:=((HED.out.below hb3).below n5).keptA hkp4 ho5 flt_err;clear n5 ho5 hr5 l0;go_wp2_with fail;go_roundw
       case rel=>exact ⟨j+1,A3,c3,_,by omega,by go_num,by rw [sL],hown4,HS2.out.snoc HDL.out HFJ.out,by rw [sL];omega,sN,hb5,hr6,he6⟩
       case measure=>simp [intOf];omega
     ·have hjl1:¬ (j:Int)<(es.length:Int):=by omega
      go_wp2_with fail;go_roundw
      case rel =>
       refine ⟨k+1,A2,c2,fs2,by omega,by go_num,rfl,HO2.out,HS2.out,by omega,fun h=>?_,HB2.out,HR2.out⟩;obtain ⟨h1,h2⟩:=HK2.out h;have h3:es=[]:=List.length_eq_zero_iff.1 (by omega);intro q hq hqk;rcases Nat.lt_or_eq_of_le (Nat.le_of_lt_succ hqk) with h6 | h6
       ·exact HK.out h1 q hq h6
       ·subst h6;exact HKE.out h3
      case measure=>simp [intOf];omega
   ·have hlt1:¬ (k:Int)<(l.length:Int):=by omega
    go_wp2_with fail;go_ret;refine ⟨A',c',fs,rfl,HO.out,HS.out,by omega,fun h t ht=>?_,HB.out⟩;obtain ⟨j,hj,rfl⟩:=List.getElem_of_mem ht;exact HK.out h j hj (by omega)
theorem strs_atK (l:List Sr) (k:Nat) (h:k<l.length):(strs l)[k]? = some (.string (B l[k])):=by unfold strs;rw [List.getElem?_map,List.getElem?_eq_getElem h];rfl
theorem strs_lenK (l:List Sr):(strs l).length=l.length:=by simp [strs]
theorem places_any (ps:List Sr) (na:Nat) (pA aA:Option Addr) (pc ac:Nat) (w:World) (hp:ps.length<=1048576) (hc:Cs w pA (strs ps)) (hn:ps.length<=pc/\pc<=maxLen) (hf:∀ s ∈ ps,s.length<=maxLen) :
  Calls Tryz.prog 98 #[.agg #[.slice pA ps.length pc,.slice aA na ac]] w (FlE (ps.length+1) 30 True w):=by
 have HF:=hid hf;have HC:=hid hc;unfold maxLen at hn;obtain ⟨n4,p4⟩:=Na w (.cells #[.slice pA ps.length pc,.slice aA na ac] 25);have HN4:=hid n4;have HP4:=hid p4;clear hc hf n4 p4;go_enter Tryz.func98,Tryz.ntmps98;(try simp only [Bm]);go_upto_region 2 with fail;generalize w.alloc (.cells #[.slice pA ps.length pc,.slice aA na ac] 25)=wa at *
 obtain ⟨g4,hg4⟩:∃ g4,g4=w.heap.size:=⟨_,rfl⟩
 rw [<- hg4] at HP4;rw [<- hg4];have HG4:=hid hg4;clear hg4;go_cut [11] (fun s wx=>(∃ b:Bool,s=.bool b)/\wx=wa)
 case first =>
  as_aux_lemma =>
  have r0:=cN HP4.out 0 (.slice pA ps.length pc) rfl;by_cases h10:24<(ps.length:Int)
  ·go_wp2_with fail
   go_meet;exact ⟨⟨_,rfl⟩,rfl⟩
  ·go_wp2_with fail
   go_meet;exact ⟨⟨_,rfl⟩,rfl⟩
 case rest =>
 obtain ⟨⟨b,rfl⟩,hw⟩:=hcut;obtain rfl:=hw.symm;go_upto_if 11 with (fail)
 go_cut [3] (fun l2 wx=>∃ (A':Option Addr) (c':Nat) (fs:List (Int × Sr)),l2=.slice A' fs.length c'/\FO wx w.heap.size A' c' fs/\fZ 30 fs/\fs.length<=1/\Below w.heap.size w wx/\wx.heap[g4]? = some (.cells #[.slice pA ps.length pc,.slice aA na ac] 25))
 case first =>
  as_aux_lemma =>
  cases b with
  |true =>
   go_wp2_with (at_builtin;refine wt ef rfl _ _ rfl rfl rfl rfl w.heap.size none 0 [] wa 4 [112,108,97,99,101,115] rfl (OR.nil _ _ _ _) rfl (by decide) HN4.out.size ?_;intro A3 c3 w6 hown6 hb6 hkp6)
   go_meet;exact ⟨A3,c3,[(4,[112,108,97,99,101,115])],rfl,hown6,fZ.nil.snoc (by decide) (by decide),Nat.le_refl _,HN4.out.trans hb6,hkp6.row HP4.out (fun _ _ h=>by cases h)⟩
  |false =>
   go_wp2_with fail;go_meet;exact ⟨none,0,[],rfl,OR.nil _ _ _ _,fZ.nil,Nat.zero_le _,HN4.out,HP4.out⟩
 case rest =>
  rename World=>w1;obtain ⟨A1,c1,fs1,rfl,hown1,hfs1,hl1,hb1,hrow1⟩:=hcut;have HO1:=hid hown1;have HS1:=hid hfs1;have HB1:=hid hb1;have HR1:=hid hrow1;clear hown1 hfs1 hb1 hrow1 HN4 HP4;go_wp2_with fail
  go_loopw [3,4,5,6,7] (fun o i _ _ _ wr=>∃ (k:Nat) (A':Option Addr) (c':Nat) (fs:List (Int × Sr)),k<=ps.length/\i=.int .i64 k/\o=.slice A' fs.length c'/\FO wr w.heap.size A' c' fs/\fZ 30 fs/\fs.length<=k+1/\Below w.heap.size w wr/\wr.heap[g4]? = some (.cells #[.slice pA ps.length pc,.slice aA na ac] 25)) (fun _ i _ _ _ _=>ps.length - (intOf i).toNat)
  case atStart=>exact ⟨0,A1,c1,fs1,Nat.zero_le _,rfl,rfl,HO1.out,HS1.out,by omega,HB1.out,HR1.out⟩
  case round =>
   clear HO1 HS1 HB1 HR1 hl1;obtain ⟨k,A',c',fs,hk,rfl,rfl,hown,hfs,hlen,hbel,hrow⟩:=hrel;have HO:=hid hown;have HS:=hid hfs;have HB:=hid hbel;have HR:=hid hrow;clear hown hfs hbel hrow;have r0:=cN HR.out 0 (.slice pA ps.length pc) rfl;by_cases hlt:k<ps.length
   ·have hlt1:(k:Int)<(ps.length:Int):=by omega
    have hk64:fits (k:Int):=by unfold fits;omega
    have HDC:=hid (fun w2:World=>rA (k:Int) w2 hk64);have hdl:=Pf.decI_len hk64;clear hk64;go_wp2_with fail;refine (HDC.out _).mono ?_;rintro e w3 ⟨rfl,hb3⟩;clear HDC r0;obtain ⟨g1,o1,hA1,hg1,hx⟩:=HC.out (by rw [strs_lenK];omega);subst hA1;have HO3:=hid (HO.out.below hb3);have HB3:=hid (bL HB.out hb3);have HR3:=hid (rK HR.out hb3);clear hb3 HO HB HR
    have r0:=cN HR3.out 0 (.slice (some ⟨g1,o1,none⟩) ps.length pc) rfl;have x0:=(HB3.out.cell (p:=⟨g1,o1+k,none⟩) hg1).trans (hx k _ (strs_atK ps k hlt));have HX:=hid (fun (wn:World) (hb:Below w.heap.size w wn) (j:Nat) (hj:j<ps.length)=>(hb.cell (p:=⟨g1,o1+j,none⟩) hg1).trans (hx j _ (strs_atK ps j hj)));have hsl:=HF.out _ (List.getElem_mem hlt);have hnm:=Ry ps[k] w3 hsl
    have HNM:=hid hnm;clear hnm hx;unfold maxLen at hsl;have HPK:=hid (show ∃ p,p=ps[k] from ⟨_,rfl⟩);generalize wr=wo at *;obtain ⟨p,hp⟩:=HPK.out;have hpp:ps[k]=p:=hp.symm;rw [hpp] at x0 hsl HNM;have HPP:=hid hpp;clear hpp hp HPK;go_wp2_with fail;refine HNM.out.mono ?_;rintro e w4 ⟨rfl,rfl⟩
    cases NK p with
    |false =>
     go_wp2_with (at_builtin;refine wt ef rfl _ _ rfl rfl rfl rfl w.heap.size A' c' fs w4 5 _ rfl HO3.out rfl (by omega) HB3.out.size ?_;intro A3 c3 w6 hown6 hb6 hkp6)
     go_roundw
     case rel=>exact ⟨k+1,A3,c3,_,by omega,by go_num,by rw [sL],hown6,HS.out.snoc (by simp;omega) (by decide),by rw [sL];omega,HB3.out.trans hb6,hkp6.row HR3.out (HO3.out.far HR3.out fN)⟩
     case measure=>simp [intOf];omega
    |true =>
     clear r0 x0;go_wp2_with fail;go_loopw [6,7] (fun b2 j2 wr=>∃ (j:Nat) (b:Bool),j<=k/\j2=.int .i64 j/\b2=.bool b/\FO wr w.heap.size A' c' fs/\Below w.heap.size w wr/\wr.heap[g4]? = some (.cells #[.slice (some ⟨g1,o1,none⟩) ps.length pc,.slice aA na ac] 25)) (fun _ j2 _=>k - (intOf j2).toNat)
     case atStart=>exact ⟨0,false,Nat.zero_le _,rfl,rfl,HO3.out,HB3.out,HR3.out⟩
     case round =>
      clear HO3 HB3 HR3 HNM;obtain ⟨j,b,hj,rfl,rfl,hown2,hb2,hrow2⟩:=hrel;have HO2:=hid hown2;have HB2:=hid hb2;have HR2:=hid hrow2;clear hown2 hb2 hrow2
      have HQ:=hid (show ∀ nq,FO (wr.drewN nq) w.heap.size A' c' fs/\Below w.heap.size w (wr.drewN nq)/\(wr.drewN nq).heap[g4]? = some (.cells #[.slice (some ⟨g1,o1,none⟩) ps.length pc,.slice aA na ac] 25) from fun nq=>⟨HO2.out.below (below_drewN (Below.refl _ _) nq),below_drewN HB2.out nq,rK HR2.out (below_drewN (Below.refl _ _) nq)⟩);by_cases hjl:j<k
      ·have hjl1:(j:Int)<(k:Int):=by omega
       have hjl2:j<ps.length:=by omega
       have hjl3:(j:Int)<(ps.length:Int):=by omega
       cases b with
       |true =>
        go_wp2_with fail;go_quiet (fail)
        go_wp2_with fail;go_roundw
        case rel=>exact ⟨j+1,true,by omega,by go_num,rfl,HQ.out nq⟩
        case measure=>simp [intOf];omega
       |false =>
        have r0:=cN HR2.out 0 (.slice (some ⟨g1,o1,none⟩) ps.length pc) rfl;have x1:=HX.out wr HB2.out j hjl2;have x2:=HX.out wr HB2.out k hlt;rw [HPP.out] at x2;have hsj:=HF.out _ (List.getElem_mem hjl2);unfold maxLen at hsj;generalize ps[j]=v at *;by_cases hvp:v=p
        ·have hvb:=str_bt hvp
         clear hvp;go_wp2_with fail;go_quiet (fail)
         go_wp2_with fail;go_roundw
         case rel=>exact ⟨j+1,true,by omega,by go_num,rfl,HQ.out nq⟩
         case measure=>simp [intOf];omega
        ·have hvb:=str_bf hvp
         clear hvp;go_wp2_with fail;go_quiet (fail)
         go_wp2_with fail;go_roundw
         case rel=>exact ⟨j+1,false,by omega,by go_num,rfl,HQ.out nq⟩
         case measure=>simp [intOf];omega
      ·have hjl1:¬ (j:Int)<(k:Int):=by omega
       cases b with
       |true =>
        go_wp2_with (at_builtin;refine wt ef rfl _ _ rfl rfl rfl rfl w.heap.size A' c' fs wr 6 _ rfl HO2.out rfl (by omega) HB2.out.size ?_;intro A3 c3 w6 hown6 hb6 hkp6)
        go_roundw
        case rel=>exact ⟨k+1,A3,c3,_,by omega,by go_num,by rw [sL],hown6,HS.out.snoc (by simp;omega) (by decide),by rw [sL];omega,HB2.out.trans hb6,hkp6.row HR2.out (HO2.out.far HR2.out fN)⟩
        case measure=>simp [intOf];omega
       |false =>
        go_wp2_with fail;go_roundw
        case rel=>exact ⟨k+1,A',c',fs,by omega,by go_num,rfl,HO2.out,HS.out,by omega,HB2.out,HR2.out⟩
        case measure=>simp [intOf];omega
   ·have hlt1:¬ (k:Int)<(ps.length:Int):=by omega
    go_wp2_with fail;go_ret;exact ⟨A',c',fs,rfl,HO.out,HS.out,by omega,fun _=>trivial,HB.out⟩
section
variable {P:Program} {ops:Array Oper} {rest:List Oper} {o:Oper} {a:Act} {Q:Exit->Act->World->Prop}
theorem wp_appN {t e:TypeId} {z:Value} {sz bytes:Nat} (he:ER P t e z sz bytes) (hgd:o.guard=none) (s x:Operand) (ho:o.op=.call { callee:=.builtin .append,args:=#[s,x],argTypes:=#[t,t] })
  (Bs:Nat) (A:Option Addr) (n c:Nat) (xs:List Value) (w:World) (us:Array Value) (hs:a.eval s=.slice A n c) (hown:OR w Bs e sz A n c xs)
  (hx:a.eval x=.slice (some ⟨w.heap.size,0,none⟩) 1 1) (hus:us.size=sz) (h1:∀ u ∈ us.toList,u.oneCell'=true) (h63:n+1<=maxLen) (hby:(n+1)*bytes<=140737488355328) (hbase:Bs<=w.heap.size)
  (h:∀ A' c' w',OR w' Bs e sz A' (n+1) c' (xs ++ us.toList)->Below Bs w w'->KA A w w'->(A'=A∨∃ g,A'=some ⟨g,0,none⟩/\w.heap.size<=g)->wpList P ops Q rest (a.put o.dst (.slice A' (n+1) c')) w') :
  wpList P ops Q (o :: rest) a (w.alloc (.cells us e)):=by
 obtain ⟨ht,⟨i,hi,hz,hsz,hb⟩,hzs,hpos⟩:=he;have hown':(w.alloc (.cells us e)).ownsRow Bs e sz (.slice A n c) n xs:=hown.alloc _
 have hcell:∀ j u,us.toList[j]? = some u->(w.alloc (.cells us e)).cell? ((⟨w.heap.size,0,none⟩:Addr).add j)=some u:=by
  intro j v hj;rw [Array.getElem?_toList] at hj;unfold Addr.add;by_cases h0:j=0
  ·subst h0;rw [if_pos rfl,World.cell?_alloc_new];exact hj
  ·rw [if_neg h0];show (w.alloc _).cell? ⟨w.heap.size,0+j,none⟩=_;rw [Nat.zero_add,World.cell?_alloc_new];exact hj
 have hul:us.toList.length=1*sz:=by rw [Array.length_toList,hus];omega
 have hal:(w.alloc (.cells us e)).heap.size=w.heap.size+1:=by show (w.heap.push _).size=_;exact Array.size_push ..
 obtain ⟨v',w',hrun,h2,h3,h4⟩:=run_append_own (P:=P) (w.alloc (.cells us e)) Bs t o.type e i z sz bytes ht hi hz hsz hb hzs hpos (.slice A n c) n xs hown' ⟨w.heap.size,0,none⟩ 1 1 us.toList hul hcell h1 h63 hby (by rw [hal];omega);have hne:v'≠.slice none 0 0:=by intro e;have:=(h4.1 e).2;omega
 obtain ⟨g,cap,hv⟩:∃ g cap,v'=.slice (some ⟨g,0,none⟩) (n+1) cap:=by
  rcases h2.2 with ⟨hv,_⟩ | ⟨g,cap,cur,hv,_⟩
  ·exact absurd hv hne
  ·exact ⟨g,cap,hv⟩
 subst hv
 have hwhere:some (⟨g,0,none⟩:Addr)=A∨∃ g',some (⟨g,0,none⟩:Addr)=some ⟨g',0,none⟩/\w.heap.size<=g':=by
  rcases hown'.2 with ⟨hv,hn0⟩ | ⟨g',cap',cur,hv,hbg,hg,hnc,hcm,hcs,htake⟩
  ·rw [hv,hn0] at hrun
   obtain ⟨v2,w2,hrun2,h22,_,_⟩:=run_append_own (P:=P) (w.alloc (.cells us e)) w.heap.size t o.type e i z sz bytes ht hi hz hsz hb hzs hpos (.slice none 0 0) 0 [] (World.ownsRow_nil _ _ _ _) ⟨w.heap.size,0,none⟩ 1 1 us.toList hul hcell h1 (by unfold maxLen;omega) (Nat.le_trans (Nat.mul_le_mul_right _ (by omega)) hby) (by rw [hal];omega);rw [hrun] at hrun2;injection hrun2 with e1 e2
   subst e1;rcases h22.2 with ⟨hv2,_⟩ | ⟨g2,cap2,cur2,hv2,hb2,_⟩
   ·injection hv2 with hv2 _ _;cases hv2
   ·injection hv2 with hv2 _ _
    exact Or.inr ⟨g2,hv2,hb2⟩
  ·injection hv with hvA hvn hvc
   subst hvA hvc;subst hsz;by_cases hroom:n+1<=c
   ·have hr:=run_append_room (P:=P) (w.alloc (.cells us e)) t o.type e i ht hi g' n c cur hg ⟨w.heap.size,0,none⟩ 1 1 us.toList hul hcell h1 hroom (by rw [hul,hcs,<- Nat.add_mul];exact Nat.mul_le_mul_right _ hroom)
    rw [hrun] at hr;injection hr with e1 e2
    injection e1 with e1 _ _
    exact Or.inl e1
   ·have hr:=run_append_grow (P:=P) (w.alloc (.cells us e)) t o.type e i z ht hi hz ⟨g',0,none⟩ n c xs hown'.1 (hown'.cells (g:=g') rfl) ⟨w.heap.size,0,none⟩ 1 1 us.toList hul hcell (by omega) (by unfold maxLen at h63;omega) (growslice_fits (by omega) (by rw [hb];exact hby))
    rw [hrun] at hr;injection hr with e1 e2
    injection e1 with e1 _ _
    exact Or.inr ⟨_,e1,by rw [hal];omega⟩
 refine wpList_plain hgd fun K hK=>?_;unfold Oper.wp execOp;simp only [ho,resolve,invoke,builtin,Sem.run_bind,Sem.run_pure,Result.andThen_ok,List.map_toArray,List.map_cons,List.map_nil,hs,hx,hrun];refine hK _ _ (h _ _ _ h2 ?_ ⟨?_,?_⟩ hwhere)
 ·refine ((Below.refl _ _).alloc hbase _).grown h3 (by rw [hal];omega) ?_
  intro k hk;rcases hown.2 with ⟨hv,_⟩ | ⟨g',cap',cur',hv,hg',_⟩
  ·rw [hv] at hk;simp [Value.ownBlock] at hk
  ·rw [hv] at hk;simp [Value.ownBlock] at hk;omega
 ·have:=h3.size;rw [hal] at this;omega
 ·intro k hk hA
  have hne2:some k≠(Value.slice A n c).ownBlock:=by
   rcases hown.2 with ⟨hv,_⟩ | ⟨g',cap',cur',hv,hg',_⟩
   ·rw [hv];simp [Value.ownBlock]
   ·injection hv with hv1 _ _
    rw [hv1];intro e;have:k=g':=by simpa [Value.ownBlock] using e
    exact hA 0 none (by rw [hv1,this])
  rw [h3.block k (by rw [hal];omega) hne2];show (w.heap.push _)[k]? = _
  rw [Array.getElem?_push_lt hk,Array.getElem?_eq_getElem hk]
theorem wp_fltN {t e:TypeId} {z:Value} {sz bytes:Nat} (he:ER P t e z sz bytes) (hgd:o.guard=none) (s x:Operand) (ho:o.op=.call { callee:=.builtin .append,args:=#[s,x],argTypes:=#[t,t] }) (het:e=193) (hsz:sz=2) (hby:bytes=24)
  (Bs:Nat) (A:Option Addr) (c:Nat) (fs:List (Int × Sr)) (w:World) (k:Int) (str:Sr) (hs:a.eval s=.slice A fs.length c) (hown:FO w Bs A c fs)
  (hx:a.eval x=.slice (some ⟨w.heap.size,0,none⟩) 1 1) (hl:fs.length<=1099511627776) (hbase:Bs<=w.heap.size)
  (h:∀ A' c' w',FO w' Bs A' c' (fs ++ [(k,str)])->Below Bs w w'->KA A w w'->(A'=A∨∃ g,A'=some ⟨g,0,none⟩/\w.heap.size<=g)->wpList P ops Q rest (a.put o.dst (.slice A' (fs ++ [(k,str)]).length c')) w') :
  wpList P ops Q (o :: rest) a (w.alloc (.cells #[.int .i64 k,.string (B str)] e)):=by
 subst het hsz hby;refine wp_appN he hgd s x ho Bs A fs.length c (fs.flatMap fC) w #[.int .i64 k,.string (B str)] hs hown hx rfl (by intro u hu;simp at hu;rcases hu with rfl | rfl <;> rfl) (by unfold maxLen;omega) (by omega) hbase ?_;intro A' c' w' h1 h2 h3 h5;have hlen:(fs ++ [(k,str)]).length=fs.length+1:=by rw [List.length_append];rfl
 have h4:=h A' c' w' (by show OR _ _ _ _ _ _ _ _;rw [hlen,<- FO.snoc];exact h1) h2 h3 h5;rw [hlen] at h4;exact h4
end
def Aprt (w:World) (E A:Option Addr) (l:List Value):Prop:=Cs w E l/\(0<l.length->∃ gE,E=some ⟨gE,0,none⟩/\gE<w.heap.size/\A≠some ⟨gE,0,none⟩)
theorem Aprt.start {w wx:World} {Bs sz sz' n c n' c':Nat} {e e':TypeId} {E A:Option Addr} {xs ys:List Value} (hE:OR wx w.heap.size e sz E n c xs) (hA:OR w Bs e' sz' A n' c' ys):Aprt wx E A xs:=by
 refine ⟨hE.cells,fun h0=>?_⟩
 have hn:0<n:=by
  rcases Nat.eq_zero_or_pos n with h | h
  ·have:=hE.len;rw [h,Nat.zero_mul] at this;omega
  ·exact h
 obtain ⟨g,hg,hgb,hgs,_⟩:=hE.at_ hn;refine ⟨g,hg,hgs,fun hA2=>?_⟩;subst hA2;have:=hA.typ.2.1;omega
theorem Aprt.app {w w':World} {Bs sz n c:Nat} {e:TypeId} {E A A':Option Addr} {l ys:List Value} (h:Aprt w E A l) (hA:OR w Bs e sz A n c ys) (hk:KA A w w') (hn:A'=A∨∃ g,A'=some ⟨g,0,none⟩/\w.heap.size<=g):Aprt w' E A' l:=by
 refine ⟨fun h0=>?_,fun h0=>?_⟩
 ·obtain ⟨gE,e1,hlt,hne⟩:=h.2 h0
  obtain ⟨b,off,e2,hb,hc⟩:=h.1 h0;have e3:=e1;rw [e2] at e3;injection e3 with e3
  injection e3 with e3 e4 e5
  subst e3 e4
  have hrow:w'.heap[b]? = w.heap[b]? := hk.2 b hlt fun off sp hA2=>by
   rcases hA.form with hf | ⟨g',hf⟩
   ·rw [hf] at hA2;cases hA2
   ·have h6:=hf
    rw [hA2] at h6;injection h6 with h6
    injection h6 with h7 h8 h9
    exact hne (by rw [hA2,h8,h9])
  refine ⟨b,0,e2,Nat.lt_of_lt_of_le hlt hk.1,fun j u hu=>?_⟩;have h5:=hc j u hu;unfold World.cell? at h5 ⊢;rw [hrow];exact h5
 ·obtain ⟨gE,e1,hlt,hne⟩:=h.2 h0
  refine ⟨gE,e1,Nat.lt_of_lt_of_le hlt hk.1,?_⟩;rcases hn with hn | ⟨g,hn,hg⟩
  ·rw [hn];exact hne
  ·rw [hn]
   intro h6;injection h6 with h6
   injection h6 with h6 _ _
   omega
end Go.Proofs.YtjcekdiocliddaaGreatDoor
