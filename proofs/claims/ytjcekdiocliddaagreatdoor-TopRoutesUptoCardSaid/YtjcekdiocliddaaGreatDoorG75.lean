/- lorryref13.Check. -/
import Derived.Test.YtjcekdiocliddaaGreatDoorG74
import Derived.OrdersHeld
import Derived.Deep.RegionHeld3
import Derived.Test.YtjcekdiocliddaaGreatDoorG70
namespace Go.Proofs.YtjcekdiocliddaaGreatDoor
open Lib (hid)
open Go.RowKit Num Txt Pf Tk
set_option maxHeartbeats 32000000
set_option maxRecDepth 100000
set_option linter.unusedVariables false
attribute [local go_sem] BS Bg Bt Bm Be Ba
section
variable {P:Program} {ops:Array Oper} {rest:List Oper} {o:Oper} {a:Act} {Q:Exit->Act->World->Prop}
theorem step_fltM {K:Act->World->Prop} {E:Prop} {t e:TypeId} {z:Value} {sz bytes:Nat} (he:ER P t e z sz bytes) (hgd:o.guard=none) (s x:Operand) (ho:o.op=.call { callee:=.builtin .append,args:=#[s,x],argTypes:=#[t,t] }) (het:e=193) (hsze:sz=2) (hbye:bytes=24)
  (Bs:Nat) (A:Option Addr) (c:Nat) (fs:List (Int × Sr)) (w:World) (Bx:Nat) (X:Option Addr) (cx:Nat) (gs:List (Int × Sr)) (hs:a.eval s=.slice A fs.length c) (hown:FO w Bs A c fs)
  (hx:a.eval x=.slice X gs.length cx) (hX:FO w Bx X cx gs) (hl:fs.length+gs.length<=1099511627776) (hbase:Bs<=w.heap.size)
  (hK:∀ A' c' w',FO w' Bs A' c' (fs ++ gs)->Below Bs w w'->KA A w w'->K (a.put o.dst (.slice A' (fs ++ gs).length c')) w') :
  if Region.wanted o (yielded ops a.tmps)=true then Oper.wp P o a w K Q else E:=by
 subst het hsze hbye;obtain ⟨ht,⟨i,hi,hz,hsz,hb⟩,hzs,hpos⟩:=he;have hw:Region.wanted o (yielded ops a.tmps)=true:=by simp [Region.wanted,hgd]
 rw [if_pos hw];have hown0:w.ownsRow Bs 193 2 (.slice A fs.length c) fs.length (fs.flatMap fC):=hown
 have hkp:∀ {w':World},w.grownBy w' (Value.slice A fs.length c).ownBlock->KA A w w':=fun {w'} h3=>⟨h3.size,fun k hk hA=>h3.block k hk (by
  rcases hown0.2 with ⟨hv,_⟩ | ⟨g',cap',cur',hv,hg',_⟩
  ·rw [hv];simp [Value.ownBlock]
  ·injection hv with hv1 _ _
   rw [hv1];intro e;have:k=g':=by simpa [Value.ownBlock] using e
   exact hA 0 none (by rw [hv1,this]))⟩
 cases X with
 |none =>
  have hcx:=hX.nilC rfl;subst hcx
  have hg0:gs.length=0:=by
   rcases Nat.eq_zero_or_pos gs.length with h | h
   ·exact h
   ·obtain ⟨g,hg,_⟩:=hX.at_ h;cases hg
  have hgs:gs=[]:=List.length_eq_zero_iff.1 hg0;subst hgs;have hrun:=run_append_owned_none (P:=P) (w:=w) Bs t o.type 193 i 2 ht hi (.slice A fs.length c) fs.length (fs.flatMap fC) hown0;unfold Oper.wp;simp [execOp,ho,resolve,invoke,builtin,hs,hx,hrun,Result.andThen]
  have h4:=hK A c w (by rw [List.append_nil];exact hown) (Below.refl _ _) ⟨Nat.le_refl _,fun _ _ _=>rfl⟩;rw [List.append_nil] at h4;exact h4
 |some ad =>
  have hcell:∀ j u,(gs.flatMap fC)[j]? = some u->w.cell? (ad.add j)=some u:=by
   intro j u hu;have h0:0<(gs.flatMap fC).length:=by have:=(List.getElem?_eq_some_iff.1 hu).1;omega
   obtain ⟨b,off,e,hb,h2⟩:=hX.cells h0;injection e with e
   subst e;rw [Go.WideShapes.add_plain];exact h2 j u hu
  obtain ⟨v',w',hrun,h2,h3,_⟩:=run_append_own (P:=P) w Bs t o.type 193 i z 2 24 ht hi hz hsz hb hzs hpos (.slice A fs.length c) fs.length (fs.flatMap fC) hown0 ad gs.length cx (gs.flatMap fC) (flt_len _) hcell flt_one (by unfold maxLen;omega) (by omega) hbase;obtain ⟨A2,c2,rfl⟩:=oS h2;unfold Oper.wp;simp [execOp,ho,resolve,invoke,builtin,hs,hx,hrun,Result.andThen]
  have h4:=hK A2 c2 w' (by show OR _ _ _ _ _ _ _ _;rw [List.length_append,List.flatMap_append];exact h2) ((Below.refl _ _).grown h3 hbase hown.rowb) (hkp h3);rw [List.length_append] at h4;exact h4
end
theorem flt_ins:193≠30:=by decide
def insR (m:IM):Array Value:=#[.slice m.pA m.places.length m.pc,.slice m.aA m.arcs.length m.ac,.slice m.tA m.types.length m.tc,.slice m.oA m.ords.length m.oc,.slice m.xA m.apart.length m.xc,.slice m.bA m.before.length m.bc]
structure InsFew (m:IM):Prop where
 np:m.places.length<=6
 na:m.arcs.length<=40
 nt:m.types.length<=2
 no:m.ords.length<=3
 nx:m.apart.length<=4
 nb:m.before.length<=4
 len:∀ t ∈ m.arcs,t.a.trav.length<=1048576/\t.a.slow.length<=1048576
theorem dimsV_eq (m:IM):dV m.v=dN m.types:=by
 unfold dV IM.v dN;cases m.types <;> rfl
theorem insOK_of {m:IM} (h:InsFew m) (h1:∀ t ∈ m.arcs,AK t.a) (h2:∀ t ∈ m.types,TO t.t/\TX (dN m.types) t.t) (h3:∀ t ∈ m.ords,S2 t/\OrdX (dN m.types) t.o):IK m.v :=
 ⟨fun a ha=>by obtain ⟨x,hx,rfl⟩:=List.mem_map.1 ha;exact h1 x hx,fun a ha=>by obtain ⟨x,hx,rfl⟩:=List.mem_map.1 ha;exact (h2 x hx).1,fun a ha=>by obtain ⟨x,hx,rfl⟩:=List.mem_map.1 ha;exact (h3 x hx).1,
  h.np,by show (m.arcs.map _).length<=_;rw [List.length_map];exact h.na,by show (m.types.map _).length<=_;rw [List.length_map];exact h.nt,by show (m.ords.map _).length<=_;rw [List.length_map];exact h.no,
  fun a ha=>by obtain ⟨x,hx,rfl⟩:=List.mem_map.1 ha;rw [dimsV_eq];exact (h2 x hx).2,fun a ha=>by obtain ⟨x,hx,rfl⟩:=List.mem_map.1 ha;rw [dimsV_eq];exact (h3 x hx).2⟩
theorem ischeck_any (m:IM) (w:World) (hi:IA w m) (hf:InsFew m):Calls Tryz.prog 16 #[iA m] w (FlE 400000000 70 (IK m.v) w):=by
 have HF:=hid hf;obtain ⟨n4,p4⟩:=Na w (.cells (insR m) 30);have HI:=hid (hi.below n4);have hi0:=hid hi;have HN4:=hid n4;have HP4:=hid p4;obtain ⟨l1,l2,l3,l4,l5,l6,_⟩:=hf;clear hi n4 p4;go_enter Tryz.func16,Tryz.ntmps16;(try simp only [Bm]);go_upto_region 1 with fail
 rw [show w.alloc (.cells #[.slice m.pA m.places.length m.pc,.slice m.aA m.arcs.length m.ac,.slice m.tA m.types.length m.tc,.slice m.oA m.ords.length m.oc,.slice m.xA m.apart.length m.xc,.slice m.bA m.before.length m.bc] 30)=w.alloc (.cells (insR m) 30) from rfl];generalize w.alloc (.cells (insR m) 30)=wa at *;obtain ⟨g4,hg4⟩:∃ g4,g4=w.heap.size:=⟨_,rfl⟩
 rw [<- hg4] at HP4;rw [<- hg4];clear hg4;have r0:=cN HP4.out 0 (.slice m.pA m.places.length m.pc) rfl;have r1:=cN HP4.out 1 (.slice m.aA m.arcs.length m.ac) rfl;go_wp2_with fail;refine (netcheck_any m.places m.arcs m.pA m.aA m.pc m.ac wa (by omega) HI.out.places HI.out.pl HI.out.placeF HI.out.arcs HI.out.al l2 HI.out.arcE HF.out.len).mono ?_;rintro e w1 ⟨E1,ce1,fs1,rfl,ho1,hs1,hl1,hk1,hb1⟩
 clear r0 r1;have HK1:=hid hk1;have HU1:=hid (ua [110,101,116] fs1 E1 ce1 30 w1 ho1.cells ho1.cap hs1 (by decide) (by decide) (by omega));have HB1:=hid (bL HN4.out hb1);have HR1:=hid (rK HP4.out hb1);have HI1:=hid (HI.out.below hb1);clear ho1 hs1 hb1 hk1;go_wp2_with fail;refine HU1.out.mono ?_;rintro e w2 ⟨A2,c2,us,rfl,ho2,hs2,hl2,hk2,hb2⟩
 have HE2:=hid (show us=[]->∀ t ∈ m.arcs,AK t.a from fun h=>HK1.out (hk2 h));have HO2:=hid (ho2.mono HB1.out.size);have HS2:=hid (hs2.mono (K':=70) (by decide));have HB2:=hid (bL HB1.out hb2);have HR2:=hid (rK HR1.out hb2);have HI2:=hid (HI1.out.below hb2);have hul:us.length<=200000000:=by omega
 clear ho2 hs2 hb2 hk2 HU1 HK1 HB1 HR1 HI1 hl2 hl1;have r0:=cN HR2.out 0 (.slice m.pA m.places.length m.pc) rfl;have r1:=cN HR2.out 1 (.slice m.aA m.arcs.length m.ac) rfl;have r2:=cN HR2.out 2 (.slice m.tA m.types.length m.tc) rfl;go_wp2_with fail
 refine (tycheck_any m.places.length m.arcs.length m.pA m.aA m.pc m.ac m.types m.tA m.tc w2 (by omega) HI2.out.types HI2.out.tl (by omega) HI2.out.typeE).mono ?_;rintro e w3 ⟨E3,ce3,fs3,rfl,ho3,hs3,hl3,hk3,hb3⟩;clear r0 r1 r2;have HK3:=hid hk3;have HU3:=hid (ua [116,121,112,101,115] fs3 E3 ce3 21 w3 ho3.cells ho3.cap hs3 (by decide) (by decide) (by omega))
 have HO3:=hid (HO2.out.below hb3);have HB3:=hid (bL HB2.out hb3);have HR3:=hid (rK HR2.out hb3);have HI3:=hid (HI2.out.below hb3);clear ho3 hs3 hb3 hk3 HO2 HB2 HR2 HI2;go_wp2_with fail;refine HU3.out.mono ?_;rintro e w4 ⟨A4,c4,us4,rfl,ho4,hs4,hl4,hk4,hb4⟩;have HE4:=hid (show us4=[]->∀ t ∈ m.types,TO t.t/\TX (dN m.types) t.t from fun h=>HK3.out (hk4 h))
 have HX4:=hid ho4;have HS4:=hid (HS2.out.app (hs4.mono (K':=70) (by decide)));have HO4:=hid (HO3.out.below hb4);have HB4:=hid (bL HB3.out hb4);have HR4:=hid (rK HR3.out hb4);have HI4:=hid (HI3.out.below hb4);clear ho4 hs4 hb4 hk4 HU3 HK3 HO3 HB3 HR3 HI3 HS2
 go_upto_region 3 with (at_builtin;refine wM ef rfl _ _ rfl rfl rfl rfl w.heap.size A2 c2 us w4 _ A4 c4 us4 rfl HO4.out rfl HX4.out (by omega) HB4.out.size ?_;intro A5 c5 w5 hown5 hb5 hkp5)
 have HO5:=hid hown5;have HB5:=hid (HB4.out.trans hb5);have HR5:=hid (hkp5.row HR4.out (HO4.out.far HR4.out flt_ins));have HI5:=hid (hi0.out.below (HB4.out.trans hb5));clear hown5 hb5 hkp5 HO4 HB4 HR4 HI4 HX4;obtain ⟨vs,hvs⟩:∃ vs,vs=us ++ us4:=⟨_,rfl⟩
 have hvl:us.length+us4.length=vs.length:=by rw [hvs,List.length_append]
 rw [<- hvs] at HO5 HS4;rw [hvl];have HVS:=hid hvs;have hvl2:vs.length<=200000100:=by omega
 clear hvs hvl;go_cut [3] (fun l2 wx=>∃ (A':Option Addr) (c':Nat) (fs:List (Int × Sr)),l2=.slice A' fs.length c'/\FO wx w.heap.size A' c' fs/\fs.length<=200001000/\fZ 70 fs/\(fs=[]->vs=[]/\∀ t ∈ m.ords,S2 t/\OrdX (dN m.types) t.o)/\Below w.heap.size w wx/\wx.heap[g4]? = some (.cells (insR m) 30))
 case first =>
  as_aux_lemma =>
  have hd:Below w5.heap.size w5 w5.drew:=(Below.refl _ w5).drew;have HOD:=hid (HO5.out.below hd);have HBD:=hid (bL HB5.out hd);have HRD:=hid (rK HR5.out hd);have HID:=hid (HI5.out.below hd);clear hd HO5 HB5 HI5;have r0:=cN HR5.out 0 (.slice m.pA m.places.length m.pc) rfl;have r1:=cN HR5.out 1 (.slice m.aA m.arcs.length m.ac) rfl
  have r2:=cN HR5.out 2 (.slice m.tA m.types.length m.tc) rfl;have r3:=cN HR5.out 3 (.slice m.oA m.ords.length m.oc) rfl;have H28:=hid (dims10_any m.types m.tA m.tc w5.drew HID.out.types HID.out.tl (fun t ht=>(HID.out.typeE t ht).cl))
  have H27:=hid (orcheck_any m.places.length m.arcs.length m.pA m.aA m.pc m.ac (dN m.types:Nat) (m.types.length:Nat) m.ords m.oA m.oc w5.drew (by omega) HID.out.ords HID.out.ol (by omega) HID.out.ordE)
  have H24:=hid (fun (fs:List (Int × Sr)) (E:Option Addr) (ce Bs:Nat) (w1:World) (h:FO w1 Bs E ce fs) (hs:fZ 21 fs) (hl:fs.length<=1000)=>ua [111,114,100,101,114,115] fs E ce 21 w1 h.cells h.cap hs (by decide) (by decide) (by omega));go_upto_region 3 with fail;have hS0:(fun w'=>w'.heap[g4]? = some (.cells (insR m) 30)) w5.drew:=HRD.out
  refine wp_region_held_drew (S:=fun w'=>w'.heap[g4]? = some (.cells (insR m) 30)) (by kernel_rfl) hS0 (fun _=>?_);refine td 0 ?_;refine td 1 ?_;(try simp only [Act.put,P1,pu,P3]);refine Tv 2 (v:=?_) ?_ ?_;rotate_left
  ·(intro w hSw;have q0:=cN hSw 0 (.slice m.pA m.places.length m.pc) rfl;have q1:=cN hSw 1 (.slice m.aA m.arcs.length m.ac) rfl;go_simp;(try with_reducible rfl))
  refine td 3 ?_;refine tq 4 (fun w hSw=>cN hSw 2 (.slice m.tA m.types.length m.tc) rfl) ?_;refine td 6 ?_;refine tq 7 (fun w hSw=>cN hSw 2 (.slice m.tA m.types.length m.tc) rfl) ?_;refine td 8 ?_;refine td 9 ?_;refine tq 10 (fun w hSw=>cN hSw 3 (.slice m.oA m.ords.length m.oc) rfl) ?_;(try simp only [Act.put,P1,pu,P3]);refine one 5 (fun K hK=>?_);go_simp;refine H28.out.mono ?_
  rintro e wz ⟨rfl,rfl⟩;refine hK.out _ _ (by assumption) (fun _=>?_);clear hK K;(try simp only [Act.put,P1,pu,P3]);refine one 11 (fun K hK=>?_);go_simp;refine H27.out.mono ?_;rintro e w6 ⟨E6,ce6,fs6,rfl,ho6,hs6,hl6,hk6,hb6⟩;refine hK.out _ _ (rK HRD.out hb6) (fun _=>?_);clear hK K;(try simp only [Act.put,P1,pu,P3]);refine one 12 (fun K hK=>?_);go_simp
  refine (H24.out fs6 E6 ce6 _ _ ho6 hs6 (by omega)).mono ?_;rintro e w7 ⟨A7,c7,us6,rfl,ho7,hs7,hl7,hk7,hb7⟩;refine hK.out _ _ (rK (rK HRD.out hb6) hb7) (fun _=>?_);clear hK K;(try simp only [Act.put,P1,pu,P3]);refine one 13 (fun K hK=>?_)
  refine step_fltM ef rfl _ _ rfl rfl rfl rfl w.heap.size A5 c5 vs w7 _ A7 c7 us6 rfl ((HOD.out.below hb6).below hb7) rfl ho7 (by omega) (bL (bL HBD.out hb6) hb7).size ?_;intro A8 c8 w8 hown8 hb8 hkp8;have hr8:=hkp8.row (rK (rK HRD.out hb6) hb7) (((HOD.out.below hb6).below hb7).far (rK (rK HRD.out hb6) hb7) flt_ins);refine hK.out _ _ (hr8) (fun _=>?_)
  clear hK K;refine td 14 ?_;(try simp only [Act.put,P1,pu,P3]);refine wpAnyH_done (by kernel_rfl) ?_ _;go_wp2_with fail;go_meet;refine ⟨A8,c8,vs ++ us6,by rw [List.length_append],hown8,by rw [List.length_append];omega,HS4.out.app (hs7.mono (by decide)),fun h=>?_,(bL (bL HBD.out hb6) hb7).trans hb8,hr8⟩;obtain ⟨e1,e2⟩:=List.append_eq_nil_iff.1 h;exact ⟨e1,hk6 (hk7 e2)⟩
 case rest =>
  obtain ⟨A6,c6,gs,rfl,hown6,hgl,hgs,hgk,hb6,hr6⟩:=hcut;have HO6:=hid hown6;have HS6:=hid hgs;have HK6:=hid hgk;have HB6:=hid hb6;have HR6:=hid hr6;have HI6:=hid (hi0.out.below hb6);clear hown6 hgs hgk hb6 hr6;have r3:=cN HR6.out 3 (.slice m.oA m.ords.length m.oc) rfl;have r4:=cN HR6.out 4 (.slice m.xA m.apart.length m.xc) rfl
  have r5:=cN HR6.out 5 (.slice m.bA m.before.length m.bc) rfl;go_wp2_with fail;refine (rucheck_any (m.ords.length:Int) m.apart m.before m.xA m.bA m.xc m.bc _ HI6.out.apart HI6.out.xl (by omega) HI6.out.before HI6.out.bl (by omega)).mono ?_;rintro e w7 ⟨E7,ce7,fs7,rfl,ho7,hs7,hl7,hk7,hb7⟩
  have HU7:=hid (ua [114,117,108,101,115] fs7 E7 ce7 40 w7 ho7.cells ho7.cap hs7 (by decide) (by decide) (by omega));have HO7:=hid (HO6.out.below hb7);have HB7:=hid (bL HB6.out hb7);clear ho7 hs7 hk7 hb7 HO6 HB6 HR6 HI6 r3 r4 r5;go_wp2_with fail;refine HU7.out.mono ?_;rintro e w8 ⟨A8,c8,us8,rfl,ho8,hs8,hl8,hk8,hb8⟩;have HO8:=hid (HO7.out.below hb8)
  have HX8:=hid ho8;have HB8:=hid (bL HB7.out hb8);have HS8:=hid (HS6.out.app (hs8.mono (K':=70) (by decide)));clear HU7 HO7 HB7 ho8 hs8 hk8 hb8;go_wp2_with (at_builtin;refine wM ef rfl _ _ rfl rfl rfl rfl w.heap.size A6 c6 gs w8 _ A8 c8 us8 rfl HO8.out rfl HX8.out (by omega) HB8.out.size ?_;intro A9 c9 w9 hown9 hb9 hkp9)
  go_ret;refine ⟨A9,c9,gs ++ us8,by rw [List.length_append];rfl,hown9,HS8.out,by rw [List.length_append];omega,fun h=>?_,HB8.out.trans hb9⟩;obtain ⟨e1,e2⟩:=List.append_eq_nil_iff.1 h;obtain ⟨e3,e4⟩:=HK6.out e1;obtain ⟨e5,e6⟩:=List.append_eq_nil_iff.1 (HVS.out ▸ e3);exact insOK_of HF.out (HE2.out e5) (HE4.out e6) e4
def FitE (m:IM) (w:World) (e:Ending) (w':World):Prop:=∃ b:Bool,e=.returned (.bool b)/\(b=true->InsFew m/\IK m.v)/\Below w.heap.size w w'
theorem fits_any (m:IM) (n:Int) (w:World) (hi:IA w m) (hn:n<=3) (hlen:∀ t ∈ m.arcs,t.a.trav.length<=1048576/\t.a.slow.length<=1048576):Calls Tryz.prog 5 #[iA m,.int .i64 n] w (FitE m w):=by
 have HI:=hid hi;have HL:=hid hlen;have HP4:=hid (Na w (.cells (insR m) 30)).1;have HN4:=hid (Na w (.cells (insR m) 30)).2;clear hi hlen;go_enter Tryz.func5,Tryz.ntmps5;(try simp only [Bm]);go_upto_region 1 with fail
 rw [show w.alloc (.cells #[.slice m.pA m.places.length m.pc,.slice m.aA m.arcs.length m.ac,.slice m.tA m.types.length m.tc,.slice m.oA m.ords.length m.oc,.slice m.xA m.apart.length m.xc,.slice m.bA m.before.length m.bc] 30)=w.alloc (.cells (insR m) 30) from rfl];generalize w.alloc (.cells (insR m) 30)=wa at *;obtain ⟨g4,hg4⟩:∃ g4,g4=w.heap.size:=⟨_,rfl⟩
 rw [<- hg4] at HN4;rw [<- hg4];clear hg4;have r0:=cN HN4.out 0 (.slice m.pA m.places.length m.pc) rfl;have r1:=cN HN4.out 1 (.slice m.aA m.arcs.length m.ac) rfl;have r2:=cN HN4.out 2 (.slice m.tA m.types.length m.tc) rfl;have r3:=cN HN4.out 3 (.slice m.oA m.ords.length m.oc) rfl;have r4:=cN HN4.out 4 (.slice m.xA m.apart.length m.xc) rfl
 have r5:=cN HN4.out 5 (.slice m.bA m.before.length m.bc) rfl;by_cases c1:(m.ords.length:Int)<=n;rotate_left
 ·go_wp2_with fail
  go_ret;exact ⟨false,rfl,(fun h=>by cases h),HP4.out⟩
 by_cases c2:(m.types.length:Int)<=2;rotate_left
 ·go_wp2_with fail
  go_ret;exact ⟨false,rfl,(fun h=>by cases h),HP4.out⟩
 by_cases c3:(m.places.length:Int)<=6;rotate_left
 ·go_wp2_with fail
  go_ret;exact ⟨false,rfl,(fun h=>by cases h),HP4.out⟩
 by_cases c4:(m.arcs.length:Int)<=40;rotate_left
 ·go_wp2_with fail
  go_ret;exact ⟨false,rfl,(fun h=>by cases h),HP4.out⟩
 by_cases c5:(m.apart.length:Int)<=4;rotate_left
 ·go_wp2_with fail
  go_ret;exact ⟨false,rfl,(fun h=>by cases h),HP4.out⟩
 by_cases c6:(m.before.length:Int)<=4;rotate_left
 ·go_wp2_with fail
  go_ret;exact ⟨false,rfl,(fun h=>by cases h),HP4.out⟩
 have HFW:Hid (InsFew m):=hid ⟨by omega,by omega,by omega,by omega,by omega,by omega,HL.out⟩;have HI4:=hid (HI.out.below HP4.out);go_wp2_with (refine lr HN4.out Tryz.underlying30 ?_)
 refine (ischeck_any m wa HI4.out HFW.out).mono ?_;rintro e w3 ⟨A3,cc3,fs,rfl,ho3,hs3,hl3,hk3,hb3⟩;have HB3:=hid (bL HP4.out hb3);have HK3:=hid hk3;clear hk3 hb3 ho3 hs3
 cases fs with
 |nil =>
  have hOK:=hid (HK3.out rfl);clear HK3;go_wp2_with fail;go_ret;exact ⟨true,rfl,fun _=>⟨HFW.out,hOK.out⟩,HB3.out⟩
 |cons f fs =>
  have hz:¬ ((f :: fs).length:Int)=0:=by rw [List.length_cons];omega
  generalize (f :: fs).length=k at *;have hzb:=ib hz;go_wp2_with fail;go_ret;exact ⟨false,rfl,(fun h=>by cases h),HB3.out⟩
end Go.Proofs.YtjcekdiocliddaaGreatDoor
