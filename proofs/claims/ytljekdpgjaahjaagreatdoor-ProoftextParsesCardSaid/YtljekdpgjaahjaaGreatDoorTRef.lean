/- the reference's starts, quoted, Unquote, word. -/
import Derived.Test.YtljekdpgjaahjaaGreatDoorG64
namespace Go.Proofs.YtljekdpgjaahjaaGreatDoor
open Go.RowKit Num Txt
set_option linter.unusedVariables false
attribute [local go_sem] B_size B_get B_toList B_mk B_extract B_append
theorem ret_uib {a b:Int} {c d:Int} {e f:Bool} (h:a=b) (h2:c=d) (h3:e=f):Ending.returned (.tuple #[.int .u8 a,.int .i64 c,.bool e])=.returned (.tuple #[.int .u8 b,.int .i64 d,.bool f]):=by rw [h,h2,h3]
theorem sub_is {l f:Str} {p:Nat} (hp:p≤l.length) (h1:f.length≤l.length - p) (h2:(l.take (p+f.length)).drop p=f):∃ x,l.drop p=f ++ x:=by
 refine ⟨l.drop (p+f.length),?_⟩
 rw [List.drop_take,Nat.add_sub_cancel_left] at h2
 have:=List.take_append_drop f.length (l.drop p)
 rw [h2,List.drop_drop] at this
 exact this.symm
theorem sub_of {l f x:Str} {p:Nat} (h:l.drop p=f ++ x):f.length≤l.length - p∧(l.take (p+f.length)).drop p=f:=by
 constructor
 ·have:=congrArg List.length h;rw [List.length_drop,List.length_append] at this;omega
 ·rw [List.drop_take,Nat.add_sub_cancel_left,h,List.take_left]
def startOK (l:Str) (p:Nat) (d:UInt8) (n:Nat) (b:Bool):Prop:=(b=true∧n=p+(form d).length∧n≤l.length∧∃ x,l.drop p=form d ++ x)∨(b=false∧∀ c x,l.drop p≠form c ++ x)
set_option maxHeartbeats 1000000 in
set_option maxRecDepth 100000 in
theorem starts_any (l:List UInt8) (p:Nat) (w:World) (hl:l.length≤1000000) (hp:p≤l.length) :
  Calls Tryz.prog 138 #[.string (B l),.int .i64 p] w fun e w'=>∃ d n b,e=.returned (.tuple #[.int .u8 (d:UInt8).toNat,.int .i64 (n:Nat),.bool b])∧startOK l p d n b∧Below w.heap.size w w':=by
 go_enter Tryz.func138,Tryz.ntmps138
 go_wp2_with fail
 go_loopw [7,8] (fun i _ wr=>∃ k:Nat,k≤256∧i=.int .i64 k∧(∀ j:Nat,j<k→∀ x,l.drop p≠form (UInt8.ofNat j) ++ x)∧Below w.heap.size w wr) (fun i _ _=>256 - (intOf i).toNat)
 case atStart=>exact ⟨0,by omega,rfl,fun j hj=>absurd hj (by omega),Below.refl _ _⟩
 case round =>
  obtain ⟨k,hk,rfl,hno,hbel⟩:=hrel
  have HN:=Lib.hid hno
  clear hno
  by_cases hlt:k<256
  ·have hk8:((UInt8.ofNat k).toNat:Int)=(k:Int):=by rw [UInt8.toNat_ofNat'];omega
   have hkm:(k:Int) % 256=(k:Int):=by omega
   have hform:=fun w=>rform_any (UInt8.ofNat k) w
   rw [hk8] at hform
   have HK8:=Lib.hid hk8
   clear hk8
   go_wp2_with fail
   refine (hform wr).mono ?_
   clear hform
   rintro e w2 ⟨rfl,hb2⟩
   have hbel2:=hbel.trans (hb2.mono hbel.size)
   have SI:=Lib.hid (@sub_is l (form (UInt8.ofNat k)) p hp)
   have SO:=Lib.hid (fun x=>@sub_of l (form (UInt8.ofNat k)) x p)
   have hfl:=form_len (UInt8.ofNat k)
   have NEXT:=Lib.hid (fun (h:∀ x,l.drop p≠form (UInt8.ofNat k) ++ x)=>(show ∀ j:Nat,j<k+1→∀ x,l.drop p≠form (UInt8.ofNat j) ++ x by
    intro j hj
    rcases Nat.lt_or_ge j k with h' | h'
    ·exact HN.out j h'
    ·obtain rfl:j=k:=by omega
     exact h))
   have YES:=Lib.hid (fun h1 h2=>(show startOK l p (UInt8.ofNat k) (p+(form (UInt8.ofNat k)).length) true from .inl ⟨rfl,rfl,by omega,SI.out h1 h2⟩))
   generalize form (UInt8.ofNat k)=f at *
   by_cases h1:f.length≤l.length - p
   ·have h1':(f.length:Int)≤(l.length:Int) - (p:Int):=by omega
    have hpf:((p:Int)+(f.length:Int)).toNat=p+f.length:=by omega
    have hpf2:p+f.length≤l.length:=by omega
    by_cases h2:(l.take (p+f.length)).drop p=f
    ·have t2:((l.take (p+f.length)).drop p == f)=true:=by simpa using h2
     have HY:=Lib.hid (YES.out h1 h2)
     clear h1 h2
     go_wp2_with fail
     go_ret3
     exact ⟨UInt8.ofNat k,p+f.length,true,ret_uib HK8.out.symm (by omega) rfl,HY.out,hbel2⟩
    ·have t2:((l.take (p+f.length)).drop p == f)=false:=by simpa using h2
     have HX:=Lib.hid (NEXT.out (fun x e=>h2 (SO.out x e).2))
     clear h1 h2
     go_wp2_with fail
     go_roundw
     case rel=>exact ⟨k+1,by omega,by go_num,HX.out,hbel2⟩
     case measure=>simp [intOf];omega
   ·have h1':¬ (f.length:Int)≤(l.length:Int) - (p:Int):=by omega
    have HX:=Lib.hid (NEXT.out (fun x e=>h1 (SO.out x e).1))
    clear h1
    go_wp2_with fail
    go_roundw
    case rel=>exact ⟨k+1,by omega,by go_num,HX.out,hbel2⟩
    case measure=>simp [intOf];omega
  ·obtain rfl:k=256:=by omega
   have HY:=Lib.hid (show startOK l p 0 p false from .inr ⟨rfl,fun c x=>by
    have:=HN.out c.toNat c.toNat_lt x
    rwa [UInt8.ofNat_toNat] at this⟩)
   go_wp2_with fail
   go_ret3
   exact ⟨0,p,false,rfl,HY.out,hbel⟩
theorem fsplit:∀ (b t r y:Str),forms b ++ r=forms t ++ 34 :: y→∃ t',t=b ++ t'∧r=forms t' ++ 34 :: y:=by
 intro b
 induction b with
 |nil=>intro t r y h;exact ⟨t,rfl,by simpa [forms] using h⟩
 |cons c b ih =>
  intro t r y h
  cases t with
  |nil =>
   rw [forms_cons,forms_nil,List.nil_append,List.append_assoc] at h
   have h1:=form_head c
   have h2:=form_ne c
   cases hf:form c with
   |nil=>exact absurd hf h2
   |cons z zs =>
    rw [hf] at h h1
    simp at h h1
    exact absurd h.1 h1
  |cons d t =>
   rw [forms_cons,forms_cons,List.append_assoc,List.append_assoc] at h
   obtain ⟨rfl,h2⟩:=form_prefix h
   obtain ⟨t',rfl,hr⟩:=ih t r y h2
   exact ⟨t',rfl,hr⟩
def quotOK (l:Str) (p:Nat) (t:Str) (n:Nat) (b:Bool):Prop:=(b=true∧n=p+(quote t).length∧n≤l.length∧∃ x,l.drop p=quote t ++ x)∨(b=false∧∀ u x,l.drop p≠quote u ++ x)
theorem quot_short {l:Str} {p:Nat} (h:l.length≤p):quotOK l p [] p false:=.inr ⟨rfl,fun u x e=>by
 rw [List.drop_of_length_le h] at e;simp [quote] at e⟩
theorem quot_first {l:Str} {p:Nat} (h:p<l.length) (hc:at8 l p≠34):quotOK l p [] p false:=.inr ⟨rfl,fun u x e=>by
 rw [drop_at h] at e;simp [quote] at e;exact hc e.1⟩
theorem quot_go {l b:Str} {p k:Nat} (h:p<l.length) (hb:l.drop (p+1)=forms b ++ l.drop k) {u x:Str} (e:l.drop p=quote u ++ x):∃ t',u=b ++ t'∧l.drop k=forms t' ++ 34 :: x:=by
 rw [drop_at h] at e
 simp only [quote,List.cons_append,List.append_assoc,List.cons.injEq,List.nil_append] at e
 rw [hb] at e
 exact fsplit b u _ x e.2
theorem quot_noform {l b:Str} {p k:Nat} (h:p<l.length) (hk:k<l.length) (hb:l.drop (p+1)=forms b ++ l.drop k) (hc:at8 l k≠34) (hn:∀ c x,l.drop k≠form c ++ x) (n:Nat):quotOK l p [] n false:=.inr ⟨rfl,fun u x e=>by
 obtain ⟨t',_,h2⟩:=quot_go h hb e
 cases t' with
 |nil=>rw [drop_at hk,forms_nil] at h2;simp at h2;exact hc h2.1
 |cons d t'=>rw [forms_cons,List.append_assoc] at h2;exact hn d _ h2⟩
theorem quot_noend {l b:Str} {p k:Nat} (h:p<l.length) (hk:l.length≤k) (hb:l.drop (p+1)=forms b ++ l.drop k) (n:Nat):quotOK l p [] n false:=.inr ⟨rfl,fun u x e=>by
 obtain ⟨t',_,h2⟩:=quot_go h hb e
 rw [List.drop_of_length_le hk] at h2
 simp at h2⟩
theorem quot_yes {l b:Str} {p k:Nat} (h:p<l.length) (h0:at8 l p=34) (hk:k<l.length) (hc:at8 l k=34) (hb:l.drop (p+1)=forms b ++ l.drop k):quotOK l p b (k+1) true:=by
 have hlen:=congrArg List.length hb
 rw [List.length_append,List.length_drop,List.length_drop] at hlen
 refine .inl ⟨rfl,by rw [quote_len];omega,by omega,l.drop (k+1),?_⟩
 rw [drop_at h,hb,drop_at hk,h0,hc]
 simp [quote]
theorem quot_step {l b x:Str} {p k n:Nat} {d:UInt8} (hb:l.drop (p+1)=forms b ++ l.drop k) (hx:l.drop k=form d ++ x) (hn:n=k+(form d).length):l.drop (p+1)=forms (b ++ [d]) ++ l.drop n:=by
 rw [hb,forms_snoc,hn,← List.drop_drop,hx,List.append_assoc,List.drop_left]
theorem ret_sib {a b:List UInt8} {c d:Int} {e f:Bool} (h:a=b) (h2:c=d) (h3:e=f):Ending.returned (.tuple #[.string (B a),.int .i64 c,.bool e])=.returned (.tuple #[.string (B b),.int .i64 d,.bool f]):=by rw [h,h2,h3]
set_option maxHeartbeats 1000000 in
set_option maxRecDepth 100000 in
theorem rquoted_any (l:List UInt8) (p:Nat) (w:World) (hl:l.length≤1000000) (hp:p≤1000000) :
  Calls Tryz.prog 109 #[.string (B l),.int .i64 p] w fun e w'=>∃ (t:List UInt8) (n:Nat) (b:Bool),e=.returned (.tuple #[.string (B t),.int .i64 n,.bool b])∧quotOK l p t n b∧Below w.heap.size w w':=by
 by_cases h1:l.length≤p
 ·have HQ:=Lib.hid (quot_short h1)
  have h1':(l.length:Int)≤(p:Int):=by omega
  go_enter Tryz.func109,Tryz.ntmps109
  simp only [B_mk]
  go_wp2_with fail
  go_ret3
  exact ⟨[],p,false,rfl,HQ.out,Below.refl _ _⟩
 have hpl:p<l.length:=by omega
 have h1':¬ (l.length:Int)≤(p:Int):=by omega
 by_cases h0:at8 l p=34
 ·have a1:(((at8 l p).toNat:Int) != 34)=false:=by rw [h0];rfl
  have NF:=Lib.hid (fun b k=>@quot_noform l b p k hpl)
  have NE:=Lib.hid (fun b k=>@quot_noend l b p k hpl)
  have YS:=Lib.hid (fun b k=>@quot_yes l b p k hpl h0)
  have ST:=Lib.hid (fun b x k n d=>@quot_step l b x p k n d)
  clear h0
  go_enter Tryz.func109,Tryz.ntmps109
  simp only [B_mk]
  go_wp2_with fail
  go_loopw [1,7,8,9,10] (fun i v _ _ _ wr=>∃ (k:Nat) (b:List UInt8) (A:Option Addr) (c:Nat),k≤l.length∧i=.int .i64 k∧v=.slice A b.length c∧l.drop (p+1)=forms b ++ l.drop k∧b.length≤k∧OwnS wr w.heap.size 5 A b.length c (bytes b)∧Below w.heap.size w wr) (fun i _ _ _ _ _=>l.length - (intOf i).toNat)
  case atStart=>exact ⟨p+1,[],none,0,by omega,by go_num,rfl,by simp [forms],by simp,OwnS.nil _ _ _,Below.refl _ _⟩
  case round =>
   obtain ⟨k,b,A,c,hk,rfl,rfl,hd,hbl,hown,hbel⟩:=hrel
   have HD:=Lib.hid hd
   clear hd
   by_cases hlt:k<l.length
   ·by_cases hc:at8 l k=34
    ·have a2:(((at8 l k).toNat:Int) != 34)=false:=by rw [hc];rfl
     have HY:=Lib.hid (YS.out b k hlt hc HD.out)
     have cv:=conv_own A b.length c w.heap.size b wr rfl hown
     clear hc
     go_wp2_with fail
     go_ret3
     exact ⟨b,k+1,true,ret_sib rfl (by omega) rfl,HY.out,hbel⟩
    ·have a2:(((at8 l k).toNat:Int) != 34)=true:=by have:=u8_not hc;simp at this ⊢;omega
     have NN:=Lib.hid (fun hn n=>NF.out b k hlt HD.out hc hn n)
     clear hc
     go_wp2_with fail
     refine (starts_any l k wr hl hk).mono ?_
     rintro e w2 ⟨d,n,bb,rfl,hst,hb2⟩
     have hown2:=hown.below hb2
     have hbel2:=hbel.trans (hb2.mono hbel.size)
     rcases hst with ⟨rfl,hn,hnl,x,hx⟩ | ⟨rfl,hno⟩
     ·have HS:=Lib.hid (ST.out b x k n d HD.out hx hn)
      have hfp:=List.length_pos_iff.2 (form_ne d)
      have hkn:k<n:=by omega
      clear hn hx hfp
      go_wp2_with (at_builtin;refine wp_app1 el_byte rfl _ _ rfl w.heap.size _ _ _ (bytes b) _ (.int .u8 d.toNat) rfl hown2 rfl rfl (by unfold maxLen;omega) (by omega) hbel2.size ?_;intro A' c' w3 hown3 hb3)
      go_roundw
      case rel=>exact ⟨n,b ++ [d],A',c',hnl,rfl,by simp,HS.out,by simp;omega,by rw [snoc_bytes] at hown3;simpa using hown3,hbel2.trans hb3⟩
      case measure=>simp [intOf];omega
     ·have HN:=Lib.hid (NN.out hno k)
      clear hno
      go_wp2_with fail
      go_ret3
      exact ⟨[],k,false,rfl,HN.out,hbel2⟩
   ·have HN:=Lib.hid (NE.out b k (by omega) HD.out k)
    go_wp2_with fail
    go_ret3
    exact ⟨[],k,false,rfl,HN.out,hbel⟩
 ·have a1:(((at8 l p).toNat:Int) != 34)=true:=by have:=u8_not h0;simp at this ⊢;omega
  have HQ:=Lib.hid (quot_first hpl h0)
  clear h0
  go_enter Tryz.func109,Tryz.ntmps109
  simp only [B_mk]
  go_wp2_with fail
  go_ret3
  first | exact ⟨[],p,false,rfl,HQ.out,Below.refl _ _⟩ | exact ⟨[],p,.inl ⟨rfl,HQ.out,Below.refl _ _⟩⟩
theorem unq_rest {l t x:Str} (h:l=quote t ++ x) (hx:x≠[]):unqS l=[]∧unqE l=3:=unq_no (fun u e=>by
 have h2:quote t ++ x=quote u ++ []:=by rw [List.append_nil,← e,h]
 simp only [quote,List.cons_append,List.append_assoc,List.cons.injEq,true_and,List.nil_append] at h2
 obtain ⟨t',_,h3⟩:=fsplit t u _ _ h2
 cases t' with
 |nil=>rw [forms_nil] at h3;simp at h3;exact hx h3
 |cons d t' =>
  rw [forms_cons] at h3
  have h1:=form_head d
  cases hf:form d with
  |nil=>exact absurd hf (form_ne d)
  |cons z zs=>rw [hf] at h3 h1;simp at h3 h1;exact h1 h3.1.symm)
theorem runquote_any (l:List UInt8) (w:World) (hl:l.length≤1000000) :
  Calls Tryz.prog 75 #[.string (B l)] w fun e w'=>e=.returned (.tuple #[.string (B (unqS l)),.int .i64 (unqE l)])∧Below w.heap.size w w':=by
 go_enter Tryz.func75,Tryz.ntmps75
 simp only [B_mk]
 go_wp2_with fail
 refine (rquoted_any l 0 w hl (by omega)).mono ?_
 rintro e w1 ⟨t,n,b,rfl,hq,hb1⟩
 rcases hq with ⟨rfl,hn,hnl,x,hx⟩ | ⟨rfl,hno⟩
 ·rw [List.drop_zero] at hx
  have hlen:=congrArg List.length hx
  rw [List.length_append] at hlen
  by_cases hx0:x=[]
  ·subst hx0
   have hl2:l=quote t:=by rw [hx];simp
   have HB:=Lib.hid (show unqS l=t∧unqE l=0 by rw [hl2];exact ⟨unqS_quote t,unqE_quote t⟩)
   have e1:((n:Int) != (l.length:Int))=false:=by rw [List.length_nil] at hlen;simp;omega
   clear hx hl2 hlen
   go_wp2_with fail
   go_ret2
   exact ⟨ret_siT HB.out.1.symm HB.out.2.symm,hb1⟩
  ·have HB:=Lib.hid (unq_rest hx hx0)
   have hxp:=List.length_pos_iff.2 hx0
   have e1:((n:Int) != (l.length:Int))=true:=by simp;omega
   clear hx hlen hx0 hxp
   go_wp2_with fail
   go_ret2
   exact ⟨ret_siT HB.out.1.symm HB.out.2.symm,hb1⟩
 ·have HB:=Lib.hid (unq_no (s:=l) (fun u e=>hno u [] (by rw [List.drop_zero,List.append_nil];exact e)))
  clear hno
  go_wp2_with fail
  go_ret2
  exact ⟨ret_siT HB.out.1.symm HB.out.2.symm,hb1⟩
end Go.Proofs.YtljekdpgjaahjaaGreatDoor
