/- The sum of products, as ratio.Times reckons it: plain. -/
import Derived.Test.YtjcekdiocliddaaGreatDoorG46
import Derived.Test.YtjcekdiocliddaaGreatDoorG2
namespace Go.Proofs.YtjcekdiocliddaaGreatDoor
open Num
set_option linter.unusedVariables false
def ints (ns:List Int):List Value:=ns.map fun n=>Value.int .i64 n
theorem ints_length (ns:List Int):(ints ns).length=ns.length:=by simp [ints]
namespace Num
def foldT (s:Str):List Int→List Str→Str × Int
 |n :: ns,x :: xs=>if mulQE (decI n) x=0 then (if addQE s (mulQS (decI n) x)=0 then foldT (addQS s (mulQS (decI n) x)) ns xs else ([],addQE s (mulQS (decI n) x))) else ([],mulQE (decI n) x)
 |_,_=>(s,0)
def timesQ (ns:List Int) (xs:List Str):Str × Int:=if ns.length=xs.length then (if xs.all rightQ=true then foldT [48] ns xs else ([],3)) else ([],2)
theorem take_all {xs:List Str} {k:Nat} (h:k<xs.length):(xs.take (k+1)).all rightQ=((xs.take k).all rightQ && rightQ xs[k]):=by
 rw [List.take_succ_eq_append_getElem h,List.all_append];simp
theorem take_bad {xs:List Str} {k:Nat} (h:k<xs.length) (hr:rightQ xs[k]=false):xs.all rightQ=false:=by
 rw [List.all_eq_false];exact ⟨xs[k],List.getElem_mem h,by rw [hr];decide⟩
theorem fold_step {ns:List Int} {xs:List Str} {j:Nat} (h:j<ns.length) (h2:j<xs.length) (t:Str):foldT t (ns.drop j) (xs.drop j) =
  if mulQE (decI ns[j]) xs[j]=0 then (if addQE t (mulQS (decI ns[j]) xs[j])=0 then foldT (addQS t (mulQS (decI ns[j]) xs[j])) (ns.drop (j+1)) (xs.drop (j+1)) else ([],addQE t (mulQS (decI ns[j]) xs[j]))) else ([],mulQE (decI ns[j]) xs[j]):=by
 rw [List.drop_eq_getElem_cons h,List.drop_eq_getElem_cons h2]
 conv=>lhs;unfold foldT
theorem qd_pos {a:Str} (h:rightQ a=true):0<qd a:=(fr_right h).2.2.1
theorem mulQ_fr {a b:Str} (h:mulQE a b=0):rightQ a=true∧rightQ b=true∧Fr 4096 (qn a*qn b) (qd a*qd b)∧mulQS a b=lowS (qn a*qn b) (qd a*qd b):=by
 have hS:mulQS a b=lowS (qn a*qn b) (qd a*qd b):=by unfold mulQS;rw [if_pos h]
 unfold mulQE at h
 split at h
 ·rename_i he
  have hr:=errQ_zero.1 he
  split at h
  ·rename_i hd
   exact ⟨hr.1,hr.2,⟨Nat.mul_pos (qd_pos hr.1) (qd_pos hr.2),hd.1,by rw [Int.natCast_mul];exact hd.2⟩,hS⟩
  ·exact absurd h (by decide)
 ·exact absurd h (by decide)
theorem addQ_fr {a b:Str} (h:addQE a b=0):rightQ a=true∧rightQ b=true∧Fr 4096 (qn a*qd b+qn b*qd a) (qd a*qd b)∧addQS a b=lowS (qn a*qd b+qn b*qd a) (qd a*qd b):=by
 have hS:addQS a b=lowS (qn a*qd b+qn b*qd a) (qd a*qd b):=by unfold addQS;rw [if_pos h]
 unfold addQE at h
 split at h
 ·rename_i he
  have hr:=errQ_zero.1 he
  split at h
  ·rename_i hd
   exact ⟨hr.1,hr.2,⟨Nat.mul_pos (qd_pos hr.1) (qd_pos hr.2),hd.2.2.1,by rw [Int.natCast_mul];exact hd.2.2.2⟩,hS⟩
  ·exact absurd h (by decide)
 ·exact absurd h (by decide)
theorem fr_len2 {k:Nat} {p:Int} {q:Nat} (h:Fr k p q):(lowS p q).length≤2*k+2:=by
 obtain ⟨g,hg,e1,e2,h3,h4,h5,h6,h7⟩:=low_read p h.1
 have hl:=h.low
 rw [h5]
 generalize qn (lowS p q)=a at *
 generalize qd (lowS p q)=d at *
 have:=dl_len a
 have h8:=hl.2
 rw [dl_nat] at h8
 unfold ratS
 split
 ·omega
 ·rw [List.length_append,List.length_cons];omega
theorem mulQ_len (a b:Str):(mulQS a b).length≤8194:=by
 by_cases h:mulQE a b=0
 ·have:=mulQ_fr h
  rw [this.2.2.2]
  have:=fr_len2 this.2.2.1;omega
 ·unfold mulQS;rw [if_neg h];simp
theorem addQ_len (a b:Str):(addQS a b).length≤8194:=by
 by_cases h:addQE a b=0
 ·have:=addQ_fr h
  rw [this.2.2.2]
  have:=fr_len2 this.2.2.1;omega
 ·unfold addQS;rw [if_neg h];simp
theorem fits_len {z:Int} (h:fits z):(decI z).length≤21:=by
 have h1:=dl_len z
 have h2:dl z≤20:=by
  rw [dl_le (by omega)]
  obtain ⟨h3,h4⟩:=h
  omega
 omega
end Num
end Go.Proofs.YtjcekdiocliddaaGreatDoor
