/- Plain theory of names, quoted texts and lines of parts. No program in sight. -/
import Derived.Test.YtjcekdiocliddaaGreatDoorG1
import Derived.Test.YtjcekdiocliddaaGreatDoorG46
namespace Go.Proofs.YtjcekdiocliddaaGreatDoor
namespace Txt
open Num
def isLet (c:UInt8):Bool:=(decide (97<=c.toNat) && decide (c.toNat<=122)) || (decide (65<=c.toNat) && decide (c.toNat<=90)) || decide (c.toNat=95)
def NK (s:Sr):Bool:=decide (1<=s.length) && decide (s.length<=16) && !iD (s.getD 0 0) && s.all fun c=>isLet c || iD c
def hexd (n:Nat):UInt8:=if n<10 then UInt8.ofNat (48+n) else UInt8.ofNat (87+n)
def form (c:UInt8):Sr :=
 if c=34∨c=92 then [92,c] else if c=10 then [92,110] else if c.toNat<32∨126<c.toNat then [92,120,hexd (c.toNat / 16),hexd (c.toNat % 16)] else [c]
end Txt
end Go.Proofs.YtjcekdiocliddaaGreatDoor
namespace Go.Proofs.YtjcekdiocliddaaGreatDoor
namespace Txt
open Num
end Txt
end Go.Proofs.YtjcekdiocliddaaGreatDoor
namespace Go.Proofs.YtjcekdiocliddaaGreatDoor
namespace Pf
open Num Txt
structure RV where
 kind:Int
 start:Int
 rests:List Bool
 vis:List (Int × Bool)
structure NodeV where
 leaf:Bool
 kind:Int
 cuts:List (Int × Int × Int)
 dual:List Sr
 ck:Int
 ca:Int
 cb:Int
 cn:Int
 yes:Int
 no:Int
abbrev routeW:Sr:=[114,111,117,116,101]
def allR {α β} (f:α->Option β):List α->Option (List β)
 |[]=>some []
 |a :: l=>match f a with
  |none=>none
  |some b=>match allR f l with
   |none=>none
   |some bs=>some (b :: bs)
def restOK (s:Sr):Bool:=!s.isEmpty && s.all fun c=>c == 121 || c == 110
def restsR (s:Sr):Option (List Bool):=if s=[46] then some [] else if restOK s=true then some (s.map fun c=>c == 121) else none
def visR (s:Sr):Option (Int × Bool):=match s with
 |[]=>none
 |c :: t=>if (c=43∨c=45)/\numE t=0 then some (numV t,c == 45) else none
def rR (ws:List Sr):Option RV:=match ws with
 |a :: b :: c :: d :: vs=>if a=routeW/\numE b=0/\numE c=0 then
   match restsR d,allR visR vs with
   |some r,some v=>some ⟨numV b,numV c,r,v⟩
   |_,_=>none
  else none
 |_=>none
end Pf
end Go.Proofs.YtjcekdiocliddaaGreatDoor
namespace Go.Proofs.YtjcekdiocliddaaGreatDoor
namespace Pf
open Num Txt
set_option linter.unusedVariables false
end Pf
end Go.Proofs.YtjcekdiocliddaaGreatDoor
namespace Go.Proofs.YtjcekdiocliddaaGreatDoor
namespace Pf
open Num Txt
set_option linter.unusedVariables false
end Pf
end Go.Proofs.YtjcekdiocliddaaGreatDoor
namespace Go.Proofs.YtjcekdiocliddaaGreatDoor
namespace Pf
open Num Txt
set_option linter.unusedVariables false
theorem decI_len {z:Int} (h:fits z):(dI z).length<=21:=by
 have h1:=dec_len20 h;have h2:=MI z;omega
end Pf
end Go.Proofs.YtjcekdiocliddaaGreatDoor
