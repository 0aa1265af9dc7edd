/- Two programs and their answers: scaled costs, a further row: plain. -/
import Derived.Test.YtmppmdmekomjbaaGreatDoorG37
namespace Go.Proofs.YtmppmdmekomjbaaGreatDoor
open Go.RowKit Num
set_option linter.unusedVariables false
theorem prim_dual {K K':Nat} {p:LinL} {xs ds:List Str} (h:PrimR K p xs) (d:DualR K' p p.cost ds):rightR p ds≤costR p xs :=
 weak p.cost.length p.rows.length (fun i=>((p.cost.getD i 0:Int):Rat)) (fun r i=>(((Num.rowAt p r).coef.getD i 0:Int):Rat)) (fun r=>(Num.rowAt p r).kind) (fun r=>(((Num.rowAt p r).right:Int):Rat)) (rat xs) (rat ds) h.pos h.hold d.sign d.below
theorem prim_none {K K':Nat} {p:LinL} {xs ds:List Str} (h:PrimR K p xs) (d:DualR K' p [] ds) (hp:0<rightR p ds):False:=by
 have hb:∀ i,i<p.cost.length→sumN p.rows.length (fun r=>(((Num.rowAt p r).coef.getD i 0:Int):Rat)*rat ds r)≤(0:Rat):=fun i hi=>by
  have:=d.below i hi
  rw [show (([]:List Int).getD i 0:Int)=0 by simp] at this
  exact this
 have:=weak p.cost.length p.rows.length (fun _=>(0:Rat)) (fun r i=>(((Num.rowAt p r).coef.getD i 0:Int):Rat)) (fun r=>(Num.rowAt p r).kind) (fun r=>(((Num.rowAt p r).right:Int):Rat)) (rat xs) (rat ds) h.pos h.hold d.sign hb
 rw [sumN_congr (g:=fun _=>(0:Rat)) (n:=p.cost.length) (fun i _=>by grind),sumN_zero] at this
 unfold rightR at hp
 grind
theorem ray_dual {K K':Nat} {p:LinL} {xs ds:List Str} (h:RayR K p xs) (d:DualR K' p p.cost ds):False:=by
 have:=weak p.cost.length p.rows.length (fun i=>((p.cost.getD i 0:Int):Rat)) (fun r i=>(((Num.rowAt p r).coef.getD i 0:Int):Rat)) (fun r=>(Num.rowAt p r).kind) (fun _=>(0:Rat)) (rat xs) (rat ds) h.pos h.hold d.sign d.below
 rw [sumN_congr (g:=fun _=>(0:Rat)) (n:=p.rows.length) (fun i _=>by grind),sumN_zero] at this
 have:=h.fall
 grind
theorem ans_rq {D:Nat} {p:LinL} {a:AnsL} (h:timesQ p.cost a.X=(a.value,0)):rightQ a.value=true∧rq a.value=costR p a.X:=by
 have h2:(timesQ p.cost a.X).2=0:=by rw [h]
 have:=times_sum h2
 rw [h] at this
 exact this.2
section
variable {k:Int} {cost:List Int} {rs:List RowV} {K K':Nat} {xs ds:List Str}
end
section
variable {cost:List Int} {rs:List RowV} {r:RowV} {K K':Nat} {xs ds:List Str}
end
end Go.Proofs.YtmppmdmekomjbaaGreatDoor
