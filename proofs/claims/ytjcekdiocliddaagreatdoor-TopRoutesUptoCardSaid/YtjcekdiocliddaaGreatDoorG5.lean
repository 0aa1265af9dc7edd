/- Digits in base 10, the least first: plain. (Printed from the limbs' theory.) -/
import Derived.Test.YtjcekdiocliddaaGreatDoorG4
import Derived.Test.YtjcekdiocliddaaGreatDoorG1
import Derived.Deep.QuietTactic
import Derived.BigQuiet
namespace Go.Proofs.YtjcekdiocliddaaGreatDoor
namespace Num
def ns (n:Nat):List Nat:=if _h:n=0 then [] else n % 10 :: ns (n / 10)
termination_by n
decreasing_by omega
theorem ns_zero:ns 0=[]:=by rw [ns];simp
theorem ns_pos {n:Nat} (h:n≠0):ns n=n % 10 :: ns (n / 10):=by rw [ns];simp [h]
end Num
open Num
theorem ns_dec:∀ n,n≠0->dec n=((ns n).map dch).reverse:=by
 intro n
 induction n using Nat.strongRecOn with
 |_ n ih =>
  intro h;rw [ns_pos h];by_cases h1:n<10
  ·rw [dec_lt h1,show n / 10=0 by omega,ns_zero,show n % 10=n by omega];rfl
  ·rw [dg h1,ih (n / 10) (by omega) (by omega)];simp
theorem ns_len {n:Nat} (h:n≠0):(ns n).length=(dec n).length:=by rw [ns_dec n h];simp
end Go.Proofs.YtjcekdiocliddaaGreatDoor
namespace Go.Proofs.YtjcekdiocliddaaGreatDoor
open Go.RowKit Num
set_option linter.unusedVariables false
attribute [local go_sem] BS Bg Bt Bm Be Ba
attribute [local go_sem high] rm
theorem ordI_lt {x y:Nat} (h:x<y):OI x y = -1:=by unfold OI;rw [if_pos (by omega)]
theorem ordI_gt {x y:Nat} (h:y<x):OI x y=1:=by unfold OI;rw [if_neg (by omega),if_pos (by omega)]
theorem dec_len_ns (n:Nat):(dec n).length<=(ns n).length+1:=by
 by_cases h:n=0
 ·subst h;rw [dz];simp
 ·rw [ns_len h];omega
theorem decI_len {z:Int} {k:Nat} (h:(ns z.natAbs).length<=k):(dI z).length<=k+2:=by
 have h1:=MI z;have h2:=dec_len_ns z.natAbs;omega
theorem Au {a b:List UInt8} {c d:Int} (h:a=b) (h2:c=d):Ending.returned (.tuple #[.string (B a),.int .i64 c])=.returned (.tuple #[.string (B b),.int .i64 d]):=by rw [h,h2]
theorem ret_ssi {a b a' b':List UInt8} {c d:Int} (h:a=a') (h1:b=b') (h2:c=d):Ending.returned (.tuple #[.string (B a),.string (B b),.int .i64 c])=.returned (.tuple #[.string (B a'),.string (B b'),.int .i64 d]):=by rw [h,h1,h2]
theorem divI_err {a b:Sr} (he:eI a b≠0):divIQ a b=[]/\divIR a b=[]/\DE a b=eI a b:=by
 have h:DE a b=eI a b:=if_neg he;exact ⟨if_neg (by rw [h];exact he),if_neg (by rw [h];exact he),h⟩
theorem divI_zero {a b:Sr} (he:eI a b=0) (hb:VI b=0):divIQ a b=[]/\divIR a b=[]/\DE a b=10:=by
 have h:DE a b=10:=by rw [DE,if_pos he,if_pos hb]
 exact ⟨if_neg (by rw [h];decide),if_neg (by rw [h];decide),h⟩
theorem divI_ok {a b:Sr} (he:eI a b=0) (hb:VI b≠0):divIQ a b=dI (qI (VI a) (VI b))/\divIR a b=dI (rI (VI a) (VI b))/\DE a b=0:=by
 have h:DE a b=0:=by rw [DE,if_pos he,if_neg hb]
 exact ⟨if_pos h,if_pos h,h⟩
end Go.Proofs.YtjcekdiocliddaaGreatDoor
