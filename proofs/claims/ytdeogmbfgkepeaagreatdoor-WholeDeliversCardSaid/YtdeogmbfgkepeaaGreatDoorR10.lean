/- Contracts for WholeDelivers. -/
import Derived.DeepKeys4
import Derived.Maps.Own
import Derived.Maps.OwnOps
import Derived.Maps.OwnSet
import Derived.Test.YtdeogmbfgkepeaaGreatDoorProg
import Derived.Test.YtdeogmbfgkepeaaGreatDoorR02
set_option linter.unusedVariables false
set_option linter.unusedSimpArgs false
set_option maxRecDepth 100000
set_option maxHeartbeats 64000000
namespace Go.Proofs.YtdeogmbfgkepeaaGreatDoor
open Go.Proofs.Tryz
open Go.Value renaming int->O
open Go.IntKind renaming i64->J
section
open Go.RowKit HB Go.Maps
theorem cellLaw:Keyed prog 148:=Keyed.of_law (deep_law_laid Tryz.laidOut (m:=2) (by omega) (of_decide_eq_true (by kernel_rfl)) (by kernel_rfl) (by kernel_rfl))
theorem YG{a b:Int}(ha:(Lit.int .i64 a).wf=true)(hb:(Lit.int .i64 b).wf=true)(d:Nat):prog.keyLits (d+2) 148 [.int .i64 a,.int .i64 b]=some [.int .i64 a,.int .i64 b]:=by
 have c1:prog.cellsOf 148=2:=by kernel_rfl
 have c2:prog.cellsOf 3=1:=by kernel_rfl
 simp[Program.keyLits,underlying148,underlying3,c1,c2,ha,hb]
noncomputable def kl(a b:Int):Lit:=.string (keyBytes [.int .i64 a,.int .i64 b])
theorem Wq{a b:Int}(ha:(Lit.int .i64 a).wf=true)(hb:(Lit.int .i64 b).wf=true):keyOf prog 148 (.agg #[.int .i64 a,.int .i64 b])=some (kl a b):=by
 have h1:prog.keyType 148=true:=by kernel_rfl
 have c1:prog.cellsOf 148=2:=by kernel_rfl
 have h2:(Value.agg #[O J a,O J b]).formed prog 148=true:=by
  simp[Value.formed,underlying148,c1]
 have h3:prog.types.size+1=(prog.types.size-1)+2:=by kernel_rfl
 unfold keyOf;rw[underlying148];simp only[h1,h2,Bool.and_self,if_true];rw[h3]
 show Option.map _ (prog.keyLits _ _ [.int .i64 a,.int .i64 b])=_
 rw[YG ha hb]
 rfl
def jX(a:Int):Prop:=(Lit.int .i64 a).wf=true
theorem qG{a b:Int}(ha:jX a)(hb:jX b):keyOf prog 148 (.agg #[O J a,O J b])=some (kl a b):=Wq ha hb
theorem xF{a b c d:Int}(ha:jX a)(hb:jX b)(hc:jX c)(hd:jX d)(h:kl a b=kl c d):a=c/\b=d:=by
 have h1:=qG ha hb;have h2:=qG hc hd;rw[<-h]at h2;have:=cellLaw.inj h1 h2;simpa using this
theorem Wr{a b:Int}(ha:jX a)(hb:jX b):WideAt.IsKeyLit (kl a b):=cellLaw.key (qG ha hb)
end
end Go.Proofs.YtdeogmbfgkepeaaGreatDoor
