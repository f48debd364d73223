/- Contracts for WholeDelivers. -/
import Derived.Test.YtdeogmbfgkepeaaGreatDoorR23
import Derived.Test.YtdeogmbfgkepeaaGreatDoorR29
set_option linter.unusedVariables false
set_option linter.unusedSimpArgs false
set_option maxRecDepth 100000
set_option maxHeartbeats 64000000
namespace Go.Proofs.YtdeogmbfgkepeaaGreatDoor
open Go.Proofs.Tryz
open Go.Value renaming int->O
open Go.IntKind renaming i64->J
section
open Go.RowKit HB
def Y9(e:Ending):Prop:=∃ x y z:Nat,e=.returned (.tuple #[je x y z,.bool true])/\x<2147483648/\y<z/\z<2147483648
theorem Kk{n d:Int}(h0:0<=n)(h1:0<d)(h2:d<2147483648)(h3:n<d*2147483648):Y9 (.returned (.tuple #[je (n/d) (n%d) d,.bool true])):=by
 have a0:0<=n/d:=Wi h0 (by omega);have a1:n/d<2147483648:=Int.ediv_lt_of_lt_mul h1 (by rw[cX];exact h3);have b0:0<=n%d:=iB _ (by omega);have b1:n%d<d:=du _ h1;refine⟨(n/d).toNat,(n%d).toNat,d.toNat,?_,by omega,by omega,by omega⟩;rw[iM a0,iM b0,iM (by omega)]
theorem WU(A:iX)(n k B:Nat)(l:List Tr)(c u:Int)(w:l6)(h:Trs w B A n l)(hB:B<=w.heap.size)(hn:n<=1000000)(hok:∀ t∈l,t.ok)(hc0:1<=c)(hc1:c<=20)(hu0:1<=u)(hu1:u<=100000000):
  Calls prog 149 #[.slice A n k,O J c,O J u] w fun e w'=>Y9 e/\fj w w':=by
 have H:=ze (h.below ((Below.refl B w).alloc hB (.cells #[O J 0,O J 0,O J 0] 60)));have h0:=ze hok;have HX:=ze (Bx.new w [O J 0,O J 0,O J 0] 60);have hz:(w.alloc (.cells #[O J 0,O J 0,O J 0] 60)).heap.size=w.heap.size+1:=by simp
 have e0:decide (c<1)=false:=by simp;omega
 have e1:decide (u<1)=false:=by simp;omega
 have HM:Hz (0<c*u/\c*u<=2000000000/\u<=c*u):=ze ⟨Int.mul_pos (by omega) (by omega),iQ (yO hc1 hu1 (by omega) (by omega)) (by omega),by have:=xB hc0 (show 0<=u by omega);omega⟩;have m1:c*u<=2000000000:=HM.o.2.1;have m0:0<=c*u:=Int.le_of_lt HM.o.1;have HN:Hz ((n:Int)*u<=1000000*u):=ze (xB (by omega) (by omega));clear h hok hz
 go_in
 go_wp2_with(first
  |(go_at_call 198;refine(Kh A n k B l u _ H.o (by simp;omega) hn h0.o (by omega) hu1).mono ?_;rintro r5 w5 ⟨⟨a,rfl,a0,a1⟩,k1⟩;have X5:=ze (HX.o.below k1 (by simp));have z5:w.heap.size+1<=w5.heap.size:=(by have h9:=k1.size;simpa using h9);have A1:=ze a1;have K1:=ze k1;have AM:=ze (show a<=100000000000000 by have:=HN.o;omega);have am:=AM.o;clear a1 k1)
  |(go_at_call 41;refine(JW _ _ _ a0 HM.o.1 (by omega) (by omega)).mono ?_;rintro r6 w6 ⟨rfl,k2⟩;have X6:=X5.o.below k2 (by omega);have z6:=k2.size;obtain⟨⟨c0,c1,c2⟩,f0,f1,f2⟩:=(X6.below ((Below.refl _ w6).alloc fi (.cells #[O J (a/(c*u)),O J (a%(c*u)),O J (c*u)] 60)) (by omega)).o3;clear X6;have K2:=ze k2;clear k2))
 refine bodyPost_ret (v:=.tuple #[je (a/(c*u)) (a%(c*u)) (c*u),.bool true]) (by rw[zm rfl];go_simp) rfl ⟨Kk a0 HM.o.1 (by omega) ?_,?_⟩
 ·have h1:=A1.o;have h2:=HN.o;have h3:=HM.o;omega
 ·have hb:=((((Below.refl w.heap.size w).alloc fi (.cells #[O J 0,O J 0,O J 0] 60)).trans (K1.o.mono (by simp))).trans (K2.o.mono (by omega))).alloc (by omega) (.cells #[O J (a/(c*u)),O J (a%(c*u)),O J (c*u)] 60);exact((hb.setCell (p:=⟨w.heap.size,0,none⟩) fi _).setCell (p:=⟨w.heap.size,1,none⟩) fi _).setCell (p:=⟨w.heap.size,2,none⟩) fi _
end
end Go.Proofs.YtdeogmbfgkepeaaGreatDoor
