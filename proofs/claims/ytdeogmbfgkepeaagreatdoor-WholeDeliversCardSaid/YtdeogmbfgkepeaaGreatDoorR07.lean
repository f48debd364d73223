/- Contracts for WholeDelivers. -/
import Derived.Deep.RegionWith
import Derived.Laws.ResultCell
import Derived.Laws.Rows
import Derived.OwnWalk
import Derived.Test.YtdeogmbfgkepeaaGreatDoorProg
import Derived.Test.YtdeogmbfgkepeaaGreatDoorR02
set_option linter.unusedVariables false
set_option linter.unusedSimpArgs false
set_option maxRecDepth 100000
set_option maxHeartbeats 64000000
namespace Go.Proofs.YtdeogmbfgkepeaaGreatDoor
open Go.Proofs.Tryz
open Go.Value renaming int->O
open Go.IntKind renaming i64->J,u64->U
section
open Go.RowKit HB
abbrev zy(a b:Int):Value:=.agg #[O U a,O U b]
theorem YM:∀ f:Fin 128,bits .and .i64 ((f.val:Nat):Int) 63=((f.val%64:Nat):Int):=by decide+kernel
theorem Y5(n:Int)(h0:0<=n)(h1:n<128):bits .and .i64 n 63=n%64:=by
 obtain⟨k,rfl⟩:=QM h0;have h:=YM ⟨k,by omega⟩;simp only at h;rw[h];omega
def RB(e:Ending):Prop:=∃ x:Bool,e=.returned (.bool x)
def RI(e:Ending):Prop:=∃ n:Int,e=.returned (O J n)
def QU(e:Ending):Prop:=∃ a b:Int,e=.returned (zy a b)
theorem zi{fn:Func}{p:Tmp}{ty:TypeId}(h:fn.results= #[.cell p ty])(tmps:Array Value)(P:Program)(w:l6):
  (results fn tmps).run P w=((asAddr (tmps.getD p undef)).run P w).andThen fun a w₁=>(loadVar ty a).run P w₁:=by
 simp only[results,h];simp[Sem.run_bind,Result.andThen]
theorem VB(a b c d:Int)(w:l6):Calls prog 250 #[zy a b,zy c d] w (fk (zy (bits .or .u64 a c) (bits .or .u64 b d)) w):=by
 go_in
 go_wp2_with fail;refine bodyPost_ret (v:=zy (bits .or .u64 a c) (bits .or .u64 b d)) (by rw[zi rfl];go_simp) rfl ?_;exact⟨rfl,by go_grown⟩
theorem ax(a b c d:Int)(w:l6):Calls prog 286 #[zy a b,zy c d] w fun e w'=>QU e/\fj w w':=by
 go_in
 go_wp2_with fail;refine bodyPost_ret (v:=zy (bits .and .u64 a c) (bits .and .u64 b d)) (by rw[zi rfl];go_simp) rfl ?_;exact⟨⟨_,_,rfl⟩,by go_grown⟩
theorem ay(a b c d:Int)(w:l6):Calls prog 295 #[zy a b,zy c d] w (fk (zy (bits .andNot .u64 a c) (bits .andNot .u64 b d)) w):=by
 go_in
 go_wp2_with fail;refine bodyPost_ret (v:=zy (bits .andNot .u64 a c) (bits .andNot .u64 b d)) (by rw[zi rfl];go_simp) rfl ?_;exact⟨rfl,by go_grown⟩
def kL(a b n:Int):Bool:=if 0<=n/\n<128 then(bits .and .u64 ((if n<64 then a else b)/2^(n%64).toNat) 1==1)else false
theorem ki(a b n:Int)(w:l6):Calls prog 257 #[zy a b,O J n] w (fk (.bool (kL a b n)) w):=by
 by_cases h0:0<=n
 ·by_cases h1:n<128
  ·have ha:=Y5 n h0 h1;have h3:0<=n%64:=by omega
   have h4:n%64<64:=by omega
   by_cases h2:n<64
   ·have hv:kL a b n=(bits .and .u64 (a/2^(n%64).toNat) 1==1):=by unfold kL;rw[if_pos ⟨h0,h1⟩,if_pos h2]
    have hq:n/64=0:=by omega
    rw[hv];clear hv
    go_in
    go_wp2_with fail;go_ret;exact⟨rfl,by go_grown⟩
   ·have hv:kL a b n=(bits .and .u64 (b/2^(n%64).toNat) 1==1):=by unfold kL;rw[if_pos ⟨h0,h1⟩,if_neg h2]
    have hq:n/64=1:=by omega
    rw[hv];clear hv
    go_in
    go_wp2_with fail;go_ret;exact⟨rfl,by go_grown⟩
  ·have hv:kL a b n=false:=by unfold kL;rw[if_neg (fun h=>h1 h.2)]
   rw[hv];clear hv
   go_in
   go_wp2_with fail;go_ret;exact⟨rfl,by go_grown⟩
 ·have hv:kL a b n=false:=by unfold kL;rw[if_neg (fun h=>h0 h.1)]
  rw[hv];clear hv
  go_in
  go_wp2_with fail;go_ret;exact⟨rfl,by go_grown⟩
def fE(a n:Int):Int:=if 0<=n/\n<64 then bits .or .u64 a (IntKind.u64.wrap (2^(n%64).toNat))else a
def fF(b n:Int):Int:=if 64<=n/\n<128 then bits .or .u64 b (IntKind.u64.wrap (2^(n%64).toNat))else b
theorem QV(a b n:Int)(w:l6):Calls prog 231 #[zy a b,O J n] w (fk (zy (fE a n) (fF b n)) w):=by
 by_cases h0:0<=n
 ·by_cases h1:n<128
  ·have hq:n/64=0\/n/64=1:=by omega
   have ha:=Y5 n h0 h1;have h4:0<=n%64:=by omega
   have h5:n%64<64:=by omega
   rcases hq with hq|hq
   ·have h2:fE a n=bits .or .u64 a (IntKind.u64.wrap (2^(n%64).toNat)):=by unfold fE;rw[if_pos (by omega)]
    have h3:fF b n=b:=by unfold fF;rw[if_neg (by omega)]
    rw[h2,h3];clear h2 h3
    go_in
    go_wp2_with fail;go_region
    all_goals
     go_wp2_with fail;refine bodyPost_ret (v:=zy (bits .or .u64 a (IntKind.u64.wrap (2^(n%64).toNat))) b) (by rw[zi rfl];go_simp) rfl ?_;exact⟨rfl,by go_grown⟩
   ·have h2:fF b n=bits .or .u64 b (IntKind.u64.wrap (2^(n%64).toNat)):=by unfold fF;rw[if_pos (by omega)]
    have h3:fE a n=a:=by unfold fE;rw[if_neg (by omega)]
    rw[h2,h3];clear h2 h3
    go_in
    go_wp2_with fail;go_region
    all_goals
     go_wp2_with fail;refine bodyPost_ret (v:=zy a (bits .or .u64 b (IntKind.u64.wrap (2^(n%64).toNat)))) (by rw[zi rfl];go_simp) rfl ?_;exact⟨rfl,by go_grown⟩
  ·have h2:fE a n=a:=by unfold fE;rw[if_neg (by omega)]
   have h3:fF b n=b:=by unfold fF;rw[if_neg (by omega)]
   rw[h2,h3];clear h2 h3
   go_in
   go_wp2_with fail;refine bodyPost_ret (v:=zy a b) (by rw[zi rfl];go_simp) rfl ?_;exact⟨rfl,by go_grown⟩
 ·have h2:fE a n=a:=by unfold fE;rw[if_neg (by omega)]
  have h3:fF b n=b:=by unfold fF;rw[if_neg (by omega)]
  rw[h2,h3];clear h2 h3
  go_in
  go_wp2_with fail;refine bodyPost_ret (v:=zy a b) (by rw[zi rfl];go_simp) rfl ?_;exact⟨rfl,by go_grown⟩
theorem sub_self(a:Int):bits .andNot .u64 a a=0:=by
 show IntKind.u64.wrap (((BitVec.ofInt 64 a)&&& ~~~(BitVec.ofInt 64 a)).toNat:Int)=0
 have h:(BitVec.ofInt 64 a)&&& ~~~(BitVec.ofInt 64 a)=0#64:=by simp
 rw[h];rfl
def az(k:Int):Int:=IntKind.u64.wrap (IntKind.u64.wrap (2^k.toNat)-1)
def jY(a n:Int):Int:=if n<=0 then 0 else if n<64 then bits .and .u64 a (az n)else a
def jZ(b n:Int):Int:=if n<64 then 0 else if n<128 then bits .and .u64 b (az (n%64))else b
theorem xG(a b n:Int)(w:l6):Calls prog 290 #[zy a b,O J n] w (fk (zy (jY a n) (jZ b n)) w):=by
 by_cases h0:n<=0
 ·have h3:jY a n=0:=by unfold jY;rw[if_pos h0]
  have h4:jZ b n=0:=by unfold jZ;rw[if_pos (by omega)]
  rw[h3,h4];clear h3 h4
  go_in
  go_wp2_with fail;refine bodyPost_ret (v:=zy 0 0) (by rw[zi rfl];go_simp) rfl ?_;exact⟨rfl,by go_grown⟩
 ·by_cases h1:128<=n
  ·have h3:jY a n=a:=by unfold jY;rw[if_neg h0,if_neg (by omega)]
   have h4:jZ b n=b:=by unfold jZ;rw[if_neg (by omega),if_neg (by omega)]
   rw[h3,h4];clear h3 h4
   go_in
   go_wp2_with fail;refine bodyPost_ret (v:=zy a b) (by rw[zi rfl];go_simp) rfl ?_;exact⟨rfl,by go_grown⟩
  ·have ha:=Y5 n (by omega) (by omega);have h5:0<=n%64:=by omega
   have h6:n%64<64:=by omega
   have h7:0<=n:=by omega
   by_cases h2:64<=n
   ·have h3:jY a n=a:=by unfold jY;rw[if_neg h0,if_neg (by omega)]
    have h4:jZ b n=bits .and .u64 b (IntKind.u64.wrap (IntKind.u64.wrap (2^(n%64).toNat)-1)):=by unfold jZ az;rw[if_neg (by omega),if_pos (by omega)]
    rw[h3,h4];clear h3 h4
    go_in
    go_wp2_with fail;go_region
    all_goals
     go_wp2_with fail;refine bodyPost_ret (v:=zy a (bits .and .u64 b (IntKind.u64.wrap (IntKind.u64.wrap (2^(n%64).toNat)-1)))) (by rw[zi rfl];go_simp) rfl ?_;exact⟨rfl,by go_grown⟩
   ·have h3:jY a n=bits .and .u64 a (IntKind.u64.wrap (IntKind.u64.wrap (2^n.toNat)-1)):=by unfold jY az;rw[if_neg h0,if_pos (by omega)]
    have h4:jZ b n=0:=by unfold jZ;rw[if_pos (by omega)]
    rw[h3,h4];clear h3 h4
    go_in
    go_wp2_with fail;go_region
    all_goals
     go_wp2_with fail;refine bodyPost_ret (v:=zy (bits .and .u64 a (IntKind.u64.wrap (IntKind.u64.wrap (2^n.toNat)-1))) 0) (by rw[zi rfl];go_simp) rfl ?_;exact⟨rfl,by go_grown⟩
theorem WH(a b n:Int)(h:n<=0):jY a n=0/\jZ b n=0:=⟨by unfold jY;rw[if_pos h],by unfold jZ;rw[if_pos (by omega)]⟩
theorem aB(a b n:Int)(h:128<=n):jY a n=a/\jZ b n=b:=⟨by unfold jY;rw[if_neg (by omega),if_neg (by omega)],by unfold jZ;rw[if_neg (by omega),if_neg (by omega)]⟩
def qN(a n:Int):Int:=bits .andNot .u64 a (jY a n)
def qO(b n:Int):Int:=bits .andNot .u64 b (jZ b n)
theorem ct(a b n:Int)(h:¬ (qN a n=0/\qO b n=0)):n<128:=by
 rcases ix n 128 with h1|h1
 ·exact h1
 ·obtain⟨e1,e2⟩:=aB a b n h1;exact absurd ⟨by unfold qN;rw[e1];exact sub_self a,by unfold qO;rw[e2];exact sub_self b⟩ h
structure S2(w:l6)(q:Nat)(a b:Int):Prop where
 c0:w.cell? ⟨q,0,none⟩=some (O U a)
 c1:w.cell? ⟨q,1,none⟩=some (O U b)
 f0:w.frozen? ⟨q,0,none⟩=false
 f1:w.frozen? ⟨q,1,none⟩=false
theorem S2.new(w:l6)(a b:Int)(ty:TypeId):S2 (w.alloc (.cells #[O U a,O U b] ty)) w.heap.size a b:=by
 refine⟨?_,?_,World.frozen?_alloc_at _ _ _ _ rfl,World.frozen?_alloc_at _ _ _ _ rfl⟩
 ·rw[cell_of_row _ w.heap.size 0 _ ty (0,0) (heap_alloc_new w _)];rfl
 ·rw[cell_of_row _ w.heap.size 1 _ ty (0,0) (heap_alloc_new w _)];rfl
theorem S2.below{w w':l6}{q D:Nat}{a b:Int}(h:S2 w q a b)(hb:Below D w w')(hq:q<D):S2 w' q a b:=
 ⟨(hb.cell (p:=⟨q,0,none⟩) hq).trans h.c0,(hb.cell (p:=⟨q,1,none⟩) hq).trans h.c1,(hb.frozen (p:=⟨q,0,none⟩) hq).trans h.f0,(hb.frozen (p:=⟨q,1,none⟩) hq).trans h.f1⟩
theorem S2.drew{w:l6}{q:Nat}{a b:Int}(h:S2 w q a b):S2 w.drew q a b:=⟨h.c0,h.c1,h.f0,h.f1⟩
theorem uw(w:l6)(a b c d:Int)(ty ty':TypeId):S2 ((w.alloc (.cells #[O U a,O U b] ty)).alloc (.cells #[O U c,O U d] ty')) w.heap.size a b/\S2 ((w.alloc (.cells #[O U a,O U b] ty)).alloc (.cells #[O U c,O U d] ty')) (w.heap.size+1) c d:=by
 have hz:(w.alloc (.cells #[O U a,O U b] ty)).heap.size=w.heap.size+1:=by simp
 have h:=S2.new (w.alloc (.cells #[O U a,O U b] ty)) c d ty';rw[hz]at h;exact⟨(S2.new w a b ty).below (fh.alloc fi _) (by rw[hz];omega),h⟩
theorem ux(a b n:Int)(w:l6):Calls prog 289 #[zy a b,O J n] w (fk (zy (qN a n) (qO b n)) w):=by
 have H2:=ze (uw w a b 0 0 325 325)
 go_in
 go_wp2_with fail;refine j9 (w:=w) (fun W=>W.heap.size=w.heap.size+2/\S2 W w.heap.size a b/\S2 W (w.heap.size+1) 0 0) ⟨by simp,H2.o.1,H2.o.2⟩ (by go_grown) (by simp;omega) ?_;rintro W ⟨hz,h8,h9⟩ h6 hi;clear H2;have hg:=ze h8;have he:=ze h9;obtain⟨c0,c1,-,-⟩:=h8;obtain⟨d0,d1,g0,g1⟩:=h9;have hc:w.heap.size+1<W.heap.size:=by omega
 have h7:w.heap.size<W.heap.size:=by omega
 have hd:=ze h6;clear h6
 go_region_with (first
  |(go_at_call 290;refine(xG a b n _).mono ?_;rintro e w1 ⟨rfl,h0⟩;have k0:=(h0.cell (p:=⟨w.heap.size,0,none⟩) h7).trans c0;have k1:=(h0.cell (p:=⟨w.heap.size,1,none⟩) h7).trans c1;have ha:=he.o.drew.below h0 hc;have h3:=ze h0;have hf:=ze ha;clear h0 ha)
  |(go_at_call 295;refine(ay a b (jY a n) (jZ b n) _).mono ?_;rintro e w2 ⟨rfl,h4⟩;obtain⟨m0,m1,p0,p1⟩:=hf.o.below h4 (kK hc h3.o.size);have h5:=ze h4;clear h4))
 all_goals
  go_wp2_with fail;refine bodyPost_ret (v:=zy (bits .andNot .u64 a (jY a n)) (bits .andNot .u64 b (jZ b n))) (by rw[zi rfl];go_simp) rfl ?_;refine⟨rfl,?_⟩;have h1:=h3.o.size;have h2:=h5.o.size;simp only[World.size_drew]at h1;have hb:=(hd.o.drew.trans (h3.o.mono (by simp only[World.size_drew];omega))).trans (h5.o.mono (by omega));exact(hb.setCell (p:=⟨w.heap.size+1,0,none⟩) (Ut _) _).setCell (p:=⟨w.heap.size+1,1,none⟩) (Ut _) _
structure Rid where
 (id to_:Int)
deriving Inhabited
abbrev jS(r:Rid):iZ:=[O J r.id,O J r.to_]
structure Cr where
 (pos dir mode left:Int)
 wt:Bool
deriving Inhabited
abbrev Cr.cells(c:Cr)(A:iX)(n k:Nat):Array Value:= #[O J c.pos,O J c.dir,O J c.mode,O J c.left,.bool c.wt,.slice A n k]
abbrev Cr.v(c:Cr)(A:iX)(n k:Nat):Value:=.agg (c.cells A n k)
def Rds(w:l6)(B:Nat)(A:iX)(n:Nat)(l:List Rid):Prop:=Rd w B 2 A n (l.flatMap jS)/\l.length=n
section
variable{w w':l6}{B B' n:Nat}{A:iX}{l:List Rid}
theorem Rds.below(h:Rds w B A n l)(hb:Below B w w'):Rds w' B A n l:=⟨h.1.below hb,h.2⟩
theorem Rds.mono(h:Rds w B A n l)(hB:B<=B'):Rds w B' A n l:=⟨h.1.mono hB,h.2⟩
theorem Rds.at_(h:Rds w B A n l){i:Nat}(hi:i<n):
  ∃b off r,A=some ⟨b,off,none⟩/\b<B/\l[i]?=some r/\w.cell? ⟨b,off+i*2,none⟩=some (O J r.id)/\w.cell? ⟨b,off+i*2+1,none⟩=some (O J r.to_):=by
 obtain⟨b,off,hA,hb,hc⟩:=h.1.at_ (by omega);have hg:l[i]?=some (l[i]'(by rw[h.2];exact hi)):=kD _;generalize l[i]'(by rw[h.2];exact hi)=t at hg;have hf:∀ x,(jS x).length=2:=fun _=>rfl
 have g:=fun j(hj:j<2)=>flat_get hf l i j t hg hj
 have h0:=hc (i*2+0) _ ((g 0 (by omega)).trans rfl);exact⟨b,off,t,hA,hb,hg,h0,(XS off (i*2) 1).symm▸hc (i*2+1) _ ((g 1 (by omega)).trans rfl)⟩
end
theorem vh(c:Cr)(A:iX)(n k:Nat)(cap:Int)(w:l6):Calls prog 258 #[c.v A n k,O J cap] w (fk (.bool (decide (cap<=(n:Int)))) w):=by
 go_in
 go_wp2_with fail;go_ret;exact⟨rfl,by go_grown⟩
def gw(cap:Int)(n:Nat)(x:Int):Int:=if cap<=(n:Int)then 0 else x
theorem lc(c:Cr)(A:iX)(n k:Nat)(cap a b:Int)(w:l6):Calls prog 254 #[c.v A n k,O J cap,zy a b] w (fk (zy (gw cap n a) (gw cap n b)) w):=by
 have hz:(w.alloc (.cells (c.cells A n k) 265)).heap.size=w.heap.size+1:=by simp
 have h2:=uw (w.alloc (.cells (c.cells A n k) 265)) a b 0 0 325 325;rw[hz]at h2;have H2:=ze h2;clear h2 hz;have h1:w.heap.size<=w.heap.size+1+1:=by omega
 by_cases hc:cap<=(n:Int)
 ·have hv:∀ x,gw cap n x=0:=fun x=>if_pos hc
  have hd:=decide_eq_true hc;rw[hv,hv];clear hv hc
  go_in
  go_wp2_with(go_at_call 258;refine(vh c A n k cap _).mono ?_;rintro e w1 ⟨rfl,h0⟩;rw[hd];obtain⟨c0,c1,-,-⟩:=H2.o.1.below h0 (by simp);obtain⟨d0,d1,g0,g1⟩:=H2.o.2.below h0 (by simp));have hb:=(show fj w _ from by go_grown).trans (h0.mono (by simp;omega));refine bodyPost_ret (v:=zy 0 0) (by rw[zi rfl];go_simp) rfl ?_;exact⟨rfl,(hb.setCell (p:=⟨w.heap.size+1+1,0,none⟩) h1 _).setCell (p:=⟨w.heap.size+1+1,1,none⟩) h1 _⟩
 ·have hv:∀ x,gw cap n x=x:=fun x=>if_neg hc
  have hd:=decide_eq_false hc;rw[hv,hv];clear hv hc
  go_in
  go_wp2_with(go_at_call 258;refine(vh c A n k cap _).mono ?_;rintro e w1 ⟨rfl,h0⟩;rw[hd];obtain⟨c0,c1,-,-⟩:=H2.o.1.below h0 (by simp);obtain⟨d0,d1,g0,g1⟩:=H2.o.2.below h0 (by simp));have hb:=(show fj w _ from by go_grown).trans (h0.mono (by simp;omega));refine bodyPost_ret (v:=zy a b) (by rw[zi rfl];go_simp) rfl ?_;exact⟨rfl,(hb.setCell (p:=⟨w.heap.size+1+1,0,none⟩) h1 _).setCell (p:=⟨w.heap.size+1+1,1,none⟩) h1 _⟩
def uz(a f d:Int):Int:=if 0<d then qN a (f+1)else if d<0 then jY a f else 0
def uB(b f d:Int):Int:=if 0<d then qO b (f+1)else if d<0 then jZ b f else 0
theorem WI(a b f d:Int)(h:¬ (uz a f d=0/\uB b f d=0)):(0<d/\f<127)\/(d<0/\0<f):=by
 unfold uz uB at h;by_cases h0:0<d
 ·rw[if_pos h0,if_pos h0]at h;have:=ct a b (f+1) h;exact .inl ⟨h0,by omega⟩
 ·rw[if_neg h0,if_neg h0]at h;by_cases h1:d<0
  ·rw[if_pos h1,if_pos h1]at h;refine .inr ⟨h1,?_⟩;rcases ix 0 f with h3|h3
   ·exact h3
   ·exact absurd (WH a b f h3) h
  ·rw[if_neg h1,if_neg h1]at h;exact absurd ⟨rfl,rfl⟩ h
theorem yv(a b f d:Int)(w:l6)(hf: -1000<=f)(hf1:f<=1000000):Calls prog 278 #[zy a b,O J f,O J d] w (fk (zy (uz a f d) (uB b f d)) w):=by
 have H2:=ze (uw w a b 0 0 325 325);have h5:w.heap.size<=w.heap.size+1:=by omega
 by_cases h0:0<d
 ·have h2:uz a f d=qN a (f+1):=by unfold uz;rw[if_pos h0]
  have h3:uB b f d=qO b (f+1):=by unfold uB;rw[if_pos h0]
  rw[h2,h3];clear h2 h3
  go_in
  go_wp2_with(go_at_call 289;refine(ux a b (f+1) _).mono ?_;rintro e w1 ⟨rfl,h4⟩;obtain⟨d0,d1,g0,g1⟩:=H2.o.2.below h4 (by simp));have hb:=(show fj w _ from by go_grown).trans (h4.mono (by simp;omega));refine bodyPost_ret (v:=zy (qN a (f+1)) (qO b (f+1))) (by rw[zi rfl];go_simp) rfl ?_;exact⟨rfl,(hb.setCell (p:=⟨w.heap.size+1,0,none⟩) h5 _).setCell (p:=⟨w.heap.size+1,1,none⟩) h5 _⟩
 ·by_cases h1:d<0
  ·have h2:uz a f d=jY a f:=by unfold uz;rw[if_neg h0,if_pos h1]
   have h3:uB b f d=jZ b f:=by unfold uB;rw[if_neg h0,if_pos h1]
   rw[h2,h3];clear h2 h3
   go_in
   go_wp2_with(go_at_call 290;refine(xG a b f _).mono ?_;rintro e w1 ⟨rfl,h4⟩;obtain⟨d0,d1,g0,g1⟩:=H2.o.2.below h4 (by simp));have hb:=(show fj w _ from by go_grown).trans (h4.mono (by simp;omega));refine bodyPost_ret (v:=zy (jY a f) (jZ b f)) (by rw[zi rfl];go_simp) rfl ?_;exact⟨rfl,(hb.setCell (p:=⟨w.heap.size+1,0,none⟩) h5 _).setCell (p:=⟨w.heap.size+1,1,none⟩) h5 _⟩
  ·have h2:uz a f d=0:=by unfold uz;rw[if_neg h0,if_neg h1]
   have h3:uB b f d=0:=by unfold uB;rw[if_neg h0,if_neg h1]
   rw[h2,h3];clear h2 h3
   go_in
   go_wp2_with fail;refine bodyPost_ret (v:=zy 0 0) (by rw[zi rfl];go_simp) rfl ?_;exact⟨rfl,by go_grown⟩
end
end Go.Proofs.YtdeogmbfgkepeaaGreatDoor
