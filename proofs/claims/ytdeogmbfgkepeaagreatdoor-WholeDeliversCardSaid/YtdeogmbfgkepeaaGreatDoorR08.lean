/- Contracts for WholeDelivers. -/
import Derived.Laws.Cover2
import Derived.Laws.StructEq
import Derived.Laws.Tables
import Derived.Test.YtdeogmbfgkepeaaGreatDoorR07
set_option linter.unusedVariables false
set_option linter.unusedSimpArgs false
set_option maxRecDepth 100000
set_option maxHeartbeats 64000000
namespace Go.Proofs.YtdeogmbfgkepeaaGreatDoor
open Go.Proofs.Tryz
open Go.Value renaming int->O
open Go.IntKind renaming i64->J,u64->U
section
open Go.RowKit HB
theorem VI(a b c d:Int)(w:l6):(Op.equalIn 10000 325 (.agg #[O U a,O U b]) (.agg #[O U c,O U d])).run prog w=.ok (a==c&&b==d) w:=by
 have u3:=underlying129;have a3:=isAgg129;have z3:=sizeOf129;rw[show(10000:Nat)=9999+1 from rfl,Op.equalIn];simp only[Sem.run_bind,run_underlying underlying325,iE];simp only[Std.Legacy.Range.forIn_eq_forIn_range',Std.Legacy.Range.size,Nat.sub_zero,Nat.add_sub_cancel,Nat.div_one,List.range'_succ,List.range'_zero,List.forIn_cons,List.forIn_nil];go_simp;by_cases h1:a=c<;>by_cases h2:b=d<;>simp[h1,h2]
abbrev vF(a b c d e f:Int):Array Value:= #[O U a,O U b,O U c,O U d,O U e,O U f]
abbrev qI(a b c d e f:Int):Value:=.agg (vF a b c d e f)
def zF(c d e f fl dir:Int):Bool:=if 0<dir then kL c d fl else if dir<0 then kL e f fl else false
theorem qP(a b c d e f fl dir:Int)(w:l6):Calls prog 255 #[qI a b c d e f,O J fl,O J dir] w (fk (.bool (zF c d e f fl dir)) w):=by
 by_cases h0:0<dir
 ·have hv:zF c d e f fl dir=kL c d fl:=by unfold zF;rw[if_pos h0]
  rw[hv];clear hv
  go_in
  go_wp2_with(go_at_call 257;refine(ki _ _ _ _).mono ?_;rintro r w1 ⟨rfl,h2⟩);go_ret;exact⟨rfl,(show fj w _ from by go_grown).trans (h2.mono (by simp))⟩
 ·by_cases h1:dir<0
  ·have hv:zF c d e f fl dir=kL e f fl:=by unfold zF;rw[if_neg h0,if_pos h1]
   rw[hv];clear hv
   go_in
   go_wp2_with(go_at_call 257;refine(ki _ _ _ _).mono ?_;rintro r w1 ⟨rfl,h2⟩);go_ret;exact⟨rfl,(show fj w _ from by go_grown).trans (h2.mono (by simp))⟩
  ·have hv:zF c d e f fl dir=false:=by unfold zF;rw[if_neg h0,if_neg h1]
   rw[hv];clear hv
   go_in
   go_wp2_with fail;go_ret;exact⟨rfl,by go_grown⟩
def bynd(a b f d:Int):Bool:=!(uz a f d==0&&uB b f d==0)
theorem J4{a b f d:Int}(h:bynd a b f d=true):(0<d/\f<127)\/(d<0/\0<f):=WI a b f d (fun h2=>by unfold bynd at h;rw[h2.1,h2.2]at h;simp at h)
theorem jT(a b c d e f fl dir:Int)(w:l6)(hf: -1000<=fl)(hf1:fl<=1000000):Calls prog 256 #[qI a b c d e f,O J fl,O J dir] w (fk (.bool (bynd a b fl dir)) w):=by
 have he:=fun(x y:Int)(W:l6)=>VI x y 0 0 W
 unfold bynd
 go_in
 go_wp2_with(go_at_call 278;refine(yv a b fl dir _ hf hf1).mono ?_;rintro r w1 ⟨rfl,h0⟩);go_ret;exact⟨j8 (by rw[Bool.not_and]),(show fj w _ from by go_grown).trans (h0.mono (by simp))⟩
def qD(a b c d e f fl dir:Int):Int:=
 if dir=0 then(if zF c d e f fl 1=true then 1 else if zF c d e f fl (-1)=true then -1 else if bynd a b fl 1=true then 1 else if bynd a b fl (-1)=true then -1 else 0)
 else if zF c d e f fl dir=true\/bynd a b fl dir=true then dir
 else if zF c d e f fl (-dir)=true\/bynd a b fl (-dir)=true then -dir else 0
structure S6(w:l6)(q:Nat)(a b c d e f:Int):Prop where
 c0:w.cell? ⟨q,0,none⟩=some (O U a)
 c1:w.cell? ⟨q,1,none⟩=some (O U b)
 c2:w.cell? ⟨q,2,none⟩=some (O U c)
 c3:w.cell? ⟨q,3,none⟩=some (O U d)
 c4:w.cell? ⟨q,4,none⟩=some (O U e)
 c5:w.cell? ⟨q,5,none⟩=some (O U f)
theorem S6.new(w:l6)(a b c d e f:Int)(ty:TypeId):S6 (w.alloc (.cells (vF a b c d e f) ty)) w.heap.size a b c d e f:=by
 refine⟨?_,?_,?_,?_,?_,?_⟩
 ·rw[cell_of_row _ w.heap.size 0 _ ty (0,0) (heap_alloc_new w _)];rfl
 ·rw[cell_of_row _ w.heap.size 1 _ ty (0,0) (heap_alloc_new w _)];rfl
 ·rw[cell_of_row _ w.heap.size 2 _ ty (0,0) (heap_alloc_new w _)];rfl
 ·rw[cell_of_row _ w.heap.size 3 _ ty (0,0) (heap_alloc_new w _)];rfl
 ·rw[cell_of_row _ w.heap.size 4 _ ty (0,0) (heap_alloc_new w _)];rfl
 ·rw[cell_of_row _ w.heap.size 5 _ ty (0,0) (heap_alloc_new w _)];rfl
theorem S6.below{w w':l6}{q D:Nat}{a b c d e f:Int}(h:S6 w q a b c d e f)(hb:Below D w w')(hq:q<D):S6 w' q a b c d e f:=
 ⟨(hb.cell (p:=⟨q,0,none⟩) hq).trans h.c0,(hb.cell (p:=⟨q,1,none⟩) hq).trans h.c1,(hb.cell (p:=⟨q,2,none⟩) hq).trans h.c2,(hb.cell (p:=⟨q,3,none⟩) hq).trans h.c3,(hb.cell (p:=⟨q,4,none⟩) hq).trans h.c4,(hb.cell (p:=⟨q,5,none⟩) hq).trans h.c5⟩
structure Fo(w wr:l6)(a b c d e f:Int):Prop where
 fb:fj w wr
 fz:w.heap.size<wr.heap.size
 fs:S6 wr w.heap.size a b c d e f
theorem Fo.step{w wr w':l6}{a b c d e f:Int}(h:Fo w wr a b c d e f)(hb:fj wr w'):Fo w w' a b c d e f:=⟨h.fb.trans (hb.mono (Vq h.fz)),kK h.fz hb.size,h.fs.below hb h.fz⟩
theorem Gr(a b c d e f fl:Int)(w:l6)(hf: -1000<=fl)(hf1:fl<=1000000):Calls prog 229 #[qI a b c d e f,O J fl,O J 0] w (fk (O J (qD a b c d e f fl 0)) w):=by
 have h5:=ze (show Fo w (w.alloc (.cells (vF a b c d e f) 366)) a b c d e f from⟨by go_grown,by simp,S6.new w a b c d e f _⟩);have HC:=ze (fun(D:Int)(V:l6)=>qP a b c d e f fl D V);have HB:=ze (fun(D:Int)(V:l6)=>jT a b c d e f fl D V hf hf1);have ix0:∀ W,(Instr.index 398 (.agg #[O J (1),O J (-1)]) (O J 0)).run prog W=.ok (O J (1)) W:=fun _=>by kernel_rfl
 have ix1:∀ W,(Instr.index 398 (.agg #[O J (1),O J (-1)]) (O J 1)).run prog W=.ok (O J (-1)) W:=fun _=>by kernel_rfl
 go_in
 go_wp2_with fail
 go_loopw [35] (fun i wr=>∃ k:Int,(k=0\/k=1\/k=2)/\i=O J k/\Fo w wr a b c d e f/\(0<k->zF c d e f fl 1=false)/\(1<k->zF c d e f fl (-1)=false)) (fun i _=>2-(intOf i).toNat)
 case atStart=>exact⟨0,by omega,rfl,h5.o,fun h=>absurd h (by omega),fun h=>absurd h (by omega)⟩
 case round=>
  obtain⟨k,h4,rfl,h1,g1,g2⟩:=hrel;have HF:=ze h1;obtain⟨q0,q1,q2,q3,q4,q5⟩:=h1.fs;clear h1;rcases h4 with rfl|rfl|rfl
  ·rcases yd (zF c d e f fl (1))with hx|hx
   ·go_wp2_with(go_at_call 255;refine(HC.o (1) _).mono ?_;rintro r w1 ⟨rfl,h0⟩;rw[hx]);go_ret;exact⟨zJ (by unfold qD;simp[hx]),(HF.o.step h0).fb⟩
   ·go_wp2_with(go_at_call 255;refine(HC.o (1) _).mono ?_;rintro r w1 ⟨rfl,h0⟩;rw[hx]);go_roundw
    case rel=>exact⟨1,by omega,by go_num,HF.o.step h0,fun _=>hx,fun h=>absurd h (by omega)⟩
    case measure=>simp[intOf]
  ·have e1:=g1 (by omega);rcases yd (zF c d e f fl (-1))with hx|hx
   ·go_wp2_with(go_at_call 255;refine(HC.o (-1) _).mono ?_;rintro r w1 ⟨rfl,h0⟩;rw[hx]);go_ret;exact⟨zJ (by unfold qD;simp[hx,e1]),(HF.o.step h0).fb⟩
   ·go_wp2_with(go_at_call 255;refine(HC.o (-1) _).mono ?_;rintro r w1 ⟨rfl,h0⟩;rw[hx]);go_roundw
    case rel=>exact⟨2,by omega,by go_num,HF.o.step h0,fun _=>e1,fun _=>hx⟩
    case measure=>simp[intOf]
  ·have h2:=ze (g1 (by omega));have h3:=ze (g2 (by omega));clear g1 g2;go_wp2_with fail
   go_loopw [45] (fun i wq=>∃ k:Int,(k=0\/k=1\/k=2)/\i=O J k/\Fo w wq a b c d e f/\(0<k->bynd a b fl 1=false)/\(1<k->bynd a b fl (-1)=false)) (fun i _=>2-(intOf i).toNat)
   case atStart=>exact⟨0,by omega,rfl,HF.o,fun h=>absurd h (by omega),fun h=>absurd h (by omega)⟩
   case round=>
    obtain⟨k,h4,rfl,h1,g1,g2⟩:=hrel;clear q0 q1 q2 q3 q4 q5 HF;have HF:=ze h1;obtain⟨q0,q1,q2,q3,q4,q5⟩:=h1.fs;clear h1;rcases h4 with rfl|rfl|rfl
    ·rcases yd (bynd a b fl (1))with hx|hx
     ·go_wp2_with(go_at_call 256;refine(HB.o (1) _).mono ?_;rintro r w1 ⟨rfl,h0⟩;rw[hx]);go_ret;exact⟨zJ (by unfold qD;simp[hx,h2.o,h3.o]),(HF.o.step h0).fb⟩
     ·go_wp2_with(go_at_call 256;refine(HB.o (1) _).mono ?_;rintro r w1 ⟨rfl,h0⟩;rw[hx]);go_roundw
      case rel=>exact⟨1,by omega,by go_num,HF.o.step h0,fun _=>hx,fun h=>absurd h (by omega)⟩
      case measure=>simp[intOf]
    ·have e1:=g1 (by omega);rcases yd (bynd a b fl (-1))with hx|hx
     ·go_wp2_with(go_at_call 256;refine(HB.o (-1) _).mono ?_;rintro r w1 ⟨rfl,h0⟩;rw[hx]);go_ret;exact⟨zJ (by unfold qD;simp[hx,e1,h2.o,h3.o]),(HF.o.step h0).fb⟩
     ·go_wp2_with(go_at_call 256;refine(HB.o (-1) _).mono ?_;rintro r w1 ⟨rfl,h0⟩;rw[hx]);go_roundw
      case rel=>exact⟨2,by omega,by go_num,HF.o.step h0,fun _=>e1,fun _=>hx⟩
      case measure=>simp[intOf]
    ·have e1:=g1 (by omega);have e2:=g2 (by omega);go_wp2_with fail;go_ret;exact⟨zJ (by unfold qD;simp[e1,e2,h2.o,h3.o]),HF.o.fb⟩
theorem Gs(a b c d e f fl:Int)(w:l6)(hf: -1000<=fl)(hf1:fl<=1000000):Calls prog 229 #[qI a b c d e f,O J fl,O J (1)] w (fk (O J (qD a b c d e f fl (1))) w):=by
 have h4:=ze (show Fo w (w.alloc (.cells (vF a b c d e f) 366)) a b c d e f from⟨by go_grown,by simp,S6.new w a b c d e f _⟩);have HC:=ze (fun(D:Int)(V:l6)=>qP a b c d e f fl D V);have HB:=ze (fun(D:Int)(V:l6)=>jT a b c d e f fl D V hf hf1);have ix0:∀ W,(Instr.index 398 (.agg #[O J (1),O J (-1)]) (O J 0)).run prog W=.ok (O J (1)) W:=fun _=>by kernel_rfl
 have ix1:∀ W,(Instr.index 398 (.agg #[O J (1),O J (-1)]) (O J 1)).run prog W=.ok (O J (-1)) W:=fun _=>by kernel_rfl
 go_in
 go_wp2_with fail
 go_loopw [19] (fun i wr=>∃ k:Int,(k=0\/k=1\/k=2)/\i=O J k/\Fo w wr a b c d e f/\(0<k->zF c d e f fl (1)=false/\bynd a b fl (1)=false)/\(1<k->zF c d e f fl (-1)=false/\bynd a b fl (-1)=false)) (fun i _=>2-(intOf i).toNat)
 case atStart=>exact⟨0,by omega,rfl,h4.o,fun h=>absurd h (by omega),fun h=>absurd h (by omega)⟩
 case round=>
  obtain⟨k,h5,rfl,h3,g1,g2⟩:=hrel;have HF:=ze h3;obtain⟨q0,q1,q2,q3,q4,q5⟩:=h3.fs;clear h3;rcases h5 with rfl|rfl|rfl
  ·rcases yd (zF c d e f fl (1))with hx|hx
   ·go_wp2_with(go_at_call 255;refine(HC.o (1) _).mono ?_;rintro r w1 ⟨rfl,h1⟩;rw[hx]);go_ret;exact⟨zJ (by unfold qD;simp[hx]),(HF.o.step h1).fb⟩
   ·rcases yd (bynd a b fl (1))with hy|hy
    ·go_wp2_with(first|(go_at_call 255;refine(HC.o (1) _).mono ?_;rintro r w1 ⟨rfl,h1⟩;rw[hx];have h0:=ze (HF.o.step h1);clear q0 q1 q2 q3 q4 q5;obtain⟨q0,q1,q2,q3,q4,q5⟩:=h0.o.fs)|(go_at_call 256;refine(HB.o (1) _).mono ?_;rintro r w2 ⟨rfl,h2⟩;rw[hy]));go_ret;exact⟨zJ (by unfold qD;simp[hx,hy]),(h0.o.step h2).fb⟩
    ·go_wp2_with(first|(go_at_call 255;refine(HC.o (1) _).mono ?_;rintro r w1 ⟨rfl,h1⟩;rw[hx];have h0:=ze (HF.o.step h1);clear q0 q1 q2 q3 q4 q5;obtain⟨q0,q1,q2,q3,q4,q5⟩:=h0.o.fs)|(go_at_call 256;refine(HB.o (1) _).mono ?_;rintro r w2 ⟨rfl,h2⟩;rw[hy]));go_roundw
     case rel=>exact⟨1,by omega,by go_num,h0.o.step h2,fun _=>⟨hx,hy⟩,fun h=>absurd h (by omega)⟩
     case measure=>simp[intOf]
  ·have e1:=g1 (by omega);obtain⟨e1,e2⟩:=e1;rcases yd (zF c d e f fl (-1))with hx|hx
   ·go_wp2_with(go_at_call 255;refine(HC.o (-1) _).mono ?_;rintro r w1 ⟨rfl,h1⟩;rw[hx]);go_ret;exact⟨zJ (by unfold qD;simp[hx,e1,e2]),(HF.o.step h1).fb⟩
   ·rcases yd (bynd a b fl (-1))with hy|hy
    ·go_wp2_with(first|(go_at_call 255;refine(HC.o (-1) _).mono ?_;rintro r w1 ⟨rfl,h1⟩;rw[hx];have h0:=ze (HF.o.step h1);clear q0 q1 q2 q3 q4 q5;obtain⟨q0,q1,q2,q3,q4,q5⟩:=h0.o.fs)|(go_at_call 256;refine(HB.o (-1) _).mono ?_;rintro r w2 ⟨rfl,h2⟩;rw[hy]));go_ret;exact⟨zJ (by unfold qD;simp[hx,hy,e1,e2]),(h0.o.step h2).fb⟩
    ·go_wp2_with(first|(go_at_call 255;refine(HC.o (-1) _).mono ?_;rintro r w1 ⟨rfl,h1⟩;rw[hx];have h0:=ze (HF.o.step h1);clear q0 q1 q2 q3 q4 q5;obtain⟨q0,q1,q2,q3,q4,q5⟩:=h0.o.fs)|(go_at_call 256;refine(HB.o (-1) _).mono ?_;rintro r w2 ⟨rfl,h2⟩;rw[hy]));go_roundw
     case rel=>exact⟨2,by omega,by go_num,h0.o.step h2,fun _=>⟨e1,e2⟩,fun _=>⟨hx,hy⟩⟩
     case measure=>simp[intOf]
  ·obtain⟨e1,e2⟩:=g1 (by omega);obtain⟨e3,e4⟩:=g2 (by omega);go_wp2_with fail;go_ret;exact⟨zJ (by unfold qD;simp[e1,e2,e3,e4]),HF.o.fb⟩
theorem Gt(a b c d e f fl:Int)(w:l6)(hf: -1000<=fl)(hf1:fl<=1000000):Calls prog 229 #[qI a b c d e f,O J fl,O J (-1)] w (fk (O J (qD a b c d e f fl (-1))) w):=by
 have h4:=ze (show Fo w (w.alloc (.cells (vF a b c d e f) 366)) a b c d e f from⟨by go_grown,by simp,S6.new w a b c d e f _⟩);have HC:=ze (fun(D:Int)(V:l6)=>qP a b c d e f fl D V);have HB:=ze (fun(D:Int)(V:l6)=>jT a b c d e f fl D V hf hf1);have ix0:∀ W,(Instr.index 398 (.agg #[O J (-1),O J (1)]) (O J 0)).run prog W=.ok (O J (-1)) W:=fun _=>by kernel_rfl
 have ix1:∀ W,(Instr.index 398 (.agg #[O J (-1),O J (1)]) (O J 1)).run prog W=.ok (O J (1)) W:=fun _=>by kernel_rfl
 go_in
 go_wp2_with fail
 go_loopw [19] (fun i wr=>∃ k:Int,(k=0\/k=1\/k=2)/\i=O J k/\Fo w wr a b c d e f/\(0<k->zF c d e f fl (-1)=false/\bynd a b fl (-1)=false)/\(1<k->zF c d e f fl (1)=false/\bynd a b fl (1)=false)) (fun i _=>2-(intOf i).toNat)
 case atStart=>exact⟨0,by omega,rfl,h4.o,fun h=>absurd h (by omega),fun h=>absurd h (by omega)⟩
 case round=>
  obtain⟨k,h5,rfl,h3,g1,g2⟩:=hrel;have HF:=ze h3;obtain⟨q0,q1,q2,q3,q4,q5⟩:=h3.fs;clear h3;rcases h5 with rfl|rfl|rfl
  ·rcases yd (zF c d e f fl (-1))with hx|hx
   ·go_wp2_with(go_at_call 255;refine(HC.o (-1) _).mono ?_;rintro r w1 ⟨rfl,h1⟩;rw[hx]);go_ret;exact⟨zJ (by unfold qD;simp[hx]),(HF.o.step h1).fb⟩
   ·rcases yd (bynd a b fl (-1))with hy|hy
    ·go_wp2_with(first|(go_at_call 255;refine(HC.o (-1) _).mono ?_;rintro r w1 ⟨rfl,h1⟩;rw[hx];have h0:=ze (HF.o.step h1);clear q0 q1 q2 q3 q4 q5;obtain⟨q0,q1,q2,q3,q4,q5⟩:=h0.o.fs)|(go_at_call 256;refine(HB.o (-1) _).mono ?_;rintro r w2 ⟨rfl,h2⟩;rw[hy]));go_ret;exact⟨zJ (by unfold qD;simp[hx,hy]),(h0.o.step h2).fb⟩
    ·go_wp2_with(first|(go_at_call 255;refine(HC.o (-1) _).mono ?_;rintro r w1 ⟨rfl,h1⟩;rw[hx];have h0:=ze (HF.o.step h1);clear q0 q1 q2 q3 q4 q5;obtain⟨q0,q1,q2,q3,q4,q5⟩:=h0.o.fs)|(go_at_call 256;refine(HB.o (-1) _).mono ?_;rintro r w2 ⟨rfl,h2⟩;rw[hy]));go_roundw
     case rel=>exact⟨1,by omega,by go_num,h0.o.step h2,fun _=>⟨hx,hy⟩,fun h=>absurd h (by omega)⟩
     case measure=>simp[intOf]
  ·have e1:=g1 (by omega);obtain⟨e1,e2⟩:=e1;rcases yd (zF c d e f fl (1))with hx|hx
   ·go_wp2_with(go_at_call 255;refine(HC.o (1) _).mono ?_;rintro r w1 ⟨rfl,h1⟩;rw[hx]);go_ret;exact⟨zJ (by unfold qD;simp[hx,e1,e2]),(HF.o.step h1).fb⟩
   ·rcases yd (bynd a b fl (1))with hy|hy
    ·go_wp2_with(first|(go_at_call 255;refine(HC.o (1) _).mono ?_;rintro r w1 ⟨rfl,h1⟩;rw[hx];have h0:=ze (HF.o.step h1);clear q0 q1 q2 q3 q4 q5;obtain⟨q0,q1,q2,q3,q4,q5⟩:=h0.o.fs)|(go_at_call 256;refine(HB.o (1) _).mono ?_;rintro r w2 ⟨rfl,h2⟩;rw[hy]));go_ret;exact⟨zJ (by unfold qD;simp[hx,hy,e1,e2]),(h0.o.step h2).fb⟩
    ·go_wp2_with(first|(go_at_call 255;refine(HC.o (1) _).mono ?_;rintro r w1 ⟨rfl,h1⟩;rw[hx];have h0:=ze (HF.o.step h1);clear q0 q1 q2 q3 q4 q5;obtain⟨q0,q1,q2,q3,q4,q5⟩:=h0.o.fs)|(go_at_call 256;refine(HB.o (1) _).mono ?_;rintro r w2 ⟨rfl,h2⟩;rw[hy]));go_roundw
     case rel=>exact⟨2,by omega,by go_num,h0.o.step h2,fun _=>⟨e1,e2⟩,fun _=>⟨hx,hy⟩⟩
     case measure=>simp[intOf]
  ·obtain⟨e1,e2⟩:=g1 (by omega);obtain⟨e3,e4⟩:=g2 (by omega);go_wp2_with fail;go_ret;exact⟨zJ (by unfold qD;simp[e1,e2,e3,e4]),HF.o.fb⟩
theorem xe(a b c d e f fl dir:Int)(w:l6)(hf: -1000<=fl)(hf1:fl<=1000000)(hd: -1<=dir)(hd1:dir<=1):Calls prog 229 #[qI a b c d e f,O J fl,O J dir] w (fk (O J (qD a b c d e f fl dir)) w):=by
 have h:dir=0\/dir=1\/dir=-1:=by omega
 rcases h with rfl|rfl|rfl
 ·exact Gr a b c d e f fl w hf hf1
 ·exact Gs a b c d e f fl w hf hf1
 ·exact Gt a b c d e f fl w hf hf1
end
end Go.Proofs.YtdeogmbfgkepeaaGreatDoor
