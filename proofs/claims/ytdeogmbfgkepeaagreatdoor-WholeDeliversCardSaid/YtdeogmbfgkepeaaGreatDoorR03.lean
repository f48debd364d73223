/- Contracts for WholeDelivers. -/
import Derived.Deep.OwnRows
import Derived.Test.YtdeogmbfgkepeaaGreatDoorProg
import Derived.Test.YtdeogmbfgkepeaaGreatDoorR01
import Derived.Test.YtdeogmbfgkepeaaGreatDoorR02
set_option linter.unusedVariables false
set_option linter.unusedSimpArgs false
set_option maxRecDepth 100000
set_option maxHeartbeats 64000000
namespace Go.Proofs.YtdeogmbfgkepeaaGreatDoor
open Go.Proofs.Tryz
open Go.Value renaming int->O
open Go.IntKind renaming i64->J,u64->U
section
open Go.RowKit HB HeapP
namespace HB
abbrev ZT:En->iZ:=fun p=>[O J p.t,O J p.k,O J p.i]
theorem jD(p:En):(ZT p).length=3:=rfl
theorem aq(w:l6)(e:TypeId)(x y z:Value)(g:Nat)(hg:g=w.heap.size):∀ j u,[x,y,z][j]?=some u->(w.alloc (.cells #[x,y,z] e)).cell? ((⟨g,0,none⟩:Addr).add j)=some u:=by
 subst hg;intro j u hu;have key:∀ j,(w.alloc (.cells #[x,y,z] e)).cell? ⟨w.heap.size,j,none⟩=[x,y,z][j]?:=fun j=>by
  rw[cell_of_row _ w.heap.size j #[x,y,z] e (0,0) (heap_alloc_new w _)];simp
 unfold Addr.add;split
 ·rename_i h;subst h;rw[key];exact hu
 ·rw[Wa,key];exact hu
theorem Rd.ent_at{w:l6}{B n:Nat}{A:iX}{L:List En}(h:Rd w B 3 A n (L.flatMap ZT))(hl:L.length=n){i:Nat}(hi:i<n):
  ∃b off x,A=some ⟨b,off,none⟩/\b<B/\L[i]?=some x/\w.cell? ⟨b,off+i*3,none⟩=some (O J x.t)/\w.cell? ⟨b,off+i*3+1,none⟩=some (O J x.k)/\w.cell? ⟨b,off+i*3+2,none⟩=some (O J x.i):=by
 obtain⟨b,off,x,hA,hb,hg,hc⟩:=h.elem_at jD hl hi;exact⟨b,off,x,hA,hb,hg,hc 0 _ (by omega) rfl,hc 1 _ (by omega) rfl,hc 2 _ (by omega) rfl⟩
theorem Own.ent_at{base:Nat}{w:l6}{e:TypeId}{g n c:Nat}{L:List En}(h:Own w base e 3 ZT (.slice (some ⟨g,0,none⟩) n c) L)(hl:L.length=n){z:Nat}{x:En}(hz:L[z]?=some x):
  w.cell? ⟨g,z*3,none⟩=some (O J x.t)/\w.cell? ⟨g,z*3+1,none⟩=some (O J x.k)/\w.cell? ⟨g,z*3+2,none⟩=some (O J x.i)/\
   w.frozen? ⟨g,z*3,none⟩=false/\w.frozen? ⟨g,z*3+1,none⟩=false/\w.frozen? ⟨g,z*3+2,none⟩=false:=by
 have c0:=h.elem_cell jD hl hz (j:=0) (by omega) rfl;have c1:=h.elem_cell jD hl hz (j:=1) (by omega) rfl;have c2:=h.elem_cell jD hl hz (j:=2) (by omega) rfl;exact⟨c0.1,c1.1,c2.1,c0.2,c1.2,c2.2⟩
theorem Own.store_ent{base:Nat}{w:l6}{e:TypeId}{g n c:Nat}{L:List En}(h:Own w base e 3 ZT (.slice (some ⟨g,0,none⟩) n c) L)(hl:L.length=n){z:Nat}{x:En}(hz:L[z]?=some x)(y:En):
  Own (((w.setCell ⟨g,z*3,none⟩ (O J y.t)).setCell ⟨g,z*3+1,none⟩ (O J y.k)).setCell ⟨g,z*3+2,none⟩ (O J y.i)) base e 3 ZT (.slice (some ⟨g,0,none⟩) n c) (L.set z y)/\
   Below base w (((w.setCell ⟨g,z*3,none⟩ (O J y.t)).setCell ⟨g,z*3+1,none⟩ (O J y.k)).setCell ⟨g,z*3+2,none⟩ (O J y.i)):=by
 have h0:=(qd.1 hz).1;have s1:=Own.storeF jD h hl hz (j:=0) (x':=⟨y.t,x.k,x.i⟩) (u:=O J y.t) rfl (by omega);have s2:=Own.storeF jD s1.1 (by simpa using hl) (z:=z) (x:=⟨y.t,x.k,x.i⟩) (by simp[h0]) (j:=1) (x':=⟨y.t,y.k,x.i⟩) (u:=O J y.k) rfl (by omega);have s3:=Own.storeF jD s2.1 (by simpa using hl) (z:=z) (x:=⟨y.t,y.k,x.i⟩) (by simp[h0]) (j:=2) (x':=y) (u:=O J y.i) rfl (by omega);refine⟨?_,(s1.2.trans s2.2).trans s3.2⟩;have:=s3.1
 rwa [cW,cW]at this
end HB
theorem Ent.info:(prog.info? 312).map (fun i=>(i.zero,i.size,i.bytes))=some (some (.agg #[O J 0,O J 0,O J 0]),3,24):=by kernel_rfl
theorem ZU(a b:En)(w:l6):
  Calls prog 215 #[.agg #[O J a.t,O J a.k,O J a.i],.agg #[O J b.t,O J b.k,O J b.i]] w fun e w'=>e=.returned (.bool (lt a b))/\fj w w':=by
 have hl:=ze (show lt a b=if a.t≠b.t then decide (a.t<b.t)else if a.k≠b.k then decide (a.k<b.k)else decide (a.i<b.i)from rfl);obtain⟨a0,a1,a2⟩:=a;obtain⟨b0,b1,b2⟩:=b;generalize lt _ _=q at*
 go_in
 go_wp2_with fail
 all_goals
  go_ret;have h1:=hl.o
  simp_all
  exact(fh.alloc fi _).alloc (by simp) _
end
section
open Go.RowKit HB
theorem kP(f g p:Int)(w:l6)(hp:p=f*g)(h0: -1000000000<=p)(h1:p<=1000000000):
  Calls prog 176 #[O J f,O J g] w (fm (O J p) w):=by
 have HP:=ze hp;have ew:IntKind.i64.wrap (f*g)=p:=by rw[<-HP.o,JH];omega
 clear hp
 go_in
 go_wp2_with fail;go_ret;exact⟨rfl,rfl⟩
theorem jB(p g f r:Int)(w:l6)(hp:p=f*g+r)(h0:0<=f)(h1:0<=r)(h2:r<g)(h3:p<=1000000000):
  Calls prog 227 #[O J p,O J g] w fun e w'=>e=.returned (.tuple #[O J f,.bool (decide (r=0))])/\∃ m,w'=w.drewN m:=by
 have h4:0<=f*g:=JE h0 (by omega);have e1:p.tdiv g=f:=by
  rw[dT (by omega),hp,Int.add_comm,Int.add_mul_ediv_right _ _ (by omega),Int.ediv_eq_zero_of_lt h1 h2,Int.zero_add]
 have e2:p.tmod g=r:=by
  rw[Int.tmod_eq_emod_of_nonneg (by omega),hp,Int.add_comm,Int.add_mul_emod_self_right,Int.emod_eq_of_lt h1 h2]
 have hg:g≠0:=by omega
 have h5:f<=p:=by
  have:f*1<=f*g:=XU (by omega) h0;omega
 have ew1:IntKind.i64.wrap f=f:=by rw[JH];omega
 have ew2:IntKind.i64.wrap r=r:=by rw[JH];omega
 clear hp h4
 go_in
 go_wp2_with fail;go_quiet(fail);go_wp2_with fail;go_ret2;exact⟨rfl,_,rfl⟩
theorem YN(f g p:Int)(w:l6)(hp:p=(f-1)*g)(h0: -1000000000<=p)(h1:p<=1000000000)(h2: -1000000000<=f)(h3:f<=1000000000):
  Calls prog 76 #[O J f,O J g] w (fm (O J p) w):=by
 have HP:=ze hp;have ew0:IntKind.i64.wrap (f-1)=f-1:=by rw[JH];omega
 have ew:IntKind.i64.wrap ((f-1)*g)=p:=by rw[<-HP.o,JH];omega
 clear hp
 go_in
 go_wp2_with fail;go_ret;exact⟨rfl,rfl⟩
def yw(n:Int):Int:=if n<0 then -1 else if 0<n then 1 else 0
theorem VC(n:Int)(w:l6):Calls prog 225 #[O J n] w (fm (O J (yw n)) w):=by
 unfold yw;by_cases h1:n<0
 ·rw[if_pos h1]
  go_in
  go_wp2_with fail;go_ret;exact⟨rfl,rfl⟩
 ·rw[if_neg h1];by_cases h2:0<n
  ·rw[if_pos h2]
   go_in
   go_wp2_with fail;go_ret;exact⟨rfl,rfl⟩
  ·rw[if_neg h2]
   go_in
   go_wp2_with fail;go_ret;exact⟨rfl,rfl⟩
theorem qn(a b:Int)(w:l6)(h: -1000000000<=b-a)(h1:b-a<=1000000000):Calls prog 188 #[O J a,O J b] w (fm (O J (yw (b-a))) w):=by
 have ew:IntKind.i64.wrap (b-a)=b-a:=by rw[JH];omega
 go_in
 go_wp2_with(go_at_call 225;refine(VC _ _).mono ?_;rintro e w1 ⟨rfl,rfl⟩);go_ret;exact⟨rfl,rfl⟩
theorem YO(a b:Int)(w:l6)(h: -1000000000<=b-a)(h1:b-a<=1000000000):Calls prog 270 #[O J a,O J b] w (fm (O J (max (a-b) (b-a))) w):=by
 have ew:IntKind.i64.wrap (b-a)=b-a:=by rw[JH];omega
 have ew1:IntKind.i64.wrap (a-b)=a-b:=by rw[JH];omega
 go_in
 go_wp2_with fail;go_ret;exact⟨rfl,rfl⟩
end
section
open Go.RowKit HB HistP
theorem Hist.info:(prog.info? 3).map (fun i=>(i.zero,i.size,i.bytes))=some (some (O J 0),1,8):=by kernel_rfl
theorem Vv(b d:Int)(w:l6):Calls prog 36 #[O J b,O J d] w fun e w'=>e=.returned (.bool (eZ b d))/\w=w':=by
 go_in
 go_wp2_with fail
 all_goals
  go_ret;exact⟨j8 (by rw[Bool.eq_iff_iff];simp[eZ];omega),rfl⟩
def Hist.bin(b d n:Int):Int×Int:=if eZ b d=true then(if n<0 then(0,10)else(zX b d n,0))else(0,22)
theorem Z2(b d n:Int)(hn1:n<=9223372036854775807)(w:l6):Calls prog 17 #[O J b,O J d,O J n] w fun e w'=>e=.returned (.tuple #[O J (Hist.bin b d n).1,O J (Hist.bin b d n).2])/\w=w':=by
 cases hr:eZ b d with
 |false=>
  have e:Hist.bin b d n=(0,22):=by unfold Hist.bin;rw[hr];rfl
  rw[e];have HR:=ze hr;clear e hr
  go_in
  go_wp2_with(go_at_call 36;refine(Vv _ _ _).mono ?_;rintro e w' ⟨rfl,rfl⟩;simp only[HR.o]);go_ret2;exact⟨rfl,rfl⟩
 |true=>
  obtain⟨b1,b2,d1,d2⟩:=Jg hr;by_cases hn:n<0
  ·have e:Hist.bin b d n=(0,10):=by unfold Hist.bin;rw[hr,if_pos rfl,if_pos hn]
   rw[e];have HR:=ze hr;clear e hr
   go_in
   go_wp2_with(go_at_call 36;refine(Vv _ _ _).mono ?_;rintro e w' ⟨rfl,rfl⟩;simp only[HR.o]);go_ret2;exact⟨rfl,rfl⟩
  ·have e:Hist.bin b d n=(zX b d n,0):=by unfold Hist.bin;rw[hr,if_pos rfl,if_neg hn]
   rw[e];have HR:=ze hr;have hn0:0<=n:=by omega
   have q0:0<=n/d:=Wi hn0 (by omega);have q1:n/d<=n:=iI d hn0;have q2:n/d<=9223372036854775807:=by omega
   clear e hr
   go_in
   go_wp2_with(go_at_call 36;refine(Vv _ _ _).mono ?_;rintro e w' ⟨rfl,rfl⟩;simp only[HR.o]);go_ret2;exact⟨rfl,rfl⟩
def Hist.Rel(ts:l8)(b d:Int)(m:Nat)(w:l6)(i:Value)(wr:l6):Prop:=
 ∃k:Nat,k<=ts.length/\i=O J k/\(∀t∈ts.take k,0<=t)/\Own wr w.heap.size 3 1 (fa .i64) (.slice (some ⟨w.heap.size,0,none⟩) m m) (zo b d m (ts.take k))/\fj w wr/\w.heap.size<wr.heap.size
def Hist.Post(ts:l8)(b d:Int)(m:Nat)(w:l6)(e:Ending)(w':l6):Prop:=
 fj w w'/\((¬(∀t∈ts,0<=t)/\e=.returned (.tuple #[.slice none 0 0,O J 10]))\/
 ((∀t∈ts,0<=t)/\∃ v,e=.returned (.tuple #[v,O J 0])/\Own w' w.heap.size 3 1 (fa .i64) v (zo b d m ts)))
theorem Yl(A:iX)(n c B m:Nat)(ts:l8)(d:Int)(w:l6)(hr:Rd w B 1 A n (ts.map (Value.int .i64)))(hB:B<=w.heap.size)(hl:ts.length=n)(hn:n<=1000)(hw:∀ x∈ts,(Lit.int .i64 x).wf=true)
  (hrt:eZ m d=true):
  Calls prog 154 #[O J m,O J d,.slice A n c] w (Hist.Post ts m d m w):=by
 obtain⟨b1,b2,d1,d2⟩:=Jg hrt;have hc:=fun(W:l6)=>run_make_row' (P:=prog) 51 3 (O J 0) 8 underlying51 Hist.info rfl .i64 .i64 m (by omega) (by omega) W
 have Hl:=ze hl;have Hw:=ze hw;have HR:=ze hrt;have h1:=Own.made (base:=w.heap.size) (k:=.i64) w 3 m fi (by omega);rw[<-Xm m d]at h1;have Ho:=ze h1;clear hl hw hrt h1
 go_in
 go_wp2_with(go_at_call 36;refine(Vv _ _ _).mono ?_;rintro e w' ⟨rfl,rfl⟩;simp only[HR.o]);clear hc
 go_loopw [21] (fun i wr=>Hist.Rel ts m d m w i wr) (fun i _=>n-(intOf i).toNat)
 case atStart=>exact⟨0,vf _,rfl,by simp,Ho.o,by go_grown,by simp⟩
 case round=>
  obtain⟨k,hk,rfl,h3,h0,h2,hi⟩:=hrel;rw[Hl.o]at hk;have HP:=ze h3;clear h3;by_cases ha:k<n
  ·obtain⟨b,off,x,rfl,hb,hg,c0⟩:=(hr.below (h2.mono hB)).int_at Hl.o ha;have h8:=bounds_i64 (Hw.o x (jx hg));have h7:=ze (show ts.take (k+1)=ts.take k++[x] by rw[Vn,hg];rfl);have he:(ts.take k).length<=1000:=by rw[XT,Hl.o];omega
   have HG:=ze hg;have HO:=ze h0;clear hg h0;by_cases hx:x<0
   ·have e:Hist.bin m d x=(0,10):=by unfold Hist.bin;rw[HR.o,if_pos rfl,if_pos hx]
    have E:=ze e;clear e;go_wp2_with(go_at_call 17;refine(Z2 _ _ _ h8.2 _).mono ?_;rintro e w' ⟨rfl,rfl⟩;simp only[E.o]);go_ret2;exact⟨h2,.inl ⟨fun h=>by have:=h x (jx HG.o);omega,rfl⟩⟩
   ·have h9:0<=x:=by omega
    have e:Hist.bin m d x=(zX m d x,0):=by unfold Hist.bin;rw[HR.o,if_pos rfl,if_neg hx]
    have E:=ze e;obtain⟨p0,p1⟩:=yG b1 d1 h9;obtain⟨q,hq⟩:=QM p0;rw[hq]at p1;obtain⟨y,hy,cy,fy⟩:=HO.o.int_at (zE _ _ _ _) (j:=q) (by omega);have h5:=Z1 (by omega) hy;have hd:=ya m d (ts.take k) q;rw[<-h5]at hd;have HY:=ze h5;have h6:=ze (HO.o.store (zE _ _ _ _) q (y+1));clear hy h5 e;have p2:(0:Int)<=(q:Int):=by omega
    have Hq:=ze hq;clear hq;go_wp2_with(go_at_call 17;refine(Z2 _ _ _ h8.2 _).mono ?_;rintro e w' ⟨rfl,rfl⟩;simp only[E.o,Hq.o]);go_roundw
    case rel=>
     refine⟨k+1,by rw[Hl.o];omega,by go_num,?_,?_,h2.trans h6.o.2,by go_size⟩
     ·rw[h7.o];intro t ht;rcases yp.1 ht with h|h
      ·exact HP.o t h
      ·simp at h;omega
     ·rw[h7.o,<-Uh h9 Hq.o,<-HY.o];exact h6.o.1
    case measure=>simp[intOf];omega
  ·have hf:ts.take k=ts:=Wc (by rw[Hl.o];omega);rw[hf]at h0;have h4:=HP.o;rw[hf]at h4;have HQ:=ze h4;have HO:=ze h0;clear h0 hf HP h4;go_wp2_with fail;go_ret2;exact⟨h2,.inr ⟨HQ.o,_,rfl,HO.o⟩⟩
end
section
open Go.RowKit HB PickP
theorem yK(x b:Int)(h0:0<=x)(h1:x<=4294967295)(h2:0<=b)(h3:b<=4294967295)(w:l6):
  Calls prog 130 #[.int .u32 x,.int .u32 b] w fun e w'=>e=.returned (.int .u32 (fg x b))/\w=w':=by
 obtain⟨m0,m1⟩:=Jw h0 h1 h2 h3;have e:x*b/4294967296%4294967296=fg x b:=by unfold fg;omega
 have E:=ze e;clear e
 go_in
 go_wp2_with fail;go_ret;exact⟨zJ (by first|exact E.o|(rw[<-E.o];omega)),rfl⟩
end
section
open Go.RowKit HB
end
section
open Go.RowKit HB PickP
abbrev Words.st(A:iX)(n c:Nat)(at_:Int):Value:=.agg #[.slice A n c,O J at_]
abbrev Words.box(A:iX)(n c:Nat)(at_:Int):Obj:=.cells #[.slice A n c,O J at_] 32
def Words.left(at_:Int)(n:Nat):Int:=if at_<0\/(n:Int)<at_ then 0 else n-at_
theorem Zg(A:iX)(n c:Nat)(at_:Int)(hn:n<=1000000000)(w:l6):
  Calls prog 98 #[Words.st A n c at_] w fun e w'=>e=.returned (O J (Words.left at_ n))/\w.alloc (Words.box A n c at_)=w':=by
 by_cases h0:at_<0
 ·go_in
  go_wp2_with fail;go_ret;exact⟨zJ (by unfold Words.left;rw[if_pos (.inl h0)]),rfl⟩
 ·by_cases h1:(n:Int)<at_
  ·go_in
   go_wp2_with fail;go_ret;exact⟨zJ (by unfold Words.left;rw[if_pos (.inr h1)]),rfl⟩
  ·go_in
   go_wp2_with fail;go_ret;exact⟨zJ (by unfold Words.left;rw[if_neg (by omega)]),rfl⟩
theorem vd(A:iX)(n c:Nat)(at_:Int)(hn:n<=1000000000)(w:l6)(hd:at_<0\/(n:Int)<=at_):
  Calls prog 73 #[Words.st A n c at_] w (fk (.tuple #[.int .u32 0,Words.st A n c at_,O J 50]) w):=by
 have hl:Words.left at_ n=0:=by unfold Words.left;split<;>omega
 have L:=ze hl;clear hl hd
 go_in
 go_wp2_with(go_at_call 98;refine(Zg _ _ _ _ hn _).mono ?_;rintro e w' ⟨rfl,rfl⟩;simp only[L.o]);go_region
 all_goals
  go_wp2_with fail
  go_returns
  exact⟨rfl,by go_grown⟩
theorem Zh(b off n c k:Nat)(x:Int)(hn:n<=1000000000)(w:l6)(hk:k<n)(hc:w.cell? ⟨b,off+k,none⟩=some (.int .u32 x)):
  Calls prog 73 #[Words.st (some ⟨b,off,none⟩) n c k] w (fk (.tuple #[.int .u32 x,Words.st (some ⟨b,off,none⟩) n c (k+1),O J 0]) w):=by
 have hl:Words.left k n=n-k:=by unfold Words.left;rw[if_neg (by omega)]
 have L:=ze hl;have hb:=World.new_ne w _ hc;have h0:=ZO (JG w _ hc);have i0:(0:Int)<=(k:Int):=by omega
 have i1:(k:Int)<(n:Int):=by omega
 have hz:(((n:Int)-(k:Int))==0)=false:=by rw[beq_eq_false_iff_ne];omega
 clear hl
 go_in
 go_wp2_with(go_at_call 98;refine(Zg _ _ _ _ hn _).mono ?_;rintro e w' ⟨rfl,rfl⟩;simp only[L.o]);go_region
 all_goals
  go_wp2_with fail
  go_returns
  exact⟨rfl,by go_grown⟩
theorem yL(x b:Int)(h0:0<=x)(h1:x<=4294967295)(h2:0<=b)(h3:b<=4294967295)(w:l6):
  Calls prog 130 #[.int .u32 x,.int .u32 b] w fun e w'=>e=.returned (.int .u32 (fg x b))/\w=w':=by
 obtain⟨m0,m1⟩:=Jw h0 h1 h2 h3;have e:x*b/4294967296%4294967296=fg x b:=by unfold fg;omega
 have E:=ze e;clear e
 go_in
 go_wp2_with fail;go_ret;exact⟨zJ (by first|exact E.o|(rw[<-E.o];omega)),rfl⟩
theorem XM(A:iX)(n c B:Nat)(l:l8)(w:l6)(hr:Rd w B 1 A n (l.map (Value.int .i64)))(hl:l.length=n)(hn:n<=1000)(hw:∀ x∈l,(Lit.int .i64 x).wf=true):
  Calls prog 129 #[.slice A n c] w fun e w'=>e=.returned (.tuple #[O J (kZ l).1,O J (kZ l).2])/\w=w':=by
 have Hl:=ze hl;have Hw:=ze hw;clear hl hw
 go_in
 go_wp2_with fail
 go_loop [11] (fun i=>∃ k:Nat,k<=n/\i=O J k/\∀ j x,j<k->l[j]?=some x->0<=x) (fun i=>n-(intOf i).toNat)
 case atStart=>exact⟨0,vf _,rfl,by omega⟩
 case round=>
  obtain⟨k,hk,rfl,h1⟩:=hrel;have Hp:=ze h1;clear h1;by_cases h2:k<n
  ·obtain⟨b,off,x,rfl,hb,hg,c0⟩:=hr.int_at Hl.o h2;have G:=ze hg;clear hg hr;by_cases hx:x<0
   ·have ht:=ze (UF G.o hx);go_wp2_with fail;go_ret2;rw[ht.o];exact⟨rfl,rfl⟩
   ·go_wp2_with fail
    go_round
    case rel=>
     refine⟨k+1,by omega,by go_num,fun j y hj hy=>?_⟩;rcases YF j k with h|h
     ·exact Hp.o j y h hy
     ·obtain rfl:j=k:=by omega
      rw[G.o]at hy;obtain rfl:=ve hy;omega
    case measure=>simp[intOf];omega
  ·have hall:∀ x∈l,0<=x:=fun x hx=>by
    obtain⟨j,hj⟩:=Z5 hx;exact Hp.o j x (by have:=(qd.1 hj).1;rw[Hl.o]at this;omega) hj
   have Ha:=ze hall;clear hall Hp;obtain rfl:k=n:=by omega
   clear h2 hk;go_wp2_with fail
   go_loop [4,20] (fun s i=>∃ k':Nat,k'<=k/\i=O J k'/\s=O J (pre l k')/\pre l k'<=2147483648) (fun _ i=>k-(intOf i).toNat)
   case atStart=>exact⟨0,vf _,rfl,rfl,by rw[xq];omega⟩
   case round=>
    obtain⟨j,hj,rfl,rfl,hp⟩:=hrel;have h4:=Zc l Ha.o j;by_cases h2:j<k
    ·obtain⟨b,off,x,rfl,hb,hg,c0⟩:=hr.int_at Hl.o h2;have h5:=bounds_i64 (Hw.o x (jx hg));have h6:=Ha.o x (jx hg);have hs:=ze (Za hg);clear hg hr;by_cases h3:2147483648-pre l j<x
     ·have ht:=ze (UG Ha.o (by have:=XE l Ha.o (j+1);rw[hs.o]at this;omega));go_wp2_with fail;go_ret2;rw[ht.o];exact⟨rfl,rfl⟩
     ·go_wp2_with fail
      go_round
      case rel=>exact⟨j+1,by omega,by go_num,by rw[hs.o],by rw[hs.o];omega⟩
      case measure=>simp[intOf];omega
    ·have hs:=vq l j (by rw[Hl.o];omega);rw[hs]at hp h4;have Hs:=ze hs;clear hs;simp only[Hs.o];by_cases h0:sum l=0
     ·have ht:=ze (XG Ha.o h0);have hb:(sum l==0)=true:=by simpa using h0
      have H0:=ze h0;clear h0;go_wp2_with fail;go_ret2;rw[ht.o];exact⟨rfl,rfl⟩
     ·have ht:=ze (KW Ha.o (by omega) h0);have hb:(sum l==0)=false:=by simpa using h0
      have H0:=ze h0;clear h0;go_wp2_with fail;go_ret2;rw[ht.o];exact⟨rfl,rfl⟩
def Pick.OfPost(l:l8)(x:Int)(w:l6)(e:Ending)(w':l6):Prop:=∃ k:Nat,e=.returned (.tuple #[O J k,O J 0])/\Spot l (fg x (sum l)) k/\w=w'
theorem bK(A:iX)(n c B:Nat)(l:l8)(x:Int)(w:l6)(hr:Rd w B 1 A n (l.map (Value.int .i64)))(hl:l.length=n)(hn:n<=1000)(hw:∀ x∈l,(Lit.int .i64 x).wf=true)
  (hx:0<=x)(hx1:x<=4294967295)(hpos:∀ x∈l,0<=x)(ht:kZ l=(sum l,0))(hs:0<sum l)(hs1:sum l<=2147483648):
  Calls prog 100 #[.int .u32 x,.slice A n c] w (Pick.OfPost l x w):=by
 have T:=ze ht;have Hl:=ze hl;have Hw:=ze hw;have Hp:=ze hpos;obtain⟨n0,n1⟩:=UH hx hx1 hs;clear ht hl hw hpos
 go_in
 go_wp2_with(first
  |(go_at_call 129;refine(XM A n c B l _ hr Hl.o hn Hw.o).mono ?_;rintro e w' ⟨rfl,rfl⟩;simp only[T.o])
  |(go_at_call 130;refine(yL _ _ hx hx1 (by omega) (by omega) _).mono ?_;rintro e w' ⟨rfl,rfl⟩))
 generalize hN:fg x (sum l)=N at*;have HN:=ze hN;clear hN
 go_loop [8,26] (fun r i=>∃ k:Nat,k<=n/\i=O J k/\r=O J (N-pre l k)/\pre l k<=N) (fun _ i=>n-(intOf i).toNat)
 case atStart=>exact⟨0,vf _,rfl,by rw[xq];go_num,by rw[xq];omega⟩
 case round=>
  obtain⟨k,hk,rfl,rfl,h0⟩:=hrel;have h3:=Zc l Hp.o k;by_cases h1:k<n
  ·obtain⟨b,off,y,rfl,hb,hg,c0⟩:=hr.int_at Hl.o h1;have h5:=bounds_i64 (Hw.o y (jx hg));have h4:=Hp.o y (jx hg);have hs:=ze (Za hg);clear hg hr;by_cases h2:N-pre l k<y
   ·go_wp2_with fail;go_ret2;exact⟨k,rfl,⟨by rw[Hl.o];exact h1,by rw[HN.o];exact h0,by rw[HN.o,hs.o];omega⟩,rfl⟩
   ·go_wp2_with fail
    go_round
    case rel=>exact⟨k+1,by omega,by go_num,by rw[hs.o];go_num,by rw[hs.o];omega⟩
    case measure=>simp[intOf];omega
  ·rw[vq l k (by rw[Hl.o];omega)]at h0;omega
end
section
open Go.RowKit HB WhenP
abbrev When.seg:Seg->iZ:=fun g=>[O J g.1,O J g.2.1,O J g.2.2]
theorem When.cells{w:l6}{B n:Nat}{A:iX}{l:List Seg}(h:Rd w B 3 A n (l.flatMap When.seg))(hl:l.length=n){k:Nat}(hk:k<n):
  ∃b off g,A=some ⟨b,off,none⟩/\b<B/\l[k]?=some g/\w.cell? ⟨b,off+k*3,none⟩=some (O J g.1)/\w.cell? ⟨b,off+k*3+1,none⟩=some (O J g.2.1)/\w.cell? ⟨b,off+k*3+2,none⟩=some (O J g.2.2):=by
 obtain⟨b,off,hA,hb,hc⟩:=h.at_ (by omega);have hg:l[k]?=some (l[k]'(by omega)):=kD _;generalize l[k]'(by omega)=g at hg;have key:∀ j u,j<3->(When.seg g)[j]?=some u->w.cell? ⟨b,off+k*3+j,none⟩=some u:=fun j u hj hu=>by
  rw[XS];exact hc _ _ ((flat_get (f:=When.seg) (m:=3) (fun _=>rfl) l k j g hg hj).trans hu)
 exact⟨b,off,g,hA,hb,hg,key 0 _ (by omega) rfl,key 1 _ (by omega) rfl,key 2 _ (by omega) rfl⟩
theorem kB(a b c:Int)(w:l6):
  Calls prog 23 #[.agg #[O J a,O J b,O J c]] w (fk (O J (tk (a,b,c))) w):=by
 go_in
 go_wp2_with fail;go_ret;exact⟨rfl,by go_grown⟩
def When.Sum(l:List Seg)(w:l6)(s i:Value)(wr:l6):Prop:=∃ k:Nat,k<=l.length/\i=O J k/\s=O J (upto l k)/\fj w wr
theorem XN(A:iX)(n c B:Nat)(l:List Seg)(w:l6)(hr:Rd w B 3 A n (l.flatMap When.seg))(hl:l.length=n)(hn:n<=30)(hB:B<=w.heap.size):
  Calls prog 6 #[.slice A n c] w (fk (O J (tot l)) w):=by
 have Hl:=ze hl;clear hl
 go_in
 go_wp2_with fail
 go_loopw [3,8] (fun s i wr=>When.Sum l w s i wr) (fun _ i _=>n-(intOf i).toNat)
 case atStart=>exact⟨0,vf _,rfl,rfl,fh⟩
 case round=>
  obtain⟨k,hk,rfl,rfl,h0⟩:=hrel;rw[Hl.o]at hk;have hz:=h0.size;by_cases h3:k<n
  ·obtain⟨b,off,g,rfl,hb,hg,c0,c1,c2⟩:=When.cells (hr.below (h0.mono hB)) Hl.o h3;have hG:=ze (yh hg);have hu:=kA l k;have ht:=xt g;rw[Hl.o]at hu;clear hg hr;obtain⟨g1,g2,g3⟩:=g;go_wp2_with(go_at_call 23;refine(kB _ _ _ _).mono ?_;rintro e w1 ⟨rfl,h2⟩);go_roundw
   case rel=>exact⟨k+1,by rw[Hl.o];omega,by go_num,by rw[hG.o],then_ (h0.alloc hz _) h2 fi⟩
   case measure=>simp[intOf];omega
  ·have h1:upto l k=tot l:=qY l k (by rw[Hl.o];omega);have Hk:=ze h1;clear h1;go_wp2_with fail;go_ret;exact⟨zJ Hk.o,h0⟩
def When.Look(l:List Seg)(tick:Int)(w:l6)(t i:Value)(wr:l6):Prop:=∃ k:Nat,k<=l.length/\i=O J k/\t=O J (tick-upto l k)/\upto l k<=tick/\fj w wr
def When.AtPost(l:List Seg)(tick:Int)(w:l6)(e:Ending)(w':l6):Prop:=∃(j:Int)(ok:Bool),e=.returned (.tuple #[O J j,.bool ok])/\At l l.length tick j ok/\fj w w'
theorem bN(A:iX)(n c B:Nat)(l:List Seg)(tick:Int)(w:l6)(hr:Rd w B 3 A n (l.flatMap When.seg))(hl:l.length=n)(hn:n<=30)(hB:B<=w.heap.size)(ht0: -9223372036854775808<=tick)(ht1:tick<=9223372036854775807):
  Calls prog 50 #[.slice A n c,O J tick] w (When.AtPost l tick w):=by
 have Hl:=ze hl;clear hl;by_cases h2:tick<0
 ·go_in
  go_wp2_with fail;go_ret2;exact⟨0,false,rfl,.inr ⟨rfl,rfl,.inl h2⟩,fh⟩
 have hd:decide (tick<0)=false:=by simp;omega
 have h3:0<=tick:=by omega
 clear h2
 go_in
 go_wp2_with fail
 go_loopw [1,12] (fun t i wr=>When.Look l tick w t i wr) (fun _ i _=>n-(intOf i).toNat)
 case atStart=>exact⟨0,vf _,rfl,by rw[JA];go_num,by rw[JA];exact h3,fh⟩
 case round=>
  obtain⟨k,hk,rfl,rfl,h5,h0⟩:=hrel;rw[Hl.o]at hk;have hz:=h0.size;have hu:=kA l k;rw[Hl.o]at hu;by_cases h6:k<n
  ·obtain⟨b,off,g,rfl,hb,hg,c0,c1,c2⟩:=When.cells (hr.below (h0.mono hB)) Hl.o h6;have hG:=ze (yh hg);have ht:=xt g;clear hg hr;obtain⟨g1,g2,g3⟩:=g;have ha:wr.heap.size<wr.heap.size+1:=by omega
   by_cases h8:tick-upto l k<tk (g1,g2,g3)
   ·go_wp2_with(go_at_call 23;refine(kB _ _ _ _).mono ?_;rintro e w1 ⟨rfl,h1⟩);go_ret2;refine⟨k,true,rfl,.inl ⟨rfl,k,by rw[Hl.o];exact h6,rfl,h5,by rw[hG.o];omega⟩,then_ (h0.alloc hz _) h1 fi⟩
   ·have h9:tk (g1,g2,g3)<=tick-upto l k:=by omega
    clear h8;go_wp2_with fail;refine(kB _ _ _ _).mono ?_;rintro e w1 ⟨rfl,h1⟩;have k0:=zf h1 (p:=⟨wr.heap.size,0,none⟩) (v:=O J g1) (by simp);have k1:=zf h1 (p:=⟨wr.heap.size,1,none⟩) (v:=O J g2) (by simp);have k2:=zf h1 (p:=⟨wr.heap.size,2,none⟩) (v:=O J g3) (by simp);go_wp2_with fail;refine(kB _ _ _ _).mono ?_;rintro e w2 ⟨rfl,h7⟩;go_wp2_with fail;go_roundw
    case rel=>exact⟨k+1,by rw[Hl.o];omega,by go_num,by rw[hG.o];go_num,by rw[hG.o];omega,then_ (then_ (h0.alloc hz _) h1 fi) h7 fi⟩
    case measure=>simp[intOf];omega
  ·have h4:upto l k=upto l l.length:=by rw[qY l k (by rw[Hl.o];omega),qY l l.length fi]
   have Hk:=ze h4;clear h4;go_wp2_with fail;go_ret2;exact⟨0,false,rfl,.inr ⟨rfl,rfl,.inr (by rw[<-Hk.o];exact h5)⟩,h0⟩
end
section
open Go.RowKit HB CumP
def Over.Rel(hi lo c:Int)(q r i:Value):Prop:=∃(m:Nat)(q' r':Int),m<=64/\i=O J ((m:Int)-1)/\q=O U q'/\r=O U r'/\0<=q'/\0<=r'/\r'<c/\q'*c+r'=zB hi lo m
theorem Cum.info:(prog.info? 129).map (fun i=>(i.zero,i.size,i.bytes))=some (some (O U 0),1,8):=by kernel_rfl
def Cum.WPost(rate:Int)(f:Value->Value)(w:l6)(e:Ending)(w':l6):Prop:=
 ∃(v:Value)(m:Nat),e=.returned (f v)/\Many rate m/\Own w' w.heap.size 129 1 (fa .u64) v (wl rate m)/\fj w w'
def Cum.WRel(rate:Int)(w:l6)(x o k:Value)(wr:l6):Prop:=
 ∃j:Nat,j<=64/\x=O U (wt rate j)/\k=O U ((j:Int)+1)/\(∀i,i<j->0<wt rate i)/\Own wr w.heap.size 129 1 (fa .u64) o (wl rate j)/\fj w wr
theorem Vf(rate:Int)(h0:0<=rate)(h1:rate<=4000)(w:l6):
  Calls prog 69 #[O J rate] w (Cum.WPost rate (fun v=>.tuple #[v,O J 0]) w):=by
 go_in
 go_wp2_with fail
 go_loopw [4,5,6] (fun x o k wr=>Cum.WRel rate w x o k wr) (fun _ _ k _=>66-(intOf k).toNat)
 case atStart=>exact⟨0,by omega,rfl,rfl,fun i hi=>by omega,Own.nil _ _ _ _ _,fh⟩
 case round=>
  obtain⟨j,hj,rfl,rfl,h6,h4,h3⟩:=hrel;have Hp:=ze h6;have HO:=ze h4;have hz:=h3.size;clear h6 h4;have h9:=qW h0 j;have h2:=yg rate j;have hO:=HO.o;obtain⟨A,c,rfl,hc,_⟩:=hO.ints;rw[h2]at hc;simp only[h2];have HL:=ze h2;have h7:Hz (Own wr w.heap.size 129 1 (fa .u64) (.slice A j c) (wl rate j)):=ze (by have:=HO.o;rw[h2]at this;exact this);clear h2 hO HO;by_cases h8:0<wt rate j
  ·by_cases hk:j<64
   ·have hl:=(Ze h0 h1 hk).2;have hn:=ze (bF rate j);have hm:0<=wt rate j*rate:=JE h9 h0;have ho:wt rate j*rate<=4294967295*4000:=yO hl h1 h0 (by decide);have hw:Hz (wt rate j*rate/(1000*((j:Int)+1))=wt rate (j+1)):=ze rfl;have hd:=ze h8;generalize ha:wt rate j=x at*;have HX:=ze ha;clear ha;have hL:(wl rate j).length<=1000000000:=by rw[HL.o];omega
    go_wp2_with(at_builtin;refine push rfl _ _ 104 rfl underlying104 Cum.info rfl (by omega) (by omega) rfl (h7.o.alloc _) x ⟨_,0,none⟩ 1 rfl rfl (cell_one_new _ _ _) (by simp[Value.oneCell']) hL (vD hz (by simp)) ?_;intro v' w1 h5 hf);go_roundw
    case rel=>
     refine⟨j+1,by omega,?_,by go_num,fun i hi=>?_,by rw[hn.o];exact h5,(h3.alloc hz _).trans hf⟩
     ·rw[<-hw.o]
     ·rcases YF i j with h|h
      ·exact Hp.o i h
      ·obtain rfl:i=j:=by omega
       rw[HX.o];exact hd.o
    case measure=>simp[intOf];omega
   ·obtain rfl:j=64:=by omega
    generalize wt rate 64=x at*;go_wp2_with fail;go_ret2;exact⟨_,64,rfl,⟨by omega,by omega,Hp.o,fun h=>by omega⟩,h7.o,h3⟩
  ·have he:wt rate j=0:=by omega
   have HE:=ze he;have hg:1<=j:=by
    rcases ZW j with h|h
    ·subst h;simp[wt]at he
    ·exact h
   simp only[he];clear he h8 h9;go_wp2_with fail;go_ret2;exact⟨_,j,rfl,⟨hg,hj,Hp.o,fun _=>HE.o⟩,h7.o,h3⟩
def Cum.TPost(rate:Int)(f:Value->Value)(w:l6)(e:Ending)(w':l6):Prop:=
 ∃(v:Value)(m:Nat),e=.returned (f v)/\Many rate m/\Own w' w.heap.size 129 1 (fa .u64) v (tb rate m m)/\fj w w'
theorem US(rate:Int)(h0:0<=rate)(h1:rate<=4000)(w:l6):
  Calls prog 48 #[O J rate] w (Cum.TPost rate (fun v=>.tuple #[v,O J 0]) w):=by
 go_in
 go_wp2_with fail;refine(Vf rate h0 h1 _).mono ?_;rintro e w1 ⟨v,m,rfl,hm,h2,hc⟩;have HM:=ze hm;have m1:=hm.1;have m64:=hm.2.1;clear hm;have h3:=yg rate m;obtain⟨g,cap,rfl,ho,hp,h9,-,-⟩:=h2.at_ (by rw[h3];omega);rw[h3]at h9 h2;simp only[h3];have HL:=ze h3;have HO:=ze h2;clear h3 h2;go_wp2_with fail
 go_loop [6,22] (fun s i=>∃ j:Nat,j<=m/\i=O J j/\s=O U (S rate j)) (fun _ i=>m-(intOf i).toNat)
 case atStart=>exact⟨0,vf _,rfl,rfl⟩
 case round=>
  obtain⟨j,hj,rfl,rfl⟩:=hrel;have hs:=xr h0 h1 (m:=j) (by omega);have hu:=hs.1;have hv:=hs.2;clear hs;by_cases hf:j<m
  ·obtain⟨x,h8,cx,fx⟩:=HO.o.int_at HL.o (j:=j) hf;obtain⟨h4,-⟩:=cR h8;have hx:=Ze h0 h1 (k:=j) (by omega);rw[<-h4]at hx;have hi:=hx.1;have hk:=hx.2;have hn:Hz (S rate (j+1)=S rate j+x):=ze (by rw[h4];rfl);clear h8 h4 hx;generalize S rate j=s at*;go_wp2_with fail
   go_round
   case rel=>exact⟨j+1,by omega,by go_num,by rw[hn.o]⟩
   case measure=>simp[intOf];omega
  ·obtain rfl:j=m:=by omega
   have hl:=GU h0 m1;generalize hd:S rate j=cc at*;have HC:=ze hd;clear hd;go_wp2_with fail
   go_loopw [9,32] (fun s i wr=>∃ q:Nat,q<=j/\i=O J q/\s=O U (S rate q)/\Own wr w.heap.size 129 1 (fa .u64) (.slice (some ⟨g,0,none⟩) j cap) (Yz rate j q)/\fj w wr) (fun _ i _=>j-(intOf i).toNat)
   case atStart=>exact⟨0,vf _,rfl,rfl,by rw[GV];exact HO.o,hc⟩
   case round=>
    clear HO hc;obtain⟨q,hq,rfl,rfl,h2,h5⟩:=hrel;have HO:=ze h2;clear h2;have hs:=xr h0 h1 (m:=q) (by omega);have hr:=hs.1;have ht:=hs.2;clear hs;by_cases h7:q<j
    ·obtain⟨x,h8,cx,fx⟩:=HO.o.int_at (kz _ _ _) (j:=q) h7;have h4:=bH h8;have hx:=Ze h0 h1 (k:=q) (by omega);rw[<-h4]at hx;have hi:=hx.1;have hk:=hx.2;have hn:Hz (S rate (q+1)=S rate q+x):=ze (by rw[h4];rfl);have ha:=xr h0 h1 (m:=q+1) (by omega);rw[hn.o]at ha;have hw:=ha.2;have h6:Hz ((S rate q+x)*4294967296/cc=cell rate j q):=ze (by unfold cell;rw[hn.o,HC.o]);have he:=ze (HO.o.store (kz _ _ _) q ((S rate q+x)*4294967296/cc));have hg:=ze (GW (rate:=rate) h7);clear h8 h4 hx ha;generalize S rate q=s at*;go_wp2_with fail;go_roundw
     case rel=>exact⟨q+1,by omega,by go_num,by rw[hn.o],by rw[<-hg.o,<-h6.o];exact he.o.1,h5.trans he.o.2⟩
     case measure=>simp[intOf];omega
    ·obtain rfl:q=j:=by omega
     generalize S rate q=s at*;go_wp2_with fail;go_ret2;exact⟨_,q,rfl,HM.o,by rw[<-bG];exact HO.o,h5⟩
end
end Go.Proofs.YtdeogmbfgkepeaaGreatDoor
