/- Contracts that WholeBins needs. Each tells its conditions. -/
import Derived.Deep.OwnRows
import Derived.Test.YtdeogmbfgkepeaaGreatDoorProg
import Derived.Test.YtdeogmbfgkepeaaGreatDoorQ01
import Derived.Test.YtdeogmbfgkepeaaGreatDoorQ02
set_option linter.unusedVariables false
set_option linter.unusedSimpArgs false
set_option maxRecDepth 100000
set_option maxHeartbeats 64000000
namespace Go.Proofs.YtdeogmbfgkepeaaGreatDoor
open Go.Proofs.Tryz
open Go.Value renaming int->O
open Go.IntKind renaming i64->J,u64->U
section
open Go.RowKit HB HeapP
namespace HB
abbrev ZT:En->List Value:=fun p=>[O J p.t,O J p.k,O J p.i]
theorem jD(p:En):(ZT p).length=3:=rfl
theorem aq(w:World)(e:TypeId)(x y z:Value)(g:Nat)(hg:g=w.heap.size):∀ j u,[x,y,z][j]?=some u->(w.alloc (.cells #[x,y,z] e)).cell? ((⟨g,0,none⟩:Addr).add j)=some u:=by
 subst hg;intro j u hu;have key:∀ j,(w.alloc (.cells #[x,y,z] e)).cell? ⟨w.heap.size,j,none⟩=[x,y,z][j]?:=fun j=>by
  rw[cell_of_row _ w.heap.size j #[x,y,z] e (0,0) (heap_alloc_new w _)];simp
 unfold Addr.add;split
 ·rename_i h;subst h;rw[key];exact hu
 ·rw[Nat.zero_add,key];exact hu
theorem Rd.ent_at{w:World}{B n:Nat}{A:Option Addr}{L:List En}(h:Rd w B 3 A n (L.flatMap ZT))(hl:L.length=n){i:Nat}(hi:i<n):
  ∃b off x,A=some ⟨b,off,none⟩/\b<B/\L[i]?=some x/\w.cell? ⟨b,off+i*3,none⟩=some (O J x.t)/\w.cell? ⟨b,off+i*3+1,none⟩=some (O J x.k)/\w.cell? ⟨b,off+i*3+2,none⟩=some (O J x.i):=by
 obtain⟨b,off,x,hA,hb,hg,hc⟩:=h.elem_at jD hl hi;exact⟨b,off,x,hA,hb,hg,hc 0 _ (by omega) rfl,hc 1 _ (by omega) rfl,hc 2 _ (by omega) rfl⟩
theorem Own.ent_at{base:Nat}{w:World}{e:TypeId}{g n c:Nat}{L:List En}(h:Own w base e 3 ZT (.slice (some ⟨g,0,none⟩) n c) L)(hl:L.length=n){z:Nat}{x:En}(hz:L[z]?=some x):
  w.cell? ⟨g,z*3,none⟩=some (O J x.t)/\w.cell? ⟨g,z*3+1,none⟩=some (O J x.k)/\w.cell? ⟨g,z*3+2,none⟩=some (O J x.i)/\
   w.frozen? ⟨g,z*3,none⟩=false/\w.frozen? ⟨g,z*3+1,none⟩=false/\w.frozen? ⟨g,z*3+2,none⟩=false:=by
 have c0:=h.elem_cell jD hl hz (j:=0) (by omega) rfl;have c1:=h.elem_cell jD hl hz (j:=1) (by omega) rfl;have c2:=h.elem_cell jD hl hz (j:=2) (by omega) rfl;exact⟨c0.1,c1.1,c2.1,c0.2,c1.2,c2.2⟩
theorem Own.store_ent{base:Nat}{w:World}{e:TypeId}{g n c:Nat}{L:List En}(h:Own w base e 3 ZT (.slice (some ⟨g,0,none⟩) n c) L)(hl:L.length=n){z:Nat}{x:En}(hz:L[z]?=some x)(y:En):
  Own (((w.setCell ⟨g,z*3,none⟩ (O J y.t)).setCell ⟨g,z*3+1,none⟩ (O J y.k)).setCell ⟨g,z*3+2,none⟩ (O J y.i)) base e 3 ZT (.slice (some ⟨g,0,none⟩) n c) (L.set z y)/\
   Below base w (((w.setCell ⟨g,z*3,none⟩ (O J y.t)).setCell ⟨g,z*3+1,none⟩ (O J y.k)).setCell ⟨g,z*3+2,none⟩ (O J y.i)):=by
 have hzl:=(List.getElem?_eq_some_iff.1 hz).1;have s1:=Own.storeF jD h hl hz (j:=0) (x':=⟨y.t,x.k,x.i⟩) (u:=O J y.t) rfl (by omega);have s2:=Own.storeF jD s1.1 (by simpa using hl) (z:=z) (x:=⟨y.t,x.k,x.i⟩) (by simp[hzl]) (j:=1) (x':=⟨y.t,y.k,x.i⟩) (u:=O J y.k) rfl (by omega);have s3:=Own.storeF jD s2.1 (by simpa using hl) (z:=z) (x:=⟨y.t,y.k,x.i⟩) (by simp[hzl]) (j:=2) (x':=y) (u:=O J y.i) rfl (by omega);refine⟨?_,(s1.2.trans s2.2).trans s3.2⟩;have:=s3.1
 rwa [List.set_set,List.set_set]at this
end HB
theorem Ent.info:(prog.info? 312).map (fun i=>(i.zero,i.size,i.bytes))=some (some (.agg #[O J 0,O J 0,O J 0]),3,24):=by kernel_rfl
theorem ZU(a b:En)(w:World):
  Calls prog 215 #[.agg #[O J a.t,O J a.k,O J a.i],.agg #[O J b.t,O J b.k,O J b.i]] w fun e w'=>e=.returned (.bool (lt a b))/\fj w w':=by
 have hl:=ze (show lt a b=if a.t≠b.t then decide (a.t<b.t)else if a.k≠b.k then decide (a.k<b.k)else decide (a.i<b.i)from rfl);obtain⟨a0,a1,a2⟩:=a;obtain⟨b0,b1,b2⟩:=b;generalize lt _ _=q at*;go_enter func215,ntmps215;go_wp2_with fail
 all_goals
  go_ret;have h1:=hl.o
  simp_all
  exact(fh.alloc fi _).alloc (by simp) _
end
section
open Go.RowKit HB
theorem kP(f g p:Int)(w:World)(hp:p=f*g)(h0: -1000000000<=p)(h1:p<=1000000000):
  Calls prog 176 #[O J f,O J g] w (fm (O J p) w):=by
 have HP:=ze hp;have ew:IntKind.i64.wrap (f*g)=p:=by rw[<-HP.o,IntKind.wrap_i64];omega
 clear hp;go_enter func176,ntmps176;go_wp2_with fail;go_ret;exact⟨rfl,rfl⟩
theorem jB(p g f r:Int)(w:World)(hp:p=f*g+r)(h0:0<=f)(h1:0<=r)(h2:r<g)(h3:p<=1000000000):
  Calls prog 227 #[O J p,O J g] w fun e w'=>e=.returned (.tuple #[O J f,.bool (decide (r=0))])/\∃ m,w'=w.drewN m:=by
 have hfg:0<=f*g:=Int.mul_nonneg h0 (by omega);have e1:p.tdiv g=f:=by
  rw[Int.tdiv_eq_ediv_of_nonneg (by omega),hp,Int.add_comm,Int.add_mul_ediv_right _ _ (by omega),Int.ediv_eq_zero_of_lt h1 h2,Int.zero_add]
 have e2:p.tmod g=r:=by
  rw[Int.tmod_eq_emod_of_nonneg (by omega),hp,Int.add_comm,Int.add_mul_emod_self_right,Int.emod_eq_of_lt h1 h2]
 have hg:g≠0:=by omega
 have hfp:f<=p:=by
  have:f*1<=f*g:=Int.mul_le_mul_of_nonneg_left (by omega) h0;omega
 have ew1:IntKind.i64.wrap f=f:=by rw[IntKind.wrap_i64];omega
 have ew2:IntKind.i64.wrap r=r:=by rw[IntKind.wrap_i64];omega
 clear hp hfg;go_enter func227,ntmps227;go_wp2_with fail;go_quiet(fail);go_wp2_with fail;go_ret2;exact⟨rfl,_,rfl⟩
theorem YN(f g p:Int)(w:World)(hp:p=(f-1)*g)(h0: -1000000000<=p)(h1:p<=1000000000)(h2: -1000000000<=f)(h3:f<=1000000000):
  Calls prog 76 #[O J f,O J g] w (fm (O J p) w):=by
 have HP:=ze hp;have ew0:IntKind.i64.wrap (f-1)=f-1:=by rw[IntKind.wrap_i64];omega
 have ew:IntKind.i64.wrap ((f-1)*g)=p:=by rw[<-HP.o,IntKind.wrap_i64];omega
 clear hp;go_enter func76,ntmps76;go_wp2_with fail;go_ret;exact⟨rfl,rfl⟩
def yw(n:Int):Int:=if n<0 then -1 else if 0<n then 1 else 0
theorem VC(n:Int)(w:World):Calls prog 225 #[O J n] w (fm (O J (yw n)) w):=by
 unfold yw;by_cases h1:n<0
 ·rw[if_pos h1];go_enter func225,ntmps225;go_wp2_with fail;go_ret;exact⟨rfl,rfl⟩
 ·rw[if_neg h1];by_cases h2:0<n
  ·rw[if_pos h2];go_enter func225,ntmps225;go_wp2_with fail;go_ret;exact⟨rfl,rfl⟩
  ·rw[if_neg h2];go_enter func225,ntmps225;go_wp2_with fail;go_ret;exact⟨rfl,rfl⟩
theorem qn(a b:Int)(w:World)(h: -1000000000<=b-a)(h1:b-a<=1000000000):Calls prog 188 #[O J a,O J b] w (fm (O J (yw (b-a))) w):=by
 have ew:IntKind.i64.wrap (b-a)=b-a:=by rw[IntKind.wrap_i64];omega
 go_enter func188,ntmps188;go_wp2_with(go_at_call 225;refine(VC _ _).mono ?_;rintro e w1 ⟨rfl,rfl⟩);go_ret;exact⟨rfl,rfl⟩
theorem YO(a b:Int)(w:World)(h: -1000000000<=b-a)(h1:b-a<=1000000000):Calls prog 270 #[O J a,O J b] w (fm (O J (max (a-b) (b-a))) w):=by
 have ew:IntKind.i64.wrap (b-a)=b-a:=by rw[IntKind.wrap_i64];omega
 have ew1:IntKind.i64.wrap (a-b)=a-b:=by rw[IntKind.wrap_i64];omega
 go_enter func270,ntmps270;go_wp2_with fail;go_ret;exact⟨rfl,rfl⟩
end
section
open Go.RowKit HB HistP
theorem Hist.info:(prog.info? 3).map (fun i=>(i.zero,i.size,i.bytes))=some (some (O J 0),1,8):=by kernel_rfl
theorem qt(b d:Int)(w:World):Calls prog 36 #[O J b,O J d] w fun e w'=>e=.returned (.bool (eZ b d))/\w=w':=by
 go_enter func36,ntmps36;go_wp2_with fail
 all_goals
  go_ret;exact⟨j8 (by rw[Bool.eq_iff_iff];simp[eZ];omega),rfl⟩
def Hist.bin(b d n:Int):Int×Int:=if eZ b d=true then(if n<0 then(0,10)else(zX b d n,0))else(0,22)
theorem Z2(b d n:Int)(hn1:n<=9223372036854775807)(w:World):Calls prog 17 #[O J b,O J d,O J n] w fun e w'=>e=.returned (.tuple #[O J (Hist.bin b d n).1,O J (Hist.bin b d n).2])/\w=w':=by
 cases hr:eZ b d with
 |false=>
  have e:Hist.bin b d n=(0,22):=by unfold Hist.bin;rw[hr];rfl
  rw[e];have HR:=ze hr;clear e hr;go_enter func17,ntmps17;go_wp2_with(go_at_call 36;refine(qt _ _ _).mono ?_;rintro e w' ⟨rfl,rfl⟩;simp only[HR.o]);go_ret2;exact⟨rfl,rfl⟩
 |true=>
  obtain⟨b1,b2,d1,d2⟩:=Jg hr;by_cases hn:n<0
  ·have e:Hist.bin b d n=(0,10):=by unfold Hist.bin;rw[hr,if_pos rfl,if_pos hn]
   rw[e];have HR:=ze hr;clear e hr;go_enter func17,ntmps17;go_wp2_with(go_at_call 36;refine(qt _ _ _).mono ?_;rintro e w' ⟨rfl,rfl⟩;simp only[HR.o]);go_ret2;exact⟨rfl,rfl⟩
  ·have e:Hist.bin b d n=(zX b d n,0):=by unfold Hist.bin;rw[hr,if_pos rfl,if_neg hn]
   rw[e];have HR:=ze hr;have hn0:0<=n:=by omega
   have q0:0<=n/d:=Int.ediv_nonneg hn0 (by omega);have q1:n/d<=n:=Int.ediv_le_self d hn0;have q2:n/d<=9223372036854775807:=by omega
   clear e hr;go_enter func17,ntmps17;go_wp2_with(go_at_call 36;refine(qt _ _ _).mono ?_;rintro e w' ⟨rfl,rfl⟩;simp only[HR.o]);go_ret2;exact⟨rfl,rfl⟩
def Hist.Rel(ts:List Int)(b d:Int)(m:Nat)(w:World)(i:Value)(wr:World):Prop:=
 ∃k:Nat,k<=ts.length/\i=O J k/\(∀t∈ts.take k,0<=t)/\Own wr w.heap.size 3 1 (fa .i64) (.slice (some ⟨w.heap.size,0,none⟩) m m) (zo b d m (ts.take k))/\fj w wr/\w.heap.size<wr.heap.size
def Hist.Post(ts:List Int)(b d:Int)(m:Nat)(w:World)(e:Ending)(w':World):Prop:=
 fj w w'/\((¬(∀t∈ts,0<=t)/\e=.returned (.tuple #[.slice none 0 0,O J 10]))\/
 ((∀t∈ts,0<=t)/\∃ v,e=.returned (.tuple #[v,O J 0])/\Own w' w.heap.size 3 1 (fa .i64) v (zo b d m ts)))
theorem Yl(A:Option Addr)(n c B m:Nat)(ts:List Int)(d:Int)(w:World)(hr:Rd w B 1 A n (ts.map (Value.int .i64)))(hB:B<=w.heap.size)(hl:ts.length=n)(hn:n<=1000)(hw:∀ x∈ts,(Lit.int .i64 x).wf=true)
  (hrt:eZ m d=true):
  Calls prog 154 #[O J m,O J d,.slice A n c] w (Hist.Post ts m d m w):=by
 obtain⟨b1,b2,d1,d2⟩:=Jg hrt;have hmk:=fun(W:World)=>run_make_row' (P:=prog) 51 3 (O J 0) 8 underlying51 Hist.info rfl .i64 .i64 m (by omega) (by omega) W
 have Hl:=ze hl;have Hw:=ze hw;have HR:=ze hrt;have hown0:=Own.made (base:=w.heap.size) (k:=.i64) w 3 m fi (by omega);rw[<-Xm m d]at hown0;have Ho:=ze hown0;clear hl hw hrt hown0;go_enter func154,ntmps154;go_wp2_with(go_at_call 36;refine(qt _ _ _).mono ?_;rintro e w' ⟨rfl,rfl⟩;simp only[HR.o]);clear hmk
 go_loopw [21] (fun i wr=>Hist.Rel ts m d m w i wr) (fun i _=>n-(intOf i).toNat)
 case atStart=>exact⟨0,Nat.zero_le _,rfl,by simp,Ho.o,by go_grown,by simp⟩
 case round=>
  obtain⟨k,hk,rfl,hpos,hown,hbel,hsz⟩:=hrel;rw[Hl.o]at hk;have HP:=ze hpos;clear hpos;by_cases hlt:k<n
  ·obtain⟨b,off,x,rfl,hb,hg,c0⟩:=(hr.below (hbel.mono hB)).int_at Hl.o hlt;have hwx:=bounds_i64 (Hw.o x (List.mem_of_getElem? hg));have htk:=ze (show ts.take (k+1)=ts.take k++[x] by rw[List.take_add_one,hg];rfl);have hlk:(ts.take k).length<=1000:=by rw[List.length_take,Hl.o];omega
   have HG:=ze hg;have HO:=ze hown;clear hg hown;by_cases hx:x<0
   ·have e:Hist.bin m d x=(0,10):=by unfold Hist.bin;rw[HR.o,if_pos rfl,if_pos hx]
    have E:=ze e;clear e;go_wp2_with(go_at_call 17;refine(Z2 _ _ _ hwx.2 _).mono ?_;rintro e w' ⟨rfl,rfl⟩;simp only[E.o]);go_ret2;exact⟨hbel,.inl ⟨fun h=>by have:=h x (List.mem_of_getElem? HG.o);omega,rfl⟩⟩
   ·have hx0:0<=x:=by omega
    have e:Hist.bin m d x=(zX m d x,0):=by unfold Hist.bin;rw[HR.o,if_pos rfl,if_neg hx]
    have E:=ze e;obtain⟨p0,p1⟩:=yG b1 d1 hx0;obtain⟨q,hq⟩:=Int.eq_ofNat_of_zero_le p0;rw[hq]at p1;obtain⟨y,hy,cy,fy⟩:=HO.o.int_at (zE _ _ _ _) (j:=q) (by omega);have hyq:=Z1 (by omega) hy;have hr1:=ya m d (ts.take k) q;rw[<-hyq]at hr1;have HY:=ze hyq;have hst:=ze (HO.o.store (zE _ _ _ _) q (y+1));clear hy hyq e;have p2:(0:Int)<=(q:Int):=by omega
    have Hq:=ze hq;clear hq;go_wp2_with(go_at_call 17;refine(Z2 _ _ _ hwx.2 _).mono ?_;rintro e w' ⟨rfl,rfl⟩;simp only[E.o,Hq.o]);go_roundw
    case rel=>
     refine⟨k+1,by rw[Hl.o];omega,by go_num,?_,?_,hbel.trans hst.o.2,by go_size⟩
     ·rw[htk.o];intro t ht;rcases List.mem_append.1 ht with h|h
      ·exact HP.o t h
      ·simp at h;omega
     ·rw[htk.o,<-Uh hx0 Hq.o,<-HY.o];exact hst.o.1
    case measure=>simp[intOf];omega
  ·have hf:ts.take k=ts:=List.take_of_length_le (by rw[Hl.o];omega);rw[hf]at hown;have HP2:=HP.o;rw[hf]at HP2;have HQ:=ze HP2;have HO:=ze hown;clear hown hf HP HP2;go_wp2_with fail;go_ret2;exact⟨hbel,.inr ⟨HQ.o,_,rfl,HO.o⟩⟩
end
section
open Go.RowKit HB PickP
theorem yK(x b:Int)(h0:0<=x)(h1:x<=4294967295)(h2:0<=b)(h3:b<=4294967295)(w:World):
  Calls prog 130 #[.int .u32 x,.int .u32 b] w fun e w'=>e=.returned (.int .u32 (fg x b))/\w=w':=by
 obtain⟨m0,m1⟩:=Jw h0 h1 h2 h3;have e:x*b/4294967296%4294967296=fg x b:=by unfold fg;omega
 have E:=ze e;clear e;go_enter func130,ntmps130;go_wp2_with fail;go_ret;exact⟨zJ (by first|exact E.o|(rw[<-E.o];omega)),rfl⟩
end
section
open Go.RowKit HB
end
section
open Go.RowKit HB PickP
abbrev Words.st(A:Option Addr)(n c:Nat)(at_:Int):Value:=.agg #[.slice A n c,O J at_]
abbrev Words.box(A:Option Addr)(n c:Nat)(at_:Int):Obj:=.cells #[.slice A n c,O J at_] 32
def Words.left(at_:Int)(n:Nat):Int:=if at_<0\/(n:Int)<at_ then 0 else n-at_
theorem Zg(A:Option Addr)(n c:Nat)(at_:Int)(hn:n<=1000000000)(w:World):
  Calls prog 98 #[Words.st A n c at_] w fun e w'=>e=.returned (O J (Words.left at_ n))/\w.alloc (Words.box A n c at_)=w':=by
 by_cases h0:at_<0
 ·go_enter func98,ntmps98;go_wp2_with fail;go_ret;exact⟨zJ (by unfold Words.left;rw[if_pos (.inl h0)]),rfl⟩
 ·by_cases h1:(n:Int)<at_
  ·go_enter func98,ntmps98;go_wp2_with fail;go_ret;exact⟨zJ (by unfold Words.left;rw[if_pos (.inr h1)]),rfl⟩
  ·go_enter func98,ntmps98;go_wp2_with fail;go_ret;exact⟨zJ (by unfold Words.left;rw[if_neg (by omega)]),rfl⟩
theorem vd(A:Option Addr)(n c:Nat)(at_:Int)(hn:n<=1000000000)(w:World)(hd:at_<0\/(n:Int)<=at_):
  Calls prog 73 #[Words.st A n c at_] w (fk (.tuple #[.int .u32 0,Words.st A n c at_,O J 50]) w):=by
 have hl:Words.left at_ n=0:=by unfold Words.left;split<;>omega
 have L:=ze hl;clear hl hd;go_enter func73,ntmps73;go_wp2_with(go_at_call 98;refine(Zg _ _ _ _ hn _).mono ?_;rintro e w' ⟨rfl,rfl⟩;simp only[L.o]);go_region
 all_goals
  go_wp2_with fail
  go_returns
  exact⟨rfl,by go_grown⟩
theorem Zh(b off n c k:Nat)(x:Int)(hn:n<=1000000000)(w:World)(hk:k<n)(hc:w.cell? ⟨b,off+k,none⟩=some (.int .u32 x)):
  Calls prog 73 #[Words.st (some ⟨b,off,none⟩) n c k] w (fk (.tuple #[.int .u32 x,Words.st (some ⟨b,off,none⟩) n c (k+1),O J 0]) w):=by
 have hl:Words.left k n=n-k:=by unfold Words.left;rw[if_neg (by omega)]
 have L:=ze hl;have hb:=World.new_ne w _ hc;have hlt:=ZO (World.block_lt_of_cell? w _ hc);have i0:(0:Int)<=(k:Int):=by omega
 have i1:(k:Int)<(n:Int):=by omega
 have hz:(((n:Int)-(k:Int))==0)=false:=by rw[beq_eq_false_iff_ne];omega
 clear hl;go_enter func73,ntmps73;go_wp2_with(go_at_call 98;refine(Zg _ _ _ _ hn _).mono ?_;rintro e w' ⟨rfl,rfl⟩;simp only[L.o]);go_region
 all_goals
  go_wp2_with fail
  go_returns
  exact⟨rfl,by go_grown⟩
theorem yL(x b:Int)(h0:0<=x)(h1:x<=4294967295)(h2:0<=b)(h3:b<=4294967295)(w:World):
  Calls prog 130 #[.int .u32 x,.int .u32 b] w fun e w'=>e=.returned (.int .u32 (fg x b))/\w=w':=by
 obtain⟨m0,m1⟩:=Jw h0 h1 h2 h3;have e:x*b/4294967296%4294967296=fg x b:=by unfold fg;omega
 have E:=ze e;clear e;go_enter func130,ntmps130;go_wp2_with fail;go_ret;exact⟨zJ (by first|exact E.o|(rw[<-E.o];omega)),rfl⟩
theorem XM(A:Option Addr)(n c B:Nat)(l:List Int)(w:World)(hr:Rd w B 1 A n (l.map (Value.int .i64)))(hl:l.length=n)(hn:n<=1000)(hw:∀ x∈l,(Lit.int .i64 x).wf=true):
  Calls prog 129 #[.slice A n c] w fun e w'=>e=.returned (.tuple #[O J (kZ l).1,O J (kZ l).2])/\w=w':=by
 have Hl:=ze hl;have Hw:=ze hw;clear hl hw;go_enter func129,ntmps129;go_wp2_with fail
 go_loop [11] (fun i=>∃ k:Nat,k<=n/\i=O J k/\∀ j x,j<k->l[j]?=some x->0<=x) (fun i=>n-(intOf i).toNat)
 case atStart=>exact⟨0,Nat.zero_le _,rfl,by omega⟩
 case round=>
  obtain⟨k,hk,rfl,hpos⟩:=hrel;have Hp:=ze hpos;clear hpos;by_cases hlt:k<n
  ·obtain⟨b,off,x,rfl,hb,hg,c0⟩:=hr.int_at Hl.o hlt;have G:=ze hg;clear hg hr;by_cases hx:x<0
   ·have ht:=ze (UF G.o hx);go_wp2_with fail;go_ret2;rw[ht.o];exact⟨rfl,rfl⟩
   ·go_wp2_with fail
    go_round
    case rel=>
     refine⟨k+1,by omega,by go_num,fun j y hj hy=>?_⟩;rcases Nat.lt_or_ge j k with h|h
     ·exact Hp.o j y h hy
     ·obtain rfl:j=k:=by omega
      rw[G.o]at hy;obtain rfl:=Option.some.inj hy;omega
    case measure=>simp[intOf];omega
  ·have hall:∀ x∈l,0<=x:=fun x hx=>by
    obtain⟨j,hj⟩:=List.getElem?_of_mem hx;exact Hp.o j x (by have:=(List.getElem?_eq_some_iff.1 hj).1;rw[Hl.o]at this;omega) hj
   have Ha:=ze hall;clear hall Hp;obtain rfl:k=n:=by omega
   clear hlt hk;go_wp2_with fail
   go_loop [4,20] (fun s i=>∃ k':Nat,k'<=k/\i=O J k'/\s=O J (pre l k')/\pre l k'<=2147483648) (fun _ i=>k-(intOf i).toNat)
   case atStart=>exact⟨0,Nat.zero_le _,rfl,rfl,by rw[xq];omega⟩
   case round=>
    obtain⟨j,hj,rfl,rfl,hp⟩:=hrel;have hp0:=Zc l Ha.o j;by_cases hlt:j<k
    ·obtain⟨b,off,x,rfl,hb,hg,c0⟩:=hr.int_at Hl.o hlt;have hwx:=bounds_i64 (Hw.o x (List.mem_of_getElem? hg));have hx0:=Ha.o x (List.mem_of_getElem? hg);have hs:=ze (Za hg);clear hg hr;by_cases hbig:2147483648-pre l j<x
     ·have ht:=ze (UG Ha.o (by have:=XE l Ha.o (j+1);rw[hs.o]at this;omega));go_wp2_with fail;go_ret2;rw[ht.o];exact⟨rfl,rfl⟩
     ·go_wp2_with fail
      go_round
      case rel=>exact⟨j+1,by omega,by go_num,by rw[hs.o],by rw[hs.o];omega⟩
      case measure=>simp[intOf];omega
    ·have hs:=vq l j (by rw[Hl.o];omega);rw[hs]at hp hp0;have Hs:=ze hs;clear hs;simp only[Hs.o];by_cases h0:sum l=0
     ·have ht:=ze (XG Ha.o h0);have hb:(sum l==0)=true:=by simpa using h0
      have H0:=ze h0;clear h0;go_wp2_with fail;go_ret2;rw[ht.o];exact⟨rfl,rfl⟩
     ·have ht:=ze (KW Ha.o (by omega) h0);have hb:(sum l==0)=false:=by simpa using h0
      have H0:=ze h0;clear h0;go_wp2_with fail;go_ret2;rw[ht.o];exact⟨rfl,rfl⟩
def Pick.OfPost(l:List Int)(x:Int)(w:World)(e:Ending)(w':World):Prop:=∃ k:Nat,e=.returned (.tuple #[O J k,O J 0])/\Spot l (fg x (sum l)) k/\w=w'
theorem bK(A:Option Addr)(n c B:Nat)(l:List Int)(x:Int)(w:World)(hr:Rd w B 1 A n (l.map (Value.int .i64)))(hl:l.length=n)(hn:n<=1000)(hw:∀ x∈l,(Lit.int .i64 x).wf=true)
  (hx:0<=x)(hx1:x<=4294967295)(hpos:∀ x∈l,0<=x)(ht:kZ l=(sum l,0))(hs:0<sum l)(hs1:sum l<=2147483648):
  Calls prog 100 #[.int .u32 x,.slice A n c] w (Pick.OfPost l x w):=by
 have T:=ze ht;have Hl:=ze hl;have Hw:=ze hw;have Hp:=ze hpos;obtain⟨n0,n1⟩:=UH hx hx1 hs;clear ht hl hw hpos;go_enter func100,ntmps100;go_wp2_with(first
  |(go_at_call 129;refine(XM A n c B l _ hr Hl.o hn Hw.o).mono ?_;rintro e w' ⟨rfl,rfl⟩;simp only[T.o])
  |(go_at_call 130;refine(yL _ _ hx hx1 (by omega) (by omega) _).mono ?_;rintro e w' ⟨rfl,rfl⟩))
 generalize hN:fg x (sum l)=N at*;have HN:=ze hN;clear hN
 go_loop [8,26] (fun r i=>∃ k:Nat,k<=n/\i=O J k/\r=O J (N-pre l k)/\pre l k<=N) (fun _ i=>n-(intOf i).toNat)
 case atStart=>exact⟨0,Nat.zero_le _,rfl,by rw[xq];go_num,by rw[xq];omega⟩
 case round=>
  obtain⟨k,hk,rfl,rfl,hle⟩:=hrel;have hp0:=Zc l Hp.o k;by_cases hlt:k<n
  ·obtain⟨b,off,y,rfl,hb,hg,c0⟩:=hr.int_at Hl.o hlt;have hwy:=bounds_i64 (Hw.o y (List.mem_of_getElem? hg));have hpy:=Hp.o y (List.mem_of_getElem? hg);have hs:=ze (Za hg);clear hg hr;by_cases hin:N-pre l k<y
   ·go_wp2_with fail;go_ret2;exact⟨k,rfl,⟨by rw[Hl.o];exact hlt,by rw[HN.o];exact hle,by rw[HN.o,hs.o];omega⟩,rfl⟩
   ·go_wp2_with fail
    go_round
    case rel=>exact⟨k+1,by omega,by go_num,by rw[hs.o];go_num,by rw[hs.o];omega⟩
    case measure=>simp[intOf];omega
  ·rw[vq l k (by rw[Hl.o];omega)]at hle;omega
end
section
open Go.RowKit HB WhenP
abbrev When.seg:Seg->List Value:=fun g=>[O J g.1,O J g.2.1,O J g.2.2]
theorem When.cells{w:World}{B n:Nat}{A:Option Addr}{l:List Seg}(h:Rd w B 3 A n (l.flatMap When.seg))(hl:l.length=n){k:Nat}(hk:k<n):
  ∃b off g,A=some ⟨b,off,none⟩/\b<B/\l[k]?=some g/\w.cell? ⟨b,off+k*3,none⟩=some (O J g.1)/\w.cell? ⟨b,off+k*3+1,none⟩=some (O J g.2.1)/\w.cell? ⟨b,off+k*3+2,none⟩=some (O J g.2.2):=by
 obtain⟨b,off,hA,hb,hc⟩:=h.at_ (by omega);have hg:l[k]?=some (l[k]'(by omega)):=List.getElem?_eq_getElem _;generalize l[k]'(by omega)=g at hg;have key:∀ j u,j<3->(When.seg g)[j]?=some u->w.cell? ⟨b,off+k*3+j,none⟩=some u:=fun j u hj hu=>by
  rw[Nat.add_assoc];exact hc _ _ ((flat_get (f:=When.seg) (m:=3) (fun _=>rfl) l k j g hg hj).trans hu)
 exact⟨b,off,g,hA,hb,hg,key 0 _ (by omega) rfl,key 1 _ (by omega) rfl,key 2 _ (by omega) rfl⟩
theorem kB(a b c:Int)(w:World):
  Calls prog 23 #[.agg #[O J a,O J b,O J c]] w (fk (O J (tk (a,b,c))) w):=by
 go_enter func23,ntmps23;go_wp2_with fail;go_ret;exact⟨rfl,by go_grown⟩
def When.Sum(l:List Seg)(w:World)(s i:Value)(wr:World):Prop:=∃ k:Nat,k<=l.length/\i=O J k/\s=O J (upto l k)/\fj w wr
theorem XN(A:Option Addr)(n c B:Nat)(l:List Seg)(w:World)(hr:Rd w B 3 A n (l.flatMap When.seg))(hl:l.length=n)(hn:n<=30)(hB:B<=w.heap.size):
  Calls prog 6 #[.slice A n c] w (fk (O J (tot l)) w):=by
 have Hl:=ze hl;clear hl;go_enter func6,ntmps6;go_wp2_with fail
 go_loopw [3,8] (fun s i wr=>When.Sum l w s i wr) (fun _ i _=>n-(intOf i).toNat)
 case atStart=>exact⟨0,Nat.zero_le _,rfl,rfl,fh⟩
 case round=>
  obtain⟨k,hk,rfl,rfl,hbel⟩:=hrel;rw[Hl.o]at hk;have hz:=hbel.size;by_cases hlt:k<n
  ·obtain⟨b,off,g,rfl,hb,hg,c0,c1,c2⟩:=When.cells (hr.below (hbel.mono hB)) Hl.o hlt;have hG:=ze (yh hg);have hu:=kA l k;have ht:=xt g;rw[Hl.o]at hu;clear hg hr;obtain⟨g1,g2,g3⟩:=g;go_wp2_with(go_at_call 23;refine(kB _ _ _ _).mono ?_;rintro e w1 ⟨rfl,hb1⟩);go_roundw
   case rel=>exact⟨k+1,by rw[Hl.o];omega,by go_num,by rw[hG.o],then_ (hbel.alloc hz _) hb1 fi⟩
   case measure=>simp[intOf];omega
  ·have hk':upto l k=tot l:=qY l k (by rw[Hl.o];omega);have Hk:=ze hk';clear hk';go_wp2_with fail;go_ret;exact⟨zJ Hk.o,hbel⟩
def When.Look(l:List Seg)(tick:Int)(w:World)(t i:Value)(wr:World):Prop:=∃ k:Nat,k<=l.length/\i=O J k/\t=O J (tick-upto l k)/\upto l k<=tick/\fj w wr
def When.AtPost(l:List Seg)(tick:Int)(w:World)(e:Ending)(w':World):Prop:=∃(j:Int)(ok:Bool),e=.returned (.tuple #[O J j,.bool ok])/\At l l.length tick j ok/\fj w w'
theorem bN(A:Option Addr)(n c B:Nat)(l:List Seg)(tick:Int)(w:World)(hr:Rd w B 3 A n (l.flatMap When.seg))(hl:l.length=n)(hn:n<=30)(hB:B<=w.heap.size)(ht0: -9223372036854775808<=tick)(ht1:tick<=9223372036854775807):
  Calls prog 50 #[.slice A n c,O J tick] w (When.AtPost l tick w):=by
 have Hl:=ze hl;clear hl;by_cases hneg:tick<0
 ·go_enter func50,ntmps50;go_wp2_with fail;go_ret2;exact⟨0,false,rfl,.inr ⟨rfl,rfl,.inl hneg⟩,fh⟩
 have hd:decide (tick<0)=false:=by simp;omega
 have hpos:0<=tick:=by omega
 clear hneg;go_enter func50,ntmps50;go_wp2_with fail
 go_loopw [1,12] (fun t i wr=>When.Look l tick w t i wr) (fun _ i _=>n-(intOf i).toNat)
 case atStart=>exact⟨0,Nat.zero_le _,rfl,by rw[JA];go_num,by rw[JA];exact hpos,fh⟩
 case round=>
  obtain⟨k,hk,rfl,rfl,hle,hbel⟩:=hrel;rw[Hl.o]at hk;have hz:=hbel.size;have hu:=kA l k;rw[Hl.o]at hu;by_cases hlt:k<n
  ·obtain⟨b,off,g,rfl,hb,hg,c0,c1,c2⟩:=When.cells (hr.below (hbel.mono hB)) Hl.o hlt;have hG:=ze (yh hg);have ht:=xt g;clear hg hr;obtain⟨g1,g2,g3⟩:=g;have hz1:wr.heap.size<wr.heap.size+1:=by omega
   by_cases hin:tick-upto l k<tk (g1,g2,g3)
   ·go_wp2_with(go_at_call 23;refine(kB _ _ _ _).mono ?_;rintro e w1 ⟨rfl,hb1⟩);go_ret2;refine⟨k,true,rfl,.inl ⟨rfl,k,by rw[Hl.o];exact hlt,rfl,hle,by rw[hG.o];omega⟩,then_ (hbel.alloc hz _) hb1 fi⟩
   ·have hge:tk (g1,g2,g3)<=tick-upto l k:=by omega
    clear hin;go_wp2_with fail;refine(kB _ _ _ _).mono ?_;rintro e w1 ⟨rfl,hb1⟩;have k0:=zf hb1 (p:=⟨wr.heap.size,0,none⟩) (v:=O J g1) (by simp);have k1:=zf hb1 (p:=⟨wr.heap.size,1,none⟩) (v:=O J g2) (by simp);have k2:=zf hb1 (p:=⟨wr.heap.size,2,none⟩) (v:=O J g3) (by simp);go_wp2_with fail;refine(kB _ _ _ _).mono ?_;rintro e w2 ⟨rfl,hb2⟩;go_wp2_with fail;go_roundw
    case rel=>exact⟨k+1,by rw[Hl.o];omega,by go_num,by rw[hG.o];go_num,by rw[hG.o];omega,then_ (then_ (hbel.alloc hz _) hb1 fi) hb2 fi⟩
    case measure=>simp[intOf];omega
  ·have hk':upto l k=upto l l.length:=by rw[qY l k (by rw[Hl.o];omega),qY l l.length fi]
   have Hk:=ze hk';clear hk';go_wp2_with fail;go_ret2;exact⟨0,false,rfl,.inr ⟨rfl,rfl,.inr (by rw[<-Hk.o];exact hle)⟩,hbel⟩
end
section
open Go.RowKit HB CumP
def Over.Rel(hi lo c:Int)(q r i:Value):Prop:=∃(m:Nat)(q' r':Int),m<=64/\i=O J ((m:Int)-1)/\q=O U q'/\r=O U r'/\0<=q'/\0<=r'/\r'<c/\q'*c+r'=zB hi lo m
theorem Cum.info:(prog.info? 129).map (fun i=>(i.zero,i.size,i.bytes))=some (some (O U 0),1,8):=by kernel_rfl
def Cum.WPost(rate:Int)(f:Value->Value)(w:World)(e:Ending)(w':World):Prop:=
 ∃(v:Value)(m:Nat),e=.returned (f v)/\Many rate m/\Own w' w.heap.size 129 1 (fa .u64) v (wl rate m)/\fj w w'
def Cum.WRel(rate:Int)(w:World)(x o k:Value)(wr:World):Prop:=
 ∃j:Nat,j<=64/\x=O U (wt rate j)/\k=O U ((j:Int)+1)/\(∀i,i<j->0<wt rate i)/\Own wr w.heap.size 129 1 (fa .u64) o (wl rate j)/\fj w wr
theorem Vf(rate:Int)(h0:0<=rate)(h1:rate<=4000)(w:World):
  Calls prog 69 #[O J rate] w (Cum.WPost rate (fun v=>.tuple #[v,O J 0]) w):=by
 go_enter func69,ntmps69;go_wp2_with fail
 go_loopw [4,5,6] (fun x o k wr=>Cum.WRel rate w x o k wr) (fun _ _ k _=>66-(intOf k).toNat)
 case atStart=>exact⟨0,by omega,rfl,rfl,fun i hi=>by omega,Own.nil _ _ _ _ _,fh⟩
 case round=>
  obtain⟨j,hj,rfl,rfl,hpos,hown,hbel⟩:=hrel;have Hp:=ze hpos;have HO:=ze hown;have hz:=hbel.size;clear hpos hown;have hx0:=qW h0 j;have hlen:=yg rate j;have hO:=HO.o;obtain⟨A,c,rfl,hc,_⟩:=hO.ints;rw[hlen]at hc;simp only[hlen];have HL:=ze hlen;have HO2:Hz (Own wr w.heap.size 129 1 (fa .u64) (.slice A j c) (wl rate j)):=ze (by have:=HO.o;rw[hlen]at this;exact this);clear hlen hO HO;by_cases hpz:0<wt rate j
  ·by_cases hj2:j<64
   ·have hx1:=(Ze h0 h1 hj2).2;have hn:=ze (bF rate j);have hp0:0<=wt rate j*rate:=Int.mul_nonneg hx0 h0;have hp1:wt rate j*rate<=4294967295*4000:=Int.mul_le_mul hx1 h1 h0 (by decide);have hw:Hz (wt rate j*rate/(1000*((j:Int)+1))=wt rate (j+1)):=ze rfl;have Hpz:=ze hpz;generalize hxx:wt rate j=x at*;have HX:=ze hxx;clear hxx;have hL:(wl rate j).length<=1000000000:=by rw[HL.o];omega
    go_wp2_with(at_builtin;refine push rfl _ _ 104 rfl underlying104 Cum.info rfl (by omega) (by omega) rfl (HO2.o.alloc _) x ⟨_,0,none⟩ 1 rfl rfl (cell_one_new _ _ _) (by simp[Value.oneCell']) hL (Nat.le_trans hz (by simp)) ?_;intro v' w1 hown1 hb1);go_roundw
    case rel=>
     refine⟨j+1,by omega,?_,by go_num,fun i hi=>?_,by rw[hn.o];exact hown1,(hbel.alloc hz _).trans hb1⟩
     ·rw[<-hw.o]
     ·rcases Nat.lt_or_ge i j with h|h
      ·exact Hp.o i h
      ·obtain rfl:i=j:=by omega
       rw[HX.o];exact Hpz.o
    case measure=>simp[intOf];omega
   ·obtain rfl:j=64:=by omega
    generalize wt rate 64=x at*;go_wp2_with fail;go_ret2;exact⟨_,64,rfl,⟨by omega,by omega,Hp.o,fun h=>by omega⟩,HO2.o,hbel⟩
  ·have he:wt rate j=0:=by omega
   have HE:=ze he;have hj0:1<=j:=by
    rcases Nat.eq_zero_or_pos j with h|h
    ·subst h;simp[wt]at he
    ·exact h
   simp only[he];clear he hpz hx0;go_wp2_with fail;go_ret2;exact⟨_,j,rfl,⟨hj0,hj,Hp.o,fun _=>HE.o⟩,HO2.o,hbel⟩
def Cum.TPost(rate:Int)(f:Value->Value)(w:World)(e:Ending)(w':World):Prop:=
 ∃(v:Value)(m:Nat),e=.returned (f v)/\Many rate m/\Own w' w.heap.size 129 1 (fa .u64) v (tb rate m m)/\fj w w'
theorem US(rate:Int)(h0:0<=rate)(h1:rate<=4000)(w:World):
  Calls prog 48 #[O J rate] w (Cum.TPost rate (fun v=>.tuple #[v,O J 0]) w):=by
 go_enter func48,ntmps48;go_wp2_with fail;refine(Vf rate h0 h1 _).mono ?_;rintro e w1 ⟨v,m,rfl,hm,hown,hb1⟩;have HM:=ze hm;have m1:=hm.1;have m64:=hm.2.1;clear hm;have hlen:=yg rate m;obtain⟨g,cap,rfl,hgB,hgW,hcap,-,-⟩:=hown.at_ (by rw[hlen];omega);rw[hlen]at hcap hown;simp only[hlen];have HL:=ze hlen;have HO:=ze hown;clear hlen hown;go_wp2_with fail
 go_loop [6,22] (fun s i=>∃ j:Nat,j<=m/\i=O J j/\s=O U (S rate j)) (fun _ i=>m-(intOf i).toNat)
 case atStart=>exact⟨0,Nat.zero_le _,rfl,rfl⟩
 case round=>
  obtain⟨j,hj,rfl,rfl⟩:=hrel;have hs:=xr h0 h1 (m:=j) (by omega);have hs0:=hs.1;have hs1:=hs.2;clear hs;by_cases hlt:j<m
  ·obtain⟨x,hxg,cx,fx⟩:=HO.o.int_at HL.o (j:=j) hlt;obtain⟨hxe,-⟩:=cR hxg;have hx:=Ze h0 h1 (k:=j) (by omega);rw[<-hxe]at hx;have hx0:=hx.1;have hx1:=hx.2;have hn:Hz (S rate (j+1)=S rate j+x):=ze (by rw[hxe];rfl);clear hxg hxe hx;generalize S rate j=s at*;go_wp2_with fail
   go_round
   case rel=>exact⟨j+1,by omega,by go_num,by rw[hn.o]⟩
   case measure=>simp[intOf];omega
  ·obtain rfl:j=m:=by omega
   have hc0:=GU h0 m1;generalize hcc:S rate j=cc at*;have HC:=ze hcc;clear hcc;go_wp2_with fail
   go_loopw [9,32] (fun s i wr=>∃ q:Nat,q<=j/\i=O J q/\s=O U (S rate q)/\Own wr w.heap.size 129 1 (fa .u64) (.slice (some ⟨g,0,none⟩) j cap) (Yz rate j q)/\fj w wr) (fun _ i _=>j-(intOf i).toNat)
   case atStart=>exact⟨0,Nat.zero_le _,rfl,rfl,by rw[GV];exact HO.o,hb1⟩
   case round=>
    clear HO hb1;obtain⟨q,hq,rfl,rfl,hown,hbel⟩:=hrel;have HO:=ze hown;clear hown;have hs:=xr h0 h1 (m:=q) (by omega);have hq0:=hs.1;have hq1:=hs.2;clear hs;by_cases hlt2:q<j
    ·obtain⟨x,hxg,cx,fx⟩:=HO.o.int_at (kz _ _ _) (j:=q) hlt2;have hxe:=bH hxg;have hx:=Ze h0 h1 (k:=q) (by omega);rw[<-hxe]at hx;have hx0:=hx.1;have hx1:=hx.2;have hn:Hz (S rate (q+1)=S rate q+x):=ze (by rw[hxe];rfl);have hs2:=xr h0 h1 (m:=q+1) (by omega);rw[hn.o]at hs2;have hy1:=hs2.2;have hcell:Hz ((S rate q+x)*4294967296/cc=cell rate j q):=ze (by unfold cell;rw[hn.o,HC.o]);have hst:=ze (HO.o.store (kz _ _ _) q ((S rate q+x)*4294967296/cc));have hnx:=ze (GW (rate:=rate) hlt2);clear hxg hxe hx hs2;generalize S rate q=s at*;go_wp2_with fail;go_roundw
     case rel=>exact⟨q+1,by omega,by go_num,by rw[hn.o],by rw[<-hnx.o,<-hcell.o];exact hst.o.1,hbel.trans hst.o.2⟩
     case measure=>simp[intOf];omega
    ·obtain rfl:q=j:=by omega
     generalize S rate q=s at*;go_wp2_with fail;go_ret2;exact⟨_,q,rfl,HM.o,by rw[<-bG];exact HO.o,hbel⟩
end
end Go.Proofs.YtdeogmbfgkepeaaGreatDoor
