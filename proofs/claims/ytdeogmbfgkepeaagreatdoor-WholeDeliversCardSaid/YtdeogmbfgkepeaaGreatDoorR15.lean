/- Contracts for WholeDelivers. -/
import Derived.Test.YtdeogmbfgkepeaaGreatDoorR04
import Derived.Test.YtdeogmbfgkepeaaGreatDoorR07
import Derived.Test.YtdeogmbfgkepeaaGreatDoorR14
set_option linter.unusedVariables false
set_option linter.unusedSimpArgs false
set_option maxRecDepth 100000
set_option maxHeartbeats 64000000
namespace Go.Proofs.YtdeogmbfgkepeaaGreatDoor
open Go.Proofs.Tryz
open Go.Value renaming int->O
open Go.IntKind renaming i64->J,u64->U
section
open Go.RowKit HB
theorem zT{P:Program}{f:FuncId}{args:Array Value}{w:l6}{a n:Nat}{v:Value}
  (h:Calls P f args (w.drewN (a+n)) fun e w'=>e=.returned v/\w'=w.drewN (a+n)):
  Calls P f args (w.drewN (a+n)) fun e w''=>e=.returned v/\∃ m,w''=w.drewN (a+m):=
 h.mono fun _ _⟨he,hm⟩=>⟨he,n,hm⟩
structure Bs(w W:l6)(L:List (Nat×iZ)):Prop where
 b:fj w W
 l:∀ p∈L,w.heap.size<=p.1/\p.1<W.heap.size/\Bx W p.1 p.2
section
variable{w W W':l6}{L:List (Nat×iZ)}
theorem Bs.step(h:Bs w W L)(hb:fj W W'):Bs w W' L:=
 ⟨h.b.trans (hb.mono h.b.size),fun p hp=>by
  obtain⟨h0,h1,h2⟩:=h.l p hp;exact⟨h0,kK h1 hb.size,h2.below hb h1⟩⟩
theorem Bs.stepB{D:Nat}(h:Bs w W L)(hb:Below D W W')(hD:w.heap.size<=D)(hl:∀ p∈L,p.1<D):Bs w W' L:=
 ⟨h.b.trans (hb.mono hD),fun p hp=>by
  obtain⟨h0,h1,h2⟩:=h.l p hp;exact⟨h0,kK h1 hb.size,h2.below hb (hl p hp)⟩⟩
theorem Bs.stp(hb:fj W W')(h:Bs w W L):Bs w W' L:=h.step hb
theorem Bs.drew(h:Bs w W L):Bs w W.drew L:=h.step fh.drew
theorem Bs.drewN(h:Bs w W L)(m:Nat):Bs w (W.drewN m) L:=h.step (zg fh m)
theorem Bs.nil(w:l6):Bs w w []:=⟨fh,fun p hp=>by cases hp⟩
theorem Bs.new(h:Bs w W L){q:Nat}(hq:W.heap.size=q)(l:iZ)(ty:TypeId):Bs w (W.alloc (.cells l.toArray ty)) ((q,l)::L):=by
 have h2:=h.step (fh.alloc fi (.cells l.toArray ty));have hs:=h.b.size;refine⟨h2.b,fun p hp=>?_⟩;rcases qx.1 hp with rfl|hp
 ·exact⟨by simp only;omega,by simp;omega,Bx.at_size hq⟩
 ·exact h2.l p hp
theorem Bs.one(w:l6)(l:iZ)(ty:TypeId):Bs w (w.alloc (.cells l.toArray ty)) [(w.heap.size,l)]:=(Bs.nil w).new rfl l ty
theorem Bs.two(w:l6)(l m:iZ)(ty ty':TypeId):Bs w ((w.alloc (.cells l.toArray ty)).alloc (.cells m.toArray ty')) [(w.heap.size+1,m),(w.heap.size,l)]:=(Bs.one w l ty).new (by simp) m ty'
theorem Bs.three(w:l6)(l m n:iZ)(ty ty' ty2:TypeId):Bs w (((w.alloc (.cells l.toArray ty)).alloc (.cells m.toArray ty')).alloc (.cells n.toArray ty2)) [(w.heap.size+1+1,n),(w.heap.size+1,m),(w.heap.size,l)]:=(Bs.two w l m ty ty').new (by simp) n ty2
theorem Bs.four(w:l6)(l m n o:iZ)(ty ty' ty2 ty3:TypeId):Bs w ((((w.alloc (.cells l.toArray ty)).alloc (.cells m.toArray ty')).alloc (.cells n.toArray ty2)).alloc (.cells o.toArray ty3)) [(w.heap.size+1+1+1,o),(w.heap.size+1+1,n),(w.heap.size+1,m),(w.heap.size,l)]:=(Bs.three w l m n ty ty' ty2).new (by simp) o ty3
theorem Bs.cell(h:Bs w W L){q:Nat}{l:iZ}(hm:(q,l)∈L):Bx W q l:=(h.l _ hm).2.2
theorem Bs.lt(h:Bs w W L){q:Nat}{l:iZ}(hm:(q,l)∈L):q<W.heap.size:=(h.l _ hm).2.1
theorem Bs.sub(h:Bs w W L){M:List (Nat×iZ)}(hm:∀ p∈M,p∈L):Bs w W M:=⟨h.b,fun p hp=>h.l p (hm p hp)⟩
end
abbrev Sc.ls(s:Sc)(A:iX)(n c:Nat):iZ:=[O J s.fl,O J s.gap,O J s.cars,O J s.cap,O J s.opn,O J s.dw,O J s.cl,O J s.tr,.slice A n c,O J s.disp,O J s.hor,O J s.bins,O J s.width]
abbrev Cr.ls(c:Cr)(A:iX)(n k:Nat):iZ:=[O J c.pos,O J c.dir,O J c.mode,O J c.left,.bool c.wt,.slice A n k]
structure Ca where
 c:Cr
 A:iX
 (n k:Nat)
 l:List Rid
abbrev QW(x:Ca):iZ:=x.c.ls x.A x.n x.k
structure Ca.ok(g:Int)(x:Ca):Prop where
 p0:0<=x.c.pos
 p1:x.c.pos<=127*g
 d0: -1<=x.c.dir
 d1:x.c.dir<=1
 n1:x.n<=1000
structure Cas(w:l6)(B:Nat)(g:Int)(A:iX)(n:Nat)(L:List Ca):Prop where
 r:Rd w B 6 A n (L.flatMap QW)
 len:L.length=n
 ri:∀ x∈L,Rds w B x.A x.n x.l
 ok:∀ x∈L,x.ok g
section
variable{w w':l6}{B B' n:Nat}{g:Int}{A:iX}{L:List Ca}
theorem Cas.below(h:Cas w B g A n L)(hb:Below B w w'):Cas w' B g A n L:=⟨h.r.below hb,h.len,fun x hx=>(h.ri x hx).below hb,h.ok⟩
theorem Cas.mono(h:Cas w B g A n L)(hB:B<=B'):Cas w B' g A n L:=⟨h.r.mono hB,h.len,fun x hx=>(h.ri x hx).mono hB,h.ok⟩
theorem Cas.at_(h:Cas w B g A n L){i:Nat}(hi:i<n):
  ∃b off x,A=some ⟨b,off,none⟩/\b<B/\L[i]?=some x/\x.ok g/\Rds w B x.A x.n x.l/\w.cell? ⟨b,off+i*6,none⟩=some (O J x.c.pos)/\w.cell? ⟨b,off+i*6+1,none⟩=some (O J x.c.dir)/\w.cell? ⟨b,off+i*6+2,none⟩=some (O J x.c.mode)/\w.cell? ⟨b,off+i*6+3,none⟩=some (O J x.c.left)/\w.cell? ⟨b,off+i*6+4,none⟩=some (.bool x.c.wt)/\w.cell? ⟨b,off+i*6+5,none⟩=some (.slice x.A x.n x.k):=by
 obtain⟨b,off,hA,hb,hc⟩:=h.r.at_ (by omega);have hg:L[i]?=some (L[i]'(by rw[h.len];exact hi)):=kD _;have hm:L[i]'(by rw[h.len];exact hi)∈L:=iH _;generalize L[i]'(by rw[h.len];exact hi)=t at hg hm;have hf:∀ x,(QW x).length=6:=fun _=>rfl
 have g:=fun j(hj:j<6)=>flat_get hf L i j t hg hj
 have h0:=hc (i*6+0) _ ((g 0 (by omega)).trans rfl);exact⟨b,off,t,hA,hb,hg,h.ok t hm,h.ri t hm,h0,(XS off (i*6) 1).symm▸hc (i*6+1) _ ((g 1 (by omega)).trans rfl),(XS off (i*6) 2).symm▸hc (i*6+2) _ ((g 2 (by omega)).trans rfl),(XS off (i*6) 3).symm▸hc (i*6+3) _ ((g 3 (by omega)).trans rfl),(XS off (i*6) 4).symm▸hc (i*6+4) _ ((g 4 (by omega)).trans rfl),(XS off (i*6) 5).symm▸hc (i*6+5) _ ((g 5 (by omega)).trans rfl)⟩
end
theorem Ints.info:(prog.info? 3).map (fun i=>(i.zero,i.size,i.bytes))=some (some (O J 0),1,8):=by kernel_rfl
theorem ZX(n:Int):yw n=-1\/yw n=0\/yw n=1:=by
 unfold yw;split
 ·exact .inl rfl
 ·split
  ·exact .inr (.inr rfl)
  ·exact .inr (.inl rfl)
theorem Y7{a b:Int}(h:a=b):(a==b)=true:=by simpa using h
theorem Ke{a b:Int}(h:a≠b):(a==b)=false:=by simpa using h
abbrev xD(a b:Value)(W:l6)(q:Nat):Prop:=W.cell? ⟨q,0,none⟩=some a/\W.cell? ⟨q,1,none⟩=some b
abbrev dZ(a b c d:Value)(W:l6)(q:Nat):Prop:=W.cell? ⟨q,0,none⟩=some a/\W.cell? ⟨q,1,none⟩=some b/\W.cell? ⟨q,2,none⟩=some c/\W.cell? ⟨q,3,none⟩=some d
abbrev Cr.K(s:Cr)(A:iX)(n k:Nat)(W:l6)(q:Nat):Prop:=W.cell? ⟨q,0,none⟩=some (O J s.pos)/\W.cell? ⟨q,1,none⟩=some (O J s.dir)/\W.cell? ⟨q,2,none⟩=some (O J s.mode)/\W.cell? ⟨q,3,none⟩=some (O J s.left)/\W.cell? ⟨q,4,none⟩=some (.bool s.wt)/\W.cell? ⟨q,5,none⟩=some (.slice A n k)
abbrev Sc.K(s:Sc)(A:iX)(n k:Nat)(W:l6)(q:Nat):Prop:=W.cell? ⟨q,0,none⟩=some (O J s.fl)/\W.cell? ⟨q,1,none⟩=some (O J s.gap)/\W.cell? ⟨q,2,none⟩=some (O J s.cars)/\W.cell? ⟨q,3,none⟩=some (O J s.cap)/\W.cell? ⟨q,4,none⟩=some (O J s.opn)/\W.cell? ⟨q,5,none⟩=some (O J s.dw)/\W.cell? ⟨q,6,none⟩=some (O J s.cl)/\W.cell? ⟨q,7,none⟩=some (O J s.tr)/\W.cell? ⟨q,8,none⟩=some (.slice A n k)/\W.cell? ⟨q,9,none⟩=some (O J s.disp)/\W.cell? ⟨q,10,none⟩=some (O J s.hor)/\W.cell? ⟨q,11,none⟩=some (O J s.bins)/\W.cell? ⟨q,12,none⟩=some (O J s.width)
theorem HB.Bx.take{W:l6}{q:Nat}{l:iZ}(h:Bx W q l)(m:Nat){t:iZ}(e:l.take m=t):Bx W q t:=fun j u hu=>h j u (by
 rw[<-e,iC]at hu;split at hu
 ·exact hu
 ·cases hu)
theorem HB.Bx.k2{W:l6}{q:Nat}{a b:Value}(h:Bx W q [a,b]):xD a b W q:=h.o2.1
theorem HB.Bx.k4{W:l6}{q:Nat}{a b c d:Value}(h:Bx W q [a,b,c,d]):dZ a b c d W q:=h.o4.1
theorem HB.Bx.k6{W:l6}{q n k:Nat}{l:iZ}{s:Cr}{A:iX}(h:Bx W q l)(e:l.take 6=s.ls A n k):s.K A n k W q:=(h.take 6 e).o6.1
theorem HB.Bx.k13{W:l6}{q n k:Nat}{l:iZ}{s:Sc}{A:iX}(h:Bx W q l)(e:l.take 13=s.ls A n k):s.K A n k W q:=(h.take 13 e).o13.1
def fB(f:Nat->Value):Nat->Nat->iZ
 |_,0=>[]
 |i,n+1=>f i::fB f (i+1) n
theorem fA(f:Nat->Value):∀(n i:Nat),fB f i n=(List.range' i n).map f
 |0,i=>rfl
 |n+1,i=>by rw[fB,fA f n (i+1),List.range'_succ];rfl
theorem fv(t:Array Value)(n:Nat)(h:t.size=n):t=(fB (fun i=>t.getD i undef) 0 n).toArray:=by
 subst h;rw[fA];apply Array.ext
 ·simp
 ·intro i h1 h2;simp[h1]
structure Tr where
 (id ar fr to_ car bo al:Int)
deriving Inhabited
abbrev kN(t:Tr):iZ:=[O J t.id,O J t.ar,O J t.fr,O J t.to_,O J t.car,O J t.bo,O J t.al]
abbrev Tr.v(t:Tr):Value:=.agg #[O J t.id,O J t.ar,O J t.fr,O J t.to_,O J t.car,O J t.bo,O J t.al]
def Tr.ph(t:Tr):Int:=if 0<=t.al then 2 else if 0<=t.bo then 1 else 0
def Trs(w:l6)(B:Nat)(A:iX)(n:Nat)(l:List Tr):Prop:=Rd w B 7 A n (l.flatMap kN)/\l.length=n
theorem Trip.info:(prog.info? 87).map (fun i=>(i.zero,i.size,i.bytes))=some (some (.agg #[O J 0,O J 0,O J 0,O J 0,O J 0,O J 0,O J 0]),7,56):=by kernel_rfl
theorem JP(t:Tr):∀ u∈kN t,u.oneCell'=true:=by intro u hu;simp[kN]at hu;rcases hu with rfl|rfl|rfl|rfl|rfl|rfl|rfl<;>rfl
theorem zr(w:l6)(e:TypeId)(cs:iZ)(g:Nat)(hg:g=w.heap.size):∀ j u,cs[j]?=some u->(w.alloc (.cells cs.toArray e)).cell? ((⟨g,0,none⟩:Addr).add j)=some u:=by
 subst hg;intro j u hu;have key:∀ j,(w.alloc (.cells cs.toArray e)).cell? ⟨w.heap.size,j,none⟩=cs[j]?:=fun j=>by
  rw[cell_of_row _ w.heap.size j cs.toArray e (0,0) (heap_alloc_new w _)];simp
 unfold Addr.add;split
 ·rename_i h;subst h;rw[key];exact hu
 ·rw[Wa,key];exact hu
section
variable{w w':l6}{B B' n:Nat}{A:iX}{l:List Tr}
theorem Trs.below(h:Trs w B A n l)(hb:Below B w w'):Trs w' B A n l:=⟨h.1.below hb,h.2⟩
theorem Trs.mono(h:Trs w B A n l)(hB:B<=B'):Trs w B' A n l:=⟨h.1.mono hB,h.2⟩
theorem Trs.at_(h:Trs w B A n l){i:Nat}(hi:i<n):
  ∃b off r,A=some ⟨b,off,none⟩/\b<B/\l[i]?=some r/\w.cell? ⟨b,off+i*7,none⟩=some (O J r.id)/\w.cell? ⟨b,off+i*7+1,none⟩=some (O J r.ar)/\w.cell? ⟨b,off+i*7+2,none⟩=some (O J r.fr)/\w.cell? ⟨b,off+i*7+3,none⟩=some (O J r.to_)/\w.cell? ⟨b,off+i*7+4,none⟩=some (O J r.car)/\w.cell? ⟨b,off+i*7+5,none⟩=some (O J r.bo)/\w.cell? ⟨b,off+i*7+6,none⟩=some (O J r.al):=by
 obtain⟨b,off,hA,hb,hc⟩:=h.1.at_ (by omega);have hg:l[i]?=some (l[i]'(by rw[h.2];exact hi)):=kD _;generalize l[i]'(by rw[h.2];exact hi)=t at hg;have hf:∀ x,(kN x).length=7:=fun _=>rfl
 have g:=fun j(hj:j<7)=>flat_get hf l i j t hg hj
 have k:=fun(j:Nat)(hj:j<7)(u:Value)(hu:(kN t)[j]?=some u)=>(show w.cell? ⟨b,off+i*7+j,none⟩=some u from(XS off (i*7) j).symm▸hc (i*7+j) _ ((g j hj).trans hu))
 exact⟨b,off,t,hA,hb,hg,k 0 (by omega) _ rfl,k 1 (by omega) _ rfl,k 2 (by omega) _ rfl,k 3 (by omega) _ rfl,k 4 (by omega) _ rfl,k 5 (by omega) _ rfl,k 6 (by omega) _ rfl⟩
end
theorem Own.trs{w:l6}{base:Nat}{v:Value}{l:List Tr}(h:Own w base 87 7 kN v l):∃ A c,v=.slice A l.length c/\l.length<=c/\Trs w w.heap.size A l.length l:=by
 obtain⟨A,c,h1,h2,h3⟩:=h.shape;exact⟨A,c,h1,h2,h3,rfl⟩
theorem JQ(t:Tr)(w:l6):Calls prog 32 #[t.v] w (fk (O J t.ph) w):=by
 by_cases h1:0<=t.al
 ·have e1:decide (0<=t.al)=true:=by simpa using h1
  go_in
  go_wp2_with fail;go_ret;exact⟨by unfold Tr.ph;rw[if_pos h1];rfl,by go_grown⟩
 ·have e1:decide (0<=t.al)=false:=by simpa using h1
  by_cases h2:0<=t.bo
  ·have e2:decide (0<=t.bo)=true:=by simpa using h2
   go_in
   go_wp2_with fail;go_ret;exact⟨by unfold Tr.ph;rw[if_neg (by omega),if_pos (by omega)];rfl,by go_grown⟩
  ·have e2:decide (0<=t.bo)=false:=by simpa using h2
   go_in
   go_wp2_with fail;go_ret;exact⟨by unfold Tr.ph;rw[if_neg (by omega),if_neg (by omega)];rfl,by go_grown⟩
def dn(t:Tr):Bool:=t.ph==2
theorem J3(A:iX)(n k B:Nat)(l:List Tr)(w:l6)(h:Trs w B A n l)(hB:B<=w.heap.size)(hn:n<=10000000):
  Calls prog 33 #[.slice A n k] w fun e w'=>∃ v,e=.returned v/\Own w' w.heap.size 87 7 kN v (l.filter dn)/\fj w w':=by
 have h8:=h.2;have HR:=ze h;clear h
 go_in
 go_wp2_with fail
 go_loopw [3,8] (fun v i wr=>∃(j:Nat),j<=n/\i=O J j/\Own wr w.heap.size 87 7 kN v ((l.take j).filter dn)/\fj w wr) (fun _ i _=>n-(intOf i).toNat)
 case atStart=>exact⟨0,vf _,rfl,Own.nil _ _ _ _ _,fh⟩
 case round=>
  obtain⟨j,hj,rfl,h1,hb⟩:=hrel;have HO:=ze h1;have HB:=ze hb;have hz:=hb.size;clear h1 hb;by_cases h9:j<n
  ·obtain⟨b,off,r,rfl,h6,hg,q0,q1,q2,q3,q4,q5,q6⟩:=(HR.o.below (HB.o.mono hB)).at_ h9;have i0:(0:Int)<=(j:Int):=by omega
   have i1:(j:Int)<(n:Int):=by omega
   have hc:=ze h6;have HG:=ze hg;have h5:((l.take j).filter dn).length<=1000000000:=vD (ag _ _) (by rw[XT];omega);clear hg h6;have HN:=ze (Bx.new wr (kN r) 87);by_cases hd:dn r=true
   ·have e2:(r.ph==2)=true:=hd;have HX:=ze ((show(l.take (j+1)).filter dn=(l.take j).filter dn++[r]from by rw[Vn,HG.o,bV];simp[hd]));go_wp2_with(first
     |(go_at_call 32;refine(JQ r _).mono ?_;rintro e w1 ⟨rfl,h0⟩;have h3:=ze (show fj w w1 from(HB.o.alloc hz _).trans (h0.mono (by simp;omega)));have h4:=ze (HO.o.below ((fh.alloc fi _).trans (h0.mono (by simp))));obtain⟨c0,c1,c2,c3,c4,c5,c6⟩:=(show w1.cell? ⟨wr.heap.size,0,none⟩=some (O J r.id)/\w1.cell? ⟨wr.heap.size,1,none⟩=some (O J r.ar)/\w1.cell? ⟨wr.heap.size,2,none⟩=some (O J r.fr)/\w1.cell? ⟨wr.heap.size,3,none⟩=some (O J r.to_)/\w1.cell? ⟨wr.heap.size,4,none⟩=some (O J r.car)/\w1.cell? ⟨wr.heap.size,5,none⟩=some (O J r.bo)/\w1.cell? ⟨wr.heap.size,6,none⟩=some (O J r.al)from by have hx:=HN.o.below h0 (by simp);exact⟨(hx 0 _ rfl).1,(hx 1 _ rfl).1,(hx 2 _ rfl).1,(hx 3 _ rfl).1,(hx 4 _ rfl).1,(hx 5 _ rfl).1,(hx 6 _ rfl).1⟩);have ha:=h3.o.size;clear h0)
     |(at_builtin;refine push rfl _ _ 39 rfl underlying39 Trip.info rfl (by omega) (by omega) rfl (h4.o.alloc _) r ⟨_,0,none⟩ 1 rfl rfl (zr _ _ (kN r) _ rfl) (JP r) h5 (by simp;omega) ?_;intro v' w2 h2 h7))
    go_roundw
    case rel=>exact⟨j+1,by omega,by go_num,by rw[HX.o];exact h2,(h3.o.alloc ha _).trans h7⟩
    case measure=>simp[intOf];omega
   ·have e2:(r.ph==2)=false:=by simpa[dn]using hd
    have HX:=ze ((show(l.take (j+1)).filter dn=(l.take j).filter dn from by rw[Vn,HG.o,bV];simp[hd]));go_wp2_with(go_at_call 32;refine(JQ r _).mono ?_;rintro e w1 ⟨rfl,h0⟩;have h3:=ze (show fj w w1 from(HB.o.alloc hz _).trans (h0.mono (by simp;omega)));have h4:=ze (HO.o.below ((fh.alloc fi _).trans (h0.mono (by simp))));clear h0);go_roundw
    case rel=>exact⟨j+1,by omega,by go_num,by rw[HX.o];exact h4.o,h3.o⟩
    case measure=>simp[intOf];omega
  ·obtain rfl:j=n:=by omega
   go_wp2_with fail;go_ret;exact⟨_,rfl,by have:=HO.o;rw[<-h8,UZ]at this;exact this,HB.o⟩
theorem JS{a g:Int}(h0:0<=a)(h1:a<=128)(g0:1<=g)(g1:g<=16):0<=a*g/\a*g<=2048:=by
 have h2:0<=a*g:=JE h0 (by omega);have h3:a*g<=128*g:=xB h1 (by omega);omega
theorem VG(f c k:Int)(w:l6)(hf:f≠0):Calls prog 220 #[O J f,O J c,O J k] w fun e w'=>(∃m:Int,e=.returned (O J m)/\(0<=k->k<f->f<=128->0<c->c<=16->0<=m/\m<c))/\fj w w':=by
 go_in
 go_wp2_with fail;go_ret;refine⟨⟨_,rfl,fun k0 k1 f1 c0 c1=>?_⟩,by go_grown⟩;have h0:0<=k*c:=JE k0 (by omega);have h1:k*c<f*c:=Int.mul_lt_mul_of_pos_right k1 c0;have h2:f*c<=128*16:=yO f1 c1 (by omega) (by omega);have hw:wrap64 (k*c)=k*c:=IntWalk.wrap64_in _ (by omega);have hq:(k*c).tdiv f=k*c/f:=dT h0;have h3:0<=k*c/f:=Wi h0 (by omega);have h4:k*c/f<c:=Int.ediv_lt_of_lt_mul (by omega) (by rw[cX c f];exact h1);have h5:wrap64 (k*c/f)=k*c/f:=IntWalk.wrap64_in _ (by omega);rw[hw,hq,h5];exact⟨h3,h4⟩
theorem Ka(f c k p n:Int)(w:l6)(hc:c≠0)(hp:p=k*f)(h0:0<=p)(h1:p<=1000000)(c0:0<c)(c1:c<=1000)(hn:n=min ((p+c-1)/c) (f-1))(f0:0<=f)(f1:f<=1000):Calls prog 177 #[O J f,O J c,O J k] w (fk (O J n) w):=by
 have hq:(p+c-1).tdiv c=(p+c-1)/c:=dT (by omega);have h3:0<=(p+c-1)/c:=Wi (by omega) (by omega);have h4:(p+c-1)/c<=p+c-1:=by
  have:=iI (a:=p+c-1) c (by omega);omega
 have ew:IntKind.i64.wrap (k*f)=p:=by rw[<-hp,JH];omega
 have ew1:IntKind.i64.wrap (p+c)=p+c:=by rw[JH];omega
 have ew2:IntKind.i64.wrap (p+c-1)=p+c-1:=by rw[JH];omega
 have ew3:IntKind.i64.wrap ((p+c-1)/c)=(p+c-1)/c:=by rw[JH];omega
 have ew4:IntKind.i64.wrap (f-1)=f-1:=by rw[JH];omega
 clear hp;have HN:=ze hn;clear hn;have h2:∀ W,Calls prog 214 #[O J f,O J c,O J k] W (fm (O J ((p+c-1)/c)) W):=by
  intro W
  go_in
  go_wp2_with fail;go_ret;exact⟨rfl,rfl⟩
 go_in
 go_wp2_with(go_at_call 214;refine(h2 _).mono ?_;rintro e w1 ⟨rfl,rfl⟩);go_ret;exact⟨zJ HN.o.symm,by go_grown⟩
theorem uC(s:Sc)(A:iX)(n c:Nat)(k:Int)(w:l6):Calls prog 271 #[s.v A n c,O J k] w fun e w'=>RI e/\fj w w':=by
 go_in
 go_wp2_with fail;go_ret;exact⟨⟨_,rfl⟩,by go_grown⟩
theorem WP(s:Sc)(A:iX)(n k:Nat)(c:Cr)(A':iX)(n' k':Nat)(w:l6):Calls prog 273 #[s.v A n k,c.v A' n' k'] w fun e w'=>RI e/\fj w w':=by
 by_cases h2:c.mode=2
 ·go_in
  go_wp2_with fail;go_ret;exact⟨⟨_,rfl⟩,by go_grown⟩
 by_cases h3:c.mode=3
 ·go_in
  go_wp2_with fail;go_ret;exact⟨⟨_,rfl⟩,by go_grown⟩
 by_cases h4:c.mode=4
 ·go_in
  go_wp2_with fail;go_ret;exact⟨⟨_,rfl⟩,by go_grown⟩
 go_in
 go_wp2_with fail;go_ret;exact⟨⟨_,rfl⟩,by go_grown⟩
theorem Kc(c:Cr)(A:iX)(n k:Nat)(w:l6):Calls prog 145 #[c.v A n k] w fun e w'=>RB e/\fj w w':=by
 by_cases h2:2<=c.mode
 ·go_in
  go_wp2_with fail;go_ret;exact⟨⟨_,rfl⟩,by go_grown⟩
 ·go_in
  go_wp2_with fail;go_ret;exact⟨⟨_,rfl⟩,by go_grown⟩
theorem VH(i t f g:Int)(w:l6):Calls prog 185 #[.agg #[O J i,O J t,O J f,O J g]] w (fk (.agg #[O J i,O J t,O J f,O J g,O J (-1),O J (-1),O J (-1)]) w):=by
 go_in
 go_wp2_with fail;refine bodyPost_ret (v:=.agg #[O J i,O J t,O J f,O J g,O J (-1),O J (-1),O J (-1)]) (by rw[zi rfl];go_simp) rfl ?_;exact⟨rfl,by go_grown⟩
def fW(n:Nat)(e:Ending):Prop:=∃ m:Int,e=.returned (O J m)/\-1<=m/\m<n+1/\(0<n->0<=m/\m<n)
theorem uD(A:iX)(n c B:Nat)(l:l8)(w:l6)(h:Rd w B 1 A n (l.map (Value.int .i64)))(hn:n<=1000000):Calls prog 248 #[.slice A n c] w fun e w'=>fW n e/\w'=w:=by
 have hl:l.length=n:=by have:=h.1;simpa using this
 have HR:=ze h;clear h
 go_in
 go_wp2_with fail
 go_loopw [3,8] (fun b i wr=>∃(k:Nat)(m:Int),k<=n/\i=O J k/\b=O J m/\((m=-1/\k=0)\/∃ j:Nat,m=j/\j<n)/\wr=w) (fun _ i _=>n-(intOf i).toNat)
 case atStart=>exact⟨0,-1,vf _,rfl,rfl,.inl ⟨rfl,rfl⟩,rfl⟩
 case round=>
  obtain⟨k,m,hk,rfl,rfl,hm,rfl⟩:=hrel;by_cases h1:k<n
  ·obtain⟨b,off,hA,h3,hc⟩:=HR.o.at_ (by omega);have hg:l[k]?=some (l[k]'(by omega)):=kD _;have ck:=hc k (O J (l[k]'(by omega))) (by rw[QL,hg];rfl);generalize l[k]'(by omega)=x at ck;have i0:(0:Int)<=(k:Int):=by omega
   have i1:(k:Int)<(n:Int):=by omega
   subst hA;rcases hm with⟨rfl,-⟩|⟨j,rfl,hj⟩
   ·clear hc hg;go_wp2_with fail;go_roundw
    case rel=>exact⟨k+1,k,by omega,by go_num,rfl,.inr ⟨k,rfl,h1⟩,trivial⟩
    case measure=>simp[intOf];omega
   ·have h0:l[j]?=some (l[j]'(by omega)):=kD _;have cj:=hc j (O J (l[j]'(by omega))) (by rw[QL,h0];rfl);generalize l[j]'(by omega)=y at cj;have j0:(0:Int)<=(j:Int):=by omega
    have j1:(j:Int)<(n:Int):=by omega
    have j2:¬ ((j:Int)<0):=by omega
    clear hc hg h0;by_cases h4:x<y
    ·go_wp2_with fail;go_roundw
     case rel=>exact⟨k+1,k,by omega,by go_num,rfl,.inr ⟨k,rfl,h1⟩,trivial⟩
     case measure=>simp[intOf];omega
    ·go_wp2_with fail;go_roundw
     case rel=>exact⟨k+1,j,by omega,by go_num,rfl,.inr ⟨j,rfl,hj⟩,trivial⟩
     case measure=>simp[intOf];omega
  ·obtain rfl:k=n:=by omega
   go_wp2_with fail;go_ret;refine⟨⟨_,rfl,?_,?_,fun h=>?_⟩,rfl⟩<;>rcases hm with⟨rfl,h2⟩|⟨j,rfl,hj⟩<;>omega
theorem YT(s:Sc)(hs:s.ok)(sA:iX)(sn sk:Nat)(cr:Cr)(A:iX)(n k:Nat)(fl d:Int)(w:l6)(p0: -1000000<=cr.pos)(p1:cr.pos<=1000000)(f0:0<=fl)(f1:fl<=128):
  Calls prog 247 #[s.v sA sn sk,cr.v A n k,O J fl,O J d] w fun r w'=>RI r/\fj w w':=by
 have g0:=hs.gap.1;have g1:=hs.gap.2;have h7:=ze (Bs.two w (s.ls sA sn sk) (cr.ls A n k) 25 265);have ht:=JS f0 f1 g0 g1;have hh:=JS (a:=s.fl-1) (g:=s.gap) (by have:=hs.fl;omega) (by have:=hs.fl;omega) g0 g1;have h6:=ze (fun V=>kP fl s.gap (fl*s.gap) V rfl (by omega) (by omega));have h5:=ze (fun V=>YN s.fl s.gap ((s.fl-1)*s.gap) V rfl (by omega) (by omega) (by have:=hs.fl;omega) (by have:=hs.fl;omega));generalize fl*s.gap=P at h6 ht;generalize(s.fl-1)*s.gap=T at h5 hh;have h4:=ze (fun V=>YO cr.pos P V (by omega) (by omega));have h3:=ze (fun V=>qn cr.pos P V (by omega) (by omega));have h8:0<=max (cr.pos-P) (P-cr.pos)/\max (cr.pos-P) (P-cr.pos)<=2000000:=by omega
 generalize max (cr.pos-P) (P-cr.pos)=F at h4 h8;generalize yw (P-cr.pos)=D at h3;obtain⟨hc,hd⟩:=h8;obtain⟨he,hf⟩:=hh;clear ht
 go_in
 go_upto_region 1 with(fail);refine j9 (w:=w) (fun W=>Bs w W [(w.heap.size+1,cr.ls A n k),(w.heap.size,s.ls sA sn sk)]) h7.o (by go_grown) (by simp;omega) ?_;rintro W hb h9 ha;clear h7 h9 ha;have HB:=ze hb;obtain⟨⟨s0,s1,s2,s3,s4,s5,s6,s7,s8,s9,s10,s11,s12⟩,-⟩:=(HB.o.cell (q:=w.heap.size) (l:=s.ls sA sn sk) (by simp)).o13;obtain⟨⟨c0,c1,c2,c3,c4,c5⟩,-⟩:=(HB.o.cell (q:=w.heap.size+1) (l:=cr.ls A n k) (by simp)).o6;clear hb;go_wp2_with(go_at_call 176;refine(h6.o _).mono ?_;rintro e w1 ⟨rfl,rfl⟩);go_quiet((first|(go_at_call 270;exact iN (h4.o _))|(go_at_call 76;exact iN (h5.o _))));by_cases h0:cr.dir=0
 ·go_wp2_with fail;go_ret;exact⟨⟨_,rfl⟩,zg HB.o.b _⟩
 ·have e0:(cr.dir==0)=false:=by simpa using h0
  clear h0;by_cases h1:0<F
  ·have e1:decide (0<F)=true:=decide_eq_true h1;rcases Int.decEq D cr.dir with h2|h2
   ·have e2:(D !=cr.dir)=true:=by simpa using h2
    clear h2;go_wp2_with fail;go_quiet((go_at_call 188;exact zT (h3.o _)));go_wp2_with fail;go_ret;exact⟨⟨_,rfl⟩,zg HB.o.b _⟩
   ·have e2:(D !=cr.dir)=false:=by simpa using h2
    clear h2;go_wp2_with fail;go_quiet((go_at_call 188;exact zT (h3.o _)));go_wp2_with fail
    all_goals
     go_ret;exact⟨⟨_,rfl⟩,zg HB.o.b _⟩
  ·have e1:decide (0<F)=false:=decide_eq_false h1;go_wp2_with fail;go_quiet((go_at_call 188;exact zT (h3.o _)));go_wp2_with fail
   all_goals
    go_ret;exact⟨⟨_,rfl⟩,zg HB.o.b _⟩
theorem YU(s:Sc)(hs:s.ok)(sA:iX)(sn sk:Nat)(A:iX)(n k B:Nat)(L:List Ca)(fl d:Int)(w:l6)(h:Cas w B s.gap A n L)(hB:B<=w.heap.size)(hn:n<=1000)(f0:0<=fl)(f1:fl<=128):
  Calls prog 219 #[s.v sA sn sk,.slice A n k,O J fl,O J d] w fun r w'=>fW n r/\fj w w':=by
 have g0:=hs.gap.1;have g1:=hs.gap.2;have h9:=ze (Bs.one w (s.ls sA sn sk) 25);have HL:=ze h;clear h
 go_in
 go_wp2_with fail
 go_loopw [9,14] (fun v i wr=>∃(j:Nat)(l:l8),j<=n/\i=O J j/\l.length=j/\Own wr (w.heap.size+1) 3 1 (fa .i64) v l/\Bs w wr [(w.heap.size,s.ls sA sn sk)]) (fun _ i _=>n-(intOf i).toNat)
 case atStart=>exact⟨0,[],vf _,rfl,rfl,Own.nil _ _ _ _ _,h9.o⟩
 case round=>
  obtain⟨j,l,hj,rfl,hl,h2,hb⟩:=hrel;have HO:=ze h2;have HB:=ze hb;have h4:=ze hl;have hz:w.heap.size<wr.heap.size:=hb.lt (q:=w.heap.size) (l:=s.ls sA sn sk) (by simp);obtain⟨⟨s0,s1,s2,s3,s4,s5,s6,s7,s8,s9,s10,s11,s12⟩,-⟩:=(HB.o.cell (q:=w.heap.size) (l:=s.ls sA sn sk) (by simp)).o13;clear h2 hb hl;by_cases hk:j<n
  ·obtain⟨b,off,x,rfl,ho,hx,h5,hm,c0,c1,c2,c3,c4,c5⟩:=((HL.o.below (HB.o.b.mono hB))).at_ hk;have i0:(0:Int)<=(j:Int):=by omega
   have i1:(j:Int)<(n:Int):=by omega
   have HX:=ze hx;have HC:=ze (fun V=>YT s hs sA sn sk x.c x.A x.n x.k fl d V (by have:=h5.p0;omega) (by have:=h5.p1;omega) f0 f1);clear hx h5 hm;go_wp2_with(first
    |(go_at_call 247;refine(HC.o _).mono ?_;rintro r w1 ⟨⟨z,rfl⟩,h6⟩;have h0:fj wr w1:=(fh.alloc fi _).trans (h6.mono (by simp));have hc:=ze (HO.o.below h0);have ha:=ze (HB.o.step h0);have hp:=h0.size;have hg:l.length<=1000000000:=(by have:=h4.o;omega);clear h6 h0 s0 s1 s2 s3 s4 s5 s6 s7 s8 s9 s10 s11 s12 c0 c1 c2 c3 c4 c5)
    |(at_builtin;refine push rfl _ _ 51 rfl underlying51 Ints.info rfl (by omega) (by omega) rfl (hc.o.alloc _) z ⟨_,0,none⟩ 1 rfl rfl (cell_one_new _ _ _) (by simp[Value.oneCell']) hg (by simp;omega) ?_;intro v' w2 h3 hf))
   go_roundw
   case rel=>exact⟨j+1,l++[z],by omega,by go_num,by rw[kC,h4.o];rfl,h3,(ha.o.step (fh.alloc fi _)).stepB hf (by omega) (by simp)⟩
   case measure=>simp[intOf];omega
  ·obtain rfl:j=n:=by omega
   obtain⟨A2,c2,rfl,-,h7⟩:=HO.o.ints;have hi:l.length<=1000000:=by have:=h4.o;omega
   have hd:=ze h7;clear h7;go_wp2_with(go_at_call 248;refine(uD A2 l.length c2 _ l _ hd.o hi).mono ?_;rintro r w3 ⟨⟨z,rfl,h8⟩,rfl⟩;have he:=ze h8;clear h8);go_ret;exact⟨⟨_,rfl,by have h1:=he.o;rw[h4.o]at h1;exact h1⟩,HB.o.b⟩
def g9(l:List Rid):Int:=l.foldl (fun a r=>fE a r.to_) 0
def ge(l:List Rid):Int:=l.foldl (fun b r=>fF b r.to_) 0
theorem g6{α β:Type}(f:β->α->β)(z:β)(l:List α)(j:Nat)(r:α)(h:l[j]?=some r):(l.take (j+1)).foldl f z=f ((l.take j).foldl f z) r:=by
 rw[Vn,h,List.foldl_append];rfl
theorem vM(c:Cr)(A:iX)(n k B:Nat)(l:List Rid)(w:l6)(h:Rds w B A n l)(hB:B<=w.heap.size)(hn:n<=1000000):Calls prog 251 #[c.v A n k] w (fk (zy (g9 l) (ge l)) w):=by
 have HR:=ze h;have h7:=ze (show fj w (((w.alloc (.cells (c.cells A n k) 265)).alloc (.cells #[O U 0,O U 0] 325)).alloc (.cells #[O U 0,O U 0] 325))from by go_grown);have h4:=ze (Bx.two (w.alloc (.cells (c.cells A n k) 265)) [O U 0,O U 0] [O U 0,O U 0] 325 325 (by decide));clear h
 go_in
 go_wp2_with fail
 go_loopw [9] (fun i wr=>∃(j:Nat)(x y:Int),j<=n/\i=O J j/\x=(l.take j).foldl (fun a r=>fE a r.to_) 0/\y=(l.take j).foldl (fun b r=>fF b r.to_) 0/\Bx wr (w.heap.size+1) [O U 0,O U 0]/\Bx wr (w.heap.size+2) [O U x,O U y]/\fj w wr) (fun i _=>n-(intOf i).toNat)
 case atStart=>exact⟨0,0,0,vf _,rfl,rfl,rfl,by have:=h4.o.1;simpa using this,by have:=h4.o.2;simpa using this,h7.o⟩
 case round=>
  obtain⟨j,x,y,hj,rfl,hx,hy,h1,h2,hb⟩:=hrel;have HX:=ze hx;have HY:=ze hy;clear hx hy;have H1:=ze h1;have H2:=ze h2;have HW:=ze hb;have hd:=h1.lt (by simp);have he:=h2.lt (by simp);obtain⟨⟨c0,c1⟩,f0,f1⟩:=h1.o2;obtain⟨⟨d0,d1⟩,g0,g1⟩:=h2.o2;clear h1 h2 hb;by_cases h9:j<n
  ·obtain⟨b,off,r,rfl,h5,hg,q0,q1⟩:=(HR.o.below (HW.o.mono hB)).at_ h9;have i0:(0:Int)<=(j:Int):=by omega
   have i1:(j:Int)<(n:Int):=by omega
   have hf:=ze h5;have HG:=ze hg;clear hg h5;go_wp2_with(go_at_call 231;refine(QV x y r.to_ _).mono ?_;rintro e w1 ⟨rfl,h0⟩;have h6:=ze (H1.o.below (fh.alloc fi _ |>.trans (h0.mono (by simp))) hd);have h3:=ze (H2.o.below (fh.alloc fi _ |>.trans (h0.mono (by simp))) he);have h8:=ze h0;clear c0 c1 d0 d1 f0 f1 g0 g1;obtain⟨⟨d0,d1⟩,g0,g1⟩:=h3.o.o2);go_roundw
   case rel=>
    refine⟨j+1,fE x r.to_,fF y r.to_,by omega,by go_num,by rw[g6 _ _ _ _ _ HG.o,HX.o],by rw[g6 _ _ _ _ _ HG.o,HY.o],(h6.o.setOther (by simp) _).setOther (by simp) _,by have:=(h3.o.set 0 (O U (fE x r.to_))).set 1 (O U (fF y r.to_));simpa using this,?_⟩;exact((((HW.o.alloc HW.o.size _).trans (h8.o.mono (by have:=HW.o.size;simp;omega))).setCell (p:=⟨w.heap.size+1+1,0,none⟩) (by simp only;omega) _).setCell (p:=⟨w.heap.size+1+1,1,none⟩) (by simp only;omega) _)
   case measure=>simp[intOf];omega
  ·obtain rfl:j=n:=by omega
   go_wp2_with fail;have ha:x=g9 l:=by rw[HX.o,Wc (by rw[HR.o.2];exact fi)];rfl
   have hc:y=ge l:=by rw[HY.o,Wc (by rw[HR.o.2];exact fi)];rfl
   refine bodyPost_ret (v:=zy x y) (by rw[zi rfl];go_simp) rfl ?_;exact⟨by rw[ha,hc],(HW.o.setCell (p:=⟨w.heap.size+1,0,none⟩) (Ut _) _).setCell (p:=⟨w.heap.size+1,1,none⟩) (Ut _) _⟩
abbrev db:iZ:=[.string ⟨#[102,108,111,111,114,115]⟩,.string ⟨#[103,97,112]⟩,.string ⟨#[99,97,114,115]⟩,.string ⟨#[99,97,112,97,99,105,116,121]⟩,.string ⟨#[111,112,101,110]⟩,.string ⟨#[100,119,101,108,108]⟩,.string ⟨#[99,108,111,115,101]⟩,.string ⟨#[116,114,97,110,115,102,101,114]⟩,.string ⟨#[104,111,114,105,122,111,110]⟩,.string ⟨#[98,105,110,115]⟩,.string ⟨#[119,105,100,116,104]⟩]
abbrev dc(s:Sc):iZ:=[O J s.fl,O J s.gap,O J s.cars,O J s.cap,O J s.opn,O J s.dw,O J s.cl,O J s.tr,O J s.hor,O J s.bins,O J s.width]
def dR(s:Sc):List Bool:=[decide (2<=s.fl/\s.fl<=128),decide (1<=s.gap/\s.gap<=16),decide (1<=s.cars/\s.cars<=16),decide (1<=s.cap/\s.cap<=64),decide (1<=s.opn/\s.opn<=64),decide (1<=s.dw/\s.dw<=64),decide (1<=s.cl/\s.cl<=64),decide (1<=s.tr/\s.tr<=64),decide (1<=s.hor/\s.hor<=1048576),decide (1<=s.bins/\s.bins<=64),decide (1<=s.width/\s.width<=4096)]
theorem UU(s:Sc)(i:Nat)(hi:i<11):∃ x y b,db[i]?=some x/\(dc s)[i]?=some y/\(dR s)[i]?=some b/\∀ w,Calls prog 66 #[x,y] w (fk (.bool b) w):=by
 match i,hi with
 |0,_=>exact⟨_,_,_,rfl,rfl,rfl,ZN _⟩
 |1,_=>exact⟨_,_,_,rfl,rfl,rfl,XP _⟩
 |2,_=>exact⟨_,_,_,rfl,rfl,rfl,Vh _⟩
 |3,_=>exact⟨_,_,_,rfl,rfl,rfl,uc _⟩
 |4,_=>exact⟨_,_,_,rfl,rfl,rfl,Vi _⟩
 |5,_=>exact⟨_,_,_,rfl,rfl,rfl,QG _⟩
 |6,_=>exact⟨_,_,_,rfl,rfl,rfl,QH _⟩
 |7,_=>exact⟨_,_,_,rfl,rfl,rfl,ud _⟩
 |8,_=>exact⟨_,_,_,rfl,rfl,rfl,Zj _⟩
 |9,_=>exact⟨_,_,_,rfl,rfl,rfl,Vk _⟩
 |10,_=>exact⟨_,_,_,rfl,rfl,rfl,QJ _⟩
theorem Hm{Q:l6->Prop}{w W:l6}(S:l6->Prop)(hS:S W)(hb:Below w.heap.size w W)(h:∀ W':l6,S W'->Below w.heap.size w W'->Q W'):Q W:=h W hS hb
def eI(s:Sc)(w:l6)(e:Ending)(w':l6):Prop:=∃ z:Int,e=.returned (O J z)/\(z=0->s.ok)/\Below w.heap.size w w'
theorem cT{s:Sc}(h:∀(j:Nat)(b:Bool),(dR s)[j]?=some b->b=true)(h1:1<=s.disp/\s.disp<=4)(h2:1<=s.segs.length/\s.segs.length<=8)(h3:∀ g∈s.segs,g.ok):s.ok:=
 ⟨of_decide_eq_true (h 0 _ rfl),of_decide_eq_true (h 1 _ rfl),of_decide_eq_true (h 2 _ rfl),of_decide_eq_true (h 3 _ rfl),of_decide_eq_true (h 4 _ rfl),of_decide_eq_true (h 5 _ rfl),of_decide_eq_true (h 6 _ rfl),of_decide_eq_true (h 7 _ rfl),of_decide_eq_true (h 8 _ rfl),of_decide_eq_true (h 9 _ rfl),of_decide_eq_true (h 10 _ rfl),h1,h2,h3⟩
theorem UV(s:Sc)(A:iX)(n c:Nat)(w:l6)(hg:Sgs w w.heap.size A n s.segs)(hn:n<=1000):Calls prog 46 #[s.v A n c] w (eI s w):=by
 have HG:=ze hg;have hF:s.segs.length=n:=hg.2;have h8:=ze (Bs.three w (s.ls A n c) db (dc s) 25 139 140);clear hg
 go_in
 go_upto_region 3 with(fail);refine Hm (w:=w) (fun V=>Bs w V [(w.heap.size+1+1,dc s),(w.heap.size+1,db),(w.heap.size,s.ls A n c)]) h8.o h8.o.b ?_;clear h8;rintro V h0 hA;have hk:=ze h0;clear h0 hA;go_wp2_with fail
 go_loopw [5] (fun v wr=>∃ i:Nat,i<=11/\v=O J i/\(∀(j:Nat)(b:Bool),j<i->(dR s)[j]?=some b->b=true)/\Bs w wr [(w.heap.size+1+1,dc s),(w.heap.size+1,db),(w.heap.size,s.ls A n c)]) (fun v _=>11-(intOf v).toNat)
 case atStart=>exact⟨0,by omega,rfl,fun j b h=>absurd h (by omega),hk.o⟩
 case round=>
  obtain⟨i,hi,rfl,hm,h0⟩:=hrel;have h4:=ze hm;have HB:=ze h0;clear hm hk;by_cases h7:i<11
  ·obtain⟨x,y,b,hx,hy,hb,hc⟩:=UU s i h7;have HC:=ze hc;have hs:=ze hb;have c1:=((h0.cell (q:=w.heap.size+1) (l:=db) (by simp)) i x hx).1;have c2:=((h0.cell (q:=w.heap.size+1+1) (l:=dc s) (by simp)) i y hy).1;have i0:(0:Int)<=(i:Int):=by omega
   have i1:(i:Int)<11:=by omega
   have hJ:=h0.lt (q:=w.heap.size+1) (l:=db) (by simp);have hL:=h0.lt (q:=w.heap.size+1+1) (l:=dc s) (by simp);have MK:=ze (fun V(hb:Below wr.heap.size wr V)=>(show V.cell? ⟨w.heap.size+1,i,none⟩=some x/\V.cell? ⟨w.heap.size+1+1,i,none⟩=some y/\Below wr.heap.size wr V from⟨zf hb c1,zf hb c2,hb⟩));clear hc hx hy hb h0;go_upto_region 6 with(fail);cases b with
   |true=>
    go_region_held3 (fun V=>V.cell? ⟨w.heap.size+1,i,none⟩=some x/\V.cell? ⟨w.heap.size+1+1,i,none⟩=some y/\Below wr.heap.size wr V)
     (((refine MK.o _ ?_);(first|(with_reducible exact h2.o)|(go_grown;done)|(go_grown;with_reducible exact h2.o))))
     (first|(go_at_call 66;go_split_ands;refine(HC.o _).mono ?_;rintro e w4 ⟨rfl,h1⟩;have h2:=ze ((‹Below wr.heap.size wr _›).trans (h1.mono (‹Below wr.heap.size wr _›).size));clear h1))
    all_goals
     go_wp2_with fail;go_roundw
     case rel=>exact⟨i+1,by omega,by go_num,fun j b' hj ha=>(by
      rcases YF j i with h|h
      ·exact h4.o j b' h ha
      ·have:j=i:=by omega
       subst this;rw[hs.o]at ha;cases ha;rfl),HB.o.step h2.o⟩
     case measure=>simp[intOf];omega
   |false=>
    go_region_held3 (fun V=>V.cell? ⟨w.heap.size+1,i,none⟩=some x/\V.cell? ⟨w.heap.size+1+1,i,none⟩=some y/\Below wr.heap.size wr V)
     (((refine MK.o _ ?_);(first|(with_reducible exact h2.o)|(go_grown;done)|(go_grown;with_reducible exact h2.o))))
     (first|(go_at_call 66;go_split_ands;refine(HC.o _).mono ?_;rintro e w4 ⟨rfl,h1⟩;have h2:=ze ((‹Below wr.heap.size wr _›).trans (h1.mono (‹Below wr.heap.size wr _›).size));clear h1))
    all_goals
     go_wp2_with fail;go_ret;exact⟨264,rfl,fun h=>absurd h (by decide),(HB.o.step h2.o).b⟩
  ·have hD:¬ ((i:Int)<11):=by omega
   have h4:=ze (show∀(j:Nat)(b:Bool),j<11->(dR s)[j]?=some b->b=true from fun j b hj=>h4.o j b (by omega));clear hi h7;have hB:=h0.lt (q:=w.heap.size) (l:=s.ls A n c) (by simp);have a8:=((h0.cell (q:=w.heap.size) (l:=s.ls A n c) (by simp)) 8 _ rfl).1;have a9:=((h0.cell (q:=w.heap.size) (l:=s.ls A n c) (by simp)) 9 _ rfl).1;clear h0;by_cases hd:s.disp<1
   ·have e1:decide (s.disp<1)=true:=by simpa using hd
    go_wp2_with fail;go_ret;exact⟨260,rfl,fun h=>absurd h (by decide),HB.o.b⟩
   ·have e1:decide (s.disp<1)=false:=by simpa using hd
    by_cases he:4<s.disp
    ·have e2:decide (4<s.disp)=true:=by simpa using he
     go_wp2_with fail;go_ret;exact⟨260,rfl,fun h=>absurd h (by decide),HB.o.b⟩
    ·have e2:decide (4<s.disp)=false:=by simpa using he
     have HD:=ze (show 1<=s.disp/\s.disp<=4 by omega);by_cases hn0:n=0
     ·have e3:((n:Int)==0)=true:=by simp;omega
      go_wp2_with fail;go_ret;exact⟨263,rfl,fun h=>absurd h (by decide),HB.o.b⟩
     ·have e3:((n:Int)==0)=false:=by simp;omega
      by_cases hI:8<n
      ·have e4:decide (8<(n:Int))=true:=by simp;omega
       go_wp2_with fail;go_ret;exact⟨21,rfl,fun h=>absurd h (by decide),HB.o.b⟩
      ·have e4:decide (8<(n:Int))=false:=by simp;omega
       have hw:=ze (show 1<=s.segs.length/\s.segs.length<=8 by omega);clear hd he;go_wp2_with fail;clear a8 a9;have hf:=ze (HB.o.sub (M:=[(w.heap.size,s.ls A n c)]) (by simp));clear HB;obtain⟨W1,hz⟩:∃ W1,W1=wr:=⟨_,rfl⟩;subst hz
       go_loopw [6] (fun v wr=>∃ i:Nat,i<=n/\v=O J i/\(∀g∈s.segs.take i,g.ok)/\Bs w wr [(w.heap.size,s.ls A n c)]) (fun v _=>n-(intOf v).toNat)
       case atStart=>exact⟨0,vf _,rfl,fun g h=>by simp at h,hf.o⟩
       case round=>
        obtain⟨i,hi,rfl,hr,h0⟩:=hrel;have hl:=ze hr;have HB:=ze h0;have a8:=((h0.cell (q:=w.heap.size) (l:=s.ls A n c) (by simp)) 8 _ rfl).1;have hB:=h0.lt (q:=w.heap.size) (l:=s.ls A n c) (by simp);clear hr hf;by_cases h7:i<n
        ·obtain⟨gb,go,g,rfl,hE,ho,k0,k1,k2⟩:=(HG.o.below h0.b).at_ h7;have hv:=ze ho;have i0:(0:Int)<=(i:Int):=by omega
         have i1:(i:Int)<(n:Int):=by omega
         have hG:gb<wr.heap.size:=by omega
         clear ho h0;have HT:=ze (fun W=>QI g.t W);unfold zW at HT;have HR:=ze (fun W=>Vj g.r W);unfold zW at HR;by_cases hp:g.k<1
         ·have f1:decide (g.k<1)=true:=by simpa using hp
          go_wp2_with fail;go_ret;exact⟨260,rfl,fun h=>absurd h (by decide),(HB.o.step ((Below.refl _ wr).alloc fi _)).b⟩
         ·have f1:decide (g.k<1)=false:=by simpa using hp
          by_cases hq:4<g.k
          ·have f2:decide (4<g.k)=true:=by simpa using hq
           go_wp2_with fail;go_ret;exact⟨260,rfl,fun h=>absurd h (by decide),(HB.o.step ((Below.refl _ wr).alloc fi _)).b⟩
          ·have f2:decide (4<g.k)=false:=by simpa using hq
           cases h6:decide (1<=g.t/\g.t<=1048576)with
           |false=>
            rw[h6]at HT;go_wp2_with(go_at_call 66;(with_reducible refine(HT.o _).mono ?_);rintro r w4 ⟨rfl,h1⟩;have h2:=ze (((Below.refl wr.heap.size wr).alloc fi (.cells #[O J g.k,O J g.t,O J g.r] 68)).trans (h1.mono (by simp)));clear h1);go_ret;exact⟨264,rfl,fun h=>absurd h (by decide),(HB.o.step h2.o).b⟩
           |true=>
            rw[h6]at HT;have hu:=ze h6;clear h6;cases h5:decide (0<=g.r/\g.r<=4000)with
            |false=>
             rw[h5]at HR;go_wp2_with(first
              |(go_at_call 66;(with_reducible refine(HT.o _).mono ?_);rintro r w4 ⟨rfl,h1⟩;have h2:=ze (((Below.refl wr.heap.size wr).alloc fi (.cells #[O J g.k,O J g.t,O J g.r] 68)).trans (h1.mono (by simp)));have q2:w4.cell? ⟨wr.heap.size,2,none⟩=some (O J g.r):=zf h1 (by simp);have hC:wr.heap.size<w4.heap.size:=(by have:=h1.size;simp at this;omega);clear h1)
              |(go_at_call 66;(with_reducible refine(HR.o _).mono ?_);rintro r w5 ⟨rfl,h3⟩;have h9:=ze (h2.o.trans (h3.mono h2.o.size));clear h3))
             go_ret;exact⟨264,rfl,fun h=>absurd h (by decide),(HB.o.step h9.o).b⟩
            |true=>
             rw[h5]at HR;have ht:=ze h5;clear h5;go_wp2_with(first
              |(go_at_call 66;(with_reducible refine(HT.o _).mono ?_);rintro r w4 ⟨rfl,h1⟩;have h2:=ze (((Below.refl wr.heap.size wr).alloc fi (.cells #[O J g.k,O J g.t,O J g.r] 68)).trans (h1.mono (by simp)));have q2:w4.cell? ⟨wr.heap.size,2,none⟩=some (O J g.r):=zf h1 (by simp);have hC:wr.heap.size<w4.heap.size:=(by have:=h1.size;simp at this;omega);clear h1)
              |(go_at_call 66;(with_reducible refine(HR.o _).mono ?_);rintro r w5 ⟨rfl,h3⟩;have h9:=ze (h2.o.trans (h3.mono h2.o.size));clear h3))
             go_roundw
             case rel=>
              refine⟨i+1,by omega,by go_num,fun y hy=>?_,HB.o.step h9.o⟩;rw[Vn,hv.o]at hy;rcases yp.1 hy with hy|hy
              ·exact hl.o y hy
              ·have:y=g:=by simpa using hy
               subst this;exact⟨by omega,of_decide_eq_true hu.o,of_decide_eq_true ht.o⟩
             case measure=>simp[intOf];omega
        ·obtain rfl:i=n:=by omega
         have HF:=ze (show s.ok from cT (fun j b hb=>h4.o j b (by have:=(qd.1 hb).1;simpa[dR]using this) hb) HD.o hw.o (fun g hg=>hl.o g (by rw[Wc (by omega)];exact hg)));clear h0;go_wp2_with fail;go_ret;exact⟨0,rfl,fun _=>HF.o,HB.o.b⟩
end
end Go.Proofs.YtdeogmbfgkepeaaGreatDoor
