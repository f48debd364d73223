/- Contracts that WholeBins needs. Each tells its conditions. -/
import Derived.Test.YtdeogmbfgkepeaaGreatDoorQ04
import Derived.Test.YtdeogmbfgkepeaaGreatDoorQ06
import Derived.Test.YtdeogmbfgkepeaaGreatDoorQ14
set_option linter.unusedVariables false
set_option linter.unusedSimpArgs false
set_option maxRecDepth 100000
set_option maxHeartbeats 64000000
namespace Go.Proofs.YtdeogmbfgkepeaaGreatDoor
open Go.Proofs.Tryz
open Go.Value renaming int->O
open Go.IntKind renaming i64->J,u64->U
section
open Go.RowKit HB
theorem zT{P:Program}{f:FuncId}{args:Array Value}{w:World}{a n:Nat}{v:Value}
  (h:Calls P f args (w.drewN (a+n)) fun e w'=>e=.returned v/\w'=w.drewN (a+n)):
  Calls P f args (w.drewN (a+n)) fun e w''=>e=.returned v/\∃ m,w''=w.drewN (a+m):=
 h.mono fun _ _⟨he,hm⟩=>⟨he,n,hm⟩
structure Bs(w W:World)(L:List (Nat×List Value)):Prop where
 b:fj w W
 l:∀ p∈L,w.heap.size<=p.1/\p.1<W.heap.size/\Bx W p.1 p.2
section
variable{w W W':World}{L:List (Nat×List Value)}
theorem Bs.step(h:Bs w W L)(hb:fj W W'):Bs w W' L:=
 ⟨h.b.trans (hb.mono h.b.size),fun p hp=>by
  obtain⟨h0,h1,h2⟩:=h.l p hp;exact⟨h0,Nat.lt_of_lt_of_le h1 hb.size,h2.below hb h1⟩⟩
theorem Bs.stepB{D:Nat}(h:Bs w W L)(hb:Below D W W')(hD:w.heap.size<=D)(hl:∀ p∈L,p.1<D):Bs w W' L:=
 ⟨h.b.trans (hb.mono hD),fun p hp=>by
  obtain⟨h0,h1,h2⟩:=h.l p hp;exact⟨h0,Nat.lt_of_lt_of_le h1 hb.size,h2.below hb (hl p hp)⟩⟩
theorem Bs.stp(hb:fj W W')(h:Bs w W L):Bs w W' L:=h.step hb
theorem Bs.drew(h:Bs w W L):Bs w W.drew L:=h.step fh.drew
theorem Bs.drewN(h:Bs w W L)(m:Nat):Bs w (W.drewN m) L:=h.step (zg fh m)
theorem Bs.nil(w:World):Bs w w []:=⟨fh,fun p hp=>by cases hp⟩
theorem Bs.new(h:Bs w W L){q:Nat}(hq:W.heap.size=q)(l:List Value)(ty:TypeId):Bs w (W.alloc (.cells l.toArray ty)) ((q,l)::L):=by
 have h2:=h.step (fh.alloc fi (.cells l.toArray ty));have hs:=h.b.size;refine⟨h2.b,fun p hp=>?_⟩;rcases List.mem_cons.1 hp with rfl|hp
 ·exact⟨by simp only;omega,by simp;omega,Bx.at_size hq⟩
 ·exact h2.l p hp
theorem Bs.one(w:World)(l:List Value)(ty:TypeId):Bs w (w.alloc (.cells l.toArray ty)) [(w.heap.size,l)]:=(Bs.nil w).new rfl l ty
theorem Bs.two(w:World)(l m:List Value)(ty ty':TypeId):Bs w ((w.alloc (.cells l.toArray ty)).alloc (.cells m.toArray ty')) [(w.heap.size+1,m),(w.heap.size,l)]:=(Bs.one w l ty).new (by simp) m ty'
theorem Bs.three(w:World)(l m n:List Value)(ty ty' ty2:TypeId):Bs w (((w.alloc (.cells l.toArray ty)).alloc (.cells m.toArray ty')).alloc (.cells n.toArray ty2)) [(w.heap.size+1+1,n),(w.heap.size+1,m),(w.heap.size,l)]:=(Bs.two w l m ty ty').new (by simp) n ty2
theorem Bs.four(w:World)(l m n o:List Value)(ty ty' ty2 ty3:TypeId):Bs w ((((w.alloc (.cells l.toArray ty)).alloc (.cells m.toArray ty')).alloc (.cells n.toArray ty2)).alloc (.cells o.toArray ty3)) [(w.heap.size+1+1+1,o),(w.heap.size+1+1,n),(w.heap.size+1,m),(w.heap.size,l)]:=(Bs.three w l m n ty ty' ty2).new (by simp) o ty3
theorem Bs.cell(h:Bs w W L){q:Nat}{l:List Value}(hm:(q,l)∈L):Bx W q l:=(h.l _ hm).2.2
theorem Bs.lt(h:Bs w W L){q:Nat}{l:List Value}(hm:(q,l)∈L):q<W.heap.size:=(h.l _ hm).2.1
theorem Bs.sub(h:Bs w W L){M:List (Nat×List Value)}(hm:∀ p∈M,p∈L):Bs w W M:=⟨h.b,fun p hp=>h.l p (hm p hp)⟩
end
abbrev Sc.ls(s:Sc)(A:Option Addr)(n c:Nat):List Value:=[O J s.fl,O J s.gap,O J s.cars,O J s.cap,O J s.opn,O J s.dw,O J s.cl,O J s.tr,.slice A n c,O J s.disp,O J s.hor,O J s.bins,O J s.width]
abbrev Cr.ls(c:Cr)(A:Option Addr)(n k:Nat):List Value:=[O J c.pos,O J c.dir,O J c.mode,O J c.left,.bool c.wt,.slice A n k]
structure Ca where
 c:Cr
 A:Option Addr
 (n k:Nat)
 l:List Rid
abbrev QW(x:Ca):List Value:=x.c.ls x.A x.n x.k
structure Ca.ok(g:Int)(x:Ca):Prop where
 p0:0<=x.c.pos
 p1:x.c.pos<=127*g
 d0: -1<=x.c.dir
 d1:x.c.dir<=1
 n1:x.n<=1000
structure Cas(w:World)(B:Nat)(g:Int)(A:Option Addr)(n:Nat)(L:List Ca):Prop where
 r:Rd w B 6 A n (L.flatMap QW)
 len:L.length=n
 ri:∀ x∈L,Rds w B x.A x.n x.l
 ok:∀ x∈L,x.ok g
section
variable{w w':World}{B B' n:Nat}{g:Int}{A:Option Addr}{L:List Ca}
theorem Cas.below(h:Cas w B g A n L)(hb:Below B w w'):Cas w' B g A n L:=⟨h.r.below hb,h.len,fun x hx=>(h.ri x hx).below hb,h.ok⟩
theorem Cas.mono(h:Cas w B g A n L)(hB:B<=B'):Cas w B' g A n L:=⟨h.r.mono hB,h.len,fun x hx=>(h.ri x hx).mono hB,h.ok⟩
theorem Cas.at_(h:Cas w B g A n L){i:Nat}(hi:i<n):
  ∃b off x,A=some ⟨b,off,none⟩/\b<B/\L[i]?=some x/\x.ok g/\Rds w B x.A x.n x.l/\w.cell? ⟨b,off+i*6,none⟩=some (O J x.c.pos)/\w.cell? ⟨b,off+i*6+1,none⟩=some (O J x.c.dir)/\w.cell? ⟨b,off+i*6+2,none⟩=some (O J x.c.mode)/\w.cell? ⟨b,off+i*6+3,none⟩=some (O J x.c.left)/\w.cell? ⟨b,off+i*6+4,none⟩=some (.bool x.c.wt)/\w.cell? ⟨b,off+i*6+5,none⟩=some (.slice x.A x.n x.k):=by
 obtain⟨b,off,hA,hb,hc⟩:=h.r.at_ (by omega);have hg:L[i]?=some (L[i]'(by rw[h.len];exact hi)):=List.getElem?_eq_getElem _;have hm:L[i]'(by rw[h.len];exact hi)∈L:=List.getElem_mem _;generalize L[i]'(by rw[h.len];exact hi)=t at hg hm;have hf:∀ x,(QW x).length=6:=fun _=>rfl
 have g:=fun j(hj:j<6)=>flat_get hf L i j t hg hj
 have h0:=hc (i*6+0) _ ((g 0 (by omega)).trans rfl);exact⟨b,off,t,hA,hb,hg,h.ok t hm,h.ri t hm,h0,(Nat.add_assoc off (i*6) 1).symm▸hc (i*6+1) _ ((g 1 (by omega)).trans rfl),(Nat.add_assoc off (i*6) 2).symm▸hc (i*6+2) _ ((g 2 (by omega)).trans rfl),(Nat.add_assoc off (i*6) 3).symm▸hc (i*6+3) _ ((g 3 (by omega)).trans rfl),(Nat.add_assoc off (i*6) 4).symm▸hc (i*6+4) _ ((g 4 (by omega)).trans rfl),(Nat.add_assoc off (i*6) 5).symm▸hc (i*6+5) _ ((g 5 (by omega)).trans rfl)⟩
end
theorem Ints.info:(prog.info? 3).map (fun i=>(i.zero,i.size,i.bytes))=some (some (O J 0),1,8):=by kernel_rfl
theorem ZX(n:Int):yw n=-1\/yw n=0\/yw n=1:=by
 unfold yw;split
 ·exact .inl rfl
 ·split
  ·exact .inr (.inr rfl)
  ·exact .inr (.inl rfl)
theorem Y7{a b:Int}(h:a=b):(a==b)=true:=by simpa using h
theorem Ke{a b:Int}(h:a≠b):(a==b)=false:=by simpa using h
abbrev xD(a b:Value)(W:World)(q:Nat):Prop:=W.cell? ⟨q,0,none⟩=some a/\W.cell? ⟨q,1,none⟩=some b
abbrev dZ(a b c d:Value)(W:World)(q:Nat):Prop:=W.cell? ⟨q,0,none⟩=some a/\W.cell? ⟨q,1,none⟩=some b/\W.cell? ⟨q,2,none⟩=some c/\W.cell? ⟨q,3,none⟩=some d
abbrev Cr.K(s:Cr)(A:Option Addr)(n k:Nat)(W:World)(q:Nat):Prop:=W.cell? ⟨q,0,none⟩=some (O J s.pos)/\W.cell? ⟨q,1,none⟩=some (O J s.dir)/\W.cell? ⟨q,2,none⟩=some (O J s.mode)/\W.cell? ⟨q,3,none⟩=some (O J s.left)/\W.cell? ⟨q,4,none⟩=some (.bool s.wt)/\W.cell? ⟨q,5,none⟩=some (.slice A n k)
abbrev Sc.K(s:Sc)(A:Option Addr)(n k:Nat)(W:World)(q:Nat):Prop:=W.cell? ⟨q,0,none⟩=some (O J s.fl)/\W.cell? ⟨q,1,none⟩=some (O J s.gap)/\W.cell? ⟨q,2,none⟩=some (O J s.cars)/\W.cell? ⟨q,3,none⟩=some (O J s.cap)/\W.cell? ⟨q,4,none⟩=some (O J s.opn)/\W.cell? ⟨q,5,none⟩=some (O J s.dw)/\W.cell? ⟨q,6,none⟩=some (O J s.cl)/\W.cell? ⟨q,7,none⟩=some (O J s.tr)/\W.cell? ⟨q,8,none⟩=some (.slice A n k)/\W.cell? ⟨q,9,none⟩=some (O J s.disp)/\W.cell? ⟨q,10,none⟩=some (O J s.hor)/\W.cell? ⟨q,11,none⟩=some (O J s.bins)/\W.cell? ⟨q,12,none⟩=some (O J s.width)
theorem HB.Bx.take{W:World}{q:Nat}{l:List Value}(h:Bx W q l)(m:Nat){t:List Value}(e:l.take m=t):Bx W q t:=fun j u hu=>h j u (by
 rw[<-e,List.getElem?_take]at hu;split at hu
 ·exact hu
 ·cases hu)
theorem HB.Bx.k2{W:World}{q:Nat}{a b:Value}(h:Bx W q [a,b]):xD a b W q:=h.o2.1
theorem HB.Bx.k4{W:World}{q:Nat}{a b c d:Value}(h:Bx W q [a,b,c,d]):dZ a b c d W q:=h.o4.1
theorem HB.Bx.k6{W:World}{q n k:Nat}{l:List Value}{s:Cr}{A:Option Addr}(h:Bx W q l)(e:l.take 6=s.ls A n k):s.K A n k W q:=(h.take 6 e).o6.1
theorem HB.Bx.k13{W:World}{q n k:Nat}{l:List Value}{s:Sc}{A:Option Addr}(h:Bx W q l)(e:l.take 13=s.ls A n k):s.K A n k W q:=(h.take 13 e).o13.1
structure Tr where
 (id ar fr to_ car bo al:Int)
deriving Inhabited
abbrev kN(t:Tr):List Value:=[O J t.id,O J t.ar,O J t.fr,O J t.to_,O J t.car,O J t.bo,O J t.al]
abbrev Tr.v(t:Tr):Value:=.agg #[O J t.id,O J t.ar,O J t.fr,O J t.to_,O J t.car,O J t.bo,O J t.al]
def Tr.ph(t:Tr):Int:=if 0<=t.al then 2 else if 0<=t.bo then 1 else 0
def Trs(w:World)(B:Nat)(A:Option Addr)(n:Nat)(l:List Tr):Prop:=Rd w B 7 A n (l.flatMap kN)/\l.length=n
theorem Trip.info:(prog.info? 87).map (fun i=>(i.zero,i.size,i.bytes))=some (some (.agg #[O J 0,O J 0,O J 0,O J 0,O J 0,O J 0,O J 0]),7,56):=by kernel_rfl
theorem JP(t:Tr):∀ u∈kN t,u.oneCell'=true:=by intro u hu;simp[kN]at hu;rcases hu with rfl|rfl|rfl|rfl|rfl|rfl|rfl<;>rfl
theorem zr(w:World)(e:TypeId)(cs:List Value)(g:Nat)(hg:g=w.heap.size):∀ j u,cs[j]?=some u->(w.alloc (.cells cs.toArray e)).cell? ((⟨g,0,none⟩:Addr).add j)=some u:=by
 subst hg;intro j u hu;have key:∀ j,(w.alloc (.cells cs.toArray e)).cell? ⟨w.heap.size,j,none⟩=cs[j]?:=fun j=>by
  rw[cell_of_row _ w.heap.size j cs.toArray e (0,0) (heap_alloc_new w _)];simp
 unfold Addr.add;split
 ·rename_i h;subst h;rw[key];exact hu
 ·rw[Nat.zero_add,key];exact hu
section
variable{w w':World}{B B' n:Nat}{A:Option Addr}{l:List Tr}
theorem Trs.below(h:Trs w B A n l)(hb:Below B w w'):Trs w' B A n l:=⟨h.1.below hb,h.2⟩
theorem Trs.mono(h:Trs w B A n l)(hB:B<=B'):Trs w B' A n l:=⟨h.1.mono hB,h.2⟩
theorem Trs.at_(h:Trs w B A n l){i:Nat}(hi:i<n):
  ∃b off r,A=some ⟨b,off,none⟩/\b<B/\l[i]?=some r/\w.cell? ⟨b,off+i*7,none⟩=some (O J r.id)/\w.cell? ⟨b,off+i*7+1,none⟩=some (O J r.ar)/\w.cell? ⟨b,off+i*7+2,none⟩=some (O J r.fr)/\w.cell? ⟨b,off+i*7+3,none⟩=some (O J r.to_)/\w.cell? ⟨b,off+i*7+4,none⟩=some (O J r.car)/\w.cell? ⟨b,off+i*7+5,none⟩=some (O J r.bo)/\w.cell? ⟨b,off+i*7+6,none⟩=some (O J r.al):=by
 obtain⟨b,off,hA,hb,hc⟩:=h.1.at_ (by omega);have hg:l[i]?=some (l[i]'(by rw[h.2];exact hi)):=List.getElem?_eq_getElem _;generalize l[i]'(by rw[h.2];exact hi)=t at hg;have hf:∀ x,(kN x).length=7:=fun _=>rfl
 have g:=fun j(hj:j<7)=>flat_get hf l i j t hg hj
 have k:=fun(j:Nat)(hj:j<7)(u:Value)(hu:(kN t)[j]?=some u)=>(show w.cell? ⟨b,off+i*7+j,none⟩=some u from(Nat.add_assoc off (i*7) j).symm▸hc (i*7+j) _ ((g j hj).trans hu))
 exact⟨b,off,t,hA,hb,hg,k 0 (by omega) _ rfl,k 1 (by omega) _ rfl,k 2 (by omega) _ rfl,k 3 (by omega) _ rfl,k 4 (by omega) _ rfl,k 5 (by omega) _ rfl,k 6 (by omega) _ rfl⟩
end
theorem Own.trs{w:World}{base:Nat}{v:Value}{l:List Tr}(h:Own w base 87 7 kN v l):∃ A c,v=.slice A l.length c/\l.length<=c/\Trs w w.heap.size A l.length l:=by
 obtain⟨A,c,h1,h2,h3⟩:=h.shape;exact⟨A,c,h1,h2,h3,rfl⟩
theorem JQ(t:Tr)(w:World):Calls prog 32 #[t.v] w (fk (O J t.ph) w):=by
 by_cases h1:0<=t.al
 ·have e1:decide (0<=t.al)=true:=by simpa using h1
  go_enter func32,ntmps32;go_wp2_with fail;go_ret;exact⟨by unfold Tr.ph;rw[if_pos h1];rfl,by go_grown⟩
 ·have e1:decide (0<=t.al)=false:=by simpa using h1
  by_cases h2:0<=t.bo
  ·have e2:decide (0<=t.bo)=true:=by simpa using h2
   go_enter func32,ntmps32;go_wp2_with fail;go_ret;exact⟨by unfold Tr.ph;rw[if_neg (by omega),if_pos (by omega)];rfl,by go_grown⟩
  ·have e2:decide (0<=t.bo)=false:=by simpa using h2
   go_enter func32,ntmps32;go_wp2_with fail;go_ret;exact⟨by unfold Tr.ph;rw[if_neg (by omega),if_neg (by omega)];rfl,by go_grown⟩
def dn(t:Tr):Bool:=t.ph==2
theorem J3(A:Option Addr)(n k B:Nat)(l:List Tr)(w:World)(h:Trs w B A n l)(hB:B<=w.heap.size)(hn:n<=10000000):
  Calls prog 33 #[.slice A n k] w fun e w'=>∃ v,e=.returned v/\Own w' w.heap.size 87 7 kN v (l.filter dn)/\fj w w':=by
 have hll:=h.2;have HR:=ze h;clear h;go_enter func33,ntmps33;go_wp2_with fail
 go_loopw [3,8] (fun v i wr=>∃(j:Nat),j<=n/\i=O J j/\Own wr w.heap.size 87 7 kN v ((l.take j).filter dn)/\fj w wr) (fun _ i _=>n-(intOf i).toNat)
 case atStart=>exact⟨0,Nat.zero_le _,rfl,Own.nil _ _ _ _ _,fh⟩
 case round=>
  obtain⟨j,hj,rfl,hown,hb⟩:=hrel;have HO:=ze hown;have HB:=ze hb;have hz:=hb.size;clear hown hb;by_cases hlt:j<n
  ·obtain⟨b,off,r,rfl,hbb,hg,q0,q1,q2,q3,q4,q5,q6⟩:=(HR.o.below (HB.o.mono hB)).at_ hlt;have i0:(0:Int)<=(j:Int):=by omega
   have i1:(j:Int)<(n:Int):=by omega
   have HBB:=ze hbb;have HG:=ze hg;have hlen:((l.take j).filter dn).length<=1000000000:=Nat.le_trans (List.length_filter_le _ _) (by rw[List.length_take];omega);clear hg hbb;have HN:=ze (Bx.new wr (kN r) 87);by_cases hd:dn r=true
   ·have e2:(r.ph==2)=true:=hd;have HX:=ze ((show(l.take (j+1)).filter dn=(l.take j).filter dn++[r]from by rw[List.take_add_one,HG.o,List.filter_append];simp[hd]));go_wp2_with(first
     |(go_at_call 32;refine(JQ r _).mono ?_;rintro e w1 ⟨rfl,hb1⟩;have HB1:=ze (show fj w w1 from(HB.o.alloc hz _).trans (hb1.mono (by simp;omega)));have HO1:=ze (HO.o.below ((fh.alloc fi _).trans (hb1.mono (by simp))));obtain⟨c0,c1,c2,c3,c4,c5,c6⟩:=(show w1.cell? ⟨wr.heap.size,0,none⟩=some (O J r.id)/\w1.cell? ⟨wr.heap.size,1,none⟩=some (O J r.ar)/\w1.cell? ⟨wr.heap.size,2,none⟩=some (O J r.fr)/\w1.cell? ⟨wr.heap.size,3,none⟩=some (O J r.to_)/\w1.cell? ⟨wr.heap.size,4,none⟩=some (O J r.car)/\w1.cell? ⟨wr.heap.size,5,none⟩=some (O J r.bo)/\w1.cell? ⟨wr.heap.size,6,none⟩=some (O J r.al)from by have hx:=HN.o.below hb1 (by simp);exact⟨(hx 0 _ rfl).1,(hx 1 _ rfl).1,(hx 2 _ rfl).1,(hx 3 _ rfl).1,(hx 4 _ rfl).1,(hx 5 _ rfl).1,(hx 6 _ rfl).1⟩);have hz1:=HB1.o.size;clear hb1)
     |(at_builtin;refine push rfl _ _ 39 rfl underlying39 Trip.info rfl (by omega) (by omega) rfl (HO1.o.alloc _) r ⟨_,0,none⟩ 1 rfl rfl (zr _ _ (kN r) _ rfl) (JP r) hlen (by simp;omega) ?_;intro v' w2 hown2 hb2))
    go_roundw
    case rel=>exact⟨j+1,by omega,by go_num,by rw[HX.o];exact hown2,(HB1.o.alloc hz1 _).trans hb2⟩
    case measure=>simp[intOf];omega
   ·have e2:(r.ph==2)=false:=by simpa[dn]using hd
    have HX:=ze ((show(l.take (j+1)).filter dn=(l.take j).filter dn from by rw[List.take_add_one,HG.o,List.filter_append];simp[hd]));go_wp2_with(go_at_call 32;refine(JQ r _).mono ?_;rintro e w1 ⟨rfl,hb1⟩;have HB1:=ze (show fj w w1 from(HB.o.alloc hz _).trans (hb1.mono (by simp;omega)));have HO1:=ze (HO.o.below ((fh.alloc fi _).trans (hb1.mono (by simp))));clear hb1);go_roundw
    case rel=>exact⟨j+1,by omega,by go_num,by rw[HX.o];exact HO1.o,HB1.o⟩
    case measure=>simp[intOf];omega
  ·obtain rfl:j=n:=by omega
   go_wp2_with fail;go_ret;exact⟨_,rfl,by have:=HO.o;rw[<-hll,List.take_length]at this;exact this,HB.o⟩
theorem JS{a g:Int}(h0:0<=a)(h1:a<=128)(g0:1<=g)(g1:g<=16):0<=a*g/\a*g<=2048:=by
 have h2:0<=a*g:=Int.mul_nonneg h0 (by omega);have h3:a*g<=128*g:=Int.mul_le_mul_of_nonneg_right h1 (by omega);omega
theorem VG(f c k:Int)(w:World)(hf:f≠0):Calls prog 220 #[O J f,O J c,O J k] w fun e w'=>RI e/\fj w w':=by
 go_enter func220,ntmps220;go_wp2_with fail;go_ret;exact⟨⟨_,rfl⟩,by go_grown⟩
theorem Ka(f c k p n:Int)(w:World)(hc:c≠0)(hp:p=k*f)(h0:0<=p)(h1:p<=1000000)(c0:0<c)(c1:c<=1000)(hn:n=min ((p+c-1)/c) (f-1))(f0:0<=f)(f1:f<=1000):Calls prog 177 #[O J f,O J c,O J k] w (fk (O J n) w):=by
 have hq:(p+c-1).tdiv c=(p+c-1)/c:=Int.tdiv_eq_ediv_of_nonneg (by omega);have hq0:0<=(p+c-1)/c:=Int.ediv_nonneg (by omega) (by omega);have hq1:(p+c-1)/c<=p+c-1:=by
  have:=Int.ediv_le_self (a:=p+c-1) c (by omega);omega
 have ew:IntKind.i64.wrap (k*f)=p:=by rw[<-hp,IntKind.wrap_i64];omega
 have ew1:IntKind.i64.wrap (p+c)=p+c:=by rw[IntKind.wrap_i64];omega
 have ew2:IntKind.i64.wrap (p+c-1)=p+c-1:=by rw[IntKind.wrap_i64];omega
 have ew3:IntKind.i64.wrap ((p+c-1)/c)=(p+c-1)/c:=by rw[IntKind.wrap_i64];omega
 have ew4:IntKind.i64.wrap (f-1)=f-1:=by rw[IntKind.wrap_i64];omega
 clear hp;have HN:=ze hn;clear hn;have hfirst:∀ W,Calls prog 214 #[O J f,O J c,O J k] W (fm (O J ((p+c-1)/c)) W):=by
  intro W;go_enter func214,ntmps214;go_wp2_with fail;go_ret;exact⟨rfl,rfl⟩
 go_enter func177,ntmps177;go_wp2_with(go_at_call 214;refine(hfirst _).mono ?_;rintro e w1 ⟨rfl,rfl⟩);go_ret;exact⟨zJ HN.o.symm,by go_grown⟩
theorem uC(s:Sc)(A:Option Addr)(n c:Nat)(k:Int)(w:World):Calls prog 271 #[s.v A n c,O J k] w fun e w'=>RI e/\fj w w':=by
 go_enter func271,ntmps271;go_wp2_with fail;go_ret;exact⟨⟨_,rfl⟩,by go_grown⟩
theorem WP(s:Sc)(A:Option Addr)(n k:Nat)(c:Cr)(A':Option Addr)(n' k':Nat)(w:World):Calls prog 273 #[s.v A n k,c.v A' n' k'] w fun e w'=>RI e/\fj w w':=by
 by_cases h2:c.mode=2
 ·go_enter func273,ntmps273;go_wp2_with fail;go_ret;exact⟨⟨_,rfl⟩,by go_grown⟩
 by_cases h3:c.mode=3
 ·go_enter func273,ntmps273;go_wp2_with fail;go_ret;exact⟨⟨_,rfl⟩,by go_grown⟩
 by_cases h4:c.mode=4
 ·go_enter func273,ntmps273;go_wp2_with fail;go_ret;exact⟨⟨_,rfl⟩,by go_grown⟩
 go_enter func273,ntmps273;go_wp2_with fail;go_ret;exact⟨⟨_,rfl⟩,by go_grown⟩
theorem Kc(c:Cr)(A:Option Addr)(n k:Nat)(w:World):Calls prog 145 #[c.v A n k] w fun e w'=>RB e/\fj w w':=by
 by_cases h2:2<=c.mode
 ·go_enter func145,ntmps145;go_wp2_with fail;go_ret;exact⟨⟨_,rfl⟩,by go_grown⟩
 ·go_enter func145,ntmps145;go_wp2_with fail;go_ret;exact⟨⟨_,rfl⟩,by go_grown⟩
theorem VH(i t f g:Int)(w:World):Calls prog 185 #[.agg #[O J i,O J t,O J f,O J g]] w (fk (.agg #[O J i,O J t,O J f,O J g,O J (-1),O J (-1),O J (-1)]) w):=by
 go_enter func185,ntmps185;go_wp2_with fail;refine bodyPost_ret (v:=.agg #[O J i,O J t,O J f,O J g,O J (-1),O J (-1),O J (-1)]) (by rw[zi rfl];go_simp) rfl ?_;exact⟨rfl,by go_grown⟩
theorem uD(A:Option Addr)(n c B:Nat)(l:List Int)(w:World)(h:Rd w B 1 A n (l.map (Value.int .i64)))(hn:n<=1000000):Calls prog 248 #[.slice A n c] w fun e w'=>RI e/\w'=w:=by
 have hl:l.length=n:=by have:=h.1;simpa using this
 have HR:=ze h;clear h;go_enter func248,ntmps248;go_wp2_with fail
 go_loopw [3,8] (fun b i wr=>∃(k:Nat)(m:Int),k<=n/\i=O J k/\b=O J m/\(m=-1\/∃ j:Nat,m=j/\j<n)/\wr=w) (fun _ i _=>n-(intOf i).toNat)
 case atStart=>exact⟨0,-1,Nat.zero_le _,rfl,rfl,.inl rfl,rfl⟩
 case round=>
  obtain⟨k,m,hk,rfl,rfl,hm,rfl⟩:=hrel;by_cases hlt:k<n
  ·obtain⟨b,off,hA,hbb,hc⟩:=HR.o.at_ (by omega);have hg:l[k]?=some (l[k]'(by omega)):=List.getElem?_eq_getElem _;have ck:=hc k (O J (l[k]'(by omega))) (by rw[List.getElem?_map,hg];rfl);generalize l[k]'(by omega)=x at ck;have i0:(0:Int)<=(k:Int):=by omega
   have i1:(k:Int)<(n:Int):=by omega
   subst hA;rcases hm with rfl|⟨j,rfl,hj⟩
   ·clear hc hg;go_wp2_with fail;go_roundw
    case rel=>exact⟨k+1,k,by omega,by go_num,rfl,.inr ⟨k,rfl,hlt⟩,trivial⟩
    case measure=>simp[intOf];omega
   ·have hg2:l[j]?=some (l[j]'(by omega)):=List.getElem?_eq_getElem _;have cj:=hc j (O J (l[j]'(by omega))) (by rw[List.getElem?_map,hg2];rfl);generalize l[j]'(by omega)=y at cj;have j0:(0:Int)<=(j:Int):=by omega
    have j1:(j:Int)<(n:Int):=by omega
    have j2:¬ ((j:Int)<0):=by omega
    clear hc hg hg2;by_cases hxy:x<y
    ·go_wp2_with fail;go_roundw
     case rel=>exact⟨k+1,k,by omega,by go_num,rfl,.inr ⟨k,rfl,hlt⟩,trivial⟩
     case measure=>simp[intOf];omega
    ·go_wp2_with fail;go_roundw
     case rel=>exact⟨k+1,j,by omega,by go_num,rfl,.inr ⟨j,rfl,hj⟩,trivial⟩
     case measure=>simp[intOf];omega
  ·obtain rfl:k=n:=by omega
   go_wp2_with fail;go_ret;exact⟨⟨_,rfl⟩,rfl⟩
theorem YT(s:Sc)(hs:s.ok)(sA:Option Addr)(sn sk:Nat)(cr:Cr)(A:Option Addr)(n k:Nat)(fl d:Int)(w:World)(p0: -1000000<=cr.pos)(p1:cr.pos<=1000000)(f0:0<=fl)(f1:fl<=128):
  Calls prog 247 #[s.v sA sn sk,cr.v A n k,O J fl,O J d] w fun r w'=>RI r/\fj w w':=by
 have g0:=hs.gap.1;have g1:=hs.gap.2;have HB0:=ze (Bs.two w (s.ls sA sn sk) (cr.ls A n k) 25 265);have ht:=JS f0 f1 g0 g1;have hh:=JS (a:=s.fl-1) (g:=s.gap) (by have:=hs.fl;omega) (by have:=hs.fl;omega) g0 g1;have HAT:=ze (fun V=>kP fl s.gap (fl*s.gap) V rfl (by omega) (by omega));have HTOP:=ze (fun V=>YN s.fl s.gap ((s.fl-1)*s.gap) V rfl (by omega) (by omega) (by have:=hs.fl;omega) (by have:=hs.fl;omega));generalize fl*s.gap=P at HAT ht;generalize(s.fl-1)*s.gap=T at HTOP hh;have HFAR:=ze (fun V=>YO cr.pos P V (by omega) (by omega));have HDIR:=ze (fun V=>qn cr.pos P V (by omega) (by omega));have hfr:0<=max (cr.pos-P) (P-cr.pos)/\max (cr.pos-P) (P-cr.pos)<=2000000:=by omega
 generalize max (cr.pos-P) (P-cr.pos)=F at HFAR hfr;generalize yw (P-cr.pos)=D at HDIR;obtain⟨hf0,hf1⟩:=hfr;obtain⟨hh0,hh1⟩:=hh;clear ht;go_enter func247,ntmps247;go_upto_region 1 with(fail);refine j9 (w:=w) (fun W=>Bs w W [(w.heap.size+1,cr.ls A n k),(w.heap.size,s.ls sA sn sk)]) HB0.o (by go_grown) (by simp;omega) ?_;rintro W hb hbW hzW;clear HB0 hbW hzW;have HB:=ze hb;obtain⟨⟨s0,s1,s2,s3,s4,s5,s6,s7,s8,s9,s10,s11,s12⟩,-⟩:=(HB.o.cell (q:=w.heap.size) (l:=s.ls sA sn sk) (by simp)).o13;obtain⟨⟨c0,c1,c2,c3,c4,c5⟩,-⟩:=(HB.o.cell (q:=w.heap.size+1) (l:=cr.ls A n k) (by simp)).o6;clear hb;go_wp2_with(go_at_call 176;refine(HAT.o _).mono ?_;rintro e w1 ⟨rfl,rfl⟩);go_quiet((first|(go_at_call 270;exact Calls.quiet_of_same (HFAR.o _))|(go_at_call 76;exact Calls.quiet_of_same (HTOP.o _))));by_cases h0:cr.dir=0
 ·go_wp2_with fail;go_ret;exact⟨⟨_,rfl⟩,zg HB.o.b _⟩
 ·have e0:(cr.dir==0)=false:=by simpa using h0
  clear h0;by_cases h1:0<F
  ·have e1:decide (0<F)=true:=decide_eq_true h1;rcases Int.decEq D cr.dir with h2|h2
   ·have e2:(D !=cr.dir)=true:=by simpa using h2
    clear h2;go_wp2_with fail;go_quiet((go_at_call 188;exact zT (HDIR.o _)));go_wp2_with fail;go_ret;exact⟨⟨_,rfl⟩,zg HB.o.b _⟩
   ·have e2:(D !=cr.dir)=false:=by simpa using h2
    clear h2;go_wp2_with fail;go_quiet((go_at_call 188;exact zT (HDIR.o _)));go_wp2_with fail
    all_goals
     go_ret;exact⟨⟨_,rfl⟩,zg HB.o.b _⟩
  ·have e1:decide (0<F)=false:=decide_eq_false h1;go_wp2_with fail;go_quiet((go_at_call 188;exact zT (HDIR.o _)));go_wp2_with fail
   all_goals
    go_ret;exact⟨⟨_,rfl⟩,zg HB.o.b _⟩
theorem YU(s:Sc)(hs:s.ok)(sA:Option Addr)(sn sk:Nat)(A:Option Addr)(n k B:Nat)(L:List Ca)(fl d:Int)(w:World)(h:Cas w B s.gap A n L)(hB:B<=w.heap.size)(hn:n<=1000)(f0:0<=fl)(f1:fl<=128):
  Calls prog 219 #[s.v sA sn sk,.slice A n k,O J fl,O J d] w fun r w'=>RI r/\fj w w':=by
 have g0:=hs.gap.1;have g1:=hs.gap.2;have HB0:=ze (Bs.one w (s.ls sA sn sk) 25);have HL:=ze h;clear h;go_enter func219,ntmps219;go_wp2_with fail
 go_loopw [9,14] (fun v i wr=>∃(j:Nat)(l:List Int),j<=n/\i=O J j/\l.length=j/\Own wr (w.heap.size+1) 3 1 (fa .i64) v l/\Bs w wr [(w.heap.size,s.ls sA sn sk)]) (fun _ i _=>n-(intOf i).toNat)
 case atStart=>exact⟨0,[],Nat.zero_le _,rfl,rfl,Own.nil _ _ _ _ _,HB0.o⟩
 case round=>
  obtain⟨j,l,hj,rfl,hl,hown,hb⟩:=hrel;have HO:=ze hown;have HB:=ze hb;have HLL:=ze hl;have hz:w.heap.size<wr.heap.size:=hb.lt (q:=w.heap.size) (l:=s.ls sA sn sk) (by simp);obtain⟨⟨s0,s1,s2,s3,s4,s5,s6,s7,s8,s9,s10,s11,s12⟩,-⟩:=(HB.o.cell (q:=w.heap.size) (l:=s.ls sA sn sk) (by simp)).o13;clear hown hb hl;by_cases hlt:j<n
  ·obtain⟨b,off,x,rfl,hbb,hx,hok,hri,c0,c1,c2,c3,c4,c5⟩:=((HL.o.below (HB.o.b.mono hB))).at_ hlt;have i0:(0:Int)<=(j:Int):=by omega
   have i1:(j:Int)<(n:Int):=by omega
   have HX:=ze hx;have HC:=ze (fun V=>YT s hs sA sn sk x.c x.A x.n x.k fl d V (by have:=hok.p0;omega) (by have:=hok.p1;omega) f0 f1);clear hx hok hri;go_wp2_with(first
    |(go_at_call 247;refine(HC.o _).mono ?_;rintro r w1 ⟨⟨z,rfl⟩,hb1⟩;have hwr1:fj wr w1:=(fh.alloc fi _).trans (hb1.mono (by simp));have HO1:=ze (HO.o.below hwr1);have HB1:=ze (HB.o.step hwr1);have hz1:=hwr1.size;have hl1:l.length<=1000000000:=(by have:=HLL.o;omega);clear hb1 hwr1 s0 s1 s2 s3 s4 s5 s6 s7 s8 s9 s10 s11 s12 c0 c1 c2 c3 c4 c5)
    |(at_builtin;refine push rfl _ _ 51 rfl underlying51 Ints.info rfl (by omega) (by omega) rfl (HO1.o.alloc _) z ⟨_,0,none⟩ 1 rfl rfl (cell_one_new _ _ _) (by simp[Value.oneCell']) hl1 (by simp;omega) ?_;intro v' w2 hown2 hb2))
   go_roundw
   case rel=>exact⟨j+1,l++[z],by omega,by go_num,by rw[List.length_append,HLL.o];rfl,hown2,(HB1.o.step (fh.alloc fi _)).stepB hb2 (by omega) (by simp)⟩
   case measure=>simp[intOf];omega
  ·obtain rfl:j=n:=by omega
   obtain⟨A2,c2,rfl,-,hrd⟩:=HO.o.ints;have hll:l.length<=1000000:=by have:=HLL.o;omega
   have HRD:=ze hrd;clear hrd;go_wp2_with(go_at_call 248;refine(uD A2 l.length c2 _ l _ HRD.o hll).mono ?_;rintro r w3 ⟨⟨z,rfl⟩,rfl⟩);go_ret;exact⟨⟨_,rfl⟩,HB.o.b⟩
theorem vM(c:Cr)(A:Option Addr)(n k B:Nat)(l:List Rid)(w:World)(h:Rds w B A n l)(hB:B<=w.heap.size)(hn:n<=1000000):Calls prog 251 #[c.v A n k] w fun e w'=>QU e/\fj w w':=by
 have HR:=ze h;have HB0:=ze (show fj w (((w.alloc (.cells (c.cells A n k) 265)).alloc (.cells #[O U 0,O U 0] 325)).alloc (.cells #[O U 0,O U 0] 325))from by go_grown);have HB2:=ze (Bx.two (w.alloc (.cells (c.cells A n k) 265)) [O U 0,O U 0] [O U 0,O U 0] 325 325 (by decide));clear h;go_enter func251,ntmps251;go_wp2_with fail
 go_loopw [9] (fun i wr=>∃(j:Nat)(x y:Int),j<=n/\i=O J j/\Bx wr (w.heap.size+1) [O U 0,O U 0]/\Bx wr (w.heap.size+2) [O U x,O U y]/\fj w wr) (fun i _=>n-(intOf i).toNat)
 case atStart=>exact⟨0,0,0,Nat.zero_le _,rfl,by have:=HB2.o.1;simpa using this,by have:=HB2.o.2;simpa using this,HB0.o⟩
 case round=>
  obtain⟨j,x,y,hj,rfl,h1,h2,hb⟩:=hrel;have H1:=ze h1;have H2:=ze h2;have HW:=ze hb;have hz1:=h1.lt (by simp);have hz2:=h2.lt (by simp);obtain⟨⟨c0,c1⟩,f0,f1⟩:=h1.o2;obtain⟨⟨d0,d1⟩,g0,g1⟩:=h2.o2;clear h1 h2 hb;by_cases hlt:j<n
  ·obtain⟨b,off,r,rfl,hbb,hg,q0,q1⟩:=(HR.o.below (HW.o.mono hB)).at_ hlt;have i0:(0:Int)<=(j:Int):=by omega
   have i1:(j:Int)<(n:Int):=by omega
   have HBB:=ze hbb;clear hg hbb;go_wp2_with(go_at_call 231;refine(QV x y r.to_ _).mono ?_;rintro e w1 ⟨⟨x',y',rfl⟩,hb1⟩;have H11:=ze (H1.o.below (fh.alloc fi _ |>.trans (hb1.mono (by simp))) hz1);have H21:=ze (H2.o.below (fh.alloc fi _ |>.trans (hb1.mono (by simp))) hz2);have HB1:=ze hb1;clear c0 c1 d0 d1 f0 f1 g0 g1;obtain⟨⟨d0,d1⟩,g0,g1⟩:=H21.o.o2);go_roundw
   case rel=>
    refine⟨j+1,x',y',by omega,by go_num,(H11.o.setOther (by simp) _).setOther (by simp) _,by have:=(H21.o.set 0 (O U x')).set 1 (O U y');simpa using this,?_⟩;exact((((HW.o.alloc HW.o.size _).trans (HB1.o.mono (by have:=HW.o.size;simp;omega))).setCell (p:=⟨w.heap.size+1+1,0,none⟩) (by simp only;omega) _).setCell (p:=⟨w.heap.size+1+1,1,none⟩) (by simp only;omega) _)
   case measure=>simp[intOf];omega
  ·obtain rfl:j=n:=by omega
   go_wp2_with fail;refine bodyPost_ret (v:=zy x y) (by rw[zi rfl];go_simp) rfl ?_;exact⟨⟨_,_,rfl⟩,(HW.o.setCell (p:=⟨w.heap.size+1,0,none⟩) (Nat.le_succ _) _).setCell (p:=⟨w.heap.size+1,1,none⟩) (Nat.le_succ _) _⟩
abbrev db:List Value:=[.string ⟨#[102,108,111,111,114,115]⟩,.string ⟨#[103,97,112]⟩,.string ⟨#[99,97,114,115]⟩,.string ⟨#[99,97,112,97,99,105,116,121]⟩,.string ⟨#[111,112,101,110]⟩,.string ⟨#[100,119,101,108,108]⟩,.string ⟨#[99,108,111,115,101]⟩,.string ⟨#[116,114,97,110,115,102,101,114]⟩,.string ⟨#[104,111,114,105,122,111,110]⟩,.string ⟨#[98,105,110,115]⟩,.string ⟨#[119,105,100,116,104]⟩]
abbrev dc(s:Sc):List Value:=[O J s.fl,O J s.gap,O J s.cars,O J s.cap,O J s.opn,O J s.dw,O J s.cl,O J s.tr,O J s.hor,O J s.bins,O J s.width]
def dR(s:Sc):List Bool:=[decide (2<=s.fl/\s.fl<=128),decide (1<=s.gap/\s.gap<=16),decide (1<=s.cars/\s.cars<=16),decide (1<=s.cap/\s.cap<=64),decide (1<=s.opn/\s.opn<=64),decide (1<=s.dw/\s.dw<=64),decide (1<=s.cl/\s.cl<=64),decide (1<=s.tr/\s.tr<=64),decide (1<=s.hor/\s.hor<=1048576),decide (1<=s.bins/\s.bins<=64),decide (1<=s.width/\s.width<=4096)]
theorem UU(s:Sc)(i:Nat)(hi:i<11):∃ x y b,db[i]?=some x/\(dc s)[i]?=some y/\(dR s)[i]?=some b/\∀ w,Calls prog 66 #[x,y] w (fk (.bool b) w):=by
 match i,hi with
 |0,_=>exact⟨_,_,_,rfl,rfl,rfl,ZN _⟩
 |1,_=>exact⟨_,_,_,rfl,rfl,rfl,XP _⟩
 |2,_=>exact⟨_,_,_,rfl,rfl,rfl,Vh _⟩
 |3,_=>exact⟨_,_,_,rfl,rfl,rfl,uc _⟩
 |4,_=>exact⟨_,_,_,rfl,rfl,rfl,Vi _⟩
 |5,_=>exact⟨_,_,_,rfl,rfl,rfl,QG _⟩
 |6,_=>exact⟨_,_,_,rfl,rfl,rfl,QH _⟩
 |7,_=>exact⟨_,_,_,rfl,rfl,rfl,ud _⟩
 |8,_=>exact⟨_,_,_,rfl,rfl,rfl,Zj _⟩
 |9,_=>exact⟨_,_,_,rfl,rfl,rfl,Vk _⟩
 |10,_=>exact⟨_,_,_,rfl,rfl,rfl,QJ _⟩
theorem Hm{Q:World->Prop}{w W:World}(S:World->Prop)(hS:S W)(hb:Below w.heap.size w W)(h:∀ W':World,S W'->Below w.heap.size w W'->Q W'):Q W:=h W hS hb
def eI(s:Sc)(w:World)(e:Ending)(w':World):Prop:=∃ z:Int,e=.returned (O J z)/\(z=0->s.ok)/\Below w.heap.size w w'
theorem cT{s:Sc}(h:∀(j:Nat)(b:Bool),(dR s)[j]?=some b->b=true)(h1:1<=s.disp/\s.disp<=4)(h2:1<=s.segs.length/\s.segs.length<=8)(h3:∀ g∈s.segs,g.ok):s.ok:=
 ⟨of_decide_eq_true (h 0 _ rfl),of_decide_eq_true (h 1 _ rfl),of_decide_eq_true (h 2 _ rfl),of_decide_eq_true (h 3 _ rfl),of_decide_eq_true (h 4 _ rfl),of_decide_eq_true (h 5 _ rfl),of_decide_eq_true (h 6 _ rfl),of_decide_eq_true (h 7 _ rfl),of_decide_eq_true (h 8 _ rfl),of_decide_eq_true (h 9 _ rfl),of_decide_eq_true (h 10 _ rfl),h1,h2,h3⟩
theorem UV(s:Sc)(A:Option Addr)(n c:Nat)(w:World)(hg:Sgs w w.heap.size A n s.segs)(hn:n<=1000):Calls prog 46 #[s.v A n c] w (eI s w):=by
 have HG:=ze hg;have hgl:s.segs.length=n:=hg.2;have HB0:=ze (Bs.three w (s.ls A n c) db (dc s) 25 139 140);clear hg;go_enter func46,ntmps46;go_upto_region 3 with(fail);refine Hm (w:=w) (fun V=>Bs w V [(w.heap.size+1+1,dc s),(w.heap.size+1,db),(w.heap.size,s.ls A n c)]) HB0.o HB0.o.b ?_;clear HB0;rintro V hbs hbV;have HBS:=ze hbs;clear hbs hbV;go_wp2_with fail
 go_loopw [5] (fun v wr=>∃ i:Nat,i<=11/\v=O J i/\(∀(j:Nat)(b:Bool),j<i->(dR s)[j]?=some b->b=true)/\Bs w wr [(w.heap.size+1+1,dc s),(w.heap.size+1,db),(w.heap.size,s.ls A n c)]) (fun v _=>11-(intOf v).toNat)
 case atStart=>exact⟨0,by omega,rfl,fun j b h=>absurd h (by omega),HBS.o⟩
 case round=>
  obtain⟨i,hi,rfl,hal,hbs⟩:=hrel;have HAL:=ze hal;have HB:=ze hbs;clear hal HBS;by_cases hlt:i<11
  ·obtain⟨x,y,b,hx,hy,hb,hc⟩:=UU s i hlt;have HC:=ze hc;have HBB:=ze hb;have c1:=((hbs.cell (q:=w.heap.size+1) (l:=db) (by simp)) i x hx).1;have c2:=((hbs.cell (q:=w.heap.size+1+1) (l:=dc s) (by simp)) i y hy).1;have i0:(0:Int)<=(i:Int):=by omega
   have i1:(i:Int)<11:=by omega
   have hz1:=hbs.lt (q:=w.heap.size+1) (l:=db) (by simp);have hz2:=hbs.lt (q:=w.heap.size+1+1) (l:=dc s) (by simp);have MK:=ze (fun V(hb:Below wr.heap.size wr V)=>(show V.cell? ⟨w.heap.size+1,i,none⟩=some x/\V.cell? ⟨w.heap.size+1+1,i,none⟩=some y/\Below wr.heap.size wr V from⟨zf hb c1,zf hb c2,hb⟩));clear hc hx hy hb hbs;go_upto_region 6 with(fail);cases b with
   |true=>
    go_region_held3 (fun V=>V.cell? ⟨w.heap.size+1,i,none⟩=some x/\V.cell? ⟨w.heap.size+1+1,i,none⟩=some y/\Below wr.heap.size wr V)
     (((refine MK.o _ ?_);(first|(with_reducible exact HB4.o)|(go_grown;done)|(go_grown;with_reducible exact HB4.o))))
     (first|(go_at_call 66;go_split_ands;refine(HC.o _).mono ?_;rintro e w4 ⟨rfl,hb4⟩;have HB4:=ze ((‹Below wr.heap.size wr _›).trans (hb4.mono (‹Below wr.heap.size wr _›).size));clear hb4))
    all_goals
     go_wp2_with fail;go_roundw
     case rel=>exact⟨i+1,by omega,by go_num,fun j b' hj hb'=>(by
      rcases Nat.lt_or_ge j i with h|h
      ·exact HAL.o j b' h hb'
      ·have:j=i:=by omega
       subst this;rw[HBB.o]at hb';cases hb';rfl),HB.o.step HB4.o⟩
     case measure=>simp[intOf];omega
   |false=>
    go_region_held3 (fun V=>V.cell? ⟨w.heap.size+1,i,none⟩=some x/\V.cell? ⟨w.heap.size+1+1,i,none⟩=some y/\Below wr.heap.size wr V)
     (((refine MK.o _ ?_);(first|(with_reducible exact HB4.o)|(go_grown;done)|(go_grown;with_reducible exact HB4.o))))
     (first|(go_at_call 66;go_split_ands;refine(HC.o _).mono ?_;rintro e w4 ⟨rfl,hb4⟩;have HB4:=ze ((‹Below wr.heap.size wr _›).trans (hb4.mono (‹Below wr.heap.size wr _›).size));clear hb4))
    all_goals
     go_wp2_with fail;go_ret;exact⟨264,rfl,fun h=>absurd h (by decide),(HB.o.step HB4.o).b⟩
  ·have h11:¬ ((i:Int)<11):=by omega
   have HAL:=ze (show∀(j:Nat)(b:Bool),j<11->(dR s)[j]?=some b->b=true from fun j b hj=>HAL.o j b (by omega));clear hi hlt;have hz0:=hbs.lt (q:=w.heap.size) (l:=s.ls A n c) (by simp);have a8:=((hbs.cell (q:=w.heap.size) (l:=s.ls A n c) (by simp)) 8 _ rfl).1;have a9:=((hbs.cell (q:=w.heap.size) (l:=s.ls A n c) (by simp)) 9 _ rfl).1;clear hbs;by_cases hd1:s.disp<1
   ·have e1:decide (s.disp<1)=true:=by simpa using hd1
    go_wp2_with fail;go_ret;exact⟨260,rfl,fun h=>absurd h (by decide),HB.o.b⟩
   ·have e1:decide (s.disp<1)=false:=by simpa using hd1
    by_cases hd2:4<s.disp
    ·have e2:decide (4<s.disp)=true:=by simpa using hd2
     go_wp2_with fail;go_ret;exact⟨260,rfl,fun h=>absurd h (by decide),HB.o.b⟩
    ·have e2:decide (4<s.disp)=false:=by simpa using hd2
     have HD:=ze (show 1<=s.disp/\s.disp<=4 by omega);by_cases hn0:n=0
     ·have e3:((n:Int)==0)=true:=by simp;omega
      go_wp2_with fail;go_ret;exact⟨263,rfl,fun h=>absurd h (by decide),HB.o.b⟩
     ·have e3:((n:Int)==0)=false:=by simp;omega
      by_cases hn8:8<n
      ·have e4:decide (8<(n:Int))=true:=by simp;omega
       go_wp2_with fail;go_ret;exact⟨21,rfl,fun h=>absurd h (by decide),HB.o.b⟩
      ·have e4:decide (8<(n:Int))=false:=by simp;omega
       have HNN:=ze (show 1<=s.segs.length/\s.segs.length<=8 by omega);clear hd1 hd2;go_wp2_with fail;clear a8 a9;have HB1:=ze (HB.o.sub (M:=[(w.heap.size,s.ls A n c)]) (by simp));clear HB;obtain⟨W1,hW1⟩:∃ W1,W1=wr:=⟨_,rfl⟩;subst hW1
       go_loopw [6] (fun v wr=>∃ i:Nat,i<=n/\v=O J i/\(∀g∈s.segs.take i,g.ok)/\Bs w wr [(w.heap.size,s.ls A n c)]) (fun v _=>n-(intOf v).toNat)
       case atStart=>exact⟨0,Nat.zero_le _,rfl,fun g h=>by simp at h,HB1.o⟩
       case round=>
        obtain⟨i,hi,rfl,hsg,hbs⟩:=hrel;have HSG:=ze hsg;have HB:=ze hbs;have a8:=((hbs.cell (q:=w.heap.size) (l:=s.ls A n c) (by simp)) 8 _ rfl).1;have hz0:=hbs.lt (q:=w.heap.size) (l:=s.ls A n c) (by simp);clear hsg HB1;by_cases hlt:i<n
        ·obtain⟨gb,go,g,rfl,hgb,hgg,k0,k1,k2⟩:=(HG.o.below hbs.b).at_ hlt;have HGG:=ze hgg;have i0:(0:Int)<=(i:Int):=by omega
         have i1:(i:Int)<(n:Int):=by omega
         have hgz:gb<wr.heap.size:=by omega
         clear hgg hbs;have HT:=ze (fun W=>QI g.t W);unfold Vv at HT;have HR:=ze (fun W=>Vj g.r W);unfold Vv at HR;by_cases hk1:g.k<1
         ·have f1:decide (g.k<1)=true:=by simpa using hk1
          go_wp2_with fail;go_ret;exact⟨260,rfl,fun h=>absurd h (by decide),(HB.o.step ((Below.refl _ wr).alloc fi _)).b⟩
         ·have f1:decide (g.k<1)=false:=by simpa using hk1
          by_cases hk2:4<g.k
          ·have f2:decide (4<g.k)=true:=by simpa using hk2
           go_wp2_with fail;go_ret;exact⟨260,rfl,fun h=>absurd h (by decide),(HB.o.step ((Below.refl _ wr).alloc fi _)).b⟩
          ·have f2:decide (4<g.k)=false:=by simpa using hk2
           cases hbt:decide (1<=g.t/\g.t<=1048576)with
           |false=>
            rw[hbt]at HT;go_wp2_with(go_at_call 66;(with_reducible refine(HT.o _).mono ?_);rintro r w4 ⟨rfl,hb4⟩;have HB4:=ze (((Below.refl wr.heap.size wr).alloc fi (.cells #[O J g.k,O J g.t,O J g.r] 68)).trans (hb4.mono (by simp)));clear hb4);go_ret;exact⟨264,rfl,fun h=>absurd h (by decide),(HB.o.step HB4.o).b⟩
           |true=>
            rw[hbt]at HT;have HBT:=ze hbt;clear hbt;cases hbr:decide (0<=g.r/\g.r<=4000)with
            |false=>
             rw[hbr]at HR;go_wp2_with(first
              |(go_at_call 66;(with_reducible refine(HT.o _).mono ?_);rintro r w4 ⟨rfl,hb4⟩;have HB4:=ze (((Below.refl wr.heap.size wr).alloc fi (.cells #[O J g.k,O J g.t,O J g.r] 68)).trans (hb4.mono (by simp)));have q2:w4.cell? ⟨wr.heap.size,2,none⟩=some (O J g.r):=zf hb4 (by simp);have hz4:wr.heap.size<w4.heap.size:=(by have:=hb4.size;simp at this;omega);clear hb4)
              |(go_at_call 66;(with_reducible refine(HR.o _).mono ?_);rintro r w5 ⟨rfl,hb5⟩;have HB5:=ze (HB4.o.trans (hb5.mono HB4.o.size));clear hb5))
             go_ret;exact⟨264,rfl,fun h=>absurd h (by decide),(HB.o.step HB5.o).b⟩
            |true=>
             rw[hbr]at HR;have HBR:=ze hbr;clear hbr;go_wp2_with(first
              |(go_at_call 66;(with_reducible refine(HT.o _).mono ?_);rintro r w4 ⟨rfl,hb4⟩;have HB4:=ze (((Below.refl wr.heap.size wr).alloc fi (.cells #[O J g.k,O J g.t,O J g.r] 68)).trans (hb4.mono (by simp)));have q2:w4.cell? ⟨wr.heap.size,2,none⟩=some (O J g.r):=zf hb4 (by simp);have hz4:wr.heap.size<w4.heap.size:=(by have:=hb4.size;simp at this;omega);clear hb4)
              |(go_at_call 66;(with_reducible refine(HR.o _).mono ?_);rintro r w5 ⟨rfl,hb5⟩;have HB5:=ze (HB4.o.trans (hb5.mono HB4.o.size));clear hb5))
             go_roundw
             case rel=>
              refine⟨i+1,by omega,by go_num,fun y hy=>?_,HB.o.step HB5.o⟩;rw[List.take_add_one,HGG.o]at hy;rcases List.mem_append.1 hy with hy|hy
              ·exact HSG.o y hy
              ·have:y=g:=by simpa using hy
               subst this;exact⟨by omega,of_decide_eq_true HBT.o,of_decide_eq_true HBR.o⟩
             case measure=>simp[intOf];omega
        ·obtain rfl:i=n:=by omega
         have HF:=ze (show s.ok from cT (fun j b hb=>HAL.o j b (by have:=(List.getElem?_eq_some_iff.1 hb).1;simpa[dR]using this) hb) HD.o HNN.o (fun g hg=>HSG.o g (by rw[List.take_of_length_le (by omega)];exact hg)));clear hbs;go_wp2_with fail;go_ret;exact⟨0,rfl,fun _=>HF.o,HB.o.b⟩
end
end Go.Proofs.YtdeogmbfgkepeaaGreatDoor
