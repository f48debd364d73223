/- Contracts for WholeDelivers. -/
import Derived.OwnWalk
import Derived.Test.YtdeogmbfgkepeaaGreatDoorProg
import Derived.Test.YtdeogmbfgkepeaaGreatDoorR01
import Derived.Test.YtdeogmbfgkepeaaGreatDoorR02
set_option linter.unusedVariables false
set_option linter.unusedSimpArgs false
set_option maxRecDepth 100000
set_option maxHeartbeats 64000000
namespace Go.Proofs.YtdeogmbfgkepeaaGreatDoor
open Go.Proofs.Tryz
open Go.Value renaming int->O
open Go.IntKind renaming i64->J
section
open Go.RowKit HB
abbrev vQ(x:iY)(a b:Int)(w:l6):Prop:=Calls prog 125 #[.string x] w (fm (.tuple #[O J a,O J b,.bool true]) w)
abbrev Y4(x:iY)(a b n:Int)(w:l6):Prop:=Calls prog 97 #[.string x,O J n] w (fm (.bool (decide (a<=n/\n<=b))) w)
theorem jI(x:iY)(a b:Int)(h:∀ w,vQ x a b w)(n:Int)(w:l6):Y4 x a b n w:=by
 have key:∀ d:Bool,decide (a<=n/\n<=b)=d->Calls prog 97 #[.string x,O J n] w (fm (.bool d) w):=by
  intro d hd;have HH:=ze h;by_cases h1:a<=n<;>by_cases h2:n<=b<;>cases d<;>first|(exfalso;simp at hd;omega)|skip
  all_goals
   clear hd h
   go_in
   go_wp2_with(go_at_call 125;refine(HH.o _).mono ?_;rintro e w1 ⟨rfl,rfl⟩);go_ret;exact⟨j8 (by first|rfl|(simp;done)|(simp;omega)),rfl⟩
 exact key _ rfl
theorem zN(w:l6):vQ ⟨#[102,108,111,111,114,115]⟩ 2 128 w/\vQ ⟨#[103,97,112]⟩ 1 16 w/\vQ ⟨#[99,97,114,115]⟩ 1 16 w/\vQ ⟨#[99,97,112,97,99,105,116,121]⟩ 1 64 w/\vQ ⟨#[111,112,101,110]⟩ 1 64 w/\vQ ⟨#[100,119,101,108,108]⟩ 1 64 w/\vQ ⟨#[99,108,111,115,101]⟩ 1 64 w/\vQ ⟨#[116,114,97,110,115,102,101,114]⟩ 1 64 w/\vQ ⟨#[116,105,99,107,115]⟩ 1 1048576 w/\vQ ⟨#[104,111,114,105,122,111,110]⟩ 1 1048576 w/\vQ ⟨#[114,97,116,101]⟩ 0 4000 w/\vQ ⟨#[98,105,110,115]⟩ 1 64 w/\vQ ⟨#[119,105,100,116,104]⟩ 1 4096 w:=by
 refine⟨?_,?_,?_,?_,?_,?_,?_,?_,?_,?_,?_,?_,?_⟩
 all_goals
  go_enter func125,ntmps125;go_wp2_with fail;go_ret3;exact⟨rfl,rfl⟩
theorem l9:∀ n w,Y4 ⟨#[102,108,111,111,114,115]⟩ 2 128 n w:=jI _ _ _ fun w=>(zN w).1
theorem uv:∀ n w,Y4 ⟨#[103,97,112]⟩ 1 16 n w:=jI _ _ _ fun w=>(zN w).2.1
theorem yq:∀ n w,Y4 ⟨#[99,97,114,115]⟩ 1 16 n w:=jI _ _ _ fun w=>(zN w).2.2.1
theorem kE:∀ n w,Y4 ⟨#[99,97,112,97,99,105,116,121]⟩ 1 64 n w:=jI _ _ _ fun w=>(zN w).2.2.2.1
theorem yr:∀ n w,Y4 ⟨#[111,112,101,110]⟩ 1 64 n w:=jI _ _ _ fun w=>(zN w).2.2.2.2.1
theorem vR:∀ n w,Y4 ⟨#[100,119,101,108,108]⟩ 1 64 n w:=jI _ _ _ fun w=>(zN w).2.2.2.2.2.1
theorem vS:∀ n w,Y4 ⟨#[99,108,111,115,101]⟩ 1 64 n w:=jI _ _ _ fun w=>(zN w).2.2.2.2.2.2.1
theorem kF:∀ n w,Y4 ⟨#[116,114,97,110,115,102,101,114]⟩ 1 64 n w:=jI _ _ _ fun w=>(zN w).2.2.2.2.2.2.2.1
theorem vT:∀ n w,Y4 ⟨#[116,105,99,107,115]⟩ 1 1048576 n w:=jI _ _ _ fun w=>(zN w).2.2.2.2.2.2.2.2.1
theorem kO:∀ n w,Y4 ⟨#[104,111,114,105,122,111,110]⟩ 1 1048576 n w:=jI _ _ _ fun w=>(zN w).2.2.2.2.2.2.2.2.2.1
theorem yt:∀ n w,Y4 ⟨#[114,97,116,101]⟩ 0 4000 n w:=jI _ _ _ fun w=>(zN w).2.2.2.2.2.2.2.2.2.2.1
theorem yu:∀ n w,Y4 ⟨#[98,105,110,115]⟩ 1 64 n w:=jI _ _ _ fun w=>(zN w).2.2.2.2.2.2.2.2.2.2.2.1
theorem vU:∀ n w,Y4 ⟨#[119,105,100,116,104]⟩ 1 4096 n w:=jI _ _ _ fun w=>(zN w).2.2.2.2.2.2.2.2.2.2.2.2
structure Sg where
 (k t r:Int)
deriving Inhabited,DecidableEq
structure Sc where
 (fl gap cars cap opn dw cl tr disp hor bins width:Int)
 segs:List Sg
deriving Inhabited
abbrev YL(g:Sg):iZ:=[O J g.k,O J g.t,O J g.r]
abbrev Sg.v(g:Sg):Value:=.agg #[O J g.k,O J g.t,O J g.r]
abbrev Sc.v(s:Sc)(A:iX)(n c:Nat):Value:=.agg #[O J s.fl,O J s.gap,O J s.cars,O J s.cap,O J s.opn,O J s.dw,O J s.cl,O J s.tr,.slice A n c,O J s.disp,O J s.hor,O J s.bins,O J s.width]
structure Sg.ok(g:Sg):Prop where
 k:1<=g.k/\g.k<=4
 t:1<=g.t/\g.t<=1048576
 r:0<=g.r/\g.r<=4000
structure Sc.ok(s:Sc):Prop where
 fl:2<=s.fl/\s.fl<=128
 gap:1<=s.gap/\s.gap<=16
 cars:1<=s.cars/\s.cars<=16
 cap:1<=s.cap/\s.cap<=64
 opn:1<=s.opn/\s.opn<=64
 dw:1<=s.dw/\s.dw<=64
 cl:1<=s.cl/\s.cl<=64
 tr:1<=s.tr/\s.tr<=64
 hor:1<=s.hor/\s.hor<=1048576
 bins:1<=s.bins/\s.bins<=64
 width:1<=s.width/\s.width<=4096
 disp:1<=s.disp/\s.disp<=4
 len:1<=s.segs.length/\s.segs.length<=8
 segs:∀ g∈s.segs,g.ok
theorem QS(g:Sg)(h:g.ok)(w:l6):Calls prog 68 #[g.v] w (fk (O J 0) w):=by
 obtain⟨⟨k0,k1⟩,t,r⟩:=h;have ht:=decide_eq_true t;have hr:=decide_eq_true r
 go_in
 go_wp2_with(first
  |(go_at_call 97;with_reducible refine(vT g.t _).mono ?_;rintro e w1 ⟨rfl,rfl⟩;rw[ht])
  |(go_at_call 97;with_reducible refine(yt g.r _).mono ?_;rintro e w1 ⟨rfl,rfl⟩;rw[hr]))
 go_ret;exact⟨rfl,by go_grown⟩
theorem QT(s:Sc)(h:s.ok)(A:iX)(n c:Nat)(w:l6):Calls prog 67 #[s.v A n c] w (fk (.bool true) w):=by
 have e1:=decide_eq_true h.fl;have e2:=decide_eq_true h.gap;have e3:=decide_eq_true h.cars;have e4:=decide_eq_true h.cap;have e5:=decide_eq_true h.opn;have e6:=decide_eq_true h.dw;have e7:=decide_eq_true h.cl;have e8:=decide_eq_true h.tr;have e9:=decide_eq_true h.hor;have e10:=decide_eq_true h.bins;have e11:=decide_eq_true h.width;clear h
 go_in
 go_wp2_with(first
  |(go_at_call 97;with_reducible refine(l9 s.fl _).mono ?_;rintro e w1 ⟨rfl,rfl⟩;rw[e1])
  |(go_at_call 97;with_reducible refine(uv s.gap _).mono ?_;rintro e w1 ⟨rfl,rfl⟩;rw[e2])
  |(go_at_call 97;with_reducible refine(yq s.cars _).mono ?_;rintro e w1 ⟨rfl,rfl⟩;rw[e3])
  |(go_at_call 97;with_reducible refine(kE s.cap _).mono ?_;rintro e w1 ⟨rfl,rfl⟩;rw[e4])
  |(go_at_call 97;with_reducible refine(yr s.opn _).mono ?_;rintro e w1 ⟨rfl,rfl⟩;rw[e5])
  |(go_at_call 97;with_reducible refine(vR s.dw _).mono ?_;rintro e w1 ⟨rfl,rfl⟩;rw[e6])
  |(go_at_call 97;with_reducible refine(vS s.cl _).mono ?_;rintro e w1 ⟨rfl,rfl⟩;rw[e7])
  |(go_at_call 97;with_reducible refine(kF s.tr _).mono ?_;rintro e w1 ⟨rfl,rfl⟩;rw[e8])
  |(go_at_call 97;with_reducible refine(kO s.hor _).mono ?_;rintro e w1 ⟨rfl,rfl⟩;rw[e9])
  |(go_at_call 97;with_reducible refine(yu s.bins _).mono ?_;rintro e w1 ⟨rfl,rfl⟩;rw[e10])
  |(go_at_call 97;with_reducible refine(vU s.width _).mono ?_;rintro e w1 ⟨rfl,rfl⟩;rw[e11]))
 go_ret;exact⟨rfl,by go_grown⟩
def Sgs(w:l6)(B:Nat)(A:iX)(n:Nat)(l:List Sg):Prop:=Rd w B 3 A n (l.flatMap YL)/\l.length=n
section
variable{w w':l6}{B B' n:Nat}{A:iX}{l:List Sg}
theorem Sgs.below(h:Sgs w B A n l)(hb:Below B w w'):Sgs w' B A n l:=⟨h.1.below hb,h.2⟩
theorem Sgs.mono(h:Sgs w B A n l)(hB:B<=B'):Sgs w B' A n l:=⟨h.1.mono hB,h.2⟩
theorem Sgs.at_(h:Sgs w B A n l){i:Nat}(hi:i<n):
  ∃b off g,A=some ⟨b,off,none⟩/\b<B/\l[i]?=some g/\w.cell? ⟨b,off+i*3,none⟩=some (O J g.k)/\w.cell? ⟨b,off+i*3+1,none⟩=some (O J g.t)/\w.cell? ⟨b,off+i*3+2,none⟩=some (O J g.r):=by
 obtain⟨b,off,hA,hb,hc⟩:=h.1.at_ (by omega);have hg:l[i]?=some (l[i]'(by rw[h.2];exact hi)):=kD _;generalize l[i]'(by rw[h.2];exact hi)=t at hg;have hf:∀ x,(YL x).length=3:=fun _=>rfl
 have g:=fun j(hj:j<3)=>flat_get hf l i j t hg hj
 have h0:=hc (i*3+0) _ ((g 0 (by omega)).trans rfl);exact⟨b,off,t,hA,hb,hg,h0,(XS off (i*3) 1).symm▸hc (i*3+1) _ ((g 1 (by omega)).trans rfl),(XS off (i*3) 2).symm▸hc (i*3+2) _ ((g 2 (by omega)).trans rfl)⟩
end
theorem J7(s:Sc)(h:s.ok)(A:iX)(n c B:Nat)(w:l6)(hs:Sgs w B A n s.segs)(hB:B<=w.heap.size):Calls prog 47 #[s.v A n c] w (fk (O J 0) w):=by
 have HN:=ze (fun(V:l6)=>QT s h A n c V);have hn:=hs.2;have hd:=h.disp;have hl:=h.len;have h5:=ze h.segs;have HS:=ze hs;rw[hn]at hl;obtain⟨d0,d1⟩:=hd;obtain⟨l0,l1⟩:=hl;have h9:((n:Int)==0)=false:=by simp;omega
 clear h hs
 go_in
 go_wp2_with(go_at_call 67;refine(HN.o _).mono ?_;rintro e w1 ⟨rfl,h0⟩;have h3:=((Below.refl w.heap.size w).alloc fi (.cells #[O J s.fl,O J s.gap,O J s.cars,O J s.cap,O J s.opn,O J s.dw,O J s.cl,O J s.tr,.slice A n c,O J s.disp,O J s.hor,O J s.bins,O J s.width] 25)).trans (h0.mono (by simp));have hz:w.heap.size<w1.heap.size:=(by have h:=h0.size;rw[World.size_alloc]at h;exact h);have c8:w1.cell? ⟨w.heap.size,8,none⟩=some (.slice A n c):=((h0.cell (p:=⟨w.heap.size,8,none⟩) (by simp)).trans (by rw[cell_of_row _ w.heap.size 8 _ _ (0,0) (heap_alloc_new w _)];rfl));have c9:w1.cell? ⟨w.heap.size,9,none⟩=some (O J s.disp):=((h0.cell (p:=⟨w.heap.size,9,none⟩) (by simp)).trans (by rw[cell_of_row _ w.heap.size 9 _ _ (0,0) (heap_alloc_new w _)];rfl));have h4:=ze h3;clear h0 h3)
 go_loopw [32] (fun i wr=>∃ k:Nat,k<=n/\i=O J k/\fj w wr) (fun i _=>n-(intOf i).toNat)
 case atStart=>exact⟨0,vf _,rfl,h4.o⟩
 case round=>
  obtain⟨k,hk,rfl,h1⟩:=hrel;have h2:=ze h1;clear c8 c9;by_cases h7:k<n
  ·obtain⟨b,off,g,hA,hb,hg,q0,q1,q2⟩:=(HS.o.below (h1.mono hB)).at_ h7;have HG:=ze (fun(V:l6)=>QS g (h5.o g (jx hg)) V);have i0:(0:Int)<=(k:Int):=by omega
   have i1:(k:Int)<(n:Int):=by omega
   have h8:=h1.size;subst hA;clear hg h1;go_wp2_with(go_at_call 68;refine(HG.o _).mono ?_;rintro e w2 ⟨rfl,h6⟩);go_roundw
   case rel=>exact⟨k+1,by omega,by go_num,(h2.o.alloc h8 _).trans (h6.mono (by simp;omega))⟩
   case measure=>simp[intOf];omega
  ·obtain rfl:k=n:=by omega
   go_wp2_with fail;go_ret;exact⟨rfl,h2.o⟩
end
section
open LexP DigP
def ju(k:Int):List UInt8:=if k=1 then[117,112,112,101,97,107]else if k=2 then[108,117,110,99,104]else if k=3 then[100,111,119,110,112,101,97,107]else[105,110,116,101,114,102,108,111,111,114]
def jE(k:Int):List UInt8:=if k=1 then[99,111,108,108,101,99,116,105,118,101]else if k=2 then[115,101,99,116,111,114,115]else if k=3 then[115,111,111,110,101,115,116]else[100,101,115,116,105,110,97,116,105,111,110]
abbrev jz:List UInt8:=[98,117,105,108,100,105,110,103]
abbrev vH:List UInt8:=[99,97,114,115]
abbrev kq:List UInt8:=[100,111,111,114,115]
abbrev w_traffic:List UInt8:=[116,114,97,102,102,105,99]
abbrev zP:List UInt8:=[100,105,115,112,97,116,99,104,101,114]
abbrev jq:List UInt8:=[104,111,114,105,122,111,110]
abbrev qp:List UInt8:=[98,105,110,115]
def qJ(g:Sg):List Lx:=zu [w_traffic,ju g.k] [g.t.toNat,g.r.toNat]
def jU(s:Sc):List Lx:=zu [jz] [s.fl.toNat,s.gap.toNat]++(zu [vH] [s.cars.toNat,s.cap.toNat]++zu [kq] [s.opn.toNat,s.dw.toNat,s.cl.toNat,s.tr.toNat])
def uH(s:Sc):List Lx:=zu [zP,jE s.disp] []++(zu [jq] [s.hor.toNat]++zu [qp] [s.bins.toNat,s.width.toNat])
def qT(s:Sc):List Lx:=jU s++(s.segs.flatMap qJ++uH s)
def qU(s:Sc):iY:=⟨(zV (qT s)).toArray⟩
def kr(s:List UInt8):Bool:=!s.isEmpty&&s.all (fun c=>decide (97<=c.toNat)&&decide (c.toNat<=122))
theorem vI{s:List UInt8}(h:kr s=true):s≠[]/\∀ c∈s,cY c:=by
 unfold kr at h;simp only[Wj,List.all_eq_true,decide_eq_true_eq]at h;refine⟨fun e=>?_,fun c hc=>h.2 c hc⟩;rw[e]at h;exact absurd h.1 (by simp)
theorem aK(k:Int):kr (ju k)=true:=by
 unfold ju;split
 ·decide
 ·split
  ·decide
  ·split
   ·decide
   ·decide
theorem aL(k:Int):kr (jE k)=true:=by
 unfold jE;split
 ·decide
 ·split
  ·decide
  ·split
   ·decide
   ·decide
theorem uI{a:List UInt8}(h:kr a=true):∀ s∈[a],s≠[]/\∀ c∈s,cY c:=fun s hs=>by
 simp only[vN]at hs;subst hs;exact vI h
theorem WY{a b:List UInt8}(h:kr a=true)(h':kr b=true):∀ s∈[a,b],s≠[]/\∀ c∈s,cY c:=fun s hs=>by
 simp only[qx,Zl,or_false]at hs;rcases hs with rfl|rfl
 ·exact vI h
 ·exact vI h'
theorem YX(l:List Sg)(hl:∀ g∈l,g.ok)(r:List Lx)(hr:jC r):jC (l.flatMap qJ++r):=by
 induction l with
 |nil=>exact hr
 |cons g t ih=>
  have hg:=hl g (xz ..);rw[QN,bU];refine jy _ _ (WY (by decide) (aK _)) ?_ _ (ih fun x hx=>hl x (yP _ hx));intro n hn;have h1:=hg.t;have h2:=hg.r;simp only[qx,Zl,or_false]at hn;omega
theorem VV(s:Sc)(h:s.ok):jC (qT s):=by
 have e:qT s=zu [jz] [s.fl.toNat,s.gap.toNat]++(zu [vH] [s.cars.toNat,s.cap.toNat]++(zu [kq] [s.opn.toNat,s.dw.toNat,s.cl.toNat,s.tr.toNat]++(s.segs.flatMap qJ++(zu [zP,jE s.disp] []++(zu [jq] [s.hor.toNat]++(zu [qp] [s.bins.toNat,s.width.toNat]++[])))))):=by
  unfold qT jU uH;simp only[bU,Hx]
 rw[e];obtain⟨h1,h2,h3,h4,h5,h6,h7,h8,h9,ha,hc,hd,he,h0⟩:=h;have num:∀(l:List Nat),(∀n∈l,n<=1048576)->∀ n∈l,n<=1073741824:=fun l hl n hn=>vD (hl n hn) (by omega)
 refine jy _ _ (uI (by decide)) ?_ _ (jy _ _ (uI (by decide)) ?_ _ (jy _ _ (uI (by decide)) ?_ _ (YX _ h0 _ (jy _ _ (WY (by decide) (aL _)) ?_ _ (jy _ _ (uI (by decide)) ?_ _ (jy _ _ (uI (by decide)) ?_ _ trivial))))))
 all_goals
  intro n hn;simp only[qx,Zl,or_false]at hn<;>omega
theorem uJ(n:Nat)(h:n<=1048576):(jN n).length<=7:=by
 have key:∀ k n:Nat,n<10^(k+1)->(jN n).length<=k+1:=by
  intro k
  induction k with
  |zero=>intro n h;rw[qH (by omega)];simp
  |succ k ih=>
   intro n h;by_cases h1:n<10
   ·rw[qH h1];simp
   ·rw[kQ h1,kC];have:=ih (n/10) (by rw[Nat.div_lt_iff_lt_mul (by omega)];rw[Nat.pow_succ]at h;exact h);simp only[Zn,KN];omega
 exact key 6 n (by omega)
theorem Kr(l:List Nat)(h:∀ n∈l,n<=1048576):(zV (l.flatMap fun n=>[Lx.b,Lx.d n])).length<=8*l.length:=by
 induction l with
 |nil=>simp
 |cons n t ih=>
  have h1:=ih fun m hm=>h m (yP _ hm)
  have h2:=uJ n (h n (xz ..));simp only[zV]at h1⊢;simp only[QN,Vs,kC,Lx.bs,Zn,List.flatMap_nil,KN];omega
theorem qV(a:List UInt8)(l:List Nat)(h:∀ n∈l,n<=1048576):(zV (zu [a] l)).length<=a.length+8*l.length+1:=by
 have:=Kr l h;unfold zu;simp only[zV,kH]at this⊢;simp only[Vs,kC,QN,List.flatMap_nil,Lx.bs,Zn,KN,Hx]at*;omega
theorem J8(a b:List UInt8)(l:List Nat)(h:∀ n∈l,n<=1048576):(zV (zu [a,b] l)).length<=a.length+b.length+8*l.length+2:=by
 have:=Kr l h;unfold zu;simp only[zV,kH]at this⊢;simp only[Vs,kC,QN,List.flatMap_nil,Lx.bs,Zn,KN,Hx]at*;omega
theorem Ks(k:Int):(ju k).length<=10:=by unfold ju;split;decide;split;decide;split;decide;decide
theorem J9(k:Int):(jE k).length<=11:=by unfold jE;split;decide;split;decide;split;decide;decide
theorem aM(l:List Sg)(hl:∀ g∈l,g.ok):(zV (l.flatMap qJ)).length<=40*l.length:=by
 induction l with
 |nil=>simp
 |cons g t ih=>
  have h1:=ih fun m hm=>hl m (yP _ hm)
  have hg:=hl g (xz ..);have h2:=J8 w_traffic (ju g.k) [g.t.toNat,g.r.toNat] (by
   intro n hn;have h1:=hg.t;have h2:=hg.r;simp only[qx,Zl,or_false]at hn;omega)
  have h3:=Ks g.k;have h4:w_traffic.length=7:=rfl;simp only[Zn,KN]at h2;simp only[zV]at h1 h2⊢;rw[QN,Vs,kC,Zn];rw[show qJ g=zu [w_traffic,ju g.k] [g.t.toNat,g.r.toNat]from rfl];omega
theorem Ku(s:Sc)(h:s.ok):(zV (qT s)).length<=1000:=by
 obtain⟨h1,h2,h3,h4,h5,h6,h7,h8,h9,ha,hc,hd,he,h0⟩:=h;have e1:=qV jz [s.fl.toNat,s.gap.toNat] (by intro n hn;simp only[qx,Zl,or_false]at hn;omega);have e2:=qV vH [s.cars.toNat,s.cap.toNat] (by intro n hn;simp only[qx,Zl,or_false]at hn;omega);have e3:=qV kq [s.opn.toNat,s.dw.toNat,s.cl.toNat,s.tr.toNat] (by intro n hn;simp only[qx,Zl,or_false]at hn;omega);have e4:=aM s.segs h0;have e5:=J8 zP (jE s.disp) [] (by intro n hn;cases hn);have e6:=qV jq [s.hor.toNat] (by intro n hn;simp only[qx,Zl,or_false]at hn;omega);have e7:=qV qp [s.bins.toNat,s.width.toNat] (by intro n hn;simp only[qx,Zl,or_false]at hn;omega);have e8:=J9 s.disp;simp only[Zn,KN]at e1 e2 e3 e5 e6 e7;unfold qT jU uH;simp only[zV]at*;simp only[Vs,kC];omega
inductive Lod where
 |bld (a b:Int)
 |crs (a b:Int)
 |drs (a b c d:Int)
 |trf (k a b:Int)
 |dsp (k:Int)
 |hrz (a:Int)
 |bns (a b:Int)
def Lod.hw:Lod->List UInt8
 |.bld .. =>jz|.crs .. =>vH|.drs .. =>kq|.trf .. =>w_traffic|.dsp .. =>zP|.hrz .. =>jq|.bns .. =>qp
def Lod.head:Lod->iY
 |.bld .. =>⟨#[98,117,105,108,100,105,110,103]⟩|.crs .. =>⟨#[99,97,114,115]⟩|.drs .. =>⟨#[100,111,111,114,115]⟩|.trf .. =>⟨#[116,114,97,102,102,105,99]⟩|.dsp .. =>⟨#[100,105,115,112,97,116,99,104,101,114]⟩|.hrz .. =>⟨#[104,111,114,105,122,111,110]⟩|.bns .. =>⟨#[98,105,110,115]⟩
def nT(a:Int):Tc:=(2,jN a.toNat,a)
def wT(s:List UInt8):Tc:=(1,s,0)
def eT:Tc:=(3,[],0)
def Lod.rest:Lod->List Tc
 |.bld a b=>[nT a,nT b,eT]
 |.crs a b=>[nT a,nT b,eT]
 |.drs a b c d=>[nT a,nT b,nT c,nT d,eT]
 |.trf k a b=>[wT (ju k),nT a,nT b,eT]
 |.dsp k=>[wT (jE k),eT]
 |.hrz a=>[nT a,eT]
 |.bns a b=>[nT a,nT b,eT]
def Lod.toks(d:Lod):List Tc:=wT d.hw::d.rest
def Lod.eff:Lod->Sc->Sc
 |.bld a b,s=>{s with fl:=a,gap:=b}
 |.crs a b,s=>{s with cars:=a,cap:=b}
 |.drs a b c d,s=>{s with opn:=a,dw:=b,cl:=c,tr:=d}
 |.trf k a b,s=>{s with segs:=s.segs++[⟨k,a,b⟩]}
 |.dsp k,s=>{s with disp:=k}
 |.hrz a,s=>{s with hor:=a}
 |.bns a b,s=>{s with bins:=a,width:=b}
def Lod.ok:Lod->Prop
 |.bld a b=>(2<=a/\a<=128)/\1<=b/\b<=16
 |.crs a b=>(1<=a/\a<=16)/\1<=b/\b<=64
 |.drs a b c d=>(1<=a/\a<=64)/\(1<=b/\b<=64)/\(1<=c/\c<=64)/\1<=d/\d<=64
 |.trf k a b=>(1<=k/\k<=4)/\(1<=a/\a<=1048576)/\0<=b/\b<=4000
 |.dsp k=>1<=k/\k<=4
 |.hrz a=>1<=a/\a<=1048576
 |.bns a b=>(1<=a/\a<=64)/\1<=b/\b<=4096
def Lod.isT:Lod->Bool
 |.trf .. =>true
 |_=>false
def uN(s:Sc):List Lod:=s.segs.map fun g=>.trf g.k g.t g.r
def ZA(s:Sc):List Lod:=[.bld s.fl s.gap,.crs s.cars s.cap,.drs s.opn s.dw s.cl s.tr]++(uN s++[.dsp s.disp,.hrz s.hor,.bns s.bins s.width])
def aP:Sc:=⟨0,0,0,0,0,0,0,0,0,0,0,0,[]⟩
theorem WZ(l:List Sg)(s:Sc):(l.map fun g=>Lod.trf g.k g.t g.r).foldl (fun s d=>d.eff s) s={s with segs:=s.segs++l}:=by
 induction l generalizing s with
 |nil=>simp
 |cons g t ih=>simp only[JF,List.foldl_cons];rw[ih];simp[Lod.eff]
theorem G0(s:Sc):(ZA s).foldl (fun s d=>d.eff s) aP=s:=by
 unfold ZA uN;rw[List.foldl_append,List.foldl_append,WZ]
 rfl
theorem jr{a:Int}(h:0<=a):((2,jN a.toNat,((a.toNat:Nat):Int)):Tc)=nT a:=by
 unfold nT;rw[iM h]
theorem U2(s:Sc)(h:s.ok):toks (qT s)=(ZA s).flatMap Lod.toks:=by
 obtain⟨h1,h2,h3,h4,h5,h6,h7,h8,h9,hc,hd,he,ha,h0⟩:=h;have hs:toks (s.segs.flatMap qJ)=(uN s).flatMap Lod.toks:=by
  unfold uN;generalize s.segs=l at*;clear ha
  induction l with
  |nil=>rfl
  |cons g t ih=>
   have hg:=h0 g (xz ..);have ih:=ih (fun x hx=>h0 x (yP _ hx));have e:toks (qJ g)=(Lod.trf g.k g.t g.r).toks:=by
    unfold qJ;rw[jK];simp only[JF,Vm];rw[jr (by have:=hg.t;omega),jr (by have:=hg.r;omega)]
    rfl
   simp only[toks]at ih e⊢;simp only[QN,YE,JF];rw[ih,e]
 have hh:toks (jU s)=[Lod.bld s.fl s.gap,.crs s.cars s.cap,.drs s.opn s.dw s.cl s.tr].flatMap Lod.toks:=by
  unfold jU;have e1:=jK [jz] [s.fl.toNat,s.gap.toNat];have e2:=jK [vH] [s.cars.toNat,s.cap.toNat];have e3:=jK [kq] [s.opn.toNat,s.dw.toNat,s.cl.toNat,s.tr.toNat];simp only[toks]at e1 e2 e3⊢;rw[YE,YE,e1,e2,e3];simp only[JF,Vm];rw[jr (by omega),jr (by omega),jr (by omega),jr (by omega),jr (by omega),jr (by omega),jr (by omega),jr (by omega)]
  rfl
 have hf:toks (uH s)=[Lod.dsp s.disp,.hrz s.hor,.bns s.bins s.width].flatMap Lod.toks:=by
  unfold uH;have e1:=jK [zP,jE s.disp] [];have e2:=jK [jq] [s.hor.toNat];have e3:=jK [qp] [s.bins.toNat,s.width.toNat];simp only[toks]at e1 e2 e3⊢;rw[YE,YE,e1,e2,e3];simp only[JF,Vm];rw[jr (by omega),jr (by omega),jr (by omega)]
  rfl
 unfold qT ZA;simp only[toks]at hs hh hf⊢;rw[YE,YE,hs,hh,hf,Vs,Vs]
theorem cF(s:Sc)(h:s.ok):∀ d∈ZA s,d.ok:=by
 intro d hd;unfold ZA uN at hd;simp only[yp,qx,Vl,Zl,or_false]at hd;rcases hd with(rfl|rfl|rfl)|⟨g,hg,rfl⟩|rfl|rfl|rfl
 ·exact⟨h.fl,h.gap⟩
 ·exact⟨h.cars,h.cap⟩
 ·exact⟨h.opn,h.dw,h.cl,h.tr⟩
 ·have:=h.segs g hg;exact⟨this.k,this.t,this.r⟩
 ·exact h.disp
 ·exact h.hor
 ·exact⟨h.bins,h.width⟩
structure Ord(l:List Lod):Prop where
 one:l.Pairwise fun a b=>b.isT=false->a.head≠b.head
 few:(l.filter Lod.isT).length<=8
theorem aQ(s:Sc)(h:s.ok):Ord (ZA s):=by
 refine⟨?_,?_⟩
 ·unfold ZA uN;have key:∀ l:List Sg,(l.map fun g=>Lod.trf g.k g.t g.r).Pairwise fun a b=>b.isT=false->a.head≠b.head:=by
   intro l;rw[List.pairwise_map];exact List.Pairwise.imp_of_mem (R:=fun _ _=>True) (fun _ _ _=>fun h=>by cases h) (List.pairwise_of_forall fun _ _=>trivial)
  rw[XZ,XZ];refine⟨?_,⟨key _,?_,?_⟩,?_⟩
  ·simp only[QK,qx,Zl,or_false,forall_eq_or_imp,forall_eq,dU,and_true,false_implies,implies_true];exact⟨⟨fun _=>by(simp only[Lod.head];decide),fun _=>by(simp only[Lod.head];decide)⟩,fun _=>by(simp only[Lod.head];decide)⟩
  ·simp only[QK,qx,Zl,or_false,forall_eq_or_imp,forall_eq,dU,and_true,false_implies,implies_true];exact⟨⟨fun _=>by(simp only[Lod.head];decide),fun _=>by(simp only[Lod.head];decide)⟩,fun _=>by(simp only[Lod.head];decide)⟩
  ·intro a ha b hb _;obtain⟨g,-,rfl⟩:=Vl.1 ha;simp only[qx,Zl,or_false]at hb;rcases hb with rfl|rfl|rfl<;>(simp only[Lod.head];decide)
  ·intro a ha b hb hn;simp only[yp,qx,Zl,or_false]at ha hb;rcases hb with hb|rfl|rfl|rfl
   ·obtain⟨g,-,rfl⟩:=Vl.1 hb;cases hn
   all_goals rcases ha with rfl|rfl|rfl<;>(simp only[Lod.head];decide)
 ·have e:((uN s).filter Lod.isT).length<=s.segs.length:=by
   have:=ag Lod.isT (uN s);unfold uN at this⊢;simpa using this
  unfold ZA;rw[bV,bV];simp only[kC];have:=h.len;have e1:([Lod.bld s.fl s.gap,.crs s.cars s.cap,.drs s.opn s.dw s.cl s.tr].filter Lod.isT).length=0:=rfl;have e2:([Lod.dsp s.disp,.hrz s.hor,.bns s.bins s.width].filter Lod.isT).length=0:=rfl;omega
theorem aR(s:Sc):∃ ls,qT s=ls++[.nl]:=
 ⟨jU s++(s.segs.flatMap qJ++(zu [zP,jE s.disp] []++(zu [jq] [s.hor.toNat]++(kH [qp]++[s.bins.toNat,s.width.toNat].flatMap (fun n=>[.b,.d n]))))),by
  unfold qT uH;rw[show zu [qp] [s.bins.toNat,s.width.toNat]=(kH [qp]++[s.bins.toNat,s.width.toNat].flatMap (fun n=>[.b,.d n]))++[.nl]from rfl];simp only[bU]⟩
theorem U3(l:List Lod):(l.foldl (fun s d=>d.eff s) aP).segs.length=(l.filter Lod.isT).length:=by
 have key:∀(l:List Lod)(s:Sc),(l.foldl (fun s d=>d.eff s) s).segs.length=s.segs.length+(l.filter Lod.isT).length:=by
  intro l
  induction l with
  |nil=>intro s;simp
  |cons d t ih=>
   intro s;rw[List.foldl_cons,ih];cases d<;>simp[Lod.eff,Lod.isT,List.filter_cons]<;>omega
 rw[key];simp[aP]
end
section
open Go.RowKit HB
abbrev xy(x:iY)(a b:Int)(w:l6):Prop:=Calls prog 96 #[.string x] w (fk (.tuple #[O J a,O J b,.bool true]) w)
abbrev zW(x:iY)(a b n:Int)(w:l6):Prop:=Calls prog 66 #[.string x,O J n] w (fk (.bool (decide (a<=n/\n<=b))) w)
theorem jM(x:iY)(a b:Int)(h:∀ w,xy x a b w)(n:Int)(w:l6):zW x a b n w:=by
 have key:∀ d:Bool,decide (a<=n/\n<=b)=d->Calls prog 66 #[.string x,O J n] w (fk (.bool d) w):=by
  intro d hd;have HH:=ze h;by_cases h1:a<=n<;>by_cases h2:n<=b<;>cases d<;>first|(exfalso;simp at hd;omega)|skip
  all_goals
   clear hd h
   go_in
   go_wp2_with(go_at_call 96;refine(HH.o _).mono ?_;rintro e w1 ⟨rfl,h0⟩);go_ret;exact⟨j8 (by first|rfl|(simp;done)|(simp;omega)),h0⟩
 exact key _ rfl
theorem zO(w:l6):(∀j,j=0->xy ⟨#[102,108,111,111,114,115]⟩ 2 128 w)/\(∀j,j=1->xy ⟨#[103,97,112]⟩ 1 16 w)/\(∀j,j=2->xy ⟨#[99,97,114,115]⟩ 1 16 w)/\(∀j,j=3->xy ⟨#[99,97,112,97,99,105,116,121]⟩ 1 64 w)/\(∀j,j=4->xy ⟨#[111,112,101,110]⟩ 1 64 w)/\(∀j,j=5->xy ⟨#[100,119,101,108,108]⟩ 1 64 w)/\(∀j,j=6->xy ⟨#[99,108,111,115,101]⟩ 1 64 w)/\(∀j,j=7->xy ⟨#[116,114,97,110,115,102,101,114]⟩ 1 64 w)/\(∀j,j=8->xy ⟨#[116,105,99,107,115]⟩ 1 1048576 w)/\(∀j,j=9->xy ⟨#[104,111,114,105,122,111,110]⟩ 1 1048576 w)/\(∀j,j=10->xy ⟨#[114,97,116,101]⟩ 0 4000 w)/\(∀j,j=11->xy ⟨#[98,105,110,115]⟩ 1 64 w)/\(∀j,j=12->xy ⟨#[119,105,100,116,104]⟩ 1 4096 w):=by
 refine⟨?_,?_,?_,?_,?_,?_,?_,?_,?_,?_,?_,?_,?_⟩
 all_goals
  intro j hj;have hb:fj w (((w.alloc (.cells #[.string ⟨#[102,108,111,111,114,115]⟩,.string ⟨#[103,97,112]⟩,.string ⟨#[99,97,114,115]⟩,.string ⟨#[99,97,112,97,99,105,116,121]⟩,.string ⟨#[111,112,101,110]⟩,.string ⟨#[100,119,101,108,108]⟩,.string ⟨#[99,108,111,115,101]⟩,.string ⟨#[116,114,97,110,115,102,101,114]⟩,.string ⟨#[116,105,99,107,115]⟩,.string ⟨#[104,111,114,105,122,111,110]⟩,.string ⟨#[114,97,116,101]⟩,.string ⟨#[98,105,110,115]⟩,.string ⟨#[119,105,100,116,104]⟩] 232)).alloc (.cells #[O J 2,O J 1,O J 1,O J 1,O J 1,O J 1,O J 1,O J 1,O J 1,O J 1,O J 0,O J 1,O J 1] 233)).alloc (.cells #[O J 128,O J 16,O J 16,O J 64,O J 64,O J 64,O J 64,O J 64,O J 1048576,O J 1048576,O J 4000,O J 64,O J 4096] 233)):=by go_grown
  have HB:=ze hb;have HJ:=ze hj;clear hb hj;go_enter func96,ntmps96;go_wp2_with fail
  go_loopw [8] (fun i wr=>∃ k:Nat,k<=j/\k<13/\i=O J k/\wr=(((w.alloc (.cells #[.string ⟨#[102,108,111,111,114,115]⟩,.string ⟨#[103,97,112]⟩,.string ⟨#[99,97,114,115]⟩,.string ⟨#[99,97,112,97,99,105,116,121]⟩,.string ⟨#[111,112,101,110]⟩,.string ⟨#[100,119,101,108,108]⟩,.string ⟨#[99,108,111,115,101]⟩,.string ⟨#[116,114,97,110,115,102,101,114]⟩,.string ⟨#[116,105,99,107,115]⟩,.string ⟨#[104,111,114,105,122,111,110]⟩,.string ⟨#[114,97,116,101]⟩,.string ⟨#[98,105,110,115]⟩,.string ⟨#[119,105,100,116,104]⟩] 232)).alloc (.cells #[O J 2,O J 1,O J 1,O J 1,O J 1,O J 1,O J 1,O J 1,O J 1,O J 1,O J 0,O J 1,O J 1] 233)).alloc (.cells #[O J 128,O J 16,O J 16,O J 64,O J 64,O J 64,O J 64,O J 64,O J 1048576,O J 1048576,O J 4000,O J 64,O J 4096] 233))) (fun i _=>13-(intOf i).toNat)
  case atStart=>exact⟨0,vf _,by omega,rfl,rfl⟩
  case round=>
   obtain⟨k,hk,h0,rfl,rfl⟩:=hrel;have HM:=ze (rfl:k+1=k+1);generalize h9:k+1=m at HM;have HN:=ze h9;clear h9 HM;rcases(by omega:k=0\/k=1\/k=2\/k=3\/k=4\/k=5\/k=6\/k=7\/k=8\/k=9\/k=10\/k=11\/k=12)with rfl|rfl|rfl|rfl|rfl|rfl|rfl|rfl|rfl|rfl|rfl|rfl|rfl
   all_goals clear h0
   all_goals first
    |(exfalso;have:=HJ.o;omega)
    |(have h8:¬ m<=j:=(by have:=HJ.o;have:=HN.o;omega);clear h8;go_wp2_with fail;go_quiet(fail);go_wp2_with fail;go_ret3;exact⟨rfl,zg HB.o _⟩)
    |(go_wp2_with fail;go_roundw;(case rel=>exact⟨m,by have:=HJ.o;have:=HN.o;omega,by have:=HJ.o;have:=HN.o;omega,by rw[<-HN.o];go_num,by first|rfl|trivial⟩);(case measure=>simp[intOf]))
theorem ZN:∀ n w,zW ⟨#[102,108,111,111,114,115]⟩ 2 128 n w:=jM _ _ _ (fun w=>(zO w).1 _ rfl)
theorem XP:∀ n w,zW ⟨#[103,97,112]⟩ 1 16 n w:=jM _ _ _ (fun w=>(zO w).2.1 _ rfl)
theorem Vh:∀ n w,zW ⟨#[99,97,114,115]⟩ 1 16 n w:=jM _ _ _ (fun w=>(zO w).2.2.1 _ rfl)
theorem uc:∀ n w,zW ⟨#[99,97,112,97,99,105,116,121]⟩ 1 64 n w:=jM _ _ _ (fun w=>(zO w).2.2.2.1 _ rfl)
theorem Vi:∀ n w,zW ⟨#[111,112,101,110]⟩ 1 64 n w:=jM _ _ _ (fun w=>(zO w).2.2.2.2.1 _ rfl)
theorem QG:∀ n w,zW ⟨#[100,119,101,108,108]⟩ 1 64 n w:=jM _ _ _ (fun w=>(zO w).2.2.2.2.2.1 _ rfl)
theorem QH:∀ n w,zW ⟨#[99,108,111,115,101]⟩ 1 64 n w:=jM _ _ _ (fun w=>(zO w).2.2.2.2.2.2.1 _ rfl)
theorem ud:∀ n w,zW ⟨#[116,114,97,110,115,102,101,114]⟩ 1 64 n w:=jM _ _ _ (fun w=>(zO w).2.2.2.2.2.2.2.1 _ rfl)
theorem QI:∀ n w,zW ⟨#[116,105,99,107,115]⟩ 1 1048576 n w:=jM _ _ _ (fun w=>(zO w).2.2.2.2.2.2.2.2.1 _ rfl)
theorem Zj:∀ n w,zW ⟨#[104,111,114,105,122,111,110]⟩ 1 1048576 n w:=jM _ _ _ (fun w=>(zO w).2.2.2.2.2.2.2.2.2.1 _ rfl)
theorem Vj:∀ n w,zW ⟨#[114,97,116,101]⟩ 0 4000 n w:=jM _ _ _ (fun w=>(zO w).2.2.2.2.2.2.2.2.2.2.1 _ rfl)
theorem Vk:∀ n w,zW ⟨#[98,105,110,115]⟩ 1 64 n w:=jM _ _ _ (fun w=>(zO w).2.2.2.2.2.2.2.2.2.2.2.1 _ rfl)
theorem QJ:∀ n w,zW ⟨#[119,105,100,116,104]⟩ 1 4096 n w:=jM _ _ _ (fun w=>(zO w).2.2.2.2.2.2.2.2.2.2.2.2 _ rfl)
end
end Go.Proofs.YtdeogmbfgkepeaaGreatDoor
