/- Contracts for WholeDelivers. -/
import Derived.Test.YtdeogmbfgkepeaaGreatDoorR48
set_option linter.unusedVariables false
set_option linter.unusedSimpArgs false
set_option maxRecDepth 100000
set_option maxHeartbeats 64000000
namespace Go.Proofs.YtdeogmbfgkepeaaGreatDoor
open Go.Proofs.Tryz
open Go.Value renaming int->O
open Go.IntKind renaming i64->J
section
open Go.RowKit HB Go.Maps CalP HeapP
abbrev Yx:Bu:=⟨.slice none 0 0,0,0⟩
theorem Own.madeBu{base:Nat}(w:l6)(n:Nat)(hb:base<=w.heap.size)(hn:n<=1000000):HB.Own (w.alloc (.cells (madeCells #[.slice none 0 0,O J 0,O J 0] (n*3)) 268)) base 268 3 aD (.slice (some ⟨w.heap.size,0,none⟩) n n) (List.replicate n Yx):=by
 have h:=Own.block (base:=base) (f:=aD) (sz:=3) w 268 (madeCells #[.slice none 0 0,O J 0,O J 0] (n*3)) (List.replicate n Yx) hb (by
  apply bT;intro i;by_cases hi:i<n*3
  ·have hm:i=i/3*3+i%3:=by omega
   have hd:i/3<n:=by omega
   have h3:i%3<3:=Nat.mod_lt _ (by omega);have hg:(List.replicate n Yx)[i/3]?=some Yx:=by rw[iz,if_pos hd]
   have:=flat_get (f:=aD) (m:=3) (fun _=>rfl) (List.replicate n Yx) (i/3) (i%3) Yx hg h3;rw[hm,this];have hz:(madeCells #[.slice none 0 0,O J 0,O J 0] (n*3)).toList[i/3*3+i%3]?=some (#[Value.slice none 0 0,O J 0,O J 0][i%3]!):=by
    rw[<-hm];simp[madeCells,hi]
   rw[hz];rcases(show i%3=0\/i%3=1\/i%3=2 by omega)with e|e|e<;>rw[e]<;>rfl
  ·rw[Y0 (by simp[madeCells];omega),Y0 (by rw[flat_length (f:=aD) (m:=3) (fun _=>rfl)];simp;omega)]) (fun _=>rfl) (by simp;omega)
 simpa using h
theorem Wd.small{base B:Nat}{s:Sc}{sA:iX}{sn sk wb h:Nat}{w:l6}{S:HS}{cv tv:Value}{L:List Ca}{trips:List Tr}{T:Int}(H:Wd base s sA sn sk wb h w S cv tv L trips T)(hB:B<=base):Wd B s sA sn sk wb h w S cv tv L trips T:=
 ⟨H.bx,vD hB H.wl,H.hl,fun k hk=>vD hB (H.hb k hk),H.cr.small hB,H.ri,H.tr.small hB,H.s1,H.s2,H.s3,fun k hk=>⟨vD hB (H.s4 k hk).1,(H.s4 k hk).2⟩⟩
abbrev eu(wb:Nat)(pA:iX)(pn pc ab n yb:Nat):iZ:=[.pointer (some ⟨wb,0,none⟩),.slice pA pn pc,.slice none 0 0,.map none,.slice (some ⟨ab,0,none⟩) n n,.slice (some ⟨yb,0,none⟩) n n,O J 0]
theorem LV.fresh{s:Sc}(hs:s.ok){L:List Ca}{at_:l8}(hL:(L.length:Int)=s.cars)(h:∀ x∈L,Yw s x)(ha:∀ a∈at_,a=0):LV s 0 L at_ [] HS0 [] (fun _=>False) where
 hall:=⟨fun k=>⟨fun h=>(by cases h),fun h=>absurd rfl h⟩,fun k x hx=>(by cases hx),fun k hk=>absurd rfl hk,fun f d n c hc=>(by cases hc)⟩
 nL:=hL
 car:=fun x hx=>(h x hx).2.2.2.2.2.2
 rid:=fun x hx r hr=>by rw[(h x hx).2.1]at hr;cases hr
 cov:=fun i t hi=>by simp at hi
 uni:=fun j x hj=>by rw[(h x (jx hj)).2.1];exact⟨List.nodup_nil,fun r hr=>by cases hr⟩
 atT:=fun a h=>by rw[ha a h];decide
 evr:=fun e he=>by cases he
 ev:=fun e he=>by cases he
 lk:=fun j x hj _ hw=>by
  exfalso;rw[(h x (jx hj)).2.1]at hw;obtain⟨f,h1|h1|h1⟩:=hw
  ·obtain⟨r,hr,-⟩:=h1;cases hr
  all_goals
   obtain⟨-,h2⟩:=h1;rcases h2 with⟨n,hn⟩|⟨-,hn⟩
   ·cases hn
   ·cases hn
theorem CL.fresh{s:Sc}(hs:s.ok){M:Int}{P:List Pa}{L:List Ca}{at_:l8}(h:∀ x∈L,Yw s x):CL s M P L at_ [] HS0:=fun _=>⟨M,by have:=gV hs;show M+((0:Int)-1)*qt s<=M;omega,fun j x a hj _ hw=>by
  exfalso;rw[(h x (jx hj)).2.1]at hw;obtain⟨f,h1|h1|h1⟩:=hw
  ·obtain⟨r,hr,-⟩:=h1;cases hr
  all_goals
   obtain⟨-,h2⟩:=h1;rcases h2 with⟨n,hn⟩|⟨-,hn⟩
   ·cases hn
   ·cases hn⟩
def eM(s:Sc)(sA:iX)(sn sk:Nat)(B:Nat)(P:List Pa)(M:Int)(x:Nat)(w':l6):Prop:=
 ∃E,Eg B s sA sn sk x E w'/\EI s 0 M E (fun _=>False)/\E.P=P/\E.trips=[]/\E.HL=[]/\E.l=[]/\E.nm=0/\E.S.nw=0/\E.S.nc=0/\(E.L.length:Int)=s.cars/\(∀a∈E.at_,a=0)/\LV s 0 E.L E.at_ E.trips E.S E.l (fun _=>False)/\CL s M E.P E.L E.at_ E.trips E.S
theorem yf{w V V':l6}{s:Sc}{sA:iX}{sn sk wb h:Nat}{cv:Value}{L:List Ca}{M:Int}(hs:s.ok)(hb:Below w.heap.size w V)(HW:Wd w.heap.size s sA sn sk wb h V HS0 cv (.slice none 0 0) L [] 0)(HL:∀ x∈L,Yw s x)(hL:(L.length:Int)=s.cars)(n ab yb x:Nat)(hn:(n:Int)=s.cars)
  (HA:HB.Own V w.heap.size 3 1 (fa .i64) (.slice (some ⟨ab,0,none⟩) n n) (List.replicate n 0))(HY:HB.Own V w.heap.size 268 3 aD (.slice (some ⟨yb,0,none⟩) n n) (List.replicate n Yx))(hay:ab≠yb)(hsep:∀ k,(Wx wb h HS0 cv (.slice none 0 0) k\/RBk L k)->k≠ab/\k≠yb)
  (pA:iX)(pn pc:Nat)(P:List Pa)(hp:Rd w w.heap.size 4 pA pn (P.flatMap Wl))(hpl:P.length=pn/\pn<=pc)(hP:Pas 0 P)(M0:0<=M)(M1:M<=1000000)
  (l:iZ)(hbx:Bx V' x l)(hl:l=eu wb pA pn pc ab n yb)(hbV:Below V.heap.size V V')(hx0:x=V.heap.size)(hx1:x<V'.heap.size):eM s sA sn sk w.heap.size P M x V':=by
 subst hl;have hz:=hb.size;have hf:=hbV.size;have h5:L.length=n:=by omega
 have hc:=hs.cars;have h8:=HA.row.lt ab rfl;have hd:=HY.row.lt yb rfl;obtain⟨⟨x0,x1,x2,x3,x4,x5,x6⟩,y0,y1,y2,y3,y4,y5,y6⟩:=hbx.o7
 let F:Fr:=fun o=>(V'.cell? ⟨x,o,none⟩,V'.frozen? ⟨x,o,none⟩)
 open Classical in
 let tg:Nat->Nat:=fun k=>if k=ab then 3 else if k=yb then 4 else if k=x then 2 else if(Wx wb h HS0 cv (.slice none 0 0) k\/RBk L k)then 1 else 0
 have h6:∀ k,(Wx wb h HS0 cv (.slice none 0 0) k\/RBk L k)->w.heap.size<=k/\k<V.heap.size:=fun k hk=>by
  rcases hk with hk|hk
  ·exact HW.xlt hk
  ·exact⟨(HW.s4 k hk).1,(HW.s4 k hk).2.1⟩
 refine⟨⟨wb,h,HS0,cv,.slice none 0 0,L,[],0,F,x,none,0,[],[],pA,pn,pc,P,ab,List.replicate n 0,yb,n,n,List.replicate n Yx,List.replicate n [],0,tg⟩,⟨HW.below hbV,⟨?_,x3,y3,⟨?_,dU,dU,fun e he=>(by cases he),fun e he=>(by cases he)⟩,.inl ⟨rfl,rfl⟩,fun b hb=>(by cases hb),fun o _ _=>⟨rfl,rfl⟩⟩,?_,?_,?_,?_,?_,?_,?_,?_,?_,?_,hpl,by omega,?_⟩,⟨?_,?_,?_,?_,?_,M1⟩,rfl,rfl,rfl,rfl,rfl,rfl,rfl,hL,fun a ha=>Gu ha,LV.fresh hs hL HL (fun a ha=>Gu ha),CL.fresh hs HL⟩
 ·exact⟨.slice none 0 0,x2,y2,hx1,Own.nil _ _ _ _ _,.inl ⟨rfl,rfl,rfl⟩⟩
 ·intro j hj h9;intro a b ha;simp at ha
 ·show(V'.cell? ⟨x,0,none⟩,V'.frozen? ⟨x,0,none⟩)=_;rw[x0,y0]
 ·show(V'.cell? ⟨x,1,none⟩,V'.frozen? ⟨x,1,none⟩)=_;rw[x1,y1]
 ·show(V'.cell? ⟨x,4,none⟩,V'.frozen? ⟨x,4,none⟩)=_;rw[x4,y4,Vr]
 ·show(V'.cell? ⟨x,5,none⟩,V'.frozen? ⟨x,5,none⟩)=_;rw[x5,y5]
 ·show(V'.cell? ⟨x,6,none⟩,V'.frozen? ⟨x,6,none⟩)=_;rw[x6,y6]
 ·show HB.Own V' _ _ 1 (fa .i64) (.slice _ (List.replicate n (0:Int)).length (List.replicate n (0:Int)).length) _
  rw[Vr];exact HA.below hbV
 ·intro i b hi;have h0:i<n:=by have:=(qd.1 hi).1;simpa using this
  have h4:b=Yx:=by rw[iz,if_pos h0]at hi;exact(ve hi).symm
  subst h4;refine⟨[],by show(List.replicate n _)[i]?=_;rw[iz,if_pos h0],⟨HY.below hbV,Vr ..,hi,Own.nil _ _ _ _ _,fun k hk=>(by cases hk),fun g hg=>(by cases hg),by decide,by decide,by decide,by decide,by decide⟩⟩
 ·exact⟨Vr ..,fi⟩
 ·exact Vr ..
 ·exact hp.below (hb.trans (hbV.mono hz))
 ·refine⟨fun k hk=>?_,fun k hk=>?_,fun k hk=>?_,?_,?_,fun i b hi k hk=>?_⟩
  ·dsimp only[tg]at hk;split at hk
   ·rename_i e;subst e;omega
   ·split at hk
    ·rename_i e;subst e;omega
    ·split at hk
     ·rename_i e;subst e;omega
     ·split at hk
      ·rename_i e;have:=h6 k e;omega
      ·exact absurd rfl hk
  ·have h1:=hsep k hk;have h2:=h6 k hk;dsimp only[tg];rw[if_neg h1.1,if_neg h1.2,if_neg (by omega),if_pos hk]
  ·have h7:k=x:=by
    rcases hk with e|e|e
    ·exact e
    ·exact e
    ·cases e
   subst h7;dsimp only[tg];rw[if_neg (by omega),if_neg (by omega),if_pos rfl]
  ·dsimp only[tg];rw[if_pos rfl]
  ·dsimp only[tg];rw[if_neg (Ne.symm hay),if_pos rfl]
  ·have h0:i<n:=by have:=(qd.1 hi).1;simpa using this
   have h4:b=Yx:=by
    have hi:(List.replicate n Yx)[i]?=some b:=hi;rw[iz,if_pos h0]at hi;exact(ve hi).symm
   subst h4;cases hk
 ·exact EInv.fresh (fun z hz=>⟨(HL z hz).1,(HL z hz).2.1,(HL z hz).2.2.1⟩) (fun a ha=>Gu ha) (by rw[Vr];exact h5.symm) hP
 ·intro i b a hi h3;have hi:(List.replicate n Yx)[i]?=some b:=hi;have h3:(List.replicate n (0:Int))[i]?=some a:=h3;have h1:=Gu (jx hi);have h2:=Gu (jx h3);rw[h1,h2]
 ·show(List.replicate n Yx).length=L.length
  rw[Vr,h5]
 ·intro a ha;rw[Gu ha];exact M0
 ·show L.length<=16
  omega
def dG(s:Sc)(sA:iX)(sn sk:Nat)(P:List Pa)(M:Int)(K:Nat)(w:l6)(e:Ending)(w':l6):Prop:=
 ∃x E,e=.returned (.pointer (some ⟨x,0,none⟩))/\Eg w.heap.size s sA sn sk x E w'/\EI s 0 M E (fun _=>False)/\Bd M E 0 K/\E.trips.length+E.P.length=P.length/\(E.L.length:Int)=s.cars/\Below w.heap.size w w'/\∀ last,PV s last P->last+2*((P.length:Nat):Int)*qt s<=M->LE s 0 M last E
theorem Jv(M:Int):∀ l:l8,(∀a∈l,a=0)->(l.map fun a=>(M-a).toNat).sum=l.length*M.toNat
 |[],_=>by simp
 |a::l,h=>by
  have h1:=h a (xz ..);subst h1;simp[Jv M l (fun b hb=>h b (yP _ hb)),Nat.add_mul];omega
theorem Bu.info:(prog.info? 268).map (fun i=>(i.zero,i.size,i.bytes))=some (some (.agg #[.slice none 0 0,O J 0,O J 0]),3,40):=by kernel_rfl
theorem UE(n:Nat)(hn:n<=1000)(W:l6):(Instr.makeSlice 51 (O J n) (O J n)).run prog W=.ok (.slice (some ⟨W.heap.size,0,none⟩) n n) (W.alloc (.cells (madeCells #[O J 0] n) 3)):=by
 obtain⟨i,hi,hz,hs,hb⟩:=info_parts Ints.info;have h:=run_make (P:=prog) W 51 3 i (O J 0) underlying51 hi hz .i64 .i64 n n (by omega) (by omega) (by rw[hb];omega) (by omega);rw[hs]at h;simp only[XX,iw]at h;exact h
theorem GO(n:Nat)(hn:n<=1000)(W:l6):(Instr.makeSlice 215 (O J n) (O J n)).run prog W=.ok (.slice (some ⟨W.heap.size,0,none⟩) n n) (W.alloc (.cells (madeCells #[.slice none 0 0,O J 0,O J 0] (n*3)) 268)):=by
 obtain⟨i,hi,hz,hs,hb⟩:=info_parts Bu.info;have h:=run_make (P:=prog) W 215 268 i (.agg #[.slice none 0 0,O J 0,O J 0]) underlying215 hi hz .i64 .i64 n n (by omega) (by omega) (by rw[hb];omega) (by omega);rw[hs]at h;simp only[XX]at h;exact h
def dH(wb h:Nat)(cv:Value)(L:List Ca)(v:Value):Prop:=∀ k,(Wx wb h HS0 cv (.slice none 0 0) k\/RBk L k)->∀ q,v.ownBlock=some q->k≠q
def eX(v v':Value):Prop:=∀ q q',v.ownBlock=some q->v'.ownBlock=some q'->q≠q'
theorem jQ{s:Sc}{sA:iX}{sn sk wb h:Nat}{cv:Value}{L:List Ca}{W wX:l6}{α:Type}{base sz:Nat}{ty:TypeId}{f:α->iZ}{v:Value}{l:List α}(hW:Wd W.heap.size s sA sn sk wb h wX HS0 cv (.slice none 0 0) L [] 0)(hv:HB.Own W base ty sz f v l):dH wb h cv L v:=fun k hk q hq=>by
 have h1:=(hv.row.lt q hq).2;rcases hk with hk|hk
 ·have:=(hW.xlt hk).1;omega
 ·have:=(hW.s4 k hk).1;omega
theorem ji{base:Nat}{s:Sc}{sA:iX}{sn sk wb h:Nat}{cv:Value}{L:List Ca}{W:l6}(hW:Wd base s sA sn sk wb h W HS0 cv (.slice none 0 0) L [] 0)(n:Nat):dH wb h cv L (.slice (some ⟨W.heap.size,0,none⟩) n n):=fun k hk q hq=>by
 have hq:some W.heap.size=some q:=hq;obtain rfl:=ve hq;rcases hk with hk|hk
 ·have:=(hW.xlt hk).2;omega
 ·have:=(hW.s4 k hk).2.1;omega
theorem jv{α:Type}{W:l6}{base sz:Nat}{ty:TypeId}{f:α->iZ}{v:Value}{l:List α}(hv:HB.Own W base ty sz f v l)(n:Nat):eX v (.slice (some ⟨W.heap.size,0,none⟩) n n):=fun q q' hq h0=>by
 have h0:some W.heap.size=some q':=h0;obtain rfl:=ve h0;have:=(hv.row.lt q hq).2;omega
theorem jw{k:Nat}{w:l6}(h:k<w.heap.size)(o:Obj):k<(w.alloc o).heap.size:=by simp;omega
theorem bB(s:Sc)(hs:s.ok)(sA:iX)(sn sk:Nat)(pA:iX)(pn pc:Nat)(P:List Pa)(M:Int)(K:Nat)(w:l6)(hp:Rd w w.heap.size 4 pA pn (P.flatMap Wl))(hpl:P.length=pn/\pn<=pc)(hP:Pas 0 P)(M0:0<=M)(M1:M<=1000000)(hK:1+18*(P.length+16*M.toNat)<=K)(hK2:K<=1500000):
  Calls prog 106 #[s.v sA sn sk,.slice pA pn pc] w (dG s sA sn sk P M K w):=by
 obtain⟨c0,c1⟩:=hs.cars;obtain⟨n,hn⟩:∃ n:Nat,(n:Int)=s.cars:=⟨s.cars.toNat,by omega⟩;have HS:=ze hs;have HP:=ze hp;have hZ:=ze hpl;have H0:=ze hP;have hn0:n<=16:=by omega
 have HU:(n:Int)<=16:=by omega
 have Hq:=ze (fun W=>(show Calls prog 138 #[.agg #[O J s.fl,O J s.gap,O J (n:Int),O J s.cap,O J s.opn,O J s.dw,O J s.cl,O J s.tr,.slice sA sn sk,O J s.disp,O J s.hor,O J s.bins,O J s.width]] W (dF s sA sn sk W)from by rw[hn];exact bz s hs sA sn sk W));have hO:=UE n (by omega);have hQ:=GO n (by omega);clear hs hp hpl hP
 go_in
 go_upto_region 1 with(fail);refine zq (w:=w) (fun V=>Bx V w.heap.size (s.ls sA sn sk)/\w.heap.size<V.heap.size) ⟨Bx.new w (s.ls sA sn sk) 25,by simp⟩ ((Below.refl w.heap.size w).alloc fi _) ?_;rintro V ⟨hq,h0⟩ H6;have hT:Bx V w.heap.size [O J s.fl,O J s.gap,O J (n:Int),O J s.cap,O J s.opn,O J s.dw,O J s.cl,O J s.tr,.slice sA sn sk,O J s.disp,O J s.hor,O J s.bins,O J s.width]:=by rw[hn];exact hq
 have HS0:=ze hq;have Ho:=ze H6;have HN:=ze hn;clear hq H6 hn
 go_cut [5] (fun v wx=>∃ x,v=.pointer (some ⟨x,0,none⟩)/\eM s sA sn sk w.heap.size P M x wx/\Below w.heap.size w wx)
 case first=>
  have MK:=ze (fun W(h:Bx W w.heap.size [O J s.fl,O J s.gap,O J (n:Int),O J s.cap,O J s.opn,O J s.dw,O J s.cl,O J s.tr,.slice sA sn sk,O J s.disp,O J s.hor,O J s.bins,O J s.width])=>(show W.cell? ⟨w.heap.size,0,none⟩=some (O J s.fl)/\W.cell? ⟨w.heap.size,1,none⟩=some (O J s.gap)/\W.cell? ⟨w.heap.size,2,none⟩=some (O J (n:Int))/\W.cell? ⟨w.heap.size,3,none⟩=some (O J s.cap)/\W.cell? ⟨w.heap.size,4,none⟩=some (O J s.opn)/\W.cell? ⟨w.heap.size,5,none⟩=some (O J s.dw)/\W.cell? ⟨w.heap.size,6,none⟩=some (O J s.cl)/\W.cell? ⟨w.heap.size,7,none⟩=some (O J s.tr)/\W.cell? ⟨w.heap.size,8,none⟩=some (.slice sA sn sk)/\W.cell? ⟨w.heap.size,9,none⟩=some (O J s.disp)/\W.cell? ⟨w.heap.size,10,none⟩=some (O J s.hor)/\W.cell? ⟨w.heap.size,11,none⟩=some (O J s.bins)/\W.cell? ⟨w.heap.size,12,none⟩=some (O J s.width)from⟨(h 0 _ rfl).1,(h 1 _ rfl).1,(h 2 _ rfl).1,(h 3 _ rfl).1,(h 4 _ rfl).1,(h 5 _ rfl).1,(h 6 _ rfl).1,(h 7 _ rfl).1,(h 8 _ rfl).1,(h 9 _ rfl).1,(h 10 _ rfl).1,(h 11 _ rfl).1,(h 12 _ rfl).1⟩));have hd:=ze hT.drew;have hr:=ze (show w.heap.size<V.drew.heap.size from h0);have ha:=ze Ho.o.drew;clear hT;refine wp_region_held_drew (S:=(fun W=>W.cell? ⟨w.heap.size,0,none⟩=some (O J s.fl)/\W.cell? ⟨w.heap.size,1,none⟩=some (O J s.gap)/\W.cell? ⟨w.heap.size,2,none⟩=some (O J (n:Int))/\W.cell? ⟨w.heap.size,3,none⟩=some (O J s.cap)/\W.cell? ⟨w.heap.size,4,none⟩=some (O J s.opn)/\W.cell? ⟨w.heap.size,5,none⟩=some (O J s.dw)/\W.cell? ⟨w.heap.size,6,none⟩=some (O J s.cl)/\W.cell? ⟨w.heap.size,7,none⟩=some (O J s.tr)/\W.cell? ⟨w.heap.size,8,none⟩=some (.slice sA sn sk)/\W.cell? ⟨w.heap.size,9,none⟩=some (O J s.disp)/\W.cell? ⟨w.heap.size,10,none⟩=some (O J s.hor)/\W.cell? ⟨w.heap.size,11,none⟩=some (O J s.bins)/\W.cell? ⟨w.heap.size,12,none⟩=some (O J s.width))) (by kernel_rfl) ?_ (fun hHeld=>?_)
  ·exact MK.o _ hd.o
  refine qK [0,2,3,4,6,7] (by simp[zl];rfl) (by kernel_rfl) (by assumption) ?_
  iterate 6 (refine qz (v:=?_) (fun _ _ _ h=>h) (by rfl) ?_ ?_;rotate_left;(next=>((intro w hz;(try dsimp only at hz);go_simp);(try with_reducible rfl)));try go_frame)
  refine qL ?_
  iterate 3
   all_goals first
    |(refine jj [1,5,8] (by decide+kernel) ?_;refine j6 (by simp[zl];rfl) rfl (fun K hK=>?_) (j6 (by simp[zl];rfl) rfl (fun K hK=>?_) (j6 (by simp[zl];rfl) rfl (fun K hK=>?_) ym)))
    |(refine jj [5,8] (by decide+kernel) ?_;refine j6 (by simp[zl];rfl) rfl (fun K hK=>?_) (j6 (by simp[zl];rfl) rfl (fun K hK=>?_) ym))
    |(refine jj [1,8] (by decide+kernel) ?_;refine j6 (by simp[zl];rfl) rfl (fun K hK=>?_) (j6 (by simp[zl];rfl) rfl (fun K hK=>?_) ym))
    |(refine jj [1,5] (by decide+kernel) ?_;refine j6 (by simp[zl];rfl) rfl (fun K hK=>?_) (j6 (by simp[zl];rfl) rfl (fun K hK=>?_) ym))
    |(refine jj [8] (by decide+kernel) ?_;refine j6 (by simp[zl];rfl) rfl (fun K hK=>?_) ym)
    |(refine jj [5] (by decide+kernel) ?_;refine j6 (by simp[zl];rfl) rfl (fun K hK=>?_) ym)
    |(refine jj [1] (by decide+kernel) ?_;refine j6 (by simp[zl];rfl) rfl (fun K hK=>?_) ym)
   all_goals go_simp
   all_goals first
    |(go_at_call 138;(with_reducible refine(Hq.o _).mono ?_);rintro r wX ⟨wb,h,cv,L,rfl,hW,hy,hF,ht⟩;have HW:=ze (hW.small ha.o.size);have hA:=ze hy;have HF:=ze hF;have hd:=ze (hd.o.below ht hr.o);have HA:=ze (kK hr.o ht.size);have ha:=ze (ha.o.trans (ht.mono ha.o.size));have hr:=ze HA.o;(try have H1:=ze (jQ hW hm.o));(try have H2:=ze (jQ hW ho.o));(try have hm:=ze (hm.o.below ht));(try have ho:=ze (ho.o.below ht));clear hW hy hF ht;refine hK.out _ _ ?_ (fun hHeld=>?_);(next=>exact MK.o _ hd.o);clear hK K;try go_frame)
    |((try have H1:=ze (ji HW.o n));(try have hG:=ze (jv ho.o n));have hm:=ze (Own.made (base:=w.heap.size) (k:=.i64) _ 3 n ha.o.size (by omega));(try have ho:=ze (ho.o.alloc (.cells (madeCells #[O J 0] n) 3)));(try have HW:=ze (HW.o.below (fh.alloc fi (.cells (madeCells #[O J 0] n) 3))));have hd:=ze (hd.o.alloc (by simp) (.cells (madeCells #[O J 0] n) 3));have hr:=ze (jw hr.o (.cells (madeCells #[O J 0] n) 3));have ha:=ze (ha.o.alloc ha.o.size (.cells (madeCells #[O J 0] n) 3));refine hK.out _ _ ?_ (fun hHeld=>?_);(next=>exact MK.o _ hd.o);clear hK K;try go_frame)
    |((try have H2:=ze (ji HW.o n));(try have hG:=ze (jv hm.o n));have ho:=ze (Own.madeBu (base:=w.heap.size) _ n ha.o.size (by omega));(try have hm:=ze (hm.o.alloc (.cells (madeCells #[.slice none 0 0,O J 0,O J 0] (n*3)) 268)));(try have HW:=ze (HW.o.below (fh.alloc fi (.cells (madeCells #[.slice none 0 0,O J 0,O J 0] (n*3)) 268))));have hd:=ze (hd.o.alloc (by simp) (.cells (madeCells #[.slice none 0 0,O J 0,O J 0] (n*3)) 268));have hr:=ze (jw hr.o (.cells (madeCells #[.slice none 0 0,O J 0,O J 0] (n*3)) 268));have ha:=ze (ha.o.alloc ha.o.size (.cells (madeCells #[.slice none 0 0,O J 0,O J 0] (n*3)) 268));refine hK.out _ _ ?_ (fun hHeld=>?_);(next=>exact MK.o _ hd.o);clear hK K;try go_frame)
  all_goals
   refine qK [9] (by simp[zl];rfl) (by kernel_rfl) (by assumption) ?_
   iterate 1 (refine qz (v:=?_) (fun _ _ _ h=>h) (by rfl) ?_ ?_;rotate_left;(next=>((intro w hz;(try dsimp only at hz);go_simp);(try with_reducible rfl)));try go_frame)
   refine qL ?_;refine jj [10] (by kernel_rfl) ?_;refine j6 (by simp[zl];rfl) rfl (fun K hK=>?_) ym;go_simp;refine hK.out _ _ ?_ (fun hHeld=>?_)
   ·exact MK.o _ (hd.o.alloc (by simp) _)
   clear hK K
   try go_frame
   refine qK [11] (by simp[zl];rfl) (by kernel_rfl) (by assumption) ?_
   iterate 1 (refine qz (v:=?_) (fun _ _ _ h=>h) (by rfl) ?_ ?_;rotate_left;(next=>((intro w hz;(try dsimp only at hz);go_simp);(try with_reducible rfl)));try go_frame)
   refine qL ?_;refine wpAnyH_done (by kernel_rfl) ?_ _;go_wp2_with fail
   go_meet
   exact⟨_,rfl,yf HS.o ha.o HW.o HF.o hA.o n _ _ _ HN.o hm.o ho.o (by first|exact hG.o _ _ rfl rfl|exact(hG.o _ _ rfl rfl).symm) (fun k hk=>⟨H1.o k hk _ rfl,H2.o k hk _ rfl⟩) pA pn pc P HP.o hZ.o H0.o M0 M1 _ (by refine Bx.at_size ?_;simp) (by simp) (fh.alloc fi _) (by simp) (by simp),ha.o.alloc ha.o.size _⟩
 case rest=>
 obtain⟨x,rfl,HC,hC⟩:=hcut;obtain⟨W2,HD⟩:∃ W2,W2=wc:=⟨_,rfl⟩;subst HD;obtain⟨E,hE,hI,hN,Hk,H4,hl,Ha,Hc,H9,hy,H5,H8,H7⟩:=HC;have hX:=ze H8;have hV:=ze H7;clear H8 H7;have hj:zM M E.P E.at_<=P.length+16*M.toNat:=by
  unfold zM;rw[Jv M E.at_ H5,hN];have h1:=hI.inv.len;have h2:=hI.n;have:E.at_.length*M.toNat<=16*M.toNat:=Nat.mul_le_mul_right _ (by omega);omega
 have HE:=ze hE;have HI:=ze hI;have he:=ze hN;have hB:=ze Hk;have hD:=ze H4;have HM:=ze hl;have hJ:=ze Ha;have hu:=ze Hc;have hY:=ze H9;have hA:=ze hy;have hv:=ze hj;have hU:=ze hC;clear hE hI hN Hk H4 hl Ha Hc H9 hy H5 hj hO hQ hT;have hc:=hZ.o;rcases hf:P with _|⟨p,P'⟩
 ·have HQ:=ze hf;rw[hf]at hc;have HG:pn=0:=by simpa using hc.1.symm
  subst HG;clear hf hc hC;go_wp2_with fail;go_ret;refine⟨x,E,rfl,HE.o,HI.o,⟨?_,?_,?_,?_⟩,by rw[hB.o,he.o,HQ.o];rfl,hA.o,hU.o,fun last _ hM=>⟨⟨hX.o,fun q hq=>(by rw[he.o,HQ.o]at hq;cases hq),hV.o,by rw[HQ.o]at hM;rw[hB.o,he.o,HQ.o];exact hM⟩,fun h=>absurd (he.o.trans HQ.o) h⟩⟩
  ·rw[hD.o];have:=hv.o;simp;omega
  ·rw[hJ.o];have:=hv.o;omega
  ·rw[hu.o];have:=hv.o;omega
  ·rw[hY.o];have:=hv.o;omega
 ·have HQ:=ze hf;have hR:=HP.o.below hC;rw[hf]at hc hR;have HH:pn=P'.length+1:=by simpa using hc.1.symm
  subst HH;obtain⟨B,off,rfl,HT,hg⟩:=hR.2 (by omega);have q1:W2.cell? ⟨B,off+1,none⟩=some (O J p.tick):=hg 1 _ rfl;have Hj:=H0.o.ok p (by rw[hf];exact xz ..);have HX:P'.length+1<=pc:=by simpa using hc.2
  have hi:P.length=P'.length+1:=by rw[hf];rfl
  have hL:=ze (show Calls prog 139 #[.pointer (some ⟨x,2,none⟩),O J 0,O J 0,O J p.tick] W2.drew fun r w'=>r=.returned (.tuple #[])/\bj x E.F E.g E.nm E.m E.HL E.l ⟨p.tick,0,0⟩ W2.drew w' from
   Qr (F:=E.F) x E.g E.nm E.HL.length E.m E.HL E.l ⟨p.tick,0,0⟩ W2.drew (HE.o.cs.below fh.drew) rfl (by rw[hD.o];simp) (by rw[hJ.o];omega) ⟨zQ (by show(-1000000000:Int)<=p.tick;omega) (by show p.tick<=(1000000000:Int);omega),zQ (show(-1000000000:Int)<=0 by decide) (show(0:Int)<=1000000000 by decide),zQ (show(-1000000000:Int)<=0 by decide) (show(0:Int)<=1000000000 by decide)⟩)
  have Hs:=ze Hj;have HO:=ze hi;clear hf hc hR hg Hj hi hC;go_upto_region 3 with(fail)
  go_region_with (go_at_call 139;(with_reducible refine hL.o.mono ?_);rintro r w5 ⟨rfl,hS⟩;have Hw:=ze hS;clear hS q1)
  all_goals(
   go_wp2_with fail;go_ret;obtain⟨g',b',n',L',h3,h4,h5,h6,h7⟩:=Hw.o;obtain⟨l',h8,h9⟩:=un ⟨p.tick,0,0⟩ (wo E.l 0 0) (JK HE.o.cs.ch.srt 0 0);have H3:=(HE.o.below fh.drew).cal (h3 l' h8 h9) h6 h7;have hI:=HI.o.inv;have hw:E.P=p::P':=by rw[he.o,HQ.o]
   rw[hw]at hI;have HB:Below w.heap.size W2 W2.drew:=fh.drew;rw[hD.o]at h4;rw[hJ.o]at h5;have HR:=hv.o;refine⟨x,_,rfl,H3.1,⟨?_,HI.o.tk,HI.o.yl,HI.o.mx,HI.o.n,HI.o.m⟩,⟨?_,?_,?_,?_⟩,?_,hA.o,(hU.o.trans HB).trans H3.2,fun last HJ hM=>⟨⟨hX.o.next h9,by show PV s last E.P;rw[he.o];exact HJ,hV.o,by show last+2*(((E.trips.length+E.P.length:Nat):Int))*qt s<=M;rw[hB.o,he.o,KN,Wa];exact hM⟩,fun _=>⟨_,h9.mem_iff.2 (xz ..),rfl⟩⟩⟩
   ·show EInv s 0 E.T E.P E.L E.at_ E.trips E.S.L l' _
    rw[hw];exact hI.next Hs.o.1 h9
   ·show L'.length+0+18*zM M E.P E.at_<=K
    simp at h4;omega
   ·show n'+0+18*zM M E.P E.at_<=K
    omega
   ·show E.S.nw+2*zM M E.P E.at_<=500000
    rw[hu.o];omega
   ·show E.S.nc+2*zM M E.P E.at_<=500000
    rw[hY.o];omega
   ·show E.trips.length+E.P.length=_
    rw[hB.o,he.o];simp)
def ey(s:Sc)(sA:iX)(sn sk:Nat)(P:List Pa)(w:l6)(e:Ending)(w':l6):Prop:=
 ∃B x E,e=.returned (.iface 206 (.pointer (some ⟨x,0,none⟩)))/\Eg B s sA sn sk x E w'/\EI s s.hor s.hor E (fun _=>False)/\E.T=s.hor/\(E.L.length:Int)=s.cars/\E.trips.length+E.P.length=P.length/\Below w.heap.size w w'/\∀ last,PV s last P->last+2*((P.length:Nat):Int)*qt s<=s.hor->E.P=[]/\∀ t∈E.trips,0<=t.al
theorem QA(s:Sc)(hs:s.ok)(sA:iX)(sn sk:Nat)(pA:iX)(pn pc:Nat)(P:List Pa)(w:l6)(hp:Rd w w.heap.size 4 pA pn (P.flatMap Wl))(hpl:P.length=pn/\pn<=pc)(hP:Pas 0 P)(hh:s.hor<=5000)(hn:P.length<=600)(ht:Tab w)(hD:5<w.heap.size):
  Calls prog 79 #[s.v sA sn sk,.slice pA pn pc,.bool true] w (ey s sA sn sk P w):=by
 have h1:=hs.hor;have hy:=ze (show 1+18*(P.length+16*s.hor.toNat)<=1500000 from by omega);have h5:=ze (fun W(hb:Below w.heap.size w W)=>bB s hs sA sn sk pA pn pc P s.hor 1500000 W ((hp.below hb).mono hb.size) hpl hP (by omega) (by omega) hy.o fi);have HT:=ze ht;have HS:=ze hs;clear hp hpl hP ht hs
 go_in
 go_upto_region 2 with(fail);refine zq (w:=w) (fun V=>Bx V w.heap.size (s.ls sA sn sk)/\w.heap.size<V.heap.size) ⟨Bx.new w (s.ls sA sn sk) 25,by simp⟩ ((Below.refl w.heap.size w).alloc fi _) ?_;rintro V ⟨hq,h0⟩ hf;have HQ:=ze hq;have h4:=ze hf;obtain⟨⟨q0,q1,q2,q3,q4,q5,q6,q7,q8,q9,q10,q11,q12⟩,-⟩:=hq.o13;clear hq hf;go_upto_region 3 with(go_at_call 106;(with_reducible refine(h5.o _ h4.o).mono ?_);rintro r w1 ⟨x,E,rfl,hE,hI,hB,hj,hL,hb,hi⟩;have hu:=ze hi;clear hi;have HE:=ze hE;have HI:=ze hI;have HB:=ze hB;have h8:=ze hj;have HL:=ze hL;have h7:=ze hb;have hv:=ze (HQ.o.below hb h0);clear hE hI hB hj hL hb q0 q1 q2 q3 q4 q5 q6 q7 q8 q9 q10 q11 q12);have q10:=(hv.o 10 _ rfl).1;have hz:=ze (UD V.heap.size s HS.o sA sn sk x 0 s.hor 1500000 E w1 HE.o HI.o (by omega) (by rw[h8.o];omega) HB.o fi ((HT.o.below h4.o hD).below h7.o (by omega)) (by omega));go_upto_region 4 with(go_at_call 107;(with_reducible refine hz.o.mono ?_);rintro r w2 ⟨rfl,he,E2,h9,ha,hd,hc,h3,hg⟩;have hl:=ze hg;clear hg;have hm:=ze h9;have ho:=ze ha;have hw:=ze hd;have hr:=ze hc;have h6:=ze h3;have hk:=ze he;clear h9 ha hd hc h3 he q10);go_wp2_with fail;go_ret;exact⟨V.heap.size,x,E2,rfl,hm.o,ho.o,hw.o,by rw[hr.o];exact HL.o,by rw[h6.o];exact h8.o,(h4.o.trans (h7.o.mono (by omega))).trans (hk.o.mono (by omega)),fun last h1 h2=>hl.o last (hu.o last h1 h2)⟩
end
end Go.Proofs.YtdeogmbfgkepeaaGreatDoor
