/- Contracts for WholeDelivers. -/
import Derived.Test.YtdeogmbfgkepeaaGreatDoorR15
import Derived.Test.YtdeogmbfgkepeaaGreatDoorR18
set_option linter.unusedVariables false
set_option linter.unusedSimpArgs false
set_option maxRecDepth 100000
set_option maxHeartbeats 64000000
namespace Go.Proofs.YtdeogmbfgkepeaaGreatDoor
open Go.Proofs.Tryz
open Go.Value renaming int->O
open Go.IntKind renaming i64->J
section
open Go.RowKit HB Go.Maps CalP
theorem zQ{a:Int}(h0: -1000000000<=a)(h1:a<=1000000000):jX a:=by
 unfold jX;have e1:IntKind.i64.min=-9223372036854775808:=by decide
 have e2:IntKind.i64.max=9223372036854775807:=by decide
 simp only[Lit.wf];simp[e1,e2];omega
structure Sl where
 A:iX
 (n c:Nat)
abbrev Sl.v(s:Sl):Value:=.slice s.A s.n s.c
def Sl.blk(s:Sl)(k:Nat):Prop:=∃ off,s.A=some ⟨k,off,none⟩
structure Wt where
 (id frm to_ car:Int)
deriving Inhabited
abbrev ZY(x:Wt):iZ:=[O J x.id,O J x.frm,O J x.to_,O J x.car]
abbrev Wt.v(x:Wt):Value:=.agg #[O J x.id,O J x.frm,O J x.to_,O J x.car]
abbrev qc(x:Int×Int):Value:=.agg #[O J x.1,O J x.2]
abbrev HK:=Int×Int×Int
structure Wrow(w:l6)(s:Sl)(l:List Wt):Prop where
 len:l.length=s.n
 cap:s.n<=s.c
 at_:(s.A=none/\s.c=0)\/∃ b off,s.A=some ⟨b,off,none⟩/\b<w.heap.size/\(∀j u,(l.flatMap ZY)[j]?=some u->w.cell? ⟨b,off+j,none⟩=some u)/\∀ j,j<s.c*4->(w.cell? ⟨b,off+j,none⟩).isSome=true/\w.frozen? ⟨b,off+j,none⟩=false
structure HS where
 (mw mc:Option Nat)
 (nw nc:Nat)
 fw:HK->Option Sl
 fc:Int×Int->Option (Int×Int)
 L:HK->List Wt
structure Hl(w:l6)(h:Nat)(S:HS):Prop where
 c0:w.cell? ⟨h,0,none⟩=some (.map S.mw)
 c1:w.cell? ⟨h,1,none⟩=some (.map S.mc)
 c2:∃ n:Int,w.cell? ⟨h,2,none⟩=some (O J n)
 f0:w.frozen? ⟨h,0,none⟩=false
 f1:w.frozen? ⟨h,1,none⟩=false
 f2:w.frozen? ⟨h,2,none⟩=false
 m1:Mv hallK Sl.v w S.mw S.nw S.fw
 m2:Mv cellK qc w S.mc S.nc S.fc
 ne1:S.mw≠some h
 ne2:S.mc≠some h
 ne3:∀ b,S.mw=some b->S.mc≠some b
 row:∀ k s,S.fw k=some s->hallK.wf k/\Wrow w s (S.L k)
 non:∀ k,S.fw k=none->S.L k=[]
 sep:∀ k k' s s' b,S.fw k=some s->S.fw k'=some s'->s.blk b->s'.blk b->k=k'
 off:∀ k s b,S.fw k=some s->s.blk b->b≠h/\S.mw≠some b/\S.mc≠some b
def Xh(S:HS)(h:Nat)(k:Nat):Prop:=k=h\/S.mw=some k\/S.mc=some k\/∃ key s,S.fw key=some s/\s.blk k
def HS.ne(S:HS):Prop:=∀ k,(S.fw k).isSome=true->S.L k≠[]
section
variable{w w':l6}{s:Sl}{l:List Wt}{h:Nat}{S:HS}
theorem Wrow.keep(hr:Wrow w s l)(hz:w.heap.size<=w'.heap.size)(hb:∀ b,s.blk b->w'.heap[b]?=w.heap[b]?):Wrow w' s l:=by
 refine⟨hr.len,hr.cap,?_⟩;rcases hr.at_ with h|⟨b,off,hA,h0,h1,h2⟩
 ·exact .inl h
 ·have:=hb b ⟨off,hA⟩;exact .inr ⟨b,off,hA,by omega,fun j u hu=>(vg (a:=⟨b,off+j,none⟩) this).trans (h1 j u hu),fun j hj=>by
   rw[vg (a:=⟨b,off+j,none⟩) this,xC (a:=⟨b,off+j,none⟩) this];exact h2 j hj⟩
theorem Wrow.lt(hr:Wrow w s l){b:Nat}(hb:s.blk b):b<w.heap.size:=by
 obtain⟨off,hA⟩:=hb;rcases hr.at_ with h|⟨b',off',h3,h0,h1,h2⟩
 ·rw[h.1]at hA;cases hA
 ·rw[hA]at h3;injection h3 with h3;injection h3 with e1 e2 _;subst e1;exact h0
theorem Wrow.first(hr:Wrow w s l){x:Wt}{t:List Wt}(hl:l=x::t):∃ b off,s.A=some ⟨b,off,none⟩/\0<s.n/\w.cell? ⟨b,off,none⟩=some (O J x.id)/\w.cell? ⟨b,off+1,none⟩=some (O J x.frm)/\w.cell? ⟨b,off+2,none⟩=some (O J x.to_)/\w.cell? ⟨b,off+3,none⟩=some (O J x.car):=by
 have h3:=hr.len;rw[hl]at h3;have hn:0<s.n:=by simp at h3;omega
 rcases hr.at_ with h|⟨b,off,hA,h0,h1,h2⟩
 ·have:=hr.cap;omega
 ·subst hl;exact⟨b,off,hA,hn,h1 0 _ rfl,h1 1 _ rfl,h1 2 _ rfl,h1 3 _ rfl⟩
theorem Hl.xlt(H:Hl w h S){k:Nat}(hk:Xh S h k):k<w.heap.size:=by
 rcases hk with rfl|hk|hk|⟨key,s,h1,h2⟩
 ·exact JG w _ H.c0
 ·exact H.m1.lt hk
 ·exact H.m2.lt hk
 ·exact(H.row key s h1).2.lt h2
theorem Hl.but{Y:Nat->Prop}(H:Hl w h S)(hb:But Y w w')(hd:∀ k,Xh S h k->¬ Y k):Hl w' h S:=by
 have hh:=hb.block h (H.xlt (.inl rfl)) (hd h (.inl rfl));have g:=fun o=>vg (a:=⟨h,o,none⟩) hh
 have gf:=fun o=>xC (a:=⟨h,o,none⟩) hh
 obtain⟨n,hn⟩:=H.c2;exact⟨(g 0).trans H.c0,(g 1).trans H.c1,⟨n,(g 2).trans hn⟩,(gf 0).trans H.f0,(gf 1).trans H.f1,(gf 2).trans H.f2,H.m1.but hb (fun b hm=>hd b (.inr (.inl hm))),H.m2.but hb (fun b hm=>hd b (.inr (.inr (.inl hm)))),H.ne1,H.ne2,H.ne3,
  fun k s hk=>⟨(H.row k s hk).1,(H.row k s hk).2.keep hb.size fun b h0=>hb.block b (H.xlt (.inr (.inr (.inr ⟨k,s,hk,h0⟩)))) (hd b (.inr (.inr (.inr ⟨k,s,hk,h0⟩))))⟩,H.non,H.sep,H.off⟩
theorem Hl.below(H:Hl w h S)(hb:fj w w'):Hl w' h S:=H.but (Y:=fun _=>False) (But.of_below hb) fun _ _ h=>h
end
theorem eN(w:l6):(zeroValue 358).run prog w=.ok (Sl.v ⟨none,0,0⟩) w:=by kernel_rfl
theorem eO(w:l6):(zeroValue 363).run prog w=.ok (qc (0,0)) w:=by kernel_rfl
theorem Hl.lookw{w:l6}{h:Nat}{S:HS}(H:Hl w h S){k:HK}(hk:hallK.wf k):(Instr.lookup 303 (.map S.mw) (.agg #[O J k.1,O J k.2.1,O J k.2.2]) false).run prog w=.ok (Sl.v ((S.fw k).getD ⟨none,0,0⟩)) w:=
 H.m1.look1 (T:=303) (E:=358) underlying303 eN hk
theorem Hl.look_some{w:l6}{h:Nat}{S:HS}(H:Hl w h S){k:HK}{A:iX}{n c:Nat}(hf:S.fw k=some ⟨A,n,c⟩)(hk:hallK.wf k):(Instr.lookup 303 (.map S.mw) (.agg #[O J k.1,O J k.2.1,O J k.2.2]) false).run prog w=.ok (.slice A n c) w:=by
 have:=H.lookw hk;rw[hf]at this;exact this
theorem Hl.look_none{w:l6}{h:Nat}{S:HS}(H:Hl w h S){k:HK}(hf:S.fw k=none)(hk:hallK.wf k):(Instr.lookup 303 (.map S.mw) (.agg #[O J k.1,O J k.2.1,O J k.2.2]) false).run prog w=.ok (.slice none 0 0) w:=by
 have:=H.lookw hk;rw[hf]at this;exact this
theorem Hl.lookc{w:l6}{h:Nat}{S:HS}(H:Hl w h S){k:Int×Int}(hk:cellK.wf k):(Instr.lookup 304 (.map S.mc) (.agg #[O J k.1,O J k.2]) true).run prog w=.ok (.tuple #[qc ((S.fc k).getD (0,0)),.bool (S.fc k).isSome]) w:=
 H.m2.look2 (T:=304) (E:=363) underlying304 eO hk
theorem qo(a b:Int)(w:l6):Calls prog 226 #[O J a,O J b] w (fk (.agg #[O J a,O J b]) w):=by
 go_in
 go_wp2_with fail
 go_returns
 exact⟨rfl,fh.alloc fi _⟩
theorem WJ(h:Nat)(S:HS)(k:HK)(w:l6)(H:Hl w h S)(hk:hallK.wf k):
  Calls prog 261 #[.pointer (some ⟨h,0,none⟩),.agg #[O J k.1,O J k.2.1,O J k.2.2]] w (fk (O J ((S.fw k).getD ⟨none,0,0⟩).n) w):=by
 have HH:=ze (fun V(hb:fj w V)=>(H.below hb).lookw hk);have c1:=H.c0;have h1:=H.xlt (.inl rfl);clear H;generalize(S.fw k).getD ⟨none,0,0⟩=sl at*;obtain⟨A,n,c⟩:=sl;have HB:=ze (Bs.one w [O J k.1,O J k.2.1,O J k.2.2] 360);have h0:=fun m=>HH.o _ (zg HB.o.b m)
 go_in
 go_wp2_with fail;go_quiet(fail);go_wp2_with fail;go_ret;exact⟨rfl,zg HB.o.b _⟩
theorem YP(h:Nat)(S:HS)(a b:Int)(w:l6)(H:Hl w h S)(hk:cellK.wf (a,b)):
  Calls prog 189 #[.pointer (some ⟨h,0,none⟩),O J a,O J b] w (fk (.tuple #[O J ((S.fc (a,b)).getD (0,0)).2,.bool (S.fc (a,b)).isSome]) w):=by
 have HH:=ze (fun V(hb:fj w V)=>(show(Instr.lookup 304 (.map S.mc) (.agg #[O J a,O J b]) true).run prog V=.ok (.tuple #[qc ((S.fc (a,b)).getD (0,0)),.bool (S.fc (a,b)).isSome]) V from(H.below hb).lookc hk));have c1:=H.c1;have h2:=H.xlt (.inl rfl);clear H;generalize(S.fc (a,b)).isSome=ok at HH⊢;generalize(S.fc (a,b)).getD (0,0)=z at HH⊢;obtain⟨z0,z1⟩:=z
 go_in
 have MK:=ze (fun V(hb:fj w V)=>(show V.cell? ⟨h,1,none⟩=some (.map S.mc)/\(Instr.lookup 304 (.map S.mc) (.agg #[O J a,O J b]) true).run prog V=.ok (.tuple #[qc (z0,z1),.bool ok]) V/\fj w V from⟨zf hb c1,HH.o _ hb,hb⟩));go_wp2_with fail
 go_region_held3 (fun V=>V.cell? ⟨h,1,none⟩=some (.map S.mc)/\(Instr.lookup 304 (.map S.mc) (.agg #[O J a,O J b]) true).run prog V=.ok (.tuple #[qc (z0,z1),.bool ok]) V/\fj w V)
  (((refine MK.o _ ?_);(first|(with_reducible exact h1.o)|(go_grown;done)|(go_grown;with_reducible exact h1.o))))
  (first|(go_at_call 226;go_split_ands;refine(qo a b _).mono ?_;rintro e w4 ⟨rfl,h0⟩;have h1:=ze ((‹fj w _›).trans (h0.mono (‹fj w _›).size));have h3:=h1.o.size;(try(have h4:w.heap.size<w4.heap.size:=(by have:=h0.size;simp at this;omega);have d0:w4.cell? ⟨w.heap.size,0,none⟩=some (O J 0):=zf h0 (by simp);have d1:w4.cell? ⟨w.heap.size,1,none⟩=some (O J 0):=zf h0 (by simp);have g0:w4.frozen? ⟨w.heap.size,0,none⟩=false:=zG h0 (by simp) (by simp);have g1:w4.frozen? ⟨w.heap.size,1,none⟩=false:=zG h0 (by simp) (by simp)));clear h0))
 all_goals
  go_wp2_with fail;go_split_ands;go_ret2;exact⟨rfl,‹fj w _›⟩
def JM(l:List Wt)(e:Ending):Prop:=(∃x t,l=x::t/\e=.returned (.tuple #[x.v,.bool true]))\/(l=[]/\e=.returned (.tuple #[Wt.v ⟨0,0,0,0⟩,.bool false]))
theorem VD(h:Nat)(S:HS)(k:HK)(w:l6)(H:Hl w h S)(hk:hallK.wf k):
  Calls prog 279 #[.pointer (some ⟨h,0,none⟩),.agg #[O J k.1,O J k.2.1,O J k.2.2]] w fun e w'=>JM (S.L k) e/\fj w w':=by
 have c1:=H.c0;have h2:=H.xlt (.inl rfl);have HB:=ze (Bs.two w [O J k.1,O J k.2.1,O J k.2.2] [O J 0,O J 0,O J 0,O J 0] 360 318);cases hf:S.fw k with
 |none=>
  have HN:=ze (show JM (S.L k) (.returned (.tuple #[Wt.v ⟨0,0,0,0⟩,.bool false]))from .inr ⟨H.non k hf,rfl⟩);have h0:=fun m=>(H.below (zg HB.o.b m)).look_none hf hk
  clear H hf
  go_in
  go_wp2_with fail;go_quiet(fail);go_wp2_with fail;refine bodyPost_ret (v:=.tuple #[Wt.v ⟨0,0,0,0⟩,.bool false]) (by rw[results_cell_tmp rfl];go_simp) rfl ?_;exact⟨HN.o,by go_grown;exact zg HB.o.b _⟩
 |some sl=>
  obtain⟨r1,r2⟩:=H.row k sl hf;cases hl:S.L k with
  |nil=>
   have hn0:sl.n=0:=by have:=r2.len;rw[hl]at this;simpa using this.symm
   have HN:=ze (show JM [] (.returned (.tuple #[Wt.v ⟨0,0,0,0⟩,.bool false]))from .inr ⟨rfl,rfl⟩);obtain⟨A,n,c⟩:=sl;simp only at hn0;subst hn0;have h0:=fun m=>(H.below (zg HB.o.b m)).look_some hf hk
   clear H hf r1 r2 hl
   go_in
   go_wp2_with fail;go_quiet(fail);go_wp2_with fail;refine bodyPost_ret (v:=.tuple #[Wt.v ⟨0,0,0,0⟩,.bool false]) (by rw[results_cell_tmp rfl];go_simp) rfl ?_;exact⟨HN.o,by go_grown;exact zg HB.o.b _⟩
  |cons x t=>
   obtain⟨b,off,hA,hn,q0,q1,q2,q3⟩:=r2.first hl;have HN:=ze (show JM (x::t) (.returned (.tuple #[x.v,.bool true]))from .inl ⟨x,t,rfl,rfl⟩);obtain⟨A,n,c⟩:=sl;simp only at hA hn;subst hA;have h0:=fun m=>(H.below (zg HB.o.b m)).look_some hf hk
   have h1:=JG w _ q0;clear H hf r1 r2 hl
   go_in
   go_wp2_with fail;go_quiet(fail);go_wp2_with fail;refine bodyPost_ret (v:=.tuple #[x.v,.bool true]) (by rw[results_cell_tmp rfl];go_simp) rfl ?_;exact⟨HN.o,by go_grown;exact zg HB.o.b _⟩
structure HNext(w:l6)(h:Nat)(S:HS)(w':l6)(S':HS):Prop where
 hl:Hl w' h S'
 but:But (Xh S h) w w'
 x:∀ k,k<w.heap.size->Xh S' h k->Xh S h k
theorem HNext.refl{w w':l6}{h:Nat}{S:HS}(H:Hl w h S)(hb:fj w w'):HNext w h S w' S:=⟨H.below hb,But.of_below hb,fun _ _ h=>h⟩
theorem HNext.trans{w w1 w2:l6}{h:Nat}{S S1 S2:HS}(a:HNext w h S w1 S1)(b:HNext w1 h S1 w2 S2):HNext w h S w2 S2:=
 ⟨b.hl,a.but.trans b.but a.x,fun k hk hx=>a.x k hk (b.x k (kK hk a.but.size) hx)⟩
def HS.calls(S:HS)(mc:Option Nat)(nc:Nat)(fc:Int×Int->Option (Int×Int)):HS:={S with mc:=mc,nc:=nc,fc:=fc}
theorem Hl.callsMap{w w':l6}{h:Nat}{S:HS}(H:Hl w h S){nc:Nat}{fc:Int×Int->Option (Int×Int)}(hg:w.grownBy w' S.mc)(hm:Mv cellK qc w' S.mc nc fc):HNext w h S w' (S.calls S.mc nc fc):=by
 have hb:But (fun k=>S.mc=some k) w w':=But.of_grown hg fun k hk=>hk
 have hh:w'.heap[h]?=w.heap[h]?:=hb.block h (H.xlt (.inl rfl)) H.ne2;have g:=fun o=>vg (a:=⟨h,o,none⟩) hh
 have gf:=fun o=>xC (a:=⟨h,o,none⟩) hh
 obtain⟨n,hn⟩:=H.c2;refine⟨⟨(g 0).trans H.c0,(g 1).trans H.c1,⟨n,(g 2).trans hn⟩,(gf 0).trans H.f0,(gf 1).trans H.f1,(gf 2).trans H.f2,H.m1.but hb (fun b hm=>H.ne3 b hm),hm,H.ne1,H.ne2,H.ne3,fun k s hk=>⟨(H.row k s hk).1,(H.row k s hk).2.keep hb.size fun b h0=>hb.block b (H.xlt (.inr (.inr (.inr ⟨k,s,hk,h0⟩)))) (H.off k s b hk h0).2.2⟩,H.non,H.sep,H.off⟩,hb.mono fun k _ hk=>.inr (.inr (.inl hk)),fun k _ hx=>hx⟩
theorem Hl.callsMade{w:l6}{h:Nat}{S:HS}(H:Hl w h S)(hn:S.mc=none):HNext w h S ((w.setCell ⟨h,1,none⟩ (.map (some w.heap.size))).alloc (.map #[] 0)) (S.calls (some w.heap.size) 0 (fun _=>none)):=by
 have h8:=H.xlt (.inl rfl);have h7:(w.alloc (.map #[] 0)).setCell ⟨h,1,none⟩ (.map (some w.heap.size))=(w.setCell ⟨h,1,none⟩ (.map (some w.heap.size))).alloc (.map #[] 0):=by
  unfold World.setCell World.alloc;simp only
  congr 1
  apply Array.ext
  ·simp
  ·intro j h1 h2;simp only[iJ,iU,Array.size_modify];by_cases hj:j<w.heap.size
   ·simp[hj]
   ·have:¬ h=j:=by omega
    simp[hj,this]
 rw[<-h7];have hb:=(Below.refl w.heap.size w).alloc fi (.map #[] 0);have H1:=H.below hb;have h4:But (fun k=>k=h) w ((w.alloc (.map #[] 0)).setCell ⟨h,1,none⟩ (.map (some w.heap.size))):=(But.of_below (X:=fun k=>k=h) hb).set (a:=⟨h,1,none⟩) (.inl rfl) _;have h3:=Mv.made cellK qc w;have h6:w.heap.size≠h:=by omega
 obtain⟨n,h5⟩:=H1.c2;refine⟨⟨?_,KO _ _ _ H1.c1,⟨n,?_⟩,by rw[yD];exact H1.f0,by rw[yD];exact H1.f1,by rw[yD];exact H1.f2,H.m1.but h4 (fun b hm e=>H.ne1 (e▸hm)),?_,H.ne1,fun e=>h6 (ve e),fun b hm e=>?_,fun k s hk=>⟨(H.row k s hk).1,(H.row k s hk).2.keep h4.size fun b h0=>h4.block b (H.xlt (.inr (.inr (.inr ⟨k,s,hk,h0⟩)))) (H.off k s b hk h0).1⟩,H.non,H.sep,fun k s b hk h0=>⟨(H.off k s b hk h0).1,(H.off k s b hk h0).2.1,fun e=>?_⟩⟩,h4.mono fun k _ hk=>.inl hk,fun k hk hx=>?_⟩
 ·rw[Zm _ _ _ _ (by intro e;injection e with _ e _;exact absurd e (by decide))];exact H1.c0
 ·rw[Zm _ _ _ _ (by intro e;injection e with _ e _;exact absurd e (by decide))];exact h5
 ·refine h3.but (X:=fun k=>k=h) ((But.refl (fun k=>k=h) _).set (a:=⟨h,1,none⟩) (.inl rfl) _) (fun b hb e=>?_);injection hb with hb;omega
 ·have:=H.m1.lt hm;injection e with e;omega
 ·have:=H.xlt (.inr (.inr (.inr ⟨k,s,hk,h0⟩)));injection e with e;omega
 ·rcases hx with hx|hx|hx|hx
  ·exact .inl hx
  ·exact .inr (.inl hx)
  ·injection hx with hx;omega
  ·exact .inr (.inr (.inr hx))
theorem Hl.count{w:l6}{h:Nat}{S:HS}(H:Hl w h S)(n:Int):HNext w h S (w.setCell ⟨h,2,none⟩ (O J n)) S:=by
 have hb:But (fun k=>k=h) w (w.setCell ⟨h,2,none⟩ (O J n)):=(But.refl (fun k=>k=h) _).set (a:=⟨h,2,none⟩) (.inl rfl) _;obtain⟨n',hn⟩:=H.c2;have ho:∀ o,o≠2->(w.setCell ⟨h,2,none⟩ (O J n)).cell? ⟨h,o,none⟩=w.cell? ⟨h,o,none⟩:=fun o ho=>Zm _ _ _ _ (by intro e;injection e with _ e _;exact ho e.symm)
 exact⟨⟨(ho 0 (by decide)).trans H.c0,(ho 1 (by decide)).trans H.c1,⟨n,KO _ _ _ hn⟩,by rw[yD];exact H.f0,by rw[yD];exact H.f1,by rw[yD];exact H.f2,H.m1.but hb (fun b hm e=>H.ne1 (e▸hm)),H.m2.but hb (fun b hm e=>H.ne2 (e▸hm)),H.ne1,H.ne2,H.ne3,fun k s hk=>⟨(H.row k s hk).1,(H.row k s hk).2.keep hb.size fun b h0=>hb.block b (H.xlt (.inr (.inr (.inr ⟨k,s,hk,h0⟩)))) (H.off k s b hk h0).1⟩,H.non,H.sep,H.off⟩,hb.mono fun k _ hk=>.inl hk,fun k _ hx=>hx⟩
def JN(w:l6)(h:Nat)(S:HS)(fc:Int×Int->Option (Int×Int))(w':l6):Prop:=∃ mc nc,HNext w h S w' (S.calls mc nc fc)/\nc<=S.nc+1
theorem VE(h:Nat)(S:HS)(a b:Int)(w:l6)(H:Hl w h S)(hk:cellK.wf (a,b)):
  Calls prog 262 #[.pointer (some ⟨h,0,none⟩),O J a,O J b] w fun e w'=>e=.returned (.bool (S.fc (a,b)).isSome)/\JN w h S (upd S.fc (a,b) none) w':=by
 have HH:=ze (fun V(hb:fj w V)=>(show(Instr.lookup 304 (.map S.mc) (.agg #[O J a,O J b]) true).run prog V=.ok (.tuple #[qc ((S.fc (a,b)).getD (0,0)),.bool (S.fc (a,b)).isSome]) V from(H.below hb).lookc hk));have c1:=H.c1;have hd:=H.xlt (.inl rfl);generalize(S.fc (a,b)).isSome=ok at HH⊢;generalize(S.fc (a,b)).getD (0,0)=z at HH;obtain⟨z0,z1⟩:=z;have MK:=ze (fun V(hb:fj w V)=>(show V.cell? ⟨h,1,none⟩=some (.map S.mc)/\(Instr.lookup 304 (.map S.mc) (.agg #[O J a,O J b]) true).run prog V=.ok (.tuple #[qc (z0,z1),.bool ok]) V/\fj w V from⟨zf hb c1,HH.o _ hb,hb⟩));have HC:=ze H;clear H
 go_in
 go_upto_region 2 with(fail)
 go_cut [8] (fun v wx=>v=.bool ok/\fj w wx)
 case first=>
  go_wp2_with fail
  go_region_held3 (fun V=>V.cell? ⟨h,1,none⟩=some (.map S.mc)/\(Instr.lookup 304 (.map S.mc) (.agg #[O J a,O J b]) true).run prog V=.ok (.tuple #[qc (z0,z1),.bool ok]) V/\fj w V)
   (((refine MK.o _ ?_);(first|(with_reducible exact h2.o)|(go_grown;done)|(go_grown;with_reducible exact h2.o))))
   (first|(go_at_call 226;go_split_ands;refine(qo a b _).mono ?_;rintro e w4 ⟨rfl,h1⟩;have h2:=ze ((‹fj w _›).trans (h1.mono (‹fj w _›).size));have he:=h2.o.size;(try(have hf:w.heap.size<w4.heap.size:=(by have:=h1.size;simp at this;omega);have d0:w4.cell? ⟨w.heap.size,0,none⟩=some (O J 0):=zf h1 (by simp);have d1:w4.cell? ⟨w.heap.size,1,none⟩=some (O J 0):=zf h1 (by simp);have g0:w4.frozen? ⟨w.heap.size,0,none⟩=false:=zG h1 (by simp) (by simp);have g1:w4.frozen? ⟨w.heap.size,1,none⟩=false:=zG h1 (by simp) (by simp)));clear h1))
  all_goals
   go_wp2_with fail;go_split_ands
   go_meet
   exact⟨rfl,‹fj w _›⟩
 case rest=>
  obtain⟨rfl,h3⟩:=hcut;have h6:=ze h3;have c1x:=zf h3 c1;clear h3 MK HH c1;go_wp2_with fail
  go_region_with (go_at_call 226;refine(qo a b _).mono ?_;rintro e w5 ⟨rfl,h7⟩;have hb:=h6.o.drew.trans (h7.mono h6.o.size);obtain⟨w6,h0,h9,h8⟩:=(HC.o.below hb).m2.drop (T:=304) (E:=363) underlying304 (x:=(a,b)) hk 0;have h4:(Builtin.delete_ #[304,148] 0 #[.map S.mc,.agg #[O J a,O J b]]).run prog w5=.ok (.tuple #[]) w6:=h0;have c5:=(HC.o.below hb).c1;have hc:=ze h9;have ha:=ze h8;have h5:=ze hb;clear h9 h8 hb h7 h0)
  all_goals
   go_wp2_with fail;go_ret;have hn:=(HC.o.below h5.o).callsMap ha.o hc.o;exact⟨rfl,S.mc,S.nc,(HNext.refl HC.o h5.o).trans hn,by omega⟩
theorem YQ(h:Nat)(S:HS)(a b c:Int)(w:l6)(H:Hl w h S)(hk:cellK.wf (a,b))(hnc:S.nc<=1000000):
  Calls prog 190 #[.pointer (some ⟨h,0,none⟩),O J a,O J b,O J c] w fun e w'=>RB e/\∃ n,JN w h S (if(S.fc (a,b)).isSome=true then S.fc else upd S.fc (a,b) (some (n,c))) w':=by
 have HH:=ze (fun V(hb:fj w V)=>(show(Instr.lookup 304 (.map S.mc) (.agg #[O J a,O J b]) true).run prog V=.ok (.tuple #[qc ((S.fc (a,b)).getD (0,0)),.bool (S.fc (a,b)).isSome]) V from(H.below hb).lookc hk));have c1:=H.c1;have hq:=H.xlt (.inl rfl);generalize(S.fc (a,b)).isSome=ok at HH⊢;generalize(S.fc (a,b)).getD (0,0)=z at HH;obtain⟨z0,z1⟩:=z;have MK:=ze (fun V(hb:fj w V)=>(show V.cell? ⟨h,1,none⟩=some (.map S.mc)/\(Instr.lookup 304 (.map S.mc) (.agg #[O J a,O J b]) true).run prog V=.ok (.tuple #[qc (z0,z1),.bool ok]) V/\fj w V from⟨zf hb c1,HH.o _ hb,hb⟩));have HC:=ze H;clear H;have hp:=fun(W:l6)(r:Option Nat)=>run_eql_map_nil (P:=prog) W _ _ _ r underlying304
 have hr:= @run_makeMap prog
 go_in
 go_upto_region 2 with(fail)
 go_cut [10] (fun v wx=>v=.bool ok/\fj w wx)
 case first=>
  go_wp2_with fail
  go_region_held3 (fun V=>V.cell? ⟨h,1,none⟩=some (.map S.mc)/\(Instr.lookup 304 (.map S.mc) (.agg #[O J a,O J b]) true).run prog V=.ok (.tuple #[qc (z0,z1),.bool ok]) V/\fj w V)
   (((refine MK.o _ ?_);(first|(with_reducible exact h5.o)|(go_grown;done)|(go_grown;with_reducible exact h5.o))))
   (first|(go_at_call 226;go_split_ands;refine(qo a b _).mono ?_;rintro e w4 ⟨rfl,h3⟩;have h5:=ze ((‹fj w _›).trans (h3.mono (‹fj w _›).size));have hs:=h5.o.size;(try(have ht:w.heap.size<w4.heap.size:=(by have:=h3.size;simp at this;omega);have d0:w4.cell? ⟨w.heap.size,0,none⟩=some (O J 0):=zf h3 (by simp);have d1:w4.cell? ⟨w.heap.size,1,none⟩=some (O J 0):=zf h3 (by simp);have g0:w4.frozen? ⟨w.heap.size,0,none⟩=false:=zG h3 (by simp) (by simp);have g1:w4.frozen? ⟨w.heap.size,1,none⟩=false:=zG h3 (by simp) (by simp)));clear h3))
  all_goals
   go_wp2_with fail;go_split_ands
   go_meet
   exact⟨rfl,‹fj w _›⟩
 case rest=>
  obtain⟨rfl,h7⟩:=hcut;have h6:=ze h7;have HX:=ze (HC.o.below h7);have c1x:=HX.o.c1;have f1x:=HX.o.f1;clear h7 MK HH c1;cases ok with
  |true=>
   go_wp2_with fail;go_ret
   first|exact⟨⟨_,rfl⟩,S.mc,S.nc,HNext.refl HC.o h6.o,by omega⟩|exact⟨⟨_,rfl⟩,0,S.mc,S.nc,HNext.refl HC.o h6.o,by omega⟩
  |false=>
   have ho:=HX.o.xlt (.inl rfl)
   go_upto_if 27 with(fail)
   go_cut [] (fun wx=>∃ bm nc,HNext wc h S wx (S.calls (some bm) nc S.fc)/\nc<=S.nc)
   case first=>
    cases h4:S.mc with
    |none=>
     have HM:=ze (HX.o.callsMade h4);have hi:=ze (show S.fc=fun _=>none from by
      rcases HX.o.m2 with⟨-,h2⟩|⟨b',D,h2,-⟩
      ·exact funext h2
      ·rw[h4]at h2;cases h2)
     rw[h4]at c1x;clear h4;go_wp2_with fail
     go_meet
     exact⟨_,0,by rw[hi.o];exact HM.o,vf _⟩
    |some bm=>
     have HM:=ze (show HNext wc h S wc (S.calls (some bm) S.nc S.fc)from h4▸HNext.refl HX.o fh);rw[h4]at c1x;clear h4;go_wp2_with fail
     go_meet
     exact⟨bm,S.nc,HM.o,fi⟩
   case rest=>
    obtain⟨bm,nc,hn,hf⟩:=hcut;have HN:=ze hn;have hc:=ze hf;obtain⟨n0,n1⟩:=hn.hl.c2;have d1:=hn.hl.c1;have e2:=hn.hl.f2;have h8:=hn.hl.xlt (.inl rfl);clear hn hf c1x f1x;go_wp2_with fail;have h0:=ze (HN.o.trans (HN.o.hl.count (wrap64 (n0+1))));generalize(World.setCell _ _ _:l6)=W7 at h0⊢;clear HN n1 d1 e2 h8;obtain⟨n7,m7⟩:=h0.o.hl.c2;have d7:W7.cell? ⟨h,1,none⟩=some (.map (some bm)):=h0.o.hl.c1
    go_region_with (go_at_call 226;refine(qo a b _).mono ?_;rintro e w5 ⟨rfl,hd⟩;have hb:=(Below.refl W7.heap.size W7).drew.trans hd;obtain⟨w6,h1,hg,he⟩:=(h0.o.hl.below hb).m2.store (T:=304) (E:=363) underlying304 (show nc<maxLen from by simp only[maxLen];have:=hc.o;omega) (x:=(a,b)) hk (n7,c);have h9:(Instr.mapUpdate 304 (.map (some bm)) (.agg #[O J a,O J b]) (.agg #[O J n7,O J c])).run prog w5=.ok () w6:=h1;have c5:w5.cell? ⟨h,1,none⟩=some (.map (some bm)):=(h0.o.hl.below hb).c1;have c52:w5.cell? ⟨h,2,none⟩=some (O J n7):=zf hb m7;have hm:=ze hg;have hj:=ze he;have ha:=ze hb;clear hg he hb hd h1)
    all_goals
     go_wp2_with fail;go_ret;have hn:=(h0.o.hl.below ha.o).callsMap hj.o hm.o;exact⟨⟨_,rfl⟩,n7,some bm,nc+1,(HNext.refl HC.o h6.o).trans ((h0.o.trans (HNext.refl h0.o.hl ha.o)).trans hn),by have:=hc.o;omega⟩
theorem zq{Q:l6->Prop}{w W:l6}(S:l6->Prop)(hS:S W)(hb:Below w.heap.size w W)(h:∀ W':l6,S W'->Below w.heap.size w W'->Q W'):Q W:=h W hS hb
theorem Bs.but{X:Nat->Prop}{w W W':l6}{L:List (Nat×iZ)}(h:Bs w W L)(hb:But X W W')(hX:∀ k,X k->k<w.heap.size):∀ p∈L,w.heap.size<=p.1/\p.1<W'.heap.size/\Bx W' p.1 p.2:=fun p hp=>by
 obtain⟨h0,h1,h2⟩:=h.l p hp;exact⟨h0,kK h1 hb.size,h2.but hb h1 (fun hx=>by have:=hX _ hx;omega)⟩
open Classical in
noncomputable def qf(L:HK->List Wt)(k:HK)(l:List Wt):HK->List Wt:=fun k'=>if k'=k then l else L k'
theorem jp(L:HK->List Wt)(k:HK)(l:List Wt):qf L k l k=l:=if_pos rfl
theorem zU(L:HK->List Wt){k k':HK}(l:List Wt)(h:k'≠k):qf L k l k'=L k':=if_neg h
noncomputable def HS.at_(S:HS)(mw:Option Nat)(nw:Nat)(k:HK)(c:Option Sl)(l:List Wt):HS:={S with mw:=mw,nw:=nw,fw:=upd S.fw k c,L:=qf S.L k l}
def yx(b off n c:Nat):Sl:=⟨if c=1 then some ⟨b,off,none⟩else some ⟨b,off+4,none⟩,n-1,c-1⟩
theorem aC{b off n c k:Nat}(h:(yx b off n c).blk k):k=b:=by
 obtain⟨o,h⟩:=h;unfold yx at h;simp only at h;split at h
 ·injection h with h;injection h with h _ _;exact h.symm
 ·injection h with h;injection h with h _ _;exact h.symm
theorem Wrow.tl{w:l6}{b off n c:Nat}{x:Wt}{t:List Wt}(h:Wrow w ⟨some ⟨b,off,none⟩,n,c⟩ (x::t)):Wrow w (yx b off n c) t:=by
 have h4:=h.len;have h3:=h.cap;simp only[Zn]at h4 h3;rcases h.at_ with h1|⟨b',off',hA,h0,h1,h2⟩
 ·cases h1.1
 ·injection hA with hA;injection hA with e1 e2 _;subst e1 e2;simp only at h2;refine⟨by unfold yx;simp only;omega,by unfold yx;simp only;omega,?_⟩;unfold yx;simp only;by_cases hc:c=1
  ·rw[if_pos hc];have ht:t=[]:=yj (by omega);subst ht;exact .inr ⟨b,off,rfl,h0,fun j u hu=>by simp at hu,fun j hj=>by omega⟩
  ·rw[if_neg hc];refine .inr ⟨b,off+4,rfl,h0,fun j u hu=>?_,fun j hj=>?_⟩
   ·rw[XS];refine h1 (4+j) u ?_;rw[QN,XY (by simp)];simpa using hu
   ·rw[XS];exact h2 (4+j) (by omega)
section
variable{w w':l6}{h:Nat}{S:HS}{k:HK}{nw:Nat}
theorem Hl.waitMap(H:Hl w h S){c:Option Sl}{l:List Wt}(hg:w.grownBy w' S.mw)(hm:Mv hallK Sl.v w' S.mw nw (upd S.fw k c))(hwf:hallK.wf k)(hc:∀ s,c=some s->Wrow w s l/\∀ b,s.blk b->∃ s0,S.fw k=some s0/\s0.blk b)(hn:c=none->l=[]):
  HNext w h S w' (S.at_ S.mw nw k c l):=by
 have hb:But (fun k=>S.mw=some k) w w':=But.of_grown hg fun k hk=>hk
 have hh:w'.heap[h]?=w.heap[h]?:=hb.block h (H.xlt (.inl rfl)) H.ne1;have g:=fun o=>vg (a:=⟨h,o,none⟩) hh
 have gf:=fun o=>xC (a:=⟨h,o,none⟩) hh
 obtain⟨n,h6⟩:=H.c2;refine⟨⟨(g 0).trans H.c0,(g 1).trans H.c1,⟨n,(g 2).trans h6⟩,(gf 0).trans H.f0,(gf 1).trans H.f1,(gf 2).trans H.f2,hm,H.m2.but hb (fun b h5 e=>H.ne3 b e h5),H.ne1,H.ne2,H.ne3,fun k' s hk=>?_,fun k' hk=>?_,fun k1 k2 s1 s2 b h1 h2 b1 b2=>?_,fun k' s b hk h4=>?_⟩,hb.mono fun k _ hk=>.inr (.inl hk),fun q _ hx=>?_⟩
 ·by_cases e:k'=k
  ·subst e;have h0:upd S.fw k' c k'=some s:=hk;rw[zK]at h0;have h1:=hc s h0;refine⟨hwf,?_⟩
   show Wrow w' s (qf S.L k' l k')
   rw[jp];exact h1.1.keep hb.size fun b h4=>hb.block b (h1.1.lt h4) (by
    obtain⟨s0,h2,h3⟩:=h1.2 b h4;exact(H.off k' s0 b h2 h3).2.1)
  ·have h0:upd S.fw k c k'=some s:=hk;rw[zv _ _ e]at h0;refine⟨(H.row k' s h0).1,?_⟩
   show Wrow w' s (qf S.L k l k')
   rw[zU _ _ e];exact(H.row k' s h0).2.keep hb.size fun b h4=>hb.block b (H.xlt (.inr (.inr (.inr ⟨k',s,h0,h4⟩)))) (H.off k' s b h0 h4).2.1
 ·by_cases e:k'=k
  ·subst e;have h0:upd S.fw k' c k'=none:=hk;rw[zK]at h0
   show qf S.L k' l k'=[]
   rw[jp];exact hn h0
  ·have h0:upd S.fw k c k'=none:=hk;rw[zv _ _ e]at h0
   show qf S.L k l k'=[]
   rw[zU _ _ e];exact H.non k' h0
 ·have old:∀ k' s,upd S.fw k c k'=some s->s.blk b->∃ s0,S.fw k'=some s0/\s0.blk b:=fun k' s hk h4=>by
   by_cases e:k'=k
   ·subst e;rw[zK]at hk;exact(hc s hk).2 b h4
   ·rw[zv _ _ e]at hk;exact⟨s,hk,h4⟩
  obtain⟨t1,u1,v1⟩:=old k1 s1 h1 b1;obtain⟨t2,u2,v2⟩:=old k2 s2 h2 b2;exact H.sep k1 k2 t1 t2 b u1 u2 v1 v2
 ·have old:∃ s0,S.fw k'=some s0/\s0.blk b:=by
   have h0:upd S.fw k c k'=some s:=hk;by_cases e:k'=k
   ·subst e;rw[zK]at h0;exact(hc s h0).2 b h4
   ·rw[zv _ _ e]at h0;exact⟨s,h0,h4⟩
  obtain⟨s0,h1,h2⟩:=old;exact H.off k' s0 b h1 h2
 ·rcases hx with hx|hx|hx|⟨k',s,hk,h4⟩
  ·exact .inl hx
  ·exact .inr (.inl hx)
  ·exact .inr (.inr (.inl hx))
  ·have h0:upd S.fw k c k'=some s:=hk;by_cases e:k'=k
   ·subst e;rw[zK]at h0;obtain⟨s0,h1,h2⟩:=(hc s h0).2 q h4;exact .inr (.inr (.inr ⟨k',s0,h1,h2⟩))
   ·rw[zv _ _ e]at h0;exact .inr (.inr (.inr ⟨k',s,h0,h4⟩))
end
theorem HS.at_at(S:HS)(mw mw':Option Nat)(nw nw':Nat)(k:HK)(c c':Option Sl)(l l':List Wt):(S.at_ mw nw k c l).at_ mw' nw' k c' l'=S.at_ mw' nw' k c' l':=by
 unfold HS.at_;simp only[HS.mk.injEq,true_and,and_true];constructor
 ·funext y
  by_cases e:y=k
  ·subst e;rw[zK,zK]
  ·rw[zv _ _ e,zv _ _ e,zv _ _ e]
 ·funext y
  by_cases e:y=k
  ·subst e;rw[jp,jp]
  ·rw[zU _ _ e,zU _ _ e,zU _ _ e]
theorem Xh.at_{S:HS}{h nw:Nat}{k:HK}{c:Option Sl}{l:List Wt}{q:Nat}(hx:Xh (S.at_ S.mw nw k c l) h q)(hc:∀ s,c=some s->∀ b,s.blk b->∃ s0,S.fw k=some s0/\s0.blk b):Xh S h q:=by
 rcases hx with hx|hx|hx|⟨k',s,hk,h3⟩
 ·exact .inl hx
 ·exact .inr (.inl hx)
 ·exact .inr (.inr (.inl hx))
 ·have h0:upd S.fw k c k'=some s:=hk;by_cases e:k'=k
  ·subst e;rw[zK]at h0;obtain⟨s0,h1,h2⟩:=hc s h0 q h3;exact .inr (.inr (.inr ⟨k',s0,h1,h2⟩))
  ·rw[zv _ _ e]at h0;exact .inr (.inr (.inr ⟨k',s,h0,h3⟩))
theorem HNext.own{w w':l6}{h:Nat}{S S':HS}(H:HNext w h S w' S'){a:Addr}(ha:w.heap.size<=a.block)(hx:¬ Xh S' h a.block)(u:Value):HNext w h S (w'.setCell a u) S':=
 ⟨H.hl.but (Y:=fun k=>k=a.block) ((But.refl (fun k=>k=a.block) _).set (.inl rfl) u) (fun k hk e=>hx (e▸hk)),H.but.set (.inr ha) u,H.x⟩
theorem HNext.own4{w w':l6}{h:Nat}{S S':HS}(H:HNext w h S w' S'){q:Nat}(ha:w.heap.size<=q)(hx:¬ Xh S' h q)(u v y z:Value):HNext w h S ((((w'.setCell ⟨q,0,none⟩ u).setCell ⟨q,1,none⟩ v).setCell ⟨q,2,none⟩ y).setCell ⟨q,3,none⟩ z) S':=
 (((H.own (a:=⟨q,0,none⟩) ha hx u).own (a:=⟨q,1,none⟩) ha hx v).own (a:=⟨q,2,none⟩) ha hx y).own (a:=⟨q,3,none⟩) ha hx z
def TakeP(w:l6)(h:Nat)(S:HS)(k:HK)(e:Ending)(w':l6):Prop:=
 (∃x t,S.L k=x::t/\e=.returned (.tuple #[x.v,.bool true])/\∃ nw c,HNext w h S w' (S.at_ S.mw nw k c t)/\nw<=S.nw+1/\(c.isSome=true->t≠[]))\/(S.L k=[]/\e=.returned (.tuple #[Wt.v ⟨0,0,0,0⟩,.bool false])/\Below w.heap.size w w')
theorem J0(h:Nat)(S:HS)(k:HK)(w:l6)(H:Hl w h S)(hk:hallK.wf k)(hnw:S.nw<=1000000):
  Calls prog 260 #[.pointer (some ⟨h,0,none⟩),.agg #[O J k.1,O J k.2.1,O J k.2.2]] w (TakeP w h S k):=by
 have HB:=ze (Bs.two w [O J k.1,O J k.2.1,O J k.2.2] [O J 0,O J 0,O J 0,O J 0] 360 318);have HF:=ze (fun V(hb:Below w.heap.size w V)=>VD h S k V (H.below hb) hk);have HC:=ze H;clear H;cases hl:S.L k with
 |nil=>
  have hl':=ze hl;rw[hl]at HF;clear hl
  go_in
  go_wp2_with(go_at_call 279;refine(HF.o _ HB.o.b).mono ?_;rintro e w1 ⟨h1,hr⟩;rcases h1 with⟨x,t,h2,_⟩|⟨-,rfl⟩;(exact absurd h2 (by simp));have hU:=ze (HB.o.step hr);have H1:w.heap.size+1<w1.heap.size:=(by have:=hr.size;simp at this;omega);obtain⟨⟨d0,d1,d2,d3⟩,g0,g1,g2,g3⟩:=(hU.o.cell (q:=w.heap.size+1) (l:=[O J 0,O J 0,O J 0,O J 0]) (by simp)).o4;clear hr);refine bodyPost_ret (v:=.tuple #[Wt.v ⟨0,0,0,0⟩,.bool false]) (by rw[results_cell_tmp rfl];go_simp) rfl ?_;exact .inr ⟨hl'.o,rfl,by go_grown;exact hU.o.b⟩
 |cons x t=>
  cases hf:S.fw k with
  |none=>have:=HC.o.non k hf;rw[hl]at this;cases this
  |some sl=>
  obtain⟨r1,r2⟩:=HC.o.row k sl hf;obtain⟨b,off,hA,hn,q0,q1,q2,q3⟩:=r2.first hl;obtain⟨A,n,c⟩:=sl;simp only at hA hn;subst hA;have hY:n<=c:=r2.cap;have hF:t.length+1=n:=by have:=r2.len;rw[hl]at this;simpa using this
  rw[hl]at r2 HF;have HR:=ze r2;have hP:=ze hl;have hQ:=ze hF;have hN:=ze hf;have hB:∀ b',(yx b off n c).blk b'->∃ s0,S.fw k=some s0/\s0.blk b':=fun b' hy=>⟨_,hf,by rw[aC hy];exact⟨off,rfl⟩⟩
  have hu:=ze hB;clear r2 hl hf hB hF q0 q1 q2 q3
  go_in
  go_upto_region 4 with(go_at_call 279;refine(HF.o _ HB.o.b).mono ?_;rintro e w1 ⟨h1,hr⟩;rcases h1 with⟨x',t',h2,rfl⟩|⟨h2,-⟩;rotate_left;(exact absurd h2 (by simp));(injection h2 with h2 h2';subst h2 h2');have h5:=ze ((HB.o.step hr).new (q:=w1.heap.size) rfl [O J x.id,O J x.frm,O J x.to_,O J x.car] 318);clear hr);generalize w1.alloc _=W at h5⊢;generalize w1.heap.size=q at h5⊢;have HH:=ze (HC.o.below h5.o.b);clear HB HF;obtain⟨bm,h6⟩:∃ bm,S.mw=some bm:=by
   cases hm:S.mw with
   |none=>
    have:=HC.o.m1;rw[hm]at this;rcases this with⟨-,h2⟩|⟨b',D,h2,-⟩
    ·rw[h2 k]at hN;cases hN.o
    ·cases h2
   |some bm=>exact⟨bm,rfl⟩
  have i0:(1:Int)<=(n:Int):=by omega
  have i1:(n:Int)<=(c:Int):=by omega
  by_cases hc:c=1
  ·have HD:=ze ((HH.o.below (Below.refl W.heap.size W).drew));obtain⟨w6,h3,hG,hC⟩:=(show Mv hallK Sl.v W.drew (some bm) S.nw S.fw from h6▸HD.o.m1).store (T:=303) (E:=358) underlying303 (show S.nw<maxLen from by simp only[maxLen];omega) (x:=k) hk (yx b off n c);have h4:(Instr.mapUpdate 303 (.map (some bm)) (.agg #[O J k.1,O J k.2.1,O J k.2.2]) (.slice (some ⟨b,off,none⟩) (n-1) 0)).run prog W.drew=.ok () w6:=by
    have hv:(yx b off n c).v=.slice (some ⟨b,off,none⟩) (n-1) 0:=by unfold yx;simp[hc]
    rw[hv]at h3;exact h3
   have h9:(Instr.lookup 303 (.map (some bm)) (.agg #[O J k.1,O J k.2.1,O J k.2.2]) false).run prog W.drew=.ok (.slice (some ⟨b,off,none⟩) n c) W.drew:=h6▸HD.o.look_some hN.o hk;have h8:=ze (HD.o.waitMap (c:=some (yx b off n c)) (l:=t) (nw:=S.nw+1) (by rw[h6];exact hC) (by rw[h6];exact hG) hk (fun s hs=>by injection hs with hs;subst hs;exact⟨(HR.o.keep (w':=W.drew) h5.o.b.size fun b' hy=>h5.o.b.block b' (HR.o.lt hy)).tl,hu.o⟩) (fun h=>by cases h));have c0:W.cell? ⟨h,0,none⟩=some (.map (some bm)):=h6▸HH.o.c0;obtain⟨⟨k0,k1,k2⟩,-⟩:=(h5.o.cell (q:=w.heap.size) (l:=[O J k.1,O J k.2.1,O J k.2.2]) (by simp)).o3;clear h3 hG hC;go_region
   all_goals
    have H6:=ze h8.o.hl;have he:=ze (h5.o.drew.but h8.o.but (fun k hk=>HC.o.xlt hk));have hV:=ze (show But (Xh S h) w w6 from(But.of_below h5.o.b.drew).trans h8.o.but (fun _ _ h=>h));have hW:=ze h8.o.x;have c6:w6.cell? ⟨h,0,none⟩=some (.map (some bm)):=h6▸H6.o.c0;have hO:=ze (fun V(hb:Below w6.heap.size w6 V)=>(show(Instr.lookup 303 (.map (some bm)) (.agg #[O J k.1,O J k.2.1,O J k.2.2]) false).run prog V=.ok (.slice (some ⟨b,off,none⟩) (n-1) 0) V from by
     have h1:=(H6.o.below hb).look_some (k:=k) (A:=(some ⟨b,off,none⟩)) (n:=n-1) (c:=0) (by
      show upd S.fw k (some (yx b off n c)) k=_
      rw[zK];unfold yx;simp[hc]) hk
     exact h6▸h1))
    have ha:=fun m=>hO.o _ (zg (Below.refl w6.heap.size w6) m)
    obtain⟨⟨kk0,kk1,kk2⟩,-⟩:=(he.o (w.heap.size,[O J k.1,O J k.2.1,O J k.2.2]) (by simp)).2.2.o3;go_wp2_with fail;go_quiet(fail);refine zq (w:=w6) (fun V=>Hl V h (S.at_ S.mw (S.nw+1) k (some (yx b off n c)) t)/\∀ p∈[(q,[O J x.id,O J x.frm,O J x.to_,O J x.car]),(w.heap.size+1,[O J 0,O J 0,O J 0,O J 0]),(w.heap.size,[O J k.1,O J k.2.1,O J k.2.2])],p.1<V.heap.size/\Bx V p.1 p.2) ⟨H6.o.below (zg fh _),fun p hp=>⟨(he.o p hp).2.1,(he.o p hp).2.2.drewN _⟩⟩ (zg fh _) ?_;rintro V ⟨hJ,hL⟩ hz;have HV:=ze hJ;have hd:=ze hL;have hM:=ze hz;clear hJ hL hz;have hZ:=(hd.o (w.heap.size+1,[O J 0,O J 0,O J 0,O J 0]) (by simp)).1;have H0:=(hd.o (q,[O J x.id,O J x.frm,O J x.to_,O J x.car]) (by simp)).1;obtain⟨⟨d0,d1,d2,d3⟩,g0,g1,g2,g3⟩:=(hd.o (w.heap.size+1,[O J 0,O J 0,O J 0,O J 0]) (by simp)).2.o4;obtain⟨⟨e0,e1,e2,e3⟩,-⟩:=(hd.o (q,[O J x.id,O J x.frm,O J x.to_,O J x.car]) (by simp)).2.o4;obtain⟨⟨l0,l1,l2⟩,-⟩:=(hd.o (w.heap.size,[O J k.1,O J k.2.1,O J k.2.2]) (by simp)).2.o3;have hX:=ze h5.o.b.size;by_cases ho:n=1
    ·have eB:(((n-1:Nat):Int)==0)=true:=by simp;omega
     have hw:=ze ho;clear ho ha h9 h4 c6 c0 k0 k1 k2 kk0 kk1 kk2;obtain⟨w8,h7,hI,hD⟩:=(HV.o.below (Below.refl V.heap.size V).drew).m1.drop (T:=303) (E:=358) underlying303 (x:=k) hk 0;have hq:(Builtin.delete_ #[303,360] 0 #[.map (some bm),.agg #[O J k.1,O J k.2.1,O J k.2.2]]).run prog V.drew=.ok (.tuple #[]) w8:=h6▸h7;have cV:V.cell? ⟨h,0,none⟩=some (.map (some bm)):=h6▸HV.o.c0;have hj:=ze ((HV.o.below (Below.refl V.heap.size V).drew).waitMap hD hI hk (fun s hs=>by cases hs) (fun _=>rfl));clear h7 hI hD;go_wp2_with fail;go_region
     all_goals
      have hg:=ze (fun p(hp:p∈[(q,[O J x.id,O J x.frm,O J x.to_,O J x.car]),(w.heap.size+1,[O J 0,O J 0,O J 0,O J 0]),(w.heap.size,[O J k.1,O J k.2.1,O J k.2.2])])=>(show p.1<w8.heap.size/\Bx w8 p.1 p.2 from
       have h0:=hd.o p hp
       ⟨kK h0.1 hj.o.but.size,h0.2.drew.but hj.o.but h0.1 (fun hx=>by
        have h1:=HC.o.xlt (hx.at_ (fun s hs b hb=>by injection hs with hs;subst hs;exact hu.o b hb));have h2:=(he.o p hp).1;omega)⟩))
      have hT:=(hg.o (w.heap.size+1,[O J 0,O J 0,O J 0,O J 0]) (by simp)).1;obtain⟨⟨d0,d1,d2,d3⟩,g0,g1,g2,g3⟩:=(hg.o (w.heap.size+1,[O J 0,O J 0,O J 0,O J 0]) (by simp)).2.o4;obtain⟨⟨e0,e1,e2,e3⟩,-⟩:=(hg.o (q,[O J x.id,O J x.frm,O J x.to_,O J x.car]) (by simp)).2.o4;have hi:=ze ((((((HNext.refl HC.o h5.o.b.drew).trans h8.o).trans (HNext.refl h8.o.hl hM.o)).trans (HNext.refl HV.o (Below.refl V.heap.size V).drew)).trans hj.o));go_wp2_with fail;refine bodyPost_ret (v:=.tuple #[x.v,.bool true]) (by rw[results_cell_tmp rfl];go_simp) rfl ?_;have ht:t=[]:=yj (by have:=hQ.o;have:=hw.o;omega);refine .inl ⟨x,t,hP.o,rfl,S.nw+1,none,?_,fi,fun h=>by cases h⟩;have hS:(S.at_ S.mw (S.nw+1) k (some (yx b off n c)) t).at_ (S.at_ S.mw (S.nw+1) k (some (yx b off n c)) t).mw (S.nw+1) k none []=S.at_ S.mw (S.nw+1) k none t:=by rw[HS.at_at,ht];rfl
      have hE:=hi.o;have hR:HNext w h S w8 (S.at_ S.mw (S.nw+1) k none t):=hS▸hE;exact hR.own4 (by omega) (fun hx=>by have h1:=HC.o.xlt (hx.at_ (fun s hs=>by cases hs));omega) _ _ _ _
    ·exfalso;omega
  ·have HD:=ze ((HH.o.below (Below.refl W.heap.size W).drew));obtain⟨w6,h3,hG,hC⟩:=(show Mv hallK Sl.v W.drew (some bm) S.nw S.fw from h6▸HD.o.m1).store (T:=303) (E:=358) underlying303 (show S.nw<maxLen from by simp only[maxLen];omega) (x:=k) hk (yx b off n c);have h4:(Instr.mapUpdate 303 (.map (some bm)) (.agg #[O J k.1,O J k.2.1,O J k.2.2]) (.slice (some ⟨b,off+4,none⟩) (n-1) (c-1))).run prog W.drew=.ok () w6:=by
    have hv:(yx b off n c).v=.slice (some ⟨b,off+4,none⟩) (n-1) (c-1):=by unfold yx;simp[hc]
    rw[hv]at h3;exact h3
   have h9:(Instr.lookup 303 (.map (some bm)) (.agg #[O J k.1,O J k.2.1,O J k.2.2]) false).run prog W.drew=.ok (.slice (some ⟨b,off,none⟩) n c) W.drew:=h6▸HD.o.look_some hN.o hk;have h8:=ze (HD.o.waitMap (c:=some (yx b off n c)) (l:=t) (nw:=S.nw+1) (by rw[h6];exact hC) (by rw[h6];exact hG) hk (fun s hs=>by injection hs with hs;subst hs;exact⟨(HR.o.keep (w':=W.drew) h5.o.b.size fun b' hy=>h5.o.b.block b' (HR.o.lt hy)).tl,hu.o⟩) (fun h=>by cases h));have c0:W.cell? ⟨h,0,none⟩=some (.map (some bm)):=h6▸HH.o.c0;obtain⟨⟨k0,k1,k2⟩,-⟩:=(h5.o.cell (q:=w.heap.size) (l:=[O J k.1,O J k.2.1,O J k.2.2]) (by simp)).o3;clear h3 hG hC;go_region
   all_goals
    have H6:=ze h8.o.hl;have he:=ze (h5.o.drew.but h8.o.but (fun k hk=>HC.o.xlt hk));have hV:=ze (show But (Xh S h) w w6 from(But.of_below h5.o.b.drew).trans h8.o.but (fun _ _ h=>h));have hW:=ze h8.o.x;have c6:w6.cell? ⟨h,0,none⟩=some (.map (some bm)):=h6▸H6.o.c0;have hO:=ze (fun V(hb:Below w6.heap.size w6 V)=>(show(Instr.lookup 303 (.map (some bm)) (.agg #[O J k.1,O J k.2.1,O J k.2.2]) false).run prog V=.ok (.slice (some ⟨b,off+4,none⟩) (n-1) (c-1)) V from by
     have h1:=(H6.o.below hb).look_some (k:=k) (A:=(some ⟨b,off+4,none⟩)) (n:=n-1) (c:=(c-1)) (by
      show upd S.fw k (some (yx b off n c)) k=_
      rw[zK];unfold yx;simp[hc]) hk
     exact h6▸h1))
    have ha:=fun m=>hO.o _ (zg (Below.refl w6.heap.size w6) m)
    obtain⟨⟨kk0,kk1,kk2⟩,-⟩:=(he.o (w.heap.size,[O J k.1,O J k.2.1,O J k.2.2]) (by simp)).2.2.o3;go_wp2_with fail;go_quiet(fail);refine zq (w:=w6) (fun V=>Hl V h (S.at_ S.mw (S.nw+1) k (some (yx b off n c)) t)/\∀ p∈[(q,[O J x.id,O J x.frm,O J x.to_,O J x.car]),(w.heap.size+1,[O J 0,O J 0,O J 0,O J 0]),(w.heap.size,[O J k.1,O J k.2.1,O J k.2.2])],p.1<V.heap.size/\Bx V p.1 p.2) ⟨H6.o.below (zg fh _),fun p hp=>⟨(he.o p hp).2.1,(he.o p hp).2.2.drewN _⟩⟩ (zg fh _) ?_;rintro V ⟨hJ,hL⟩ hz;have HV:=ze hJ;have hd:=ze hL;have hM:=ze hz;clear hJ hL hz;have hZ:=(hd.o (w.heap.size+1,[O J 0,O J 0,O J 0,O J 0]) (by simp)).1;have H0:=(hd.o (q,[O J x.id,O J x.frm,O J x.to_,O J x.car]) (by simp)).1;obtain⟨⟨d0,d1,d2,d3⟩,g0,g1,g2,g3⟩:=(hd.o (w.heap.size+1,[O J 0,O J 0,O J 0,O J 0]) (by simp)).2.o4;obtain⟨⟨e0,e1,e2,e3⟩,-⟩:=(hd.o (q,[O J x.id,O J x.frm,O J x.to_,O J x.car]) (by simp)).2.o4;obtain⟨⟨l0,l1,l2⟩,-⟩:=(hd.o (w.heap.size,[O J k.1,O J k.2.1,O J k.2.2]) (by simp)).2.o3;have hX:=ze h5.o.b.size;by_cases ho:n=1
    ·have eB:(((n-1:Nat):Int)==0)=true:=by simp;omega
     have hw:=ze ho;clear ho ha h9 h4 c6 c0 k0 k1 k2 kk0 kk1 kk2;obtain⟨w8,h7,hI,hD⟩:=(HV.o.below (Below.refl V.heap.size V).drew).m1.drop (T:=303) (E:=358) underlying303 (x:=k) hk 0;have hq:(Builtin.delete_ #[303,360] 0 #[.map (some bm),.agg #[O J k.1,O J k.2.1,O J k.2.2]]).run prog V.drew=.ok (.tuple #[]) w8:=h6▸h7;have cV:V.cell? ⟨h,0,none⟩=some (.map (some bm)):=h6▸HV.o.c0;have hj:=ze ((HV.o.below (Below.refl V.heap.size V).drew).waitMap hD hI hk (fun s hs=>by cases hs) (fun _=>rfl));clear h7 hI hD;go_wp2_with fail;go_region
     all_goals
      have hg:=ze (fun p(hp:p∈[(q,[O J x.id,O J x.frm,O J x.to_,O J x.car]),(w.heap.size+1,[O J 0,O J 0,O J 0,O J 0]),(w.heap.size,[O J k.1,O J k.2.1,O J k.2.2])])=>(show p.1<w8.heap.size/\Bx w8 p.1 p.2 from
       have h0:=hd.o p hp
       ⟨kK h0.1 hj.o.but.size,h0.2.drew.but hj.o.but h0.1 (fun hx=>by
        have h1:=HC.o.xlt (hx.at_ (fun s hs b hb=>by injection hs with hs;subst hs;exact hu.o b hb));have h2:=(he.o p hp).1;omega)⟩))
      have hT:=(hg.o (w.heap.size+1,[O J 0,O J 0,O J 0,O J 0]) (by simp)).1;obtain⟨⟨d0,d1,d2,d3⟩,g0,g1,g2,g3⟩:=(hg.o (w.heap.size+1,[O J 0,O J 0,O J 0,O J 0]) (by simp)).2.o4;obtain⟨⟨e0,e1,e2,e3⟩,-⟩:=(hg.o (q,[O J x.id,O J x.frm,O J x.to_,O J x.car]) (by simp)).2.o4;have hi:=ze ((((((HNext.refl HC.o h5.o.b.drew).trans h8.o).trans (HNext.refl h8.o.hl hM.o)).trans (HNext.refl HV.o (Below.refl V.heap.size V).drew)).trans hj.o));go_wp2_with fail;refine bodyPost_ret (v:=.tuple #[x.v,.bool true]) (by rw[results_cell_tmp rfl];go_simp) rfl ?_;have ht:t=[]:=yj (by have:=hQ.o;have:=hw.o;omega);refine .inl ⟨x,t,hP.o,rfl,S.nw+1,none,?_,fi,fun h=>by cases h⟩;have hS:(S.at_ S.mw (S.nw+1) k (some (yx b off n c)) t).at_ (S.at_ S.mw (S.nw+1) k (some (yx b off n c)) t).mw (S.nw+1) k none []=S.at_ S.mw (S.nw+1) k none t:=by rw[HS.at_at,ht];rfl
      have hE:=hi.o;have hR:HNext w h S w8 (S.at_ S.mw (S.nw+1) k none t):=hS▸hE;exact hR.own4 (by omega) (fun hx=>by have h1:=HC.o.xlt (hx.at_ (fun s hs=>by cases hs));omega) _ _ _ _
    ·have eB:(((n-1:Nat):Int)==0)=false:=by first|(simp;done)|(simp;omega)
     have hw:=ze ho;clear ho ha h9 h4 c6 c0 k0 k1 k2 kk0 kk1 kk2;go_wp2_with fail;refine bodyPost_ret (v:=.tuple #[x.v,.bool true]) (by rw[results_cell_tmp rfl];go_simp) rfl ?_;refine .inl ⟨x,t,hP.o,rfl,S.nw+1,some (yx b off n c),?_,fi,fun _ e=>by have h1:=hQ.o;rw[e]at h1;exact hw.o h1.symm⟩;have hE:=((HNext.refl HC.o h5.o.b.drew).trans h8.o).trans (HNext.refl h8.o.hl hM.o);exact hE.own4 (by omega) (fun hx=>by have h1:=HC.o.xlt (hx.at_ (fun s hs b hb=>by injection hs with hs;subst hs;exact hu.o b hb));omega) _ _ _ _
end
end Go.Proofs.YtdeogmbfgkepeaaGreatDoor
