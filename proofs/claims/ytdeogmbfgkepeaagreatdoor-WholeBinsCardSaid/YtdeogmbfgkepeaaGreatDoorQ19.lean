/- Contracts that WholeBins needs. Each tells its conditions. -/
import Derived.Test.YtdeogmbfgkepeaaGreatDoorQ15
import Derived.Test.YtdeogmbfgkepeaaGreatDoorQ18
set_option linter.unusedVariables false
set_option linter.unusedSimpArgs false
set_option maxRecDepth 100000
set_option maxHeartbeats 64000000
namespace Go.Proofs.YtdeogmbfgkepeaaGreatDoor
open Go.Proofs.Tryz
open Go.Value renaming int->O
open Go.IntKind renaming i64->J
section
open Go.RowKit HB Go.Maps CalP
theorem zQ{a:Int}(h0: -1000000000<=a)(h1:a<=1000000000):jX a:=by
 unfold jX;have e1:IntKind.i64.min=-9223372036854775808:=by decide
 have e2:IntKind.i64.max=9223372036854775807:=by decide
 simp only[Lit.wf];simp[e1,e2];omega
structure Sl where
 A:Option Addr
 (n c:Nat)
abbrev Sl.v(s:Sl):Value:=.slice s.A s.n s.c
def Sl.blk(s:Sl)(k:Nat):Prop:=∃ off,s.A=some ⟨k,off,none⟩
structure Wt where
 (id frm to_ car:Int)
deriving Inhabited
abbrev ZY(x:Wt):List Value:=[O J x.id,O J x.frm,O J x.to_,O J x.car]
abbrev Wt.v(x:Wt):Value:=.agg #[O J x.id,O J x.frm,O J x.to_,O J x.car]
abbrev qc(x:Int×Int):Value:=.agg #[O J x.1,O J x.2]
abbrev HK:=Int×Int×Int
structure Wrow(w:World)(s:Sl)(l:List Wt):Prop where
 len:l.length=s.n
 cap:s.n<=s.c
 at_:(s.A=none/\s.c=0)\/∃ b off,s.A=some ⟨b,off,none⟩/\b<w.heap.size/\(∀j u,(l.flatMap ZY)[j]?=some u->w.cell? ⟨b,off+j,none⟩=some u)/\∀ j,j<s.c*4->(w.cell? ⟨b,off+j,none⟩).isSome=true/\w.frozen? ⟨b,off+j,none⟩=false
structure HS where
 (mw mc:Option Nat)
 (nw nc:Nat)
 fw:HK->Option Sl
 fc:Int×Int->Option (Int×Int)
 L:HK->List Wt
structure Hl(w:World)(h:Nat)(S:HS):Prop where
 c0:w.cell? ⟨h,0,none⟩=some (.map S.mw)
 c1:w.cell? ⟨h,1,none⟩=some (.map S.mc)
 c2:∃ n:Int,w.cell? ⟨h,2,none⟩=some (O J n)
 f0:w.frozen? ⟨h,0,none⟩=false
 f1:w.frozen? ⟨h,1,none⟩=false
 f2:w.frozen? ⟨h,2,none⟩=false
 m1:Mv hallK Sl.v w S.mw S.nw S.fw
 m2:Mv cellK qc w S.mc S.nc S.fc
 ne1:S.mw≠some h
 ne2:S.mc≠some h
 ne3:∀ b,S.mw=some b->S.mc≠some b
 row:∀ k s,S.fw k=some s->hallK.wf k/\Wrow w s (S.L k)
 non:∀ k,S.fw k=none->S.L k=[]
 sep:∀ k k' s s' b,S.fw k=some s->S.fw k'=some s'->s.blk b->s'.blk b->k=k'
 off:∀ k s b,S.fw k=some s->s.blk b->b≠h/\S.mw≠some b/\S.mc≠some b
def Xh(S:HS)(h:Nat)(k:Nat):Prop:=k=h\/S.mw=some k\/S.mc=some k\/∃ key s,S.fw key=some s/\s.blk k
section
variable{w w':World}{s:Sl}{l:List Wt}{h:Nat}{S:HS}
theorem Wrow.keep(hr:Wrow w s l)(hz:w.heap.size<=w'.heap.size)(hb:∀ b,s.blk b->w'.heap[b]?=w.heap[b]?):Wrow w' s l:=by
 refine⟨hr.len,hr.cap,?_⟩;rcases hr.at_ with h|⟨b,off,hA,h0,h1,h2⟩
 ·exact .inl h
 ·have:=hb b ⟨off,hA⟩;exact .inr ⟨b,off,hA,by omega,fun j u hu=>(World.cell?_of_block (a:=⟨b,off+j,none⟩) this).trans (h1 j u hu),fun j hj=>by
   rw[World.cell?_of_block (a:=⟨b,off+j,none⟩) this,World.frozen?_of_block (a:=⟨b,off+j,none⟩) this];exact h2 j hj⟩
theorem Wrow.lt(hr:Wrow w s l){b:Nat}(hb:s.blk b):b<w.heap.size:=by
 obtain⟨off,hA⟩:=hb;rcases hr.at_ with h|⟨b',off',hA',h0,h1,h2⟩
 ·rw[h.1]at hA;cases hA
 ·rw[hA]at hA';injection hA' with hA';injection hA' with e1 e2 _;subst e1;exact h0
theorem Wrow.first(hr:Wrow w s l){x:Wt}{t:List Wt}(hl:l=x::t):∃ b off,s.A=some ⟨b,off,none⟩/\0<s.n/\w.cell? ⟨b,off,none⟩=some (O J x.id)/\w.cell? ⟨b,off+1,none⟩=some (O J x.frm)/\w.cell? ⟨b,off+2,none⟩=some (O J x.to_)/\w.cell? ⟨b,off+3,none⟩=some (O J x.car):=by
 have hlen:=hr.len;rw[hl]at hlen;have hn:0<s.n:=by simp at hlen;omega
 rcases hr.at_ with h|⟨b,off,hA,h0,h1,h2⟩
 ·have:=hr.cap;omega
 ·subst hl;exact⟨b,off,hA,hn,h1 0 _ rfl,h1 1 _ rfl,h1 2 _ rfl,h1 3 _ rfl⟩
theorem Hl.xlt(H:Hl w h S){k:Nat}(hk:Xh S h k):k<w.heap.size:=by
 rcases hk with rfl|hk|hk|⟨key,s,h1,h2⟩
 ·exact World.block_lt_of_cell? w _ H.c0
 ·exact H.m1.lt hk
 ·exact H.m2.lt hk
 ·exact(H.row key s h1).2.lt h2
theorem Hl.but{Y:Nat->Prop}(H:Hl w h S)(hb:But Y w w')(hd:∀ k,Xh S h k->¬ Y k):Hl w' h S:=by
 have hh:=hb.block h (H.xlt (.inl rfl)) (hd h (.inl rfl));have g:=fun o=>World.cell?_of_block (a:=⟨h,o,none⟩) hh
 have gf:=fun o=>World.frozen?_of_block (a:=⟨h,o,none⟩) hh
 obtain⟨n,hn⟩:=H.c2;exact⟨(g 0).trans H.c0,(g 1).trans H.c1,⟨n,(g 2).trans hn⟩,(gf 0).trans H.f0,(gf 1).trans H.f1,(gf 2).trans H.f2,H.m1.but hb (fun b hm=>hd b (.inr (.inl hm))),H.m2.but hb (fun b hm=>hd b (.inr (.inr (.inl hm)))),H.ne1,H.ne2,H.ne3,
  fun k s hk=>⟨(H.row k s hk).1,(H.row k s hk).2.keep hb.size fun b hsb=>hb.block b (H.xlt (.inr (.inr (.inr ⟨k,s,hk,hsb⟩)))) (hd b (.inr (.inr (.inr ⟨k,s,hk,hsb⟩))))⟩,H.non,H.sep,H.off⟩
theorem Hl.below(H:Hl w h S)(hb:fj w w'):Hl w' h S:=H.but (Y:=fun _=>False) (But.of_below hb) fun _ _ h=>h
end
theorem eN(w:World):(zeroValue 358).run prog w=.ok (Sl.v ⟨none,0,0⟩) w:=by kernel_rfl
theorem eO(w:World):(zeroValue 363).run prog w=.ok (qc (0,0)) w:=by kernel_rfl
theorem Hl.lookw{w:World}{h:Nat}{S:HS}(H:Hl w h S){k:HK}(hk:hallK.wf k):(Instr.lookup 303 (.map S.mw) (.agg #[O J k.1,O J k.2.1,O J k.2.2]) false).run prog w=.ok (Sl.v ((S.fw k).getD ⟨none,0,0⟩)) w:=
 H.m1.look1 (T:=303) (E:=358) underlying303 eN hk
theorem Hl.look_some{w:World}{h:Nat}{S:HS}(H:Hl w h S){k:HK}{A:Option Addr}{n c:Nat}(hf:S.fw k=some ⟨A,n,c⟩)(hk:hallK.wf k):(Instr.lookup 303 (.map S.mw) (.agg #[O J k.1,O J k.2.1,O J k.2.2]) false).run prog w=.ok (.slice A n c) w:=by
 have:=H.lookw hk;rw[hf]at this;exact this
theorem Hl.look_none{w:World}{h:Nat}{S:HS}(H:Hl w h S){k:HK}(hf:S.fw k=none)(hk:hallK.wf k):(Instr.lookup 303 (.map S.mw) (.agg #[O J k.1,O J k.2.1,O J k.2.2]) false).run prog w=.ok (.slice none 0 0) w:=by
 have:=H.lookw hk;rw[hf]at this;exact this
theorem Hl.lookc{w:World}{h:Nat}{S:HS}(H:Hl w h S){k:Int×Int}(hk:cellK.wf k):(Instr.lookup 304 (.map S.mc) (.agg #[O J k.1,O J k.2]) true).run prog w=.ok (.tuple #[qc ((S.fc k).getD (0,0)),.bool (S.fc k).isSome]) w:=
 H.m2.look2 (T:=304) (E:=363) underlying304 eO hk
theorem qo(a b:Int)(w:World):Calls prog 226 #[O J a,O J b] w (fk (.agg #[O J a,O J b]) w):=by
 go_enter func226,ntmps226;go_wp2_with fail
 go_returns
 exact⟨rfl,fh.alloc fi _⟩
theorem WJ(h:Nat)(S:HS)(k:HK)(w:World)(H:Hl w h S)(hk:hallK.wf k):
  Calls prog 261 #[.pointer (some ⟨h,0,none⟩),.agg #[O J k.1,O J k.2.1,O J k.2.2]] w (fk (O J ((S.fw k).getD ⟨none,0,0⟩).n) w):=by
 have HH:=ze (fun V(hb:fj w V)=>(H.below hb).lookw hk);have c1:=H.c0;have hlt:=H.xlt (.inl rfl);clear H;generalize(S.fw k).getD ⟨none,0,0⟩=sl at*;obtain⟨A,n,c⟩:=sl;have HB:=ze (Bs.one w [O J k.1,O J k.2.1,O J k.2.2] 360);have hrun:=fun m=>HH.o _ (zg HB.o.b m)
 go_enter func261,ntmps261;go_wp2_with fail;go_quiet(fail);go_wp2_with fail;go_ret;exact⟨rfl,zg HB.o.b _⟩
theorem YP(h:Nat)(S:HS)(a b:Int)(w:World)(H:Hl w h S)(hk:cellK.wf (a,b)):
  Calls prog 189 #[.pointer (some ⟨h,0,none⟩),O J a,O J b] w fun e w'=>(∃(n:Int)(ok:Bool),e=.returned (.tuple #[O J n,.bool ok]))/\fj w w':=by
 have HH:=ze (fun V(hb:fj w V)=>(show(Instr.lookup 304 (.map S.mc) (.agg #[O J a,O J b]) true).run prog V=.ok (.tuple #[qc ((S.fc (a,b)).getD (0,0)),.bool (S.fc (a,b)).isSome]) V from(H.below hb).lookc hk));have c1:=H.c1;have hlt:=H.xlt (.inl rfl);clear H;generalize(S.fc (a,b)).isSome=ok at HH;generalize(S.fc (a,b)).getD (0,0)=z at HH;obtain⟨z0,z1⟩:=z;go_enter func189,ntmps189;have MK:=ze (fun V(hb:fj w V)=>(show V.cell? ⟨h,1,none⟩=some (.map S.mc)/\(Instr.lookup 304 (.map S.mc) (.agg #[O J a,O J b]) true).run prog V=.ok (.tuple #[qc (z0,z1),.bool ok]) V/\fj w V from⟨zf hb c1,HH.o _ hb,hb⟩));go_wp2_with fail
 go_region_held3 (fun V=>V.cell? ⟨h,1,none⟩=some (.map S.mc)/\(Instr.lookup 304 (.map S.mc) (.agg #[O J a,O J b]) true).run prog V=.ok (.tuple #[qc (z0,z1),.bool ok]) V/\fj w V)
  (((refine MK.o _ ?_);(first|(with_reducible exact HB4.o)|(go_grown;done)|(go_grown;with_reducible exact HB4.o))))
  (first|(go_at_call 226;go_split_ands;refine(qo a b _).mono ?_;rintro e w4 ⟨rfl,hb4⟩;have HB4:=ze ((‹fj w _›).trans (hb4.mono (‹fj w _›).size));have hz4:=HB4.o.size;(try(have hzz:w.heap.size<w4.heap.size:=(by have:=hb4.size;simp at this;omega);have d0:w4.cell? ⟨w.heap.size,0,none⟩=some (O J 0):=zf hb4 (by simp);have d1:w4.cell? ⟨w.heap.size,1,none⟩=some (O J 0):=zf hb4 (by simp);have g0:w4.frozen? ⟨w.heap.size,0,none⟩=false:=zG hb4 (by simp) (by simp);have g1:w4.frozen? ⟨w.heap.size,1,none⟩=false:=zG hb4 (by simp) (by simp)));clear hb4))
 all_goals
  go_wp2_with fail;go_split_ands;go_ret2;exact⟨⟨_,_,rfl⟩,‹fj w _›⟩
def JM(l:List Wt)(e:Ending):Prop:=(∃x t,l=x::t/\e=.returned (.tuple #[x.v,.bool true]))\/(l=[]/\e=.returned (.tuple #[Wt.v ⟨0,0,0,0⟩,.bool false]))
theorem VD(h:Nat)(S:HS)(k:HK)(w:World)(H:Hl w h S)(hk:hallK.wf k):
  Calls prog 279 #[.pointer (some ⟨h,0,none⟩),.agg #[O J k.1,O J k.2.1,O J k.2.2]] w fun e w'=>JM (S.L k) e/\fj w w':=by
 have c1:=H.c0;have hlt:=H.xlt (.inl rfl);have HB:=ze (Bs.two w [O J k.1,O J k.2.1,O J k.2.2] [O J 0,O J 0,O J 0,O J 0] 360 318);cases hf:S.fw k with
 |none=>
  have HN:=ze (show JM (S.L k) (.returned (.tuple #[Wt.v ⟨0,0,0,0⟩,.bool false]))from .inr ⟨H.non k hf,rfl⟩);have hrun:=fun m=>(H.below (zg HB.o.b m)).look_none hf hk
  clear H hf;go_enter func279,ntmps279;go_wp2_with fail;go_quiet(fail);go_wp2_with fail;refine bodyPost_ret (v:=.tuple #[Wt.v ⟨0,0,0,0⟩,.bool false]) (by rw[results_cell_tmp rfl];go_simp) rfl ?_;exact⟨HN.o,by go_grown;exact zg HB.o.b _⟩
 |some sl=>
  obtain⟨r1,r2⟩:=H.row k sl hf;cases hl:S.L k with
  |nil=>
   have hn0:sl.n=0:=by have:=r2.len;rw[hl]at this;simpa using this.symm
   have HN:=ze (show JM [] (.returned (.tuple #[Wt.v ⟨0,0,0,0⟩,.bool false]))from .inr ⟨rfl,rfl⟩);obtain⟨A,n,c⟩:=sl;simp only at hn0;subst hn0;have hrun:=fun m=>(H.below (zg HB.o.b m)).look_some hf hk
   clear H hf r1 r2 hl;go_enter func279,ntmps279;go_wp2_with fail;go_quiet(fail);go_wp2_with fail;refine bodyPost_ret (v:=.tuple #[Wt.v ⟨0,0,0,0⟩,.bool false]) (by rw[results_cell_tmp rfl];go_simp) rfl ?_;exact⟨HN.o,by go_grown;exact zg HB.o.b _⟩
  |cons x t=>
   obtain⟨b,off,hA,hn,q0,q1,q2,q3⟩:=r2.first hl;have HN:=ze (show JM (x::t) (.returned (.tuple #[x.v,.bool true]))from .inl ⟨x,t,rfl,rfl⟩);obtain⟨A,n,c⟩:=sl;simp only at hA hn;subst hA;have hrun:=fun m=>(H.below (zg HB.o.b m)).look_some hf hk
   have hbl:=World.block_lt_of_cell? w _ q0;clear H hf r1 r2 hl;go_enter func279,ntmps279;go_wp2_with fail;go_quiet(fail);go_wp2_with fail;refine bodyPost_ret (v:=.tuple #[x.v,.bool true]) (by rw[results_cell_tmp rfl];go_simp) rfl ?_;exact⟨HN.o,by go_grown;exact zg HB.o.b _⟩
structure HNext(w:World)(h:Nat)(S:HS)(w':World)(S':HS):Prop where
 hl:Hl w' h S'
 but:But (Xh S h) w w'
 x:∀ k,k<w.heap.size->Xh S' h k->Xh S h k
theorem HNext.refl{w w':World}{h:Nat}{S:HS}(H:Hl w h S)(hb:fj w w'):HNext w h S w' S:=⟨H.below hb,But.of_below hb,fun _ _ h=>h⟩
theorem HNext.trans{w w1 w2:World}{h:Nat}{S S1 S2:HS}(a:HNext w h S w1 S1)(b:HNext w1 h S1 w2 S2):HNext w h S w2 S2:=
 ⟨b.hl,a.but.trans b.but a.x,fun k hk hx=>a.x k hk (b.x k (Nat.lt_of_lt_of_le hk a.but.size) hx)⟩
def HS.calls(S:HS)(mc:Option Nat)(nc:Nat)(fc:Int×Int->Option (Int×Int)):HS:={S with mc:=mc,nc:=nc,fc:=fc}
theorem Hl.callsMap{w w':World}{h:Nat}{S:HS}(H:Hl w h S){nc:Nat}{fc:Int×Int->Option (Int×Int)}(hg:w.grownBy w' S.mc)(hm:Mv cellK qc w' S.mc nc fc):HNext w h S w' (S.calls S.mc nc fc):=by
 have hb:But (fun k=>S.mc=some k) w w':=But.of_grown hg fun k hk=>hk
 have hh:w'.heap[h]?=w.heap[h]?:=hb.block h (H.xlt (.inl rfl)) H.ne2;have g:=fun o=>World.cell?_of_block (a:=⟨h,o,none⟩) hh
 have gf:=fun o=>World.frozen?_of_block (a:=⟨h,o,none⟩) hh
 obtain⟨n,hn⟩:=H.c2;refine⟨⟨(g 0).trans H.c0,(g 1).trans H.c1,⟨n,(g 2).trans hn⟩,(gf 0).trans H.f0,(gf 1).trans H.f1,(gf 2).trans H.f2,H.m1.but hb (fun b hm=>H.ne3 b hm),hm,H.ne1,H.ne2,H.ne3,fun k s hk=>⟨(H.row k s hk).1,(H.row k s hk).2.keep hb.size fun b hsb=>hb.block b (H.xlt (.inr (.inr (.inr ⟨k,s,hk,hsb⟩)))) (H.off k s b hk hsb).2.2⟩,H.non,H.sep,H.off⟩,hb.mono fun k _ hk=>.inr (.inr (.inl hk)),fun k _ hx=>hx⟩
theorem Hl.callsMade{w:World}{h:Nat}{S:HS}(H:Hl w h S)(hn:S.mc=none):HNext w h S ((w.setCell ⟨h,1,none⟩ (.map (some w.heap.size))).alloc (.map #[] 0)) (S.calls (some w.heap.size) 0 (fun _=>none)):=by
 have hlt:=H.xlt (.inl rfl);have hsw:(w.alloc (.map #[] 0)).setCell ⟨h,1,none⟩ (.map (some w.heap.size))=(w.setCell ⟨h,1,none⟩ (.map (some w.heap.size))).alloc (.map #[] 0):=by
  unfold World.setCell World.alloc;simp only
  congr 1
  apply Array.ext
  ·simp
  ·intro j h1 h2;simp only[Array.getElem_modify,Array.getElem_push,Array.size_modify];by_cases hj:j<w.heap.size
   ·simp[hj]
   ·have:¬ h=j:=by omega
    simp[hj,this]
 rw[<-hsw];have hb:=(Below.refl w.heap.size w).alloc fi (.map #[] 0);have H1:=H.below hb;have hbx:But (fun k=>k=h) w ((w.alloc (.map #[] 0)).setCell ⟨h,1,none⟩ (.map (some w.heap.size))):=(But.of_below (X:=fun k=>k=h) hb).set (a:=⟨h,1,none⟩) (.inl rfl) _;have hmade:=Mv.made cellK qc w;have hne:w.heap.size≠h:=by omega
 obtain⟨n,hn2⟩:=H1.c2;refine⟨⟨?_,World.cell?_setCell_same _ _ _ H1.c1,⟨n,?_⟩,by rw[World.frozen?_setCell];exact H1.f0,by rw[World.frozen?_setCell];exact H1.f1,by rw[World.frozen?_setCell];exact H1.f2,H.m1.but hbx (fun b hm e=>H.ne1 (e▸hm)),?_,H.ne1,fun e=>hne (Option.some.inj e),fun b hm e=>?_,fun k s hk=>⟨(H.row k s hk).1,(H.row k s hk).2.keep hbx.size fun b hsb=>hbx.block b (H.xlt (.inr (.inr (.inr ⟨k,s,hk,hsb⟩)))) (H.off k s b hk hsb).1⟩,H.non,H.sep,fun k s b hk hsb=>⟨(H.off k s b hk hsb).1,(H.off k s b hk hsb).2.1,fun e=>?_⟩⟩,hbx.mono fun k _ hk=>.inl hk,fun k hk hx=>?_⟩
 ·rw[World.cell?_setCell_other _ _ _ _ (by intro e;injection e with _ e _;exact absurd e (by decide))];exact H1.c0
 ·rw[World.cell?_setCell_other _ _ _ _ (by intro e;injection e with _ e _;exact absurd e (by decide))];exact hn2
 ·refine hmade.but (X:=fun k=>k=h) ((But.refl (fun k=>k=h) _).set (a:=⟨h,1,none⟩) (.inl rfl) _) (fun b hb e=>?_);injection hb with hb;omega
 ·have:=H.m1.lt hm;injection e with e;omega
 ·have:=H.xlt (.inr (.inr (.inr ⟨k,s,hk,hsb⟩)));injection e with e;omega
 ·rcases hx with hx|hx|hx|hx
  ·exact .inl hx
  ·exact .inr (.inl hx)
  ·injection hx with hx;omega
  ·exact .inr (.inr (.inr hx))
theorem Hl.count{w:World}{h:Nat}{S:HS}(H:Hl w h S)(n:Int):HNext w h S (w.setCell ⟨h,2,none⟩ (O J n)) S:=by
 have hb:But (fun k=>k=h) w (w.setCell ⟨h,2,none⟩ (O J n)):=(But.refl (fun k=>k=h) _).set (a:=⟨h,2,none⟩) (.inl rfl) _;obtain⟨n',hn⟩:=H.c2;have ho:∀ o,o≠2->(w.setCell ⟨h,2,none⟩ (O J n)).cell? ⟨h,o,none⟩=w.cell? ⟨h,o,none⟩:=fun o ho=>World.cell?_setCell_other _ _ _ _ (by intro e;injection e with _ e _;exact ho e.symm)
 exact⟨⟨(ho 0 (by decide)).trans H.c0,(ho 1 (by decide)).trans H.c1,⟨n,World.cell?_setCell_same _ _ _ hn⟩,by rw[World.frozen?_setCell];exact H.f0,by rw[World.frozen?_setCell];exact H.f1,by rw[World.frozen?_setCell];exact H.f2,H.m1.but hb (fun b hm e=>H.ne1 (e▸hm)),H.m2.but hb (fun b hm e=>H.ne2 (e▸hm)),H.ne1,H.ne2,H.ne3,fun k s hk=>⟨(H.row k s hk).1,(H.row k s hk).2.keep hb.size fun b hsb=>hb.block b (H.xlt (.inr (.inr (.inr ⟨k,s,hk,hsb⟩)))) (H.off k s b hk hsb).1⟩,H.non,H.sep,H.off⟩,hb.mono fun k _ hk=>.inl hk,fun k _ hx=>hx⟩
def JN(w:World)(h:Nat)(S:HS)(w':World):Prop:=∃ mc nc fc,HNext w h S w' (S.calls mc nc fc)/\nc<=S.nc+1
theorem VE(h:Nat)(S:HS)(a b:Int)(w:World)(H:Hl w h S)(hk:cellK.wf (a,b)):
  Calls prog 262 #[.pointer (some ⟨h,0,none⟩),O J a,O J b] w fun e w'=>RB e/\JN w h S w':=by
 have HH:=ze (fun V(hb:fj w V)=>(show(Instr.lookup 304 (.map S.mc) (.agg #[O J a,O J b]) true).run prog V=.ok (.tuple #[qc ((S.fc (a,b)).getD (0,0)),.bool (S.fc (a,b)).isSome]) V from(H.below hb).lookc hk));have c1:=H.c1;have hlt:=H.xlt (.inl rfl);generalize(S.fc (a,b)).isSome=ok at HH;generalize(S.fc (a,b)).getD (0,0)=z at HH;obtain⟨z0,z1⟩:=z;have MK:=ze (fun V(hb:fj w V)=>(show V.cell? ⟨h,1,none⟩=some (.map S.mc)/\(Instr.lookup 304 (.map S.mc) (.agg #[O J a,O J b]) true).run prog V=.ok (.tuple #[qc (z0,z1),.bool ok]) V/\fj w V from⟨zf hb c1,HH.o _ hb,hb⟩));have HC:=ze H;clear H;go_enter func262,ntmps262;go_upto_region 2 with(fail)
 go_cut [8] (fun v wx=>v=.bool ok/\fj w wx)
 case first=>
  go_wp2_with fail
  go_region_held3 (fun V=>V.cell? ⟨h,1,none⟩=some (.map S.mc)/\(Instr.lookup 304 (.map S.mc) (.agg #[O J a,O J b]) true).run prog V=.ok (.tuple #[qc (z0,z1),.bool ok]) V/\fj w V)
   (((refine MK.o _ ?_);(first|(with_reducible exact HB4.o)|(go_grown;done)|(go_grown;with_reducible exact HB4.o))))
   (first|(go_at_call 226;go_split_ands;refine(qo a b _).mono ?_;rintro e w4 ⟨rfl,hb4⟩;have HB4:=ze ((‹fj w _›).trans (hb4.mono (‹fj w _›).size));have hz4:=HB4.o.size;(try(have hzz:w.heap.size<w4.heap.size:=(by have:=hb4.size;simp at this;omega);have d0:w4.cell? ⟨w.heap.size,0,none⟩=some (O J 0):=zf hb4 (by simp);have d1:w4.cell? ⟨w.heap.size,1,none⟩=some (O J 0):=zf hb4 (by simp);have g0:w4.frozen? ⟨w.heap.size,0,none⟩=false:=zG hb4 (by simp) (by simp);have g1:w4.frozen? ⟨w.heap.size,1,none⟩=false:=zG hb4 (by simp) (by simp)));clear hb4))
  all_goals
   go_wp2_with fail;go_split_ands
   go_meet
   exact⟨rfl,‹fj w _›⟩
 case rest=>
  obtain⟨rfl,hbx⟩:=hcut;have HBX:=ze hbx;have c1x:=zf hbx c1;clear hbx MK HH c1;go_wp2_with fail
  go_region_with (go_at_call 226;refine(qo a b _).mono ?_;rintro e w5 ⟨rfl,hb5⟩;have hb:=HBX.o.drew.trans (hb5.mono HBX.o.size);obtain⟨w6,hrun6,hm6,hg6⟩:=(HC.o.below hb).m2.drop (T:=304) (E:=363) underlying304 (x:=(a,b)) hk 0;have hrun6':(Builtin.delete_ #[304,148] 0 #[.map S.mc,.agg #[O J a,O J b]]).run prog w5=.ok (.tuple #[]) w6:=hrun6;have c5:=(HC.o.below hb).c1;have HM6:=ze hm6;have HG6:=ze hg6;have HB5:=ze hb;clear hm6 hg6 hb hb5 hrun6)
  all_goals
   go_wp2_with fail;go_ret;have hn:=(HC.o.below HB5.o).callsMap HG6.o HM6.o;exact⟨⟨_,rfl⟩,S.mc,S.nc,_,(HNext.refl HC.o HB5.o).trans hn,by omega⟩
theorem YQ(h:Nat)(S:HS)(a b c:Int)(w:World)(H:Hl w h S)(hk:cellK.wf (a,b))(hnc:S.nc<=1000000):
  Calls prog 190 #[.pointer (some ⟨h,0,none⟩),O J a,O J b,O J c] w fun e w'=>RB e/\JN w h S w':=by
 have HH:=ze (fun V(hb:fj w V)=>(show(Instr.lookup 304 (.map S.mc) (.agg #[O J a,O J b]) true).run prog V=.ok (.tuple #[qc ((S.fc (a,b)).getD (0,0)),.bool (S.fc (a,b)).isSome]) V from(H.below hb).lookc hk));have c1:=H.c1;have hlt:=H.xlt (.inl rfl);generalize(S.fc (a,b)).isSome=ok at HH;generalize(S.fc (a,b)).getD (0,0)=z at HH;obtain⟨z0,z1⟩:=z;have MK:=ze (fun V(hb:fj w V)=>(show V.cell? ⟨h,1,none⟩=some (.map S.mc)/\(Instr.lookup 304 (.map S.mc) (.agg #[O J a,O J b]) true).run prog V=.ok (.tuple #[qc (z0,z1),.bool ok]) V/\fj w V from⟨zf hb c1,HH.o _ hb,hb⟩));have HC:=ze H;clear H;have hnil:=fun(W:World)(r:Option Nat)=>run_eql_map_nil (P:=prog) W _ _ _ r underlying304
 have hmm:= @run_makeMap prog;go_enter func190,ntmps190;go_upto_region 2 with(fail)
 go_cut [10] (fun v wx=>v=.bool ok/\fj w wx)
 case first=>
  go_wp2_with fail
  go_region_held3 (fun V=>V.cell? ⟨h,1,none⟩=some (.map S.mc)/\(Instr.lookup 304 (.map S.mc) (.agg #[O J a,O J b]) true).run prog V=.ok (.tuple #[qc (z0,z1),.bool ok]) V/\fj w V)
   (((refine MK.o _ ?_);(first|(with_reducible exact HB4.o)|(go_grown;done)|(go_grown;with_reducible exact HB4.o))))
   (first|(go_at_call 226;go_split_ands;refine(qo a b _).mono ?_;rintro e w4 ⟨rfl,hb4⟩;have HB4:=ze ((‹fj w _›).trans (hb4.mono (‹fj w _›).size));have hz4:=HB4.o.size;(try(have hzz:w.heap.size<w4.heap.size:=(by have:=hb4.size;simp at this;omega);have d0:w4.cell? ⟨w.heap.size,0,none⟩=some (O J 0):=zf hb4 (by simp);have d1:w4.cell? ⟨w.heap.size,1,none⟩=some (O J 0):=zf hb4 (by simp);have g0:w4.frozen? ⟨w.heap.size,0,none⟩=false:=zG hb4 (by simp) (by simp);have g1:w4.frozen? ⟨w.heap.size,1,none⟩=false:=zG hb4 (by simp) (by simp)));clear hb4))
  all_goals
   go_wp2_with fail;go_split_ands
   go_meet
   exact⟨rfl,‹fj w _›⟩
 case rest=>
  obtain⟨rfl,hbx⟩:=hcut;have HBX:=ze hbx;have HX:=ze (HC.o.below hbx);have c1x:=HX.o.c1;have f1x:=HX.o.f1;clear hbx MK HH c1;cases ok with
  |true=>
   go_wp2_with fail;go_ret;exact⟨⟨_,rfl⟩,S.mc,S.nc,S.fc,HNext.refl HC.o HBX.o,by omega⟩
  |false=>
   have hltx:=HX.o.xlt (.inl rfl)
   go_upto_if 27 with(fail)
   go_cut [] (fun wx=>∃ bm nc fc,HNext wc h S wx (S.calls (some bm) nc fc)/\nc<=S.nc)
   case first=>
    cases hmc:S.mc with
    |none=>
     have HM:=ze (HX.o.callsMade hmc);rw[hmc]at c1x;clear hmc;go_wp2_with fail
     go_meet
     exact⟨_,0,_,HM.o,Nat.zero_le _⟩
    |some bm=>
     have HM:=ze (show HNext wc h S wc (S.calls (some bm) S.nc S.fc)from hmc▸HNext.refl HX.o fh);rw[hmc]at c1x;clear hmc;go_wp2_with fail
     go_meet
     exact⟨bm,S.nc,S.fc,HM.o,fi⟩
   case rest=>
    obtain⟨bm,nc,fc,hn,hle⟩:=hcut;have HN:=ze hn;have HLE:=ze hle;obtain⟨n0,n1⟩:=hn.hl.c2;have d1:=hn.hl.c1;have e2:=hn.hl.f2;have hlty:=hn.hl.xlt (.inl rfl);clear hn hle c1x f1x;go_wp2_with fail;have HN2:=ze (HN.o.trans (HN.o.hl.count (wrap64 (n0+1))));generalize(World.setCell _ _ _:World)=W7 at HN2⊢;clear HN n1 d1 e2 hlty;obtain⟨n7,m7⟩:=HN2.o.hl.c2;have d7:W7.cell? ⟨h,1,none⟩=some (.map (some bm)):=HN2.o.hl.c1
    go_region_with (go_at_call 226;refine(qo a b _).mono ?_;rintro e w5 ⟨rfl,hb5⟩;have hb:=(Below.refl W7.heap.size W7).drew.trans hb5;obtain⟨w6,hrun6,hm6,hg6⟩:=(HN2.o.hl.below hb).m2.store (T:=304) (E:=363) underlying304 (show nc<maxLen from by simp only[maxLen];have:=HLE.o;omega) (x:=(a,b)) hk (n7,c);have hrun6':(Instr.mapUpdate 304 (.map (some bm)) (.agg #[O J a,O J b]) (.agg #[O J n7,O J c])).run prog w5=.ok () w6:=hrun6;have c5:w5.cell? ⟨h,1,none⟩=some (.map (some bm)):=(HN2.o.hl.below hb).c1;have c52:w5.cell? ⟨h,2,none⟩=some (O J n7):=zf hb m7;have HM6:=ze hm6;have HG6:=ze hg6;have HB5:=ze hb;clear hm6 hg6 hb hb5 hrun6)
    all_goals
     go_wp2_with fail;go_ret;have hn:=(HN2.o.hl.below HB5.o).callsMap HG6.o HM6.o;exact⟨⟨_,rfl⟩,some bm,nc+1,_,(HNext.refl HC.o HBX.o).trans ((HN2.o.trans (HNext.refl HN2.o.hl HB5.o)).trans hn),by have:=HLE.o;omega⟩
theorem zq{Q:World->Prop}{w W:World}(S:World->Prop)(hS:S W)(hb:Below w.heap.size w W)(h:∀ W':World,S W'->Below w.heap.size w W'->Q W'):Q W:=h W hS hb
theorem Bs.but{X:Nat->Prop}{w W W':World}{L:List (Nat×List Value)}(h:Bs w W L)(hb:But X W W')(hX:∀ k,X k->k<w.heap.size):∀ p∈L,w.heap.size<=p.1/\p.1<W'.heap.size/\Bx W' p.1 p.2:=fun p hp=>by
 obtain⟨h0,h1,h2⟩:=h.l p hp;exact⟨h0,Nat.lt_of_lt_of_le h1 hb.size,h2.but hb h1 (fun hx=>by have:=hX _ hx;omega)⟩
open Classical in
noncomputable def qf(L:HK->List Wt)(k:HK)(l:List Wt):HK->List Wt:=fun k'=>if k'=k then l else L k'
theorem jp(L:HK->List Wt)(k:HK)(l:List Wt):qf L k l k=l:=if_pos rfl
theorem zU(L:HK->List Wt){k k':HK}(l:List Wt)(h:k'≠k):qf L k l k'=L k':=if_neg h
noncomputable def HS.at_(S:HS)(mw:Option Nat)(nw:Nat)(k:HK)(c:Option Sl)(l:List Wt):HS:={S with mw:=mw,nw:=nw,fw:=vt S.fw k c,L:=qf S.L k l}
def yx(b off n c:Nat):Sl:=⟨if c=1 then some ⟨b,off,none⟩else some ⟨b,off+4,none⟩,n-1,c-1⟩
theorem aC{b off n c k:Nat}(h:(yx b off n c).blk k):k=b:=by
 obtain⟨o,h⟩:=h;unfold yx at h;simp only at h;split at h
 ·injection h with h;injection h with h _ _;exact h.symm
 ·injection h with h;injection h with h _ _;exact h.symm
theorem Wrow.tl{w:World}{b off n c:Nat}{x:Wt}{t:List Wt}(h:Wrow w ⟨some ⟨b,off,none⟩,n,c⟩ (x::t)):Wrow w (yx b off n c) t:=by
 have hlen:=h.len;have hcap:=h.cap;simp only[List.length_cons]at hlen hcap;rcases h.at_ with h1|⟨b',off',hA,h0,h1,h2⟩
 ·cases h1.1
 ·injection hA with hA;injection hA with e1 e2 _;subst e1 e2;simp only at h2;refine⟨by unfold yx;simp only;omega,by unfold yx;simp only;omega,?_⟩;unfold yx;simp only;by_cases hc:c=1
  ·rw[if_pos hc];have ht:t=[]:=List.eq_nil_of_length_eq_zero (by omega);subst ht;exact .inr ⟨b,off,rfl,h0,fun j u hu=>by simp at hu,fun j hj=>by omega⟩
  ·rw[if_neg hc];refine .inr ⟨b,off+4,rfl,h0,fun j u hu=>?_,fun j hj=>?_⟩
   ·rw[Nat.add_assoc];refine h1 (4+j) u ?_;rw[List.flatMap_cons,List.getElem?_append_right (by simp)];simpa using hu
   ·rw[Nat.add_assoc];exact h2 (4+j) (by omega)
section
variable{w w':World}{h:Nat}{S:HS}{k:HK}{nw:Nat}
theorem Hl.waitMap(H:Hl w h S){c:Option Sl}{l:List Wt}(hg:w.grownBy w' S.mw)(hm:Mv hallK Sl.v w' S.mw nw (vt S.fw k c))(hwf:hallK.wf k)(hc:∀ s,c=some s->Wrow w s l/\∀ b,s.blk b->∃ s0,S.fw k=some s0/\s0.blk b)(hn:c=none->l=[]):
  HNext w h S w' (S.at_ S.mw nw k c l):=by
 have hb:But (fun k=>S.mw=some k) w w':=But.of_grown hg fun k hk=>hk
 have hh:w'.heap[h]?=w.heap[h]?:=hb.block h (H.xlt (.inl rfl)) H.ne1;have g:=fun o=>World.cell?_of_block (a:=⟨h,o,none⟩) hh
 have gf:=fun o=>World.frozen?_of_block (a:=⟨h,o,none⟩) hh
 obtain⟨n,hn2⟩:=H.c2;refine⟨⟨(g 0).trans H.c0,(g 1).trans H.c1,⟨n,(g 2).trans hn2⟩,(gf 0).trans H.f0,(gf 1).trans H.f1,(gf 2).trans H.f2,hm,H.m2.but hb (fun b hm2 e=>H.ne3 b e hm2),H.ne1,H.ne2,H.ne3,fun k' s hk=>?_,fun k' hk=>?_,fun k1 k2 s1 s2 b h1 h2 b1 b2=>?_,fun k' s b hk hsb=>?_⟩,hb.mono fun k _ hk=>.inr (.inl hk),fun q _ hx=>?_⟩
 ·by_cases e:k'=k
  ·subst e;have hk':vt S.fw k' c k'=some s:=hk;rw[zK]at hk';have h1:=hc s hk';refine⟨hwf,?_⟩
   show Wrow w' s (qf S.L k' l k')
   rw[jp];exact h1.1.keep hb.size fun b hsb=>hb.block b (h1.1.lt hsb) (by
    obtain⟨s0,h2,h3⟩:=h1.2 b hsb;exact(H.off k' s0 b h2 h3).2.1)
  ·have hk':vt S.fw k c k'=some s:=hk;rw[zv _ _ e]at hk';refine⟨(H.row k' s hk').1,?_⟩
   show Wrow w' s (qf S.L k l k')
   rw[zU _ _ e];exact(H.row k' s hk').2.keep hb.size fun b hsb=>hb.block b (H.xlt (.inr (.inr (.inr ⟨k',s,hk',hsb⟩)))) (H.off k' s b hk' hsb).2.1
 ·by_cases e:k'=k
  ·subst e;have hk':vt S.fw k' c k'=none:=hk;rw[zK]at hk'
   show qf S.L k' l k'=[]
   rw[jp];exact hn hk'
  ·have hk':vt S.fw k c k'=none:=hk;rw[zv _ _ e]at hk'
   show qf S.L k l k'=[]
   rw[zU _ _ e];exact H.non k' hk'
 ·have old:∀ k' s,vt S.fw k c k'=some s->s.blk b->∃ s0,S.fw k'=some s0/\s0.blk b:=fun k' s hk hsb=>by
   by_cases e:k'=k
   ·subst e;rw[zK]at hk;exact(hc s hk).2 b hsb
   ·rw[zv _ _ e]at hk;exact⟨s,hk,hsb⟩
  obtain⟨t1,u1,v1⟩:=old k1 s1 h1 b1;obtain⟨t2,u2,v2⟩:=old k2 s2 h2 b2;exact H.sep k1 k2 t1 t2 b u1 u2 v1 v2
 ·have old:∃ s0,S.fw k'=some s0/\s0.blk b:=by
   have hk':vt S.fw k c k'=some s:=hk;by_cases e:k'=k
   ·subst e;rw[zK]at hk';exact(hc s hk').2 b hsb
   ·rw[zv _ _ e]at hk';exact⟨s,hk',hsb⟩
  obtain⟨s0,h1,h2⟩:=old;exact H.off k' s0 b h1 h2
 ·rcases hx with hx|hx|hx|⟨k',s,hk,hsb⟩
  ·exact .inl hx
  ·exact .inr (.inl hx)
  ·exact .inr (.inr (.inl hx))
  ·have hk':vt S.fw k c k'=some s:=hk;by_cases e:k'=k
   ·subst e;rw[zK]at hk';obtain⟨s0,h1,h2⟩:=(hc s hk').2 q hsb;exact .inr (.inr (.inr ⟨k',s0,h1,h2⟩))
   ·rw[zv _ _ e]at hk';exact .inr (.inr (.inr ⟨k',s,hk',hsb⟩))
end
theorem HS.at_at(S:HS)(mw mw':Option Nat)(nw nw':Nat)(k:HK)(c c':Option Sl)(l l':List Wt):(S.at_ mw nw k c l).at_ mw' nw' k c' l'=S.at_ mw' nw' k c' l':=by
 unfold HS.at_;simp only[HS.mk.injEq,true_and,and_true];constructor
 ·funext y
  by_cases e:y=k
  ·subst e;rw[zK,zK]
  ·rw[zv _ _ e,zv _ _ e,zv _ _ e]
 ·funext y
  by_cases e:y=k
  ·subst e;rw[jp,jp]
  ·rw[zU _ _ e,zU _ _ e,zU _ _ e]
theorem Xh.at_{S:HS}{h nw:Nat}{k:HK}{c:Option Sl}{l:List Wt}{q:Nat}(hx:Xh (S.at_ S.mw nw k c l) h q)(hc:∀ s,c=some s->∀ b,s.blk b->∃ s0,S.fw k=some s0/\s0.blk b):Xh S h q:=by
 rcases hx with hx|hx|hx|⟨k',s,hk,hsb⟩
 ·exact .inl hx
 ·exact .inr (.inl hx)
 ·exact .inr (.inr (.inl hx))
 ·have hk':vt S.fw k c k'=some s:=hk;by_cases e:k'=k
  ·subst e;rw[zK]at hk';obtain⟨s0,h1,h2⟩:=hc s hk' q hsb;exact .inr (.inr (.inr ⟨k',s0,h1,h2⟩))
  ·rw[zv _ _ e]at hk';exact .inr (.inr (.inr ⟨k',s,hk',hsb⟩))
theorem HNext.own{w w':World}{h:Nat}{S S':HS}(H:HNext w h S w' S'){a:Addr}(ha:w.heap.size<=a.block)(hx:¬ Xh S' h a.block)(u:Value):HNext w h S (w'.setCell a u) S':=
 ⟨H.hl.but (Y:=fun k=>k=a.block) ((But.refl (fun k=>k=a.block) _).set (.inl rfl) u) (fun k hk e=>hx (e▸hk)),H.but.set (.inr ha) u,H.x⟩
theorem HNext.own4{w w':World}{h:Nat}{S S':HS}(H:HNext w h S w' S'){q:Nat}(ha:w.heap.size<=q)(hx:¬ Xh S' h q)(u v y z:Value):HNext w h S ((((w'.setCell ⟨q,0,none⟩ u).setCell ⟨q,1,none⟩ v).setCell ⟨q,2,none⟩ y).setCell ⟨q,3,none⟩ z) S':=
 (((H.own (a:=⟨q,0,none⟩) ha hx u).own (a:=⟨q,1,none⟩) ha hx v).own (a:=⟨q,2,none⟩) ha hx y).own (a:=⟨q,3,none⟩) ha hx z
def TakeP(w:World)(h:Nat)(S:HS)(k:HK)(e:Ending)(w':World):Prop:=
 (∃x t,S.L k=x::t/\e=.returned (.tuple #[x.v,.bool true])/\∃ nw c,HNext w h S w' (S.at_ S.mw nw k c t)/\nw<=S.nw+1)\/(S.L k=[]/\e=.returned (.tuple #[Wt.v ⟨0,0,0,0⟩,.bool false])/\Below w.heap.size w w')
theorem J0(h:Nat)(S:HS)(k:HK)(w:World)(H:Hl w h S)(hk:hallK.wf k)(hnw:S.nw<=1000000):
  Calls prog 260 #[.pointer (some ⟨h,0,none⟩),.agg #[O J k.1,O J k.2.1,O J k.2.2]] w (TakeP w h S k):=by
 have HB:=ze (Bs.two w [O J k.1,O J k.2.1,O J k.2.2] [O J 0,O J 0,O J 0,O J 0] 360 318);have HF:=ze (fun V(hb:Below w.heap.size w V)=>VD h S k V (H.below hb) hk);have HC:=ze H;clear H;cases hl:S.L k with
 |nil=>
  have hl':=ze hl;rw[hl]at HF;clear hl;go_enter func260,ntmps260;go_wp2_with(go_at_call 279;refine(HF.o _ HB.o.b).mono ?_;rintro e w1 ⟨h1,hb1⟩;rcases h1 with⟨x,t,h2,_⟩|⟨-,rfl⟩;(exact absurd h2 (by simp));have HB1:=ze (HB.o.step hb1);have hz1:w.heap.size+1<w1.heap.size:=(by have:=hb1.size;simp at this;omega);obtain⟨⟨d0,d1,d2,d3⟩,g0,g1,g2,g3⟩:=(HB1.o.cell (q:=w.heap.size+1) (l:=[O J 0,O J 0,O J 0,O J 0]) (by simp)).o4;clear hb1);refine bodyPost_ret (v:=.tuple #[Wt.v ⟨0,0,0,0⟩,.bool false]) (by rw[results_cell_tmp rfl];go_simp) rfl ?_;exact .inr ⟨hl'.o,rfl,by go_grown;exact HB1.o.b⟩
 |cons x t=>
  cases hf:S.fw k with
  |none=>have:=HC.o.non k hf;rw[hl]at this;cases this
  |some sl=>
  obtain⟨r1,r2⟩:=HC.o.row k sl hf;obtain⟨b,off,hA,hn,q0,q1,q2,q3⟩:=r2.first hl;obtain⟨A,n,c⟩:=sl;simp only at hA hn;subst hA;have hcap:n<=c:=r2.cap;have hlen:t.length+1=n:=by have:=r2.len;rw[hl]at this;simpa using this
  rw[hl]at r2 HF;have HR:=ze r2;have HLL:=ze hl;have HLN:=ze hlen;have HFF:=ze hf;have hblk:∀ b',(yx b off n c).blk b'->∃ s0,S.fw k=some s0/\s0.blk b':=fun b' hb'=>⟨_,hf,by rw[aC hb'];exact⟨off,rfl⟩⟩
  have HBK:=ze hblk;clear r2 hl hf hblk hlen q0 q1 q2 q3;go_enter func260,ntmps260;go_upto_region 4 with(go_at_call 279;refine(HF.o _ HB.o.b).mono ?_;rintro e w1 ⟨h1,hb1⟩;rcases h1 with⟨x',t',h2,rfl⟩|⟨h2,-⟩;rotate_left;(exact absurd h2 (by simp));(injection h2 with h2 h2';subst h2 h2');have HB2:=ze ((HB.o.step hb1).new (q:=w1.heap.size) rfl [O J x.id,O J x.frm,O J x.to_,O J x.car] 318);clear hb1);generalize w1.alloc _=W at HB2⊢;generalize w1.heap.size=q at HB2⊢;have HH:=ze (HC.o.below HB2.o.b);clear HB HF;obtain⟨bm,hmw⟩:∃ bm,S.mw=some bm:=by
   cases hm:S.mw with
   |none=>
    have:=HC.o.m1;rw[hm]at this;rcases this with⟨-,h2⟩|⟨b',D,h2,-⟩
    ·rw[h2 k]at HFF;cases HFF.o
    ·cases h2
   |some bm=>exact⟨bm,rfl⟩
  have i0:(1:Int)<=(n:Int):=by omega
  have i1:(n:Int)<=(c:Int):=by omega
  by_cases hc:c=1
  ·have HD:=ze ((HH.o.below (Below.refl W.heap.size W).drew));obtain⟨w6,hrun6,hm6,hg6⟩:=(show Mv hallK Sl.v W.drew (some bm) S.nw S.fw from hmw▸HD.o.m1).store (T:=303) (E:=358) underlying303 (show S.nw<maxLen from by simp only[maxLen];omega) (x:=k) hk (yx b off n c);have hrun6':(Instr.mapUpdate 303 (.map (some bm)) (.agg #[O J k.1,O J k.2.1,O J k.2.2]) (.slice (some ⟨b,off,none⟩) (n-1) 0)).run prog W.drew=.ok () w6:=by
    have hv:(yx b off n c).v=.slice (some ⟨b,off,none⟩) (n-1) 0:=by unfold yx;simp[hc]
    rw[hv]at hrun6;exact hrun6
   have hrun4:(Instr.lookup 303 (.map (some bm)) (.agg #[O J k.1,O J k.2.1,O J k.2.2]) false).run prog W.drew=.ok (.slice (some ⟨b,off,none⟩) n c) W.drew:=hmw▸HD.o.look_some HFF.o hk;have HN6:=ze (HD.o.waitMap (c:=some (yx b off n c)) (l:=t) (nw:=S.nw+1) (by rw[hmw];exact hg6) (by rw[hmw];exact hm6) hk (fun s hs=>by injection hs with hs;subst hs;exact⟨(HR.o.keep (w':=W.drew) HB2.o.b.size fun b' hb'=>HB2.o.b.block b' (HR.o.lt hb')).tl,HBK.o⟩) (fun h=>by cases h));have c0:W.cell? ⟨h,0,none⟩=some (.map (some bm)):=hmw▸HH.o.c0;obtain⟨⟨k0,k1,k2⟩,-⟩:=(HB2.o.cell (q:=w.heap.size) (l:=[O J k.1,O J k.2.1,O J k.2.2]) (by simp)).o3;clear hrun6 hm6 hg6;go_region
   all_goals
    have H6:=ze HN6.o.hl;have HBW:=ze (HB2.o.drew.but HN6.o.but (fun k hk=>HC.o.xlt hk));have HNB:=ze (show But (Xh S h) w w6 from(But.of_below HB2.o.b.drew).trans HN6.o.but (fun _ _ h=>h));have HNX:=ze HN6.o.x;have c6:w6.cell? ⟨h,0,none⟩=some (.map (some bm)):=hmw▸H6.o.c0;have HLK:=ze (fun V(hb:Below w6.heap.size w6 V)=>(show(Instr.lookup 303 (.map (some bm)) (.agg #[O J k.1,O J k.2.1,O J k.2.2]) false).run prog V=.ok (.slice (some ⟨b,off,none⟩) (n-1) 0) V from by
     have h1:=(H6.o.below hb).look_some (k:=k) (A:=(some ⟨b,off,none⟩)) (n:=n-1) (c:=0) (by
      show vt S.fw k (some (yx b off n c)) k=_
      rw[zK];unfold yx;simp[hc]) hk
     exact hmw▸h1))
    have hrun5:=fun m=>HLK.o _ (zg (Below.refl w6.heap.size w6) m)
    obtain⟨⟨kk0,kk1,kk2⟩,-⟩:=(HBW.o (w.heap.size,[O J k.1,O J k.2.1,O J k.2.2]) (by simp)).2.2.o3;go_wp2_with fail;go_quiet(fail);refine zq (w:=w6) (fun V=>Hl V h (S.at_ S.mw (S.nw+1) k (some (yx b off n c)) t)/\∀ p∈[(q,[O J x.id,O J x.frm,O J x.to_,O J x.car]),(w.heap.size+1,[O J 0,O J 0,O J 0,O J 0]),(w.heap.size,[O J k.1,O J k.2.1,O J k.2.2])],p.1<V.heap.size/\Bx V p.1 p.2) ⟨H6.o.below (zg fh _),fun p hp=>⟨(HBW.o p hp).2.1,(HBW.o p hp).2.2.drewN _⟩⟩ (zg fh _) ?_;rintro V ⟨hv1,hv2⟩ hbV;have HV:=ze hv1;have HVB:=ze hv2;have HBV:=ze hbV;clear hv1 hv2 hbV;have hzb:=(HVB.o (w.heap.size+1,[O J 0,O J 0,O J 0,O J 0]) (by simp)).1;have hzq:=(HVB.o (q,[O J x.id,O J x.frm,O J x.to_,O J x.car]) (by simp)).1;obtain⟨⟨d0,d1,d2,d3⟩,g0,g1,g2,g3⟩:=(HVB.o (w.heap.size+1,[O J 0,O J 0,O J 0,O J 0]) (by simp)).2.o4;obtain⟨⟨e0,e1,e2,e3⟩,-⟩:=(HVB.o (q,[O J x.id,O J x.frm,O J x.to_,O J x.car]) (by simp)).2.o4;obtain⟨⟨l0,l1,l2⟩,-⟩:=(HVB.o (w.heap.size,[O J k.1,O J k.2.1,O J k.2.2]) (by simp)).2.o3;have HSZ:=ze HB2.o.b.size;by_cases hn1:n=1
    ·have eB:(((n-1:Nat):Int)==0)=true:=by simp;omega
     have HN1:=ze hn1;clear hn1 hrun5 hrun4 hrun6' c6 c0 k0 k1 k2 kk0 kk1 kk2;obtain⟨w8,hrun8,hm8,hg8⟩:=(HV.o.below (Below.refl V.heap.size V).drew).m1.drop (T:=303) (E:=358) underlying303 (x:=k) hk 0;have hrun8':(Builtin.delete_ #[303,360] 0 #[.map (some bm),.agg #[O J k.1,O J k.2.1,O J k.2.2]]).run prog V.drew=.ok (.tuple #[]) w8:=hmw▸hrun8;have cV:V.cell? ⟨h,0,none⟩=some (.map (some bm)):=hmw▸HV.o.c0;have HN8:=ze ((HV.o.below (Below.refl V.heap.size V).drew).waitMap hg8 hm8 hk (fun s hs=>by cases hs) (fun _=>rfl));clear hrun8 hm8 hg8;go_wp2_with fail;go_region
     all_goals
      have HB8:=ze (fun p(hp:p∈[(q,[O J x.id,O J x.frm,O J x.to_,O J x.car]),(w.heap.size+1,[O J 0,O J 0,O J 0,O J 0]),(w.heap.size,[O J k.1,O J k.2.1,O J k.2.2])])=>(show p.1<w8.heap.size/\Bx w8 p.1 p.2 from
       have h0:=HVB.o p hp
       ⟨Nat.lt_of_lt_of_le h0.1 HN8.o.but.size,h0.2.drew.but HN8.o.but h0.1 (fun hx=>by
        have h1:=HC.o.xlt (hx.at_ (fun s hs b hb=>by injection hs with hs;subst hs;exact HBK.o b hb));have h2:=(HBW.o p hp).1;omega)⟩))
      have hzb8:=(HB8.o (w.heap.size+1,[O J 0,O J 0,O J 0,O J 0]) (by simp)).1;obtain⟨⟨d0,d1,d2,d3⟩,g0,g1,g2,g3⟩:=(HB8.o (w.heap.size+1,[O J 0,O J 0,O J 0,O J 0]) (by simp)).2.o4;obtain⟨⟨e0,e1,e2,e3⟩,-⟩:=(HB8.o (q,[O J x.id,O J x.frm,O J x.to_,O J x.car]) (by simp)).2.o4;have HEND:=ze ((((((HNext.refl HC.o HB2.o.b.drew).trans HN6.o).trans (HNext.refl HN6.o.hl HBV.o)).trans (HNext.refl HV.o (Below.refl V.heap.size V).drew)).trans HN8.o));go_wp2_with fail;refine bodyPost_ret (v:=.tuple #[x.v,.bool true]) (by rw[results_cell_tmp rfl];go_simp) rfl ?_;have ht:t=[]:=List.eq_nil_of_length_eq_zero (by have:=HLN.o;have:=HN1.o;omega);refine .inl ⟨x,t,HLL.o,rfl,S.nw+1,none,?_,fi⟩;have hS:(S.at_ S.mw (S.nw+1) k (some (yx b off n c)) t).at_ (S.at_ S.mw (S.nw+1) k (some (yx b off n c)) t).mw (S.nw+1) k none []=S.at_ S.mw (S.nw+1) k none t:=by rw[HS.at_at,ht];rfl
      have hE:=HEND.o;have hE2:HNext w h S w8 (S.at_ S.mw (S.nw+1) k none t):=hS▸hE;exact hE2.own4 (by omega) (fun hx=>by have h1:=HC.o.xlt (hx.at_ (fun s hs=>by cases hs));omega) _ _ _ _
    ·exfalso;omega
  ·have HD:=ze ((HH.o.below (Below.refl W.heap.size W).drew));obtain⟨w6,hrun6,hm6,hg6⟩:=(show Mv hallK Sl.v W.drew (some bm) S.nw S.fw from hmw▸HD.o.m1).store (T:=303) (E:=358) underlying303 (show S.nw<maxLen from by simp only[maxLen];omega) (x:=k) hk (yx b off n c);have hrun6':(Instr.mapUpdate 303 (.map (some bm)) (.agg #[O J k.1,O J k.2.1,O J k.2.2]) (.slice (some ⟨b,off+4,none⟩) (n-1) (c-1))).run prog W.drew=.ok () w6:=by
    have hv:(yx b off n c).v=.slice (some ⟨b,off+4,none⟩) (n-1) (c-1):=by unfold yx;simp[hc]
    rw[hv]at hrun6;exact hrun6
   have hrun4:(Instr.lookup 303 (.map (some bm)) (.agg #[O J k.1,O J k.2.1,O J k.2.2]) false).run prog W.drew=.ok (.slice (some ⟨b,off,none⟩) n c) W.drew:=hmw▸HD.o.look_some HFF.o hk;have HN6:=ze (HD.o.waitMap (c:=some (yx b off n c)) (l:=t) (nw:=S.nw+1) (by rw[hmw];exact hg6) (by rw[hmw];exact hm6) hk (fun s hs=>by injection hs with hs;subst hs;exact⟨(HR.o.keep (w':=W.drew) HB2.o.b.size fun b' hb'=>HB2.o.b.block b' (HR.o.lt hb')).tl,HBK.o⟩) (fun h=>by cases h));have c0:W.cell? ⟨h,0,none⟩=some (.map (some bm)):=hmw▸HH.o.c0;obtain⟨⟨k0,k1,k2⟩,-⟩:=(HB2.o.cell (q:=w.heap.size) (l:=[O J k.1,O J k.2.1,O J k.2.2]) (by simp)).o3;clear hrun6 hm6 hg6;go_region
   all_goals
    have H6:=ze HN6.o.hl;have HBW:=ze (HB2.o.drew.but HN6.o.but (fun k hk=>HC.o.xlt hk));have HNB:=ze (show But (Xh S h) w w6 from(But.of_below HB2.o.b.drew).trans HN6.o.but (fun _ _ h=>h));have HNX:=ze HN6.o.x;have c6:w6.cell? ⟨h,0,none⟩=some (.map (some bm)):=hmw▸H6.o.c0;have HLK:=ze (fun V(hb:Below w6.heap.size w6 V)=>(show(Instr.lookup 303 (.map (some bm)) (.agg #[O J k.1,O J k.2.1,O J k.2.2]) false).run prog V=.ok (.slice (some ⟨b,off+4,none⟩) (n-1) (c-1)) V from by
     have h1:=(H6.o.below hb).look_some (k:=k) (A:=(some ⟨b,off+4,none⟩)) (n:=n-1) (c:=(c-1)) (by
      show vt S.fw k (some (yx b off n c)) k=_
      rw[zK];unfold yx;simp[hc]) hk
     exact hmw▸h1))
    have hrun5:=fun m=>HLK.o _ (zg (Below.refl w6.heap.size w6) m)
    obtain⟨⟨kk0,kk1,kk2⟩,-⟩:=(HBW.o (w.heap.size,[O J k.1,O J k.2.1,O J k.2.2]) (by simp)).2.2.o3;go_wp2_with fail;go_quiet(fail);refine zq (w:=w6) (fun V=>Hl V h (S.at_ S.mw (S.nw+1) k (some (yx b off n c)) t)/\∀ p∈[(q,[O J x.id,O J x.frm,O J x.to_,O J x.car]),(w.heap.size+1,[O J 0,O J 0,O J 0,O J 0]),(w.heap.size,[O J k.1,O J k.2.1,O J k.2.2])],p.1<V.heap.size/\Bx V p.1 p.2) ⟨H6.o.below (zg fh _),fun p hp=>⟨(HBW.o p hp).2.1,(HBW.o p hp).2.2.drewN _⟩⟩ (zg fh _) ?_;rintro V ⟨hv1,hv2⟩ hbV;have HV:=ze hv1;have HVB:=ze hv2;have HBV:=ze hbV;clear hv1 hv2 hbV;have hzb:=(HVB.o (w.heap.size+1,[O J 0,O J 0,O J 0,O J 0]) (by simp)).1;have hzq:=(HVB.o (q,[O J x.id,O J x.frm,O J x.to_,O J x.car]) (by simp)).1;obtain⟨⟨d0,d1,d2,d3⟩,g0,g1,g2,g3⟩:=(HVB.o (w.heap.size+1,[O J 0,O J 0,O J 0,O J 0]) (by simp)).2.o4;obtain⟨⟨e0,e1,e2,e3⟩,-⟩:=(HVB.o (q,[O J x.id,O J x.frm,O J x.to_,O J x.car]) (by simp)).2.o4;obtain⟨⟨l0,l1,l2⟩,-⟩:=(HVB.o (w.heap.size,[O J k.1,O J k.2.1,O J k.2.2]) (by simp)).2.o3;have HSZ:=ze HB2.o.b.size;by_cases hn1:n=1
    ·have eB:(((n-1:Nat):Int)==0)=true:=by simp;omega
     have HN1:=ze hn1;clear hn1 hrun5 hrun4 hrun6' c6 c0 k0 k1 k2 kk0 kk1 kk2;obtain⟨w8,hrun8,hm8,hg8⟩:=(HV.o.below (Below.refl V.heap.size V).drew).m1.drop (T:=303) (E:=358) underlying303 (x:=k) hk 0;have hrun8':(Builtin.delete_ #[303,360] 0 #[.map (some bm),.agg #[O J k.1,O J k.2.1,O J k.2.2]]).run prog V.drew=.ok (.tuple #[]) w8:=hmw▸hrun8;have cV:V.cell? ⟨h,0,none⟩=some (.map (some bm)):=hmw▸HV.o.c0;have HN8:=ze ((HV.o.below (Below.refl V.heap.size V).drew).waitMap hg8 hm8 hk (fun s hs=>by cases hs) (fun _=>rfl));clear hrun8 hm8 hg8;go_wp2_with fail;go_region
     all_goals
      have HB8:=ze (fun p(hp:p∈[(q,[O J x.id,O J x.frm,O J x.to_,O J x.car]),(w.heap.size+1,[O J 0,O J 0,O J 0,O J 0]),(w.heap.size,[O J k.1,O J k.2.1,O J k.2.2])])=>(show p.1<w8.heap.size/\Bx w8 p.1 p.2 from
       have h0:=HVB.o p hp
       ⟨Nat.lt_of_lt_of_le h0.1 HN8.o.but.size,h0.2.drew.but HN8.o.but h0.1 (fun hx=>by
        have h1:=HC.o.xlt (hx.at_ (fun s hs b hb=>by injection hs with hs;subst hs;exact HBK.o b hb));have h2:=(HBW.o p hp).1;omega)⟩))
      have hzb8:=(HB8.o (w.heap.size+1,[O J 0,O J 0,O J 0,O J 0]) (by simp)).1;obtain⟨⟨d0,d1,d2,d3⟩,g0,g1,g2,g3⟩:=(HB8.o (w.heap.size+1,[O J 0,O J 0,O J 0,O J 0]) (by simp)).2.o4;obtain⟨⟨e0,e1,e2,e3⟩,-⟩:=(HB8.o (q,[O J x.id,O J x.frm,O J x.to_,O J x.car]) (by simp)).2.o4;have HEND:=ze ((((((HNext.refl HC.o HB2.o.b.drew).trans HN6.o).trans (HNext.refl HN6.o.hl HBV.o)).trans (HNext.refl HV.o (Below.refl V.heap.size V).drew)).trans HN8.o));go_wp2_with fail;refine bodyPost_ret (v:=.tuple #[x.v,.bool true]) (by rw[results_cell_tmp rfl];go_simp) rfl ?_;have ht:t=[]:=List.eq_nil_of_length_eq_zero (by have:=HLN.o;have:=HN1.o;omega);refine .inl ⟨x,t,HLL.o,rfl,S.nw+1,none,?_,fi⟩;have hS:(S.at_ S.mw (S.nw+1) k (some (yx b off n c)) t).at_ (S.at_ S.mw (S.nw+1) k (some (yx b off n c)) t).mw (S.nw+1) k none []=S.at_ S.mw (S.nw+1) k none t:=by rw[HS.at_at,ht];rfl
      have hE:=HEND.o;have hE2:HNext w h S w8 (S.at_ S.mw (S.nw+1) k none t):=hS▸hE;exact hE2.own4 (by omega) (fun hx=>by have h1:=HC.o.xlt (hx.at_ (fun s hs=>by cases hs));omega) _ _ _ _
    ·have eB:(((n-1:Nat):Int)==0)=false:=by first|(simp;done)|(simp;omega)
     clear hn1 hrun5 hrun4 hrun6' c6 c0 k0 k1 k2 kk0 kk1 kk2;go_wp2_with fail;refine bodyPost_ret (v:=.tuple #[x.v,.bool true]) (by rw[results_cell_tmp rfl];go_simp) rfl ?_;refine .inl ⟨x,t,HLL.o,rfl,S.nw+1,some (yx b off n c),?_,fi⟩;have hE:=((HNext.refl HC.o HB2.o.b.drew).trans HN6.o).trans (HNext.refl HN6.o.hl HBV.o);exact hE.own4 (by omega) (fun hx=>by have h1:=HC.o.xlt (hx.at_ (fun s hs b hb=>by injection hs with hs;subst hs;exact HBK.o b hb));omega) _ _ _ _
end
end Go.Proofs.YtdeogmbfgkepeaaGreatDoor
