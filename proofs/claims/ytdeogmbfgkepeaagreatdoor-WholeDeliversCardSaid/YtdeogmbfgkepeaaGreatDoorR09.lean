/- Contracts for WholeDelivers. -/
import Derived.Handed
import Derived.Lay
import Derived.Lib.LaidTab
import Derived.SevenTiedAt
import Derived.Shelf.Spec.TrailingZeros
import Derived.Test.YtdeogmbfgkepeaaGreatDoorCards
import Derived.Test.YtdeogmbfgkepeaaGreatDoorTie
import Derived.Test.YtdeogmbfgkepeaaGreatDoorR04
set_option linter.unusedVariables false
set_option linter.unusedSimpArgs false
set_option maxRecDepth 100000
set_option maxHeartbeats 64000000
namespace Go.Proofs.YtdeogmbfgkepeaaGreatDoor
open Go.Proofs.Tryz
open Go.Value renaming int->O
open Go.IntKind renaming i64->J
section
open Go.ChangeShapes Go.WideShapes Go.ChangeAt Go.RowKit HB
section
variable{H:Type}{enc:TypeId×Value->H}
theorem gY{C:Checked}{os:Os}{F:FuncId}{fn:Func}{s:ChangeSpec}{tb:TypeId}{lay:List (String×DataW Unit)}
  (own:ownKnob C.prog.godebug=none)(started:os.Started)(noInit:C.prog.inits.idxOf? F=none)(hfn:C.prog.funcs[F]?=some fn)
  (witness:∃(w:l6)(tape:Tape)(i:Input),w.os=os/\(w.forCall tape i).Shaped C.prog/\i.vars=[]/\Input.okWide C.prog (w.forCall tape i) .any w.heap.size F i/\
   ((s.pre enc C.prog fn [] false (w.forCall tape i).memory i.args/\laidMetH C.prog lay (w.forCall tape i).memory)/\sizedMet enc C.prog fn (OpenSpec.ofChange s) false (w.forCall tape i).memory i.args)/\({}:Assume).holds C.prog (lone (Frame.enter C.prog F i.args .normal) [] (w.forCall tape i)))
  (laid:laidOutB C.prog=true)(hrd:∀ t∈fn.params.toList,C.prog.readableRec t=true/\t<C.prog.types.size)
  (hres:fn.resultTypes= #[tb])(hb:C.prog.underlying tb=some .bool)(hvars:s.vars=[])
  (hs:∀ ds:List (DataW H),ds.length=fn.params.size->s.fn H ds={results:=[.lit (.bool true)],args:=ds})
  (walk:∀(W:l6)(base:Nat)(args:Array Value)(ds:List (DataW H))(p:List MemPlace),
   (∀(j:Nat) t v,fn.params[j]?=some t->args[j]?=some v->Value.okWide C.prog W .any base t v)->
   DataW.TrodAll enc C.prog W 0 (fun _=>true) true fn.params.toList args.toList ds p->laidMetH C.prog lay W->W.ShapedOpen C.prog->
   Calls C.prog F args W fun e W'=>e=.returned (.bool true)/\Below W.heap.size W W'):
  ReturnsInHanded {} C os F .any (fun w args=>(s.pre enc C.prog fn [] false w args/\laidMetH C.prog lay w)/\sizedMet enc C.prog fn (OpenSpec.ofChange s) false w args) (s.post enc C.prog fn false true false false):=by
 refine returnsInHanded_of_calls own started noInit witness ?_;intro w tape i _ ha _ h9 h5 h3;obtain⟨_,_,_,fn',h0,_,_,_,_,h6⟩:=h9;have e:fn'=fn:=ve (h0.symm.trans hfn);subst e;obtain⟨⟨⟨ds,gs,before,hw,hc⟩,hx⟩,hz⟩:=h5;have hW:=DataW.Whole.of_heap (w':=w.forCall tape i) (by rfl) hw;have h7:=hW;have hL:laidMetH C.prog lay (w.forCall tape i):=hx.of_heap (by rfl);generalize hd:w.forCall tape i=W at*;obtain⟨p,q,hA,hV,rfl,hf,hg⟩:=hW;have h8:gs=[]/\q=[]:=by
  rw[hvars]at hV;cases gs with
  |nil=>exact⟨rfl,hV⟩
  |cons _ _=>exact hV.elim
 obtain⟨rfl,rfl⟩:=h8;have h4:ds.length=fn'.params.size:=by
  have:∀{ts:List TypeId}{vs:iZ}{ds:List (DataW H)}{ps:List MemPlace},DataW.TrodAll enc C.prog W 0 (fun _=>true) true ts vs ds ps->ds.length=ts.length:=by
   intro ts
   induction ts with
   |nil=>intro vs ds ps h;cases vs<;>cases ds<;>first|rfl|cases h
   |cons t ts ih=>
    intro vs ds ps h;cases vs with
    |nil=>cases h
    |cons v vs=>
     cases ds with
     |nil=>cases h
     |cons d ds=>
      obtain⟨_,_,_,h2,_⟩:=h;simp[ih h2]
  simpa using this hA
 refine(walk W _ i.args ds p h6 hA hL ha).mono fun e W'⟨he,bel⟩=>?_
 subst he;have h1:s.fn H (ds++[])={results:=[.lit (.bool true)],args:=ds}:=by rw[Hx];exact hs ds h4
 refine ChangeSpec.post_blind ⟨ds,[],p++[],[],p,[],h7,?_,?_,?_,?_,fun h=>by cases h⟩
 ·rw[h1,hres];exact trodAll_mk1 (shut_bool hb _)
 ·rw[h1];exact vv laid bel hrd hA
 ·rw[h1,hvars];rfl
 ·exact bel.frame _
end
section
variable{H:Type}{enc:TypeId×Value->H}{w:l6}{base:Nat}{spare:Nat->Bool}{held:Bool}
instance:Inhabited Sg:=⟨⟨0,0,0⟩⟩
theorem il(n:Nat)(cs:iZ)(y:DataW H×List MemPlace)(h:DataW.trod enc prog w base spare held n 68 cs=some y):∃ g:Sg,cs=YL g/\((Lit.int .i64 g.k).wf=true/\(Lit.int .i64 g.t).wf=true/\(Lit.int .i64 g.r).wf=true):=by
 obtain⟨zs,h1,h2,h3⟩:=QQ (k:=.i64) underlying68 (by kernel_rfl) (by kernel_rfl) (by kernel_rfl) h
 match zs,h2 with
 |[a,b,c],_=>exact⟨⟨a,b,c⟩,by simpa using h1,h3 a (by simp),h3 b (by simp),h3 c (by simp)⟩
def Sc.wf(s:Sc):Prop:=∀ z∈[s.fl,s.gap,s.cars,s.cap,s.opn,s.dw,s.cl,s.tr,s.disp,s.hor,s.bins,s.width],(Lit.int .i64 z).wf=true
theorem xb{t:TypeId}{u:Value}{m:Nat}(ht:prog.underlying t=some (.int .i64))(h:∃ y,DataW.trod enc prog w base spare held m t [u]=some y):∃ z:Int,u=.int .i64 z/\(Lit.int .i64 z).wf=true:=by
 obtain⟨y,h⟩:=h;obtain⟨z,h1,_,h2⟩:=DataW.trod_int ht h;exact⟨z,by simpa using h1,h2⟩
theorem gI{r:Reach}{b0:Nat}{v:Value}{d:DataW H}{ps:List MemPlace}(hv:Value.okWide prog w r b0 25 v)(hd:DataW.Trod enc prog w base spare held 25 v d ps):
  ∃(s:Sc)(A:iX)(n c:Nat),v=s.v A n c/\s.segs.length=n/\n<=c/\c<=maxLen/\s.wf/\Rd w w.heap.size 3 A n (s.segs.flatMap YL):=by
 obtain⟨us,m,rfl,hl,hf⟩:=Vx underlying25 (by kernel_rfl) (by kernel_rfl) hv hd
 match us,hl with
 |[u0,u1,u2,u3,u4,u5,u6,u7,u8,u9,u10,u11,u12],_=>
  obtain⟨z0,rfl,w0⟩:=xb underlying3 (hf 0 _ _ rfl rfl);obtain⟨z1,rfl,w1⟩:=xb underlying3 (hf 1 _ _ rfl rfl);obtain⟨z2,rfl,w2⟩:=xb underlying3 (hf 2 _ _ rfl rfl);obtain⟨z3,rfl,w3⟩:=xb underlying3 (hf 3 _ _ rfl rfl);obtain⟨z4,rfl,w4⟩:=xb underlying3 (hf 4 _ _ rfl rfl);obtain⟨z5,rfl,w5⟩:=xb underlying3 (hf 5 _ _ rfl rfl);obtain⟨z6,rfl,w6⟩:=xb underlying3 (hf 6 _ _ rfl rfl);obtain⟨z7,rfl,w7⟩:=xb underlying3 (hf 7 _ _ rfl rfl);obtain⟨y8,h8⟩:=hf 8 _ _ rfl rfl;obtain⟨A,n,c,l,h1,h2,h3,h4,h5,h6⟩:=ZQ (f:=YL) (m:=3) (fun _=>rfl) (by omega) (ok:=fun g:Sg=>(Lit.int .i64 g.k).wf=true/\(Lit.int .i64 g.t).wf=true/\(Lit.int .i64 g.r).wf=true) underlying22 (by kernel_rfl) il h8;obtain rfl:u8=.slice A n c:=by simpa using h1
  obtain⟨z9,rfl,w9⟩:=xb underlying23 (hf 9 _ _ rfl rfl);obtain⟨z10,rfl,w10⟩:=xb underlying3 (hf 10 _ _ rfl rfl);obtain⟨z11,rfl,w11⟩:=xb underlying3 (hf 11 _ _ rfl rfl);obtain⟨z12,rfl,w12⟩:=xb underlying3 (hf 12 _ _ rfl rfl);refine⟨⟨z0,z1,z2,z3,z4,z5,z6,z7,z9,z10,z11,z12,l⟩,A,n,c,rfl,h2,h3,h4,?_,h6⟩;intro z hz;simp only[qx,List.mem_nil_iff,or_false]at hz;rcases hz with rfl|rfl|rfl|rfl|rfl|rfl|rfl|rfl|rfl|rfl|rfl|rfl<;>assumption
end
def bW:Prop:=∀(s:Sc)(A:iX)(n c:Nat)(wA:iX)(wn wc:Nat)(ws:l8)(W:l6),s.wf->s.segs.length=n->n<=c->c<=maxLen->Rd W W.heap.size 3 A n (s.segs.flatMap YL)->ws.length=wn->wn<=wc->wc<=maxLen->(∀z∈ws,(Lit.int .u32 z).wf=true)->Rd W W.heap.size 1 wA wn (ws.map (Value.int .u32))->
 TabAt 5 Lib.deBruijn64tab W->W.ShapedOpen prog->Calls prog 3 #[s.v A n c,.slice wA wn wc] W fun e W'=>e=.returned (.bool true)/\Below W.heap.size W W'
theorem iu:prog.globalNamed "math/bits.deBruijn64tab" =some 5:=by kernel_rfl
theorem iv:(prog.globals[5]?).map (·.type)=some 425:=by kernel_rfl
theorem im{W:l6}(h:laidMetH prog Rows.wholeDeliversRow.laid W):TabAt 5 Lib.deBruijn64tab W:=by
 have h2:laidMetH prog [("math/bits.deBruijn64tab",Rows.laid_math_bits_deBruijn64tab),("unicode/utf8.acceptRanges",Rows.laid_unicode_utf8_acceptRanges),("unicode/utf8.first",Rows.laid_unicode_utf8_first)] W:=h
 rw[MakeChecks.laidMetH_plain _ _ _ (by kernel_rfl)]at h2;have h3:Lib.TabIs prog W "math/bits.deBruijn64tab" .u8 (Lib.deBruijn64tab.map fun n:Nat=>(n:Int)):=Lib.tabIs_of_head iu iv underlying425 underlying5 (by kernel_rfl) (by kernel_rfl) h2
 intro j hj;have h4:=h3.cell iu j (by simpa using hj);rw[h4]
 congr 2
 rw[QR,QR,QL];rw[kD hj];rfl
theorem fD(hW:bW)(os:Os)(started:os.Started)(H:Type)(enc:TypeId×Value->H):
  ReturnsInHanded {} Tryz.checked os 3 .any (fun w args=>(Rows.wholeDeliversSpec.pre enc prog Tryz.f3 [] false w args/\laidMetH prog Rows.wholeDeliversRow.laid w)/\sizedMet enc prog Tryz.f3 (OpenSpec.ofChange Rows.wholeDeliversSpec) false w args)
   (Rows.wholeDeliversSpec.post enc prog Tryz.f3 false true false false):=by
 refine gY (C:= Tryz.checked) Tryz.own started (by kernel_rfl) func3
  (ChangeSpec.witness_shaped (enc:=enc) (C:= Tryz.checked) (os:=os) (X:=fun w _=>laidMetH prog Rows.wholeDeliversRow.laid w) false (World.laidAll prog os Rows.wholeDeliversRow.laid) #[.agg #[O J 0,O J 0,O J 0,O J 0,O J 0,O J 0,O J 0,O J 0,.slice none 0 0,O J 0,O J 0,O J 0,O J 0],.slice none 0 0] 8 (World.laidAll_os _ _ _)
   (World.shaped_of_ZipB (by kernel_rfl) (by kernel_rfl)) (by kernel_rfl) (by kernel_rfl) (by kernel_rfl)
   (by rw[MakeChecks.laidMetH_plain _ _ _ (by kernel_rfl)];exact laidMet_laidAll _ (by kernel_rfl) (by kernel_rfl)))
  Tryz.laidOut (show∀t∈[25,26],prog.readableRec t=true/\t<prog.types.size from by
   intro t ht;simp only[qx,Zl,or_false]at ht;rcases ht with rfl|rfl<;>exact⟨by kernel_rfl,of_decide_eq_true (by kernel_rfl)⟩) (tb:=4) (by kernel_rfl) underlying4 rfl (fun ds hd=>?_) ?_
 ·match ds,hd with
  |[_,_],_=>rfl
 ·intro W base args ds p h3 hA hL h7;have h2:∀(j:Nat) t v,Tryz.f3.params[j]?=some t->args[j]?=some v->Value.okWide prog W .any base t v:=h3;have h4:DataW.TrodAll enc prog W 0 (fun _=>true) true Tryz.f3.params.toList args.toList ds p:=hA;rw[params3]at h4 h2;obtain⟨v0,v1,d0,d1,p0,p1,rfl,rfl,rfl,h0,h1⟩:=trodAll_two h4;obtain⟨s,A,n,c,rfl,hn,hc,hm,hw,hr⟩:=gI (h2 0 _ _ rfl rfl) h0;obtain⟨A',m,c',L,rfl,hl',h5,hm',h8,h6⟩:=Wp underlying26 underlying151 (by kernel_rfl) (h2 1 _ _ rfl rfl) h1;exact hW s A n c A' m c' L W hw hn hc hm hr hl' h5 hm' h8 h6 (im hL) h7
theorem fP:joinedFacts prog 3 Tryz.f3 Rows.wholeDeliversSpec Rows.wholeDeliversRow=true:=by kernel_rfl
theorem fV:prog.funcNamed Rows.wholeDeliversRow.func=some 3:=by kernel_rfl
theorem fY: Tryz.f3.isInstance prog Rows.wholeDeliversRow.origin Rows.wholeDeliversRow.targs:=(of_decide_eq_true (by kernel_rfl))
theorem fZ: Tryz.f3.isWrapper prog Rows.wholeDeliversRow.wrapper Rows.wholeDeliversRow.mainSum:=by unfold Func.isWrapper;first|(rw[if_pos (by decide+kernel)];kernel_rfl)|(rw[if_neg (by decide+kernel)];exact⟨rfl,rfl⟩)
theorem fN(hW:bW):Rows.WholeDeliversSaid:=
 OpenClaim.holds_of_wide 3 Tryz.f3 rfl rfl rfl rfl rfl rfl rfl ⟨rfl,rfl,rfl,rfl,rfl⟩ rfl rfl rfl rfl rfl fV func3 fP
  fY fZ
  (fun os started H enc _=>fD hW os started H enc)
theorem fH(hW:bW):Rows.WholeDeliversCardSaid:=
 Claim7.holds_tied_plain_at .later [] [.data,.data,.pinned] true (true, "effb8f79289d991ef78c13da504b1039318cf5ded8461841bee84f48e052e86a") false
  (fN hW) (fun _ h=>by cases h) (by kernel_rfl) (fun _ h=>by cases h) wholeDelivers_row_tie rfl ⟨rfl,rfl⟩ (by kernel_rfl) rfl
  (fun f fn hf h0=>by
   obtain rfl:f=3:=ve ((show prog.funcNamed "hoistway/hoistwaytop.WholeDelivers" =some 3 by kernel_rfl).symm.trans hf) |>.symm
   obtain rfl:fn= Tryz.f3:=(ve (func3.symm.trans h0)).symm;exact⟨by kernel_rfl,fun j t ht=>by
    rw[params3]at ht;have hm:t∈[25,26]:=by simpa using Array.mem_of_getElem? ht
    have hall:([25,26].all fun u=>!prog.wantsStandIn u)=true:=by kernel_rfl
    exact(show prog.wantsStandIn t=false by simpa using List.all_eq_true.1 hall t hm)⟩)
  (by kernel_rfl)
end
end Go.Proofs.YtdeogmbfgkepeaaGreatDoor
