/- Contracts that WholeBins needs. Each tells its conditions. -/
import Derived.Test.YtdeogmbfgkepeaaGreatDoorQ08
import Derived.Test.YtdeogmbfgkepeaaGreatDoorQ26
import Derived.Test.YtdeogmbfgkepeaaGreatDoorQ48
set_option linter.unusedVariables false
set_option linter.unusedSimpArgs false
set_option maxRecDepth 100000
set_option maxHeartbeats 64000000
namespace Go.Proofs.YtdeogmbfgkepeaaGreatDoor
open Go.Proofs.Tryz
open Go.Value renaming int->O
open Go.IntKind renaming i64->J
section
open Go.RowKit HB Go.Maps CalP CumP TabP WhenP ArrP
theorem Vc{Q:World->Prop}{W:World}(S:World->Prop)(hS:S W)(h:∀ W':World,S W'->Q W'):Q W:=h W hS
section
variable(s:Sc)(hs:s.ok)(hf:s.fl<=20)(sA:Option Addr)(sn sk:Nat)(wA:Option Addr)(wn wc:Nat)(ws:List Int)(g:Nat)(v:Value)(Z:List Sr)(t a n:Nat)(w:World)
theorem Vd(H:Gn s sA sn sk wA wn wc ws g v Z t a n w)(hw:wn<=1000000)(ha:wn<=a)(z:Sr):
  Calls prog 52 #[.pointer (some ⟨g,0,none⟩),.agg #[.slice z.A z.n z.c,.pointer (some ⟨z.x,0,none⟩)]] w (fk (.tuple #[.agg #[O J 0,O J 0,O J 0,O J 0],O J 50]) w):=by
 have HN:=ze (fun W=>vd wA wn wc a (by omega) W (.inr (by omega)));have hlt:=H.lt;obtain⟨⟨c8,c10,c13,c14,c15,c16,c17⟩,f13,f14,f15,f16,f17⟩:=H.cells;clear H;go_enter func52,ntmps52;go_wp2_with(go_at_call 73;(with_reducible refine(HN.o _).mono ?_);rintro r w1 ⟨rfl,hb1⟩;have HB1:=ze (show Below w.heap.size w w1 from(((Below.refl w.heap.size w).alloc fi _).alloc (by simp) _).trans (hb1.mono (by simp;omega)));have hz1:w.heap.size+1<w1.heap.size:=(by have:=hb1.size;simp at this;omega);have e0:w1.cell? ⟨w.heap.size+1,0,none⟩=some (O J 0):=zf hb1 (by simp);have e1:w1.cell? ⟨w.heap.size+1,1,none⟩=some (O J 0):=zf hb1 (by simp);have e2:w1.cell? ⟨w.heap.size+1,2,none⟩=some (O J 0):=zf hb1 (by simp);have e3:w1.cell? ⟨w.heap.size+1,3,none⟩=some (O J 0):=zf hb1 (by simp);have g0:w1.frozen? ⟨w.heap.size+1,0,none⟩=false:=zG hb1 (by simp) (by simp);have g1:w1.frozen? ⟨w.heap.size+1,1,none⟩=false:=zG hb1 (by simp) (by simp);have g2:w1.frozen? ⟨w.heap.size+1,2,none⟩=false:=zG hb1 (by simp) (by simp);have g3:w1.frozen? ⟨w.heap.size+1,3,none⟩=false:=zG hb1 (by simp) (by simp);clear hb1);refine bodyPost_ret (v:=.tuple #[.agg #[O J 0,O J 0,O J 0,O J 0],O J 50]) (by rw[results_cell_tmp rfl];go_simp) rfl ?_;exact⟨rfl,by go_grown;exact HB1.o⟩
theorem bO(hs:s.ok)(hf:s.fl<=20)(H:Gn s sA sn sk wA wn wc ws g v Z t a n w)(hw:wn<=1000000)(ha:a<wn)(hwx:∀ x∈ws,0<=x/\x<=4294967295)(hn:n<=1000000)(ht:t<=1000000)
  (i:Nat)(z:Sr)(sg:Sg)(hz:Z[i]?=some z)(hsg:s.segs[i]?=some sg):
  Calls prog 52 #[.pointer (some ⟨g,0,none⟩),.agg #[.slice z.A z.n z.c,.pointer (some ⟨z.x,0,none⟩)]] w fun e w'=>(∃p q:Int,e=.returned (.tuple #[.agg #[O J n,O J t,O J p,O J q],O J 0])/\0<=p/\p<s.fl/\0<=q/\q<s.fl/\p≠q)/\Gn s sA sn sk wA wn wc ws g v Z t (a+1) (n+1) w'/\But (fun k=>k=g) w w':=by
 obtain⟨b,off,x,rfl,hbg',hgx,hc⟩:=H.wd.1.int_at H.wd.2 ha;have hx:=hwx x (List.mem_of_getElem? hgx);have hbg:b≠g:=by omega
 clear hgx hwx;have hsok:=hs.segs sg (List.mem_of_getElem? hsg);have hfl:=hs.fl;have hbl:=World.block_lt_of_cell? w _ hc;have HN:=ze (fun W(hb:Below w.heap.size w W)=>Zh b off wn wc a x (by omega) W ha ((hb.cell (p:=⟨b,off+a,none⟩) hbl).trans hc));have HG:=ze H;have HD:=ze (fun W(hb:Below w.heap.size w W)=>by
  have ho:=(H.below hb).ok i z sg hz hsg;have h2:=ho.gd;rw[show s.fl=((s.fl.toNat:Nat):Int) by omega]at h2;exact UR z.x z.gn z.m sg.k s.fl.toNat x W h2 ho.gn hsok.k (by omega) hx.1 hx.2)
 have hlt:=H.lt;obtain⟨⟨c8,c10,c13,c14,c15,c16,c17⟩,f13,f14,f15,f16,f17⟩:=H.cells;clear H hsok hc;go_enter func52,ntmps52;go_upto_region 4 with(go_at_call 73;(with_reducible refine(HN.o _ (by go_grown)).mono ?_);rintro r w1 ⟨rfl,hb1⟩;have HB1:=ze (show Below w.heap.size w w1 from(((Below.refl w.heap.size w).alloc fi _).alloc (by simp) _).trans (hb1.mono (by simp;omega)));have hz1:w.heap.size+1<w1.heap.size:=(by have:=hb1.size;simp at this;omega);have e0:w1.cell? ⟨w.heap.size+1,0,none⟩=some (O J 0):=zf hb1 (by simp);have e1:w1.cell? ⟨w.heap.size+1,1,none⟩=some (O J 0):=zf hb1 (by simp);have e2:w1.cell? ⟨w.heap.size+1,2,none⟩=some (O J 0):=zf hb1 (by simp);have e3:w1.cell? ⟨w.heap.size+1,3,none⟩=some (O J 0):=zf hb1 (by simp);have g0:w1.frozen? ⟨w.heap.size+1,0,none⟩=false:=zG hb1 (by simp) (by simp);have g1:w1.frozen? ⟨w.heap.size+1,1,none⟩=false:=zG hb1 (by simp) (by simp);have g2:w1.frozen? ⟨w.heap.size+1,2,none⟩=false:=zG hb1 (by simp) (by simp);have g3:w1.frozen? ⟨w.heap.size+1,3,none⟩=false:=zG hb1 (by simp) (by simp);have hz0:w.heap.size<w1.heap.size:=(by omega);have hz2:g<w1.heap.size:=(by omega);have q0:w1.cell? ⟨w.heap.size,1,none⟩=some (.pointer (some ⟨z.x,0,none⟩)):=zf hb1 (by simp);clear hb1);go_upto_region 7 with(go_at_call 75;(with_reducible refine(HD.o _ (by go_grown;exact HB1.o)).mono ?_);rintro r w2 ⟨p,q,rfl,hp0,hp1,hq0,hq1,hpq,hb2⟩;have HP:=ze (And.intro hp0 (And.intro hp1 (And.intro hq0 (And.intro hq1 hpq))));have HB2:=ze hb2;clear hp0 hp1 hq0 hq1 hpq hb2);have hs2:=HB2.o.size;simp only[World.size_alloc]at hs2;have HBW:=ze (show Below w.heap.size w (w2.alloc (.cells #[O J p,O J q] 148))from((HB1.o.alloc HB1.o.size _).trans (HB2.o.mono (by simp;omega))).alloc (by omega) _);have HZ:=ze (show Bx (w2.alloc (.cells #[O J p,O J q] 148)) (w.heap.size+1) [O J 0,O J 0,O J 0,O J 0]/\Bx (w2.alloc (.cells #[O J p,O J q] 148)) w1.heap.size [.slice (some ⟨b,off,none⟩) wn wc,O J ((a:Int)+1)]/\Bx (w2.alloc (.cells #[O J p,O J q] 148)) w2.heap.size [O J p,O J q]from by
  refine⟨?_,?_,Bx.new _ [O J p,O J q] _⟩
  ·have h0:Bx w1 (w.heap.size+1) [O J 0,O J 0,O J 0,O J 0]:=by
    intro j u hu
    match j with
    |0=>cases hu;exact⟨e0,g0⟩
    |1=>cases hu;exact⟨e1,g1⟩
    |2=>cases hu;exact⟨e2,g2⟩
    |3=>cases hu;exact⟨e3,g3⟩
    |(k+4)=>simp at hu
   exact((h0.alloc (by simp) _).below HB2.o (by simp;omega)).alloc (by simp) _
  ·exact((Bx.new w1 [.slice (some ⟨b,off,none⟩) wn wc,O J ((a:Int)+1)] 32).below HB2.o (by simp)).alloc (by simp) _)
 refine zq (w:=w) (fun V=>Bx V (w.heap.size+1) [O J 0,O J 0,O J 0,O J 0]/\Bx V w1.heap.size [.slice (some ⟨b,off,none⟩) wn wc,O J ((a:Int)+1)]/\Bx V w2.heap.size [O J p,O J q]/\w2.heap.size<V.heap.size) ⟨HZ.o.1,HZ.o.2.1,HZ.o.2.2,by simp⟩ HBW.o ?_;clear HZ HBW HB1 HB2 HN HD e0 e1 e2 e3 g0 g1 g2 g3 q0 c8 c10 c13 c14 c15 c16 c17 f13 f14 f15 f16 f17;generalize w1.heap.size=k1 at*;generalize w2.heap.size=k2 at*;rintro V ⟨h0,h1,h2,hz2⟩ hbV;have HBV:=ze hbV;have HG1:=ze (HG.o.below hbV);obtain⟨⟨c8,c10,c13,c14,c15,c16,c17⟩,f13,f14,f15,f16,f17⟩:=HG1.o.cells;obtain⟨⟨d0,d1⟩,-⟩:=h1.o2;have hgV:g<V.heap.size:=by omega
 have hk1V:k1<V.heap.size:=by omega
 clear c8 c10 c15 c16 c17 f15 f16 f17;have HT:=ze (by have:=HG1.o.at14 (a+1);rwa [show((a+1:Nat):Int)=(a:Int)+1 by omega]at this);have HBX:=ze (And.intro h0 h2);clear h0 h1 h2;go_upto_region 8 with(fail);refine Vc (fun W=>Gn s sA sn sk (some ⟨b,off,none⟩) wn wc ws g v Z t (a+1) n W/\But (fun k=>k=g) V W/\W.heap.size=V.heap.size) ⟨HT.o.1,HT.o.2,by simp⟩ ?_;rintro W ⟨hg2,hbt,hzW⟩;have HG2:=ze hg2;have HBT:=ze hbt;obtain⟨⟨c8,c10,c13,c14,c15,c16,c17⟩,f13,f14,f15,f16,f17⟩:=hg2.cells;obtain⟨⟨b0,b1⟩,-⟩:=(HBX.o.2.but hbt hz2 (by show¬k2=g;omega)).o2;obtain⟨⟨r0,r1,r2,r3⟩,s0,s1,s2,s3⟩:=(HBX.o.1.but hbt (by omega) (by show¬w.heap.size+1=g;omega)).o4;have hgW:g<W.heap.size:=by omega
 have hk2W:k2<W.heap.size:=by omega
 have hr1W:w.heap.size+1<W.heap.size:=by omega
 have HZW:=ze hzW;clear hzW hg2 hbt hbV HT c8 c10 c13 c14 c15 d0 d1 f13 f14 f15 f16;go_wp2_with fail;go_region;go_wp2_with fail;refine bodyPost_ret (v:=.tuple #[.agg #[O J n,O J t,O J p,O J q],O J 0]) (by rw[results_cell_tmp rfl];go_simp) rfl ?_;have hbx:=(HG2.o.at17 (n+1)).1.bx;rw[show((n+1:Nat):Int)=(n:Int)+1 by omega]at hbx;have hne:w.heap.size+1≠g:=by omega
 have hb1:But (fun k=>k=g) w ((((((W.setCell ⟨g,17,none⟩ (O J ((n:Int)+1))).setCell ⟨w.heap.size+1,0,none⟩ (O J n)).setCell ⟨w.heap.size+1,1,none⟩ (O J t)).setCell ⟨w.heap.size+1,2,none⟩ (O J p)).setCell ⟨w.heap.size+1,3,none⟩ (O J q)).alloc (.cells #[O J n,O J t,O J p,O J q] 117)).drew:=
  ((((((((But.of_below (X:=fun k=>k=g) HBV.o).trans HBT.o (fun _ _ h=>h)).set (a:=⟨g,17,none⟩) (.inl rfl) _).set (a:=⟨w.heap.size+1,0,none⟩) (.inr (Nat.le_succ _)) _).set (a:=⟨w.heap.size+1,1,none⟩) (.inr (Nat.le_succ _)) _).set (a:=⟨w.heap.size+1,2,none⟩) (.inr (Nat.le_succ _)) _).set (a:=⟨w.heap.size+1,3,none⟩) (.inr (Nat.le_succ _)) _).then_ (fh.alloc fi _)).then_ fh.drew
 refine⟨⟨p,q,rfl,by have:=HP.o;omega,by have:=HP.o;omega,by have:=HP.o;omega,by have:=HP.o;omega,HP.o.2.2.2.2⟩,HG.o.turn hb1 ?_,hb1⟩;exact(((((hbx.setOther hne _).setOther hne _).setOther hne _).setOther hne _).alloc (by simp) _).drew
theorem YB(H:Gn s sA sn sk wA wn wc ws g v Z t a n w):HB.Rd w w.heap.size 3 sA sn ((s.segs.map qF).flatMap When.seg)/\(s.segs.map qF).length=sn:=by
 have h:=H.sg;refine⟨?_,by rw[List.length_map];exact h.2⟩;rw[List.flatMap_map];exact h.1.mono (Nat.le_of_lt H.lt)
theorem Ve(hs:s.ok)(H:Gn s sA sn sk wA wn wc ws g v Z t a n w):
  Calls prog 26 #[.pointer (some ⟨g,0,none⟩)] w (fk (.bool (decide (s.hor<=(t:Int)\/tot (s.segs.map qF)<=(t:Int)))) w):=by
 have hlt:=H.lt;have hln:=hs.len;have hsl:=YB s sA sn sk wA wn wc ws g v Z t a n w H;have hn30:sn<=30:=by rw[<-hsl.2,List.length_map];omega
 have HTT:=ze (fun W(hb:Below w.heap.size w W)=>XN sA sn sk w.heap.size (s.segs.map qF) W (hsl.1.below hb) hsl.2 hn30 hb.size);obtain⟨⟨c8,c10,c13,c14,c15,c16,c17⟩,f13,f14,f15,f16,f17⟩:=H.cells;clear H hsl c13 c14 c15 c17 f13 f14 f15 f16 f17;generalize tot (s.segs.map qF)=T at*;by_cases h1:s.hor<=(t:Int)
 ·have e1:decide (s.hor<=(t:Int))=true:=by simpa using h1
  go_enter func26,ntmps26;go_wp2_with fail;go_quiet(fail);go_wp2_with fail;go_ret;exact⟨by rw[decide_eq_true (show s.hor<=(t:Int)\/T<=(t:Int)from .inl h1)];rfl,zg fh _⟩
 ·have e1:decide (s.hor<=(t:Int))=false:=by simpa using h1
  have MK:=ze (fun V(hb:Below w.heap.size w V)=>(show V.cell? ⟨g,8,none⟩=some (.slice sA sn sk)/\V.cell? ⟨g,10,none⟩=some (O J s.hor)/\V.cell? ⟨g,16,none⟩=some (O J t)/\Below w.heap.size w V from⟨zf hb c8,zf hb c10,zf hb c16,hb⟩));go_enter func26,ntmps26;go_wp2_with fail
  go_region_held3 (fun V=>V.cell? ⟨g,8,none⟩=some (.slice sA sn sk)/\V.cell? ⟨g,10,none⟩=some (O J s.hor)/\V.cell? ⟨g,16,none⟩=some (O J t)/\Below w.heap.size w V)
   (((refine MK.o _ ?_);(first|(with_reducible exact HB4.o)|(go_grown;done)|(go_grown;with_reducible exact HB4.o))))
   (first|(go_at_call 6;go_split_ands;refine(HTT.o _ ‹Below w.heap.size w _›).mono ?_;rintro e w4 ⟨rfl,hb4⟩;have HB4:=ze ((‹Below w.heap.size w _›).trans (hb4.mono (‹Below w.heap.size w _›).size));clear hb4))
  all_goals
   go_wp2_with fail;go_ret;exact⟨by rw[show decide (s.hor<=(t:Int)\/T<=(t:Int))=decide (T<=(t:Int))from decide_eq_decide.2 (by omega)];rfl,HB4.o⟩
end
end
section
open List renaming setIfInBounds_toArray->s0q,set_cons_zero->s1q,set_cons_succ->s2q
open Go.RowKit HB Go.Maps CalP CumP TabP WhenP ArrP
theorem Pa.info:(prog.info? 117).map (fun i=>(i.zero,i.size,i.bytes))=some (some (.agg #[O J 0,O J 0,O J 0,O J 0]),4,32):=by kernel_rfl
theorem YC(p:Pa):∀ u∈Wl p,u.oneCell'=true:=by
 intro u hu;simp only[List.mem_cons,List.not_mem_nil,or_false]at hu;rcases hu with rfl|rfl|rfl|rfl<;>rfl
structure Crowd(s:Sc)(t n:Nat)(P:List Pa):Prop where
 id:∀(j:Nat)(p:Pa),P[j]?=some p->p.id=((n+j:Nat):Int)
 ok:∀ p∈P,p.tick=(t:Int)/\0<=p.frm/\p.frm<s.fl/\0<=p.to_/\p.to_<s.fl/\p.frm≠p.to_
theorem Crowd.nil(s:Sc)(t n:Nat):Crowd s t n []:=⟨fun j p h=>by simp at h,fun p h=>by simp at h⟩
theorem Crowd.snoc{s:Sc}{t n:Nat}{P:List Pa}(h:Crowd s t n P)(p:Pa)(h1:p.id=((n+P.length:Nat):Int))(h2:p.tick=(t:Int)/\0<=p.frm/\p.frm<s.fl/\0<=p.to_/\p.to_<s.fl/\p.frm≠p.to_):Crowd s t n (P++[p]):=by
 refine⟨fun j q hq=>?_,fun q hq=>?_⟩
 ·rw[List.getElem?_append]at hq;split at hq
  ·exact h.id j q hq
  ·rename_i hj;have:j-P.length=0:=by
    rcases Nat.eq_zero_or_pos (j-P.length)with h0|h0
    ·exact h0
    ·rw[List.getElem?_eq_none (by simp;omega)]at hq;cases hq
   rw[this]at hq;cases hq;rw[h1];congr 2;omega
 ·rcases List.mem_append.1 hq with hq|hq
  ·exact h.ok q hq
  ·rw[List.mem_singleton.1 hq];exact h2
theorem dM{l:List Seg}{t j:Int}{ok:Bool}(h:At l l.length t j ok)(h0:0<=t)(h1:t<tot l):ok=true/\∃ i:Nat,i<l.length/\j=i/\At l l.length t i true:=by
 rcases h with⟨rfl,i,hi,rfl,h2,h3⟩|⟨rfl,rfl,h2⟩
 ·exact⟨rfl,i,hi,rfl,.inl ⟨rfl,i,hi,rfl,h2,h3⟩⟩
 ·rw[qY l _ fi]at h2;omega
theorem dN{w:World}{q:Nat}{u v:Value}(h0:w.cell? ⟨q,0,none⟩=some u/\w.frozen? ⟨q,0,none⟩=false)(h1:w.cell? ⟨q,1,none⟩=some v/\w.frozen? ⟨q,1,none⟩=false):Bx w q [u,v]:=by
 intro j x hx
 match j with
 |0=>cases hx;exact h0
 |1=>cases hx;exact h1
 |(k+2)=>simp at hx
theorem ur{w:World}{q:Nat}{u0 u1:Value}(h0:w.cell? ⟨q,0,none⟩=some u0)(h1:w.cell? ⟨q,1,none⟩=some u1)(f0:w.frozen? ⟨q,0,none⟩=false)(f1:w.frozen? ⟨q,1,none⟩=false)(u v:Value):Bx ((w.setCell ⟨q,0,none⟩ u).setCell ⟨q,1,none⟩ v) q [u,v]:=by
 have h:Bx w q [u0,u1]:=dN ⟨h0,f0⟩ ⟨h1,f1⟩;have:=(h.set 0 u).set 1 v;simpa using this
def dO(s:Sc)(sA:Option Addr)(sn sk:Nat)(wA:Option Addr)(wn wk:Nat)(ws:List Int)(g:Nat)(v:Value)(Z:List Sr)(t a n:Nat)(w:World)(e:Ending)(w':World):Prop:=
 (e=.returned (.tuple #[.slice none 0 0,O J 50])/\(∀k,Run (s.segs.map qF) ws (k+1) t a n none)/\But (fun k=>k=g) w w')\/
 ∃(A:Option Addr)(c a':Nat)(P:List Pa),e=.returned (.tuple #[.slice A P.length c,O J 0])/\HB.Rd w' w'.heap.size 4 A P.length (P.flatMap Wl)/\(∀b off,A=some ⟨b,off,none⟩->w.heap.size<=b)/\Crowd s t n P/\a+P.length<=a'/\P.length<=63/\Gn s sA sn sk wA wn wk ws g v Z (t+1) a' (n+P.length) w'/\But (fun k=>k=g) w w'/\(a'<=wn)/\∀ k r,Run (s.segs.map qF) ws k (t+1) a' (n+P.length) r->Run (s.segs.map qF) ws (k+1) t a n r
section
variable(s:Sc)(sA:Option Addr)(sn sk:Nat)(wA:Option Addr)(wn wk:Nat)(ws:List Int)(g:Nat)(v:Value)(Z:List Sr)(t a n:Nat)(w:World)
theorem He(hs:s.ok)(hf:s.fl<=20)(H:Gn s sA sn sk wA wn wk ws g v Z t a n w)(hw:wn<=100000)(hwx:∀ x∈ws,0<=x/\x<=4294967295)(hn:n<=a)(haw:a<=wn)(ht:t<=100000)(h1:(t:Int)<s.hor)(h2:(t:Int)<tot (s.segs.map qF)):
  Calls prog 27 #[.pointer (some ⟨g,0,none⟩)] w (dO s sA sn sk wA wn wk ws g v Z t a n w):=by
 have hlt:=H.lt;have hln:=hs.len;have hsl:=YB s sA sn sk wA wn wk ws g v Z t a n w H;have hn30:sn<=30:=by rw[<-hsl.2,List.length_map];omega
 have HTT:=ze (fun W(hb:Below w.heap.size w W)=>bN sA sn sk w.heap.size (s.segs.map qF) t W (hsl.1.below hb) hsl.2 hn30 hb.size (by omega) (by omega));have HOV:=ze (fun W(hb:Below w.heap.size w W)=>Ve s sA sn sk wA wn wk ws g v Z t a n W hs (H.below hb));have HT0:=ze (show(0:Int)<=(t:Int)/\(t:Int)<tot (s.segs.map qF)from⟨by omega,h2⟩);have eov:decide (s.hor<=(t:Int)\/tot (s.segs.map qF)<=(t:Int))=false:=by simp;omega
 obtain⟨⟨c8,c10,c13,c14,c15,c16,c17⟩,f13,f14,f15,f16,f17⟩:=H.cells;have HG:=ze H;have MK:=ze (fun V(hb:Below w.heap.size w V)=>(show V.cell? ⟨g,8,none⟩=some (.slice sA sn sk)/\V.cell? ⟨g,16,none⟩=some (O J t)/\Below w.heap.size w V from⟨zf hb c8,zf hb c16,hb⟩));clear H hsl;go_enter func27,ntmps27;go_wp2_with fail
 go_region_held3 (fun V=>V.cell? ⟨g,8,none⟩=some (.slice sA sn sk)/\V.cell? ⟨g,16,none⟩=some (O J t)/\Below w.heap.size w V)
  (((refine MK.o _ ?_);(first|(with_reducible exact HB4.o)|(go_grown;done)|(go_grown;with_reducible exact HB4.o))))
  (first|(go_at_call 50;go_split_ands;refine(HTT.o _ ‹Below w.heap.size w _›).mono ?_;rintro e w4 ⟨j,ok,rfl,hat,hb4⟩;obtain⟨rfl,i,hi,rfl,hat2⟩:=dM hat HT0.o.1 HT0.o.2;have HAT:=ze hat2;have HB4:=ze ((‹Below w.heap.size w _›).trans (hb4.mono (‹Below w.heap.size w _›).size));clear hb4 hat hat2))
 rw[List.length_map]at hi;clear MK HTT;have HG4:=ze (HG.o.below HB4.o);obtain⟨sb,so,sg,rfl,hsb,hgs,k0,k1,k2⟩:=HG4.o.sg.at_ (show i<sn by rw[<-HG4.o.sg.2];exact hi);have hsg:=hs.segs sg (List.mem_of_getElem? hgs);have hin:(i:Int)<(sn:Int):=by have:=HG4.o.sg.2;omega
 have hi0:(0:Int)<=(i:Int):=by omega
 have HGS:=ze hgs;have HOV4:=ze (HOV.o _ HB4.o);rw[eov]at HOV4;clear HOV hgs k0 k1 k2 c8 c10 c13 c14 c15 c16 c17 f13 f14 f15 f16 f17;go_upto_region 4 with(go_at_call 26;(with_reducible refine HOV4.o.mono ?_);rintro r w5 ⟨rfl,hb5⟩;have HB5:=ze hb5;clear hb5);have HG5:=ze (HG4.o.below HB5.o);have HBW5:=ze (HB4.o.trans (HB5.o.mono HB4.o.size));clear HB4 HB5 HG4 HOV4;obtain⟨⟨d8,d10,d13,d14,d15,d16,d17⟩,j13,j14,j15,j16,j17⟩:=HG5.o.cells;have hgW5:g<w5.heap.size:=HG5.o.lt;have k2:w5.cell? ⟨sb,so+i*3+2,none⟩=some (O J sg.r):=by
  obtain⟨sb',so',sg',hA,-,hgs',-,-,k2⟩:=HG5.o.sg.at_ (show i<sn by rw[<-HG5.o.sg.2];exact hi);cases hA;have:=HGS.o;rw[hgs']at this;cases this;exact k2
 have HAT2:=ze (show(s.segs.map qF)[i]?=some (qF sg)from by rw[List.getElem?_map,HGS.o];rfl);by_cases hr0:sg.r=0
 ·have e1:decide (0<sg.r)=false:=by simp;omega
  have HT:=ze (by have:=HG5.o.at16 (t+1);rwa [show((t+1:Nat):Int)=(t:Int)+1 by omega]at this);have HR0:=ze hr0;clear hr0;go_wp2_with fail;go_ret2;exact .inr ⟨none,0,a,[],rfl,Rd.nil,fun _ _ h=>(by cases h),Crowd.nil _ _ _,fi,by simp,HT.o.1,(But.of_below HBW5.o).trans HT.o.2 (fun _ _ h=>h),haw,fun k r h=>Run.quiet k t a n i (qF sg) r HAT.o HAT2.o HR0.o h⟩
 ·have hrp:0<sg.r:=by have:=hsg.r;omega
  have e1:decide (0<sg.r)=true:=by simp;omega
  have HRP:=ze hrp;obtain⟨q,zk,z,sg',rfl,hqW,hz,hs',hok,cA,cB⟩:=HG5.o.src (show i<Z.length by rw[HG5.o.len];exact hi);have hsgs:sg'=sg:=by have:=HGS.o;rw[hs']at this;cases this;rfl
  subst hsgs;have hzl:(i:Int)<(Z.length:Int):=by rw[HG5.o.len];omega
  have htl:(tb sg'.r z.n z.n).length=z.n:=vr _ _ _;have hrt:=UM (by omega) hsg.r.2 hok.mn;have hzn:z.n<=200:=by have:=hok.mn.2.1;omega
  have HOK:=ze hok;have HZ:=ze hz;clear hok hz hr0 hrp d10 d16 hs';have MK:=ze (fun V(hb:Below w5.heap.size w5 V)=>(show V.cell? ⟨g,13,none⟩=some (.slice wA wn wk)/\V.cell? ⟨g,14,none⟩=some (O J a)/\V.cell? ⟨g,15,none⟩=some (.slice (some ⟨q,0,none⟩) Z.length zk)/\V.cell? ⟨q,i*2,none⟩=some (.slice z.A z.n z.c)/\Below w5.heap.size w5 V from⟨zf hb d13,zf hb d14,zf hb d15,zf hb cA,hb⟩));by_cases ha:a<wn
  ·obtain⟨wb,wo,x,rfl,hwb,hgx,hcx⟩:=HG5.o.wd.1.int_at HG5.o.wd.2 ha;have hx:=hwx x (List.mem_of_getElem? hgx);obtain⟨j,hj⟩:=First.ex (tb sg'.r z.n z.n) x;have hj63:=GY (by have:=hsg.r;omega) HOK.o.mn hx.2 hj;have HJ:=ze hj;have HGX:=ze hgx;have HDN:=ze (fun W(hb:Below w5.heap.size w5 W)=>ZL wb wo wn wk a x (by omega) W z.A z.n z.c w5.heap.size _ (HOK.o.rd.below hb) htl hzn hb.size ha ((hb.cell (p:=⟨wb,wo+a,none⟩) (show wb<w5.heap.size by omega)).trans hcx) hx.1 hx.2 hrt j hj);have HOKM:=ze HOK.o.mn;clear hj hgx hcx;have HWL:=ze HG5.o.wd.2;have hwlen:ws.length=wn:=HG5.o.wd.2;go_upto_region 6 with(fail)
   go_cut [7,8,9] (fun v7 v8 v9 wx=>v7=O J j/\v9=O J 0/\Below w5.heap.size w5 wx/\∃ q8,v8=.pointer (some ⟨q8,0,none⟩)/\w5.heap.size<=q8/\q8<wx.heap.size/\Bx wx q8 [.slice (some ⟨wb,wo,none⟩) wn wk,O J ((a:Int)+1)])
   case first=>
    have SB:=ze (fun W{b c d e:Prop}(h:b/\c/\d/\e/\Below w5.heap.size w5 W)=>h.2.2.2.2);refine wp_region_held_drew (S:=(fun V=>V.cell? ⟨g,13,none⟩=some (.slice (some ⟨wb,wo,none⟩) wn wk)/\V.cell? ⟨g,14,none⟩=some (O J a)/\V.cell? ⟨g,15,none⟩=some (.slice (some ⟨q,0,none⟩) Z.length zk)/\V.cell? ⟨q,i*2,none⟩=some (.slice z.A z.n z.c)/\Below w5.heap.size w5 V)) (by kernel_rfl) ?_ (fun hHeld=>?_)
    ·exact MK.o _ fh.drew
    refine qK [0,1,2,3,4,5,6,7,8,9,10,11] (by simp[zl];rfl) (by kernel_rfl) (by assumption) ?_
    iterate 12 (refine qz (v:=?_) (fun _ _ _ h=>h) (by rfl) ?_ ?_;rotate_left;(next=>((intro w hSw;(try dsimp only at hSw);go_simp);(try with_reducible rfl)));try simp only[Act.put,s0q,s1q,s2q])
    refine qL ?_
    iterate 5
     all_goals first
      |(refine jj [12,17] (by decide+kernel) ?_;refine j6 (by simp[zl];rfl) rfl (fun K hK=>?_) (j6 (by simp[zl];rfl) rfl (fun K hK=>?_) AllReadyH.nil))
      |(refine jj [17] (by decide+kernel) ?_;refine j6 (by simp[zl];rfl) rfl (fun K hK=>?_) AllReadyH.nil)
      |(refine jj [12] (by decide+kernel) ?_;refine j6 (by simp[zl];rfl) rfl (fun K hK=>?_) AllReadyH.nil)
      |(refine jj [18] (by decide+kernel) ?_;refine j6 (by simp[zl];rfl) rfl (fun K hK=>?_) AllReadyH.nil)
      |(refine jj [19] (by decide+kernel) ?_;refine j6 (by simp[zl];rfl) rfl (fun K hK=>?_) AllReadyH.nil)
      |(refine jj [20] (by decide+kernel) ?_;refine j6 (by simp[zl];rfl) rfl (fun K hK=>?_) AllReadyH.nil)
     all_goals go_simp
     all_goals first
      |(have hbH:=SB.o _ hHeld;go_at_call 51;(with_reducible refine(HDN.o _ hbH).mono ?_);rintro e w6 ⟨rfl,hb6⟩;have HB6:=ze (hbH.trans (hb6.mono hbH.size));have hz6:=HB6.o.size;(try(have hzz:w5.heap.size<w6.heap.size:=(by have:=hb6.size;simp at this;omega);have b0:w6.cell? ⟨w5.heap.size,0,none⟩=some (.slice none 0 0):=zf hb6 (by simp);have b1:w6.cell? ⟨w5.heap.size,1,none⟩=some (O J 0):=zf hb6 (by simp);have y0:w6.frozen? ⟨w5.heap.size,0,none⟩=false:=zG hb6 (by simp) (by simp);have y1:w6.frozen? ⟨w5.heap.size,1,none⟩=false:=zG hb6 (by simp) (by simp)));clear hb6 hbH;refine hK.out _ _ ?_ (fun hHeld=>?_);(next=>((refine MK.o _ ?_);(first|(with_reducible exact HB6.o)|(go_grown;done)|(go_grown;with_reducible exact HB6.o))));clear hK K;try simp only[Act.put,s0q,s1q,s2q])
      |(refine hK.out _ _ ?_ (fun hHeld=>?_);(next=>((refine MK.o _ ?_);(first|(with_reducible exact HB6.o)|(go_grown;done)|(go_grown;with_reducible exact HB6.o))));clear hK K;try simp only[Act.put,s0q,s1q,s2q])
     all_goals try(refine qK [13,14,15,16] (by simp[zl];rfl) (by decide+kernel) (by assumption) ?_;(iterate 4 (refine qz (v:=?_) (fun _ _ _ h=>h) (by rfl) ?_ ?_;rotate_left;(next=>((intro w hSw;(try dsimp only at hSw);go_simp);(try with_reducible rfl)));try simp only[Act.put,s0q,s1q,s2q]));refine qL ?_)
    all_goals
     refine wpAnyH_done (by kernel_rfl) ?_ _;go_wp2_with fail
     go_meet
     refine⟨rfl,rfl,SB.o _ hHeld,_,rfl,?_,?_,?_⟩
     ·first|exact fi|omega
     ·simp<;>omega
     ·first|(exact ur b0 b1 y0 y1 _ _)|(exact dN (by simp) (by simp))
   case rest=>
    obtain⟨rfl,rfl,hbx,q8,rfl,hq8,hqx,hbox⟩:=hcut;have HGC:=ze (HG5.o.below hbx);have HBC:=ze (HBW5.o.trans (hbx.mono HBW5.o.size));have HT:=ze (by have:=HGC.o.at14 (a+1);rwa [show((a+1:Nat):Int)=(a:Int)+1 by omega]at this);obtain⟨⟨p0,p1⟩,-⟩:=hbox.o2;obtain⟨⟨-,-,d13,d14,-,-,-⟩,j13,j14,-,-,-⟩:=HGC.o.cells;have hgc:g<wc.heap.size:=HGC.o.lt;clear hbx hbox MK HDN d17 d15 d8 cA cB j15 j16 j17 k2 HG5;go_upto_region 10 with(fail);refine Vc (fun W=>Gn s (some ⟨sb,so,none⟩) sn sk (some ⟨wb,wo,none⟩) wn wk ws g (.slice (some ⟨q,0,none⟩) Z.length zk) Z t (a+1) n W/\But (fun k=>k=g) w W/\w.heap.size<=W.heap.size) ⟨HT.o.1,(But.of_below HBC.o).trans HT.o.2 (fun _ _ h=>h),by have:=HT.o.2.size;have:=HBC.o.size;omega⟩ ?_;clear HT HBC HGC p0 p1 d13 d14 j13 j14 hgc;rintro W ⟨hgw,hbw,hzw⟩;have HGW:=ze hgw;have HBW:=ze hbw;have HZW:=ze hzw;obtain⟨⟨-,-,-,-,-,-,c17⟩,-⟩:=hgw.cells;have hmx:¬ (4194304:Int)<(n:Int)+(j:Int):=by omega
    clear hgw hbw hzw;go_wp2_with fail;clear c17;have HZG:=ze (show g<W.heap.size from HGW.o.lt)
    go_loopw [6,73] (fun v i wr=>∃(l:Nat)(P:List Pa),l<=j/\i=O J l/\P.length=l/\Own wr W.heap.size 117 4 Wl v P/\Crowd s t n P/\Gn s (some ⟨sb,so,none⟩) sn sk (some ⟨wb,wo,none⟩) wn wk ws g (.slice (some ⟨q,0,none⟩) Z.length zk) Z t (a+1+l) (n+l) wr/\But (fun k=>k=g) W wr/\a+1+l<=wn) (fun _ i _=>j-(intOf i).toNat)
    case atStart=>exact⟨0,[],Nat.zero_le _,rfl,rfl,Own.nil _ _ _ _ _,Crowd.nil _ _ _,HGW.o,But.refl _ _,by omega⟩
    case round=>
     obtain⟨l,P,hl,rfl,hPl,ho,hcr,hgn,hbt,hlw⟩:=hrel;have HO:=ze ho;have HCR:=ze hcr;have HGN:=ze hgn;have HBT:=ze hbt;have hlt0:g<wr.heap.size:=hgn.lt;have hzW:=hbt.size;clear ho hcr hgn hbt;by_cases hlj:l<j
     ·obtain⟨q2,zk2,z2,sg2,hv2,hqW2,hz2,hs2,hok2,cA,cB⟩:=HGN.o.src (show i<Z.length by omega);cases hv2;have hze:z2=z:=by have:=HZ.o;rw[hz2]at this;cases this;rfl
      subst hze;obtain⟨⟨-,-,-,-,d15,-,-⟩,-⟩:=HGN.o.cells;have hil:(i:Int)<(Z.length:Int):=by omega
      have i1:(l:Int)<(j:Int):=by omega
      clear hs2 hok2 hz2;by_cases hal:a+1+l<wn
      ·have HON:=ze (bO s (some ⟨sb,so,none⟩) sn sk (some ⟨wb,wo,none⟩) wn wk ws g _ Z t (a+1+l) (n+l) wr hs hf HGN.o (by omega) hal hwx (by omega) (by omega) i z2 sg' HZ.o HGS.o);have hPn:P.length<=1000000000:=by omega
       go_upto_region 17 with((go_at_call 52;(with_reducible refine HON.o.mono ?_);rintro r w7 ⟨⟨y0,y1,rfl,y2⟩,hg7,hb7⟩;have HY:=ze y2;have HG7:=ze hg7;have HB7:=ze hb7;have HO7:=ze (HO.o.but hb7 (fun k e=>fun e2=>by have:=(HO.o.row.lt k e).1;have:=HZG.o;omega));have hz7:=hb7.size;clear y2 hg7 hb7));go_wp2_with(at_builtin;refine kG (P:=prog) rfl _ _ 30 rfl underlying30 Pa.info rfl (by omega) (by omega) rfl ((HO7.o.alloc _).alloc _) (⟨(n:Int)+(l:Int),t,y0,y1⟩:Pa) ⟨_,0,none⟩ 1 rfl rfl (zr _ _ (Wl ⟨(n:Int)+(l:Int),t,y0,y1⟩) _ (by simp)) (YC _) hPn (by simp;omega) ?_;intro v' w8 k1 k2 k3;have K1:=ze k1;have K2:=ze k2;clear k1 k2 k3);go_roundw
       case rel=>
        have hbF:But (fun k=>k=g) W w8:=(((HBT.o.trans HB7.o (fun _ _ h=>h)).then_ ((Below.refl _ w7).alloc fi _)).then_ (fh.alloc fi _)).grown K2.o (fun k hk hl=>by have:=(HO7.o.row.lt k hk).1;omega);have hbx:=((HG7.o.bx.alloc (by simp) (.cells #[O J ((n:Int)+(l:Int)),O J t,O J y0,O J y1] 117)).alloc (by simp) (.cells #[O J ((n:Int)+(l:Int)),O J t,O J y0,O J y1] 117)).block (K2.o.block g (by have:=HG7.o.lt;simp;omega) (fun e=>by have:=(HO7.o.row.lt g e.symm).1;have:=HZG.o;omega));exact⟨l+1,_,by omega,by go_num,by simp[hPl],K1.o,HCR.o.snoc _ (by show(n:Int)+(l:Int)=_;rw[hPl];omega) ⟨rfl,HY.o⟩,HGW.o.turn hbF hbx,hbF,by omega⟩
       case measure=>simp[intOf];omega
      ·have HON:=ze (Vd s (some ⟨sb,so,none⟩) sn sk (some ⟨wb,wo,none⟩) wn wk ws g _ Z t (a+1+l) (n+l) wr HGN.o (by omega) (by omega) z2);go_wp2_with(go_at_call 52;(with_reducible refine HON.o.mono ?_);rintro r w7 ⟨rfl,hb7⟩;have HB7:=ze hb7;clear hb7);have HDR:=ze (show∀k,Run (s.segs.map qF) ws (k+1) t a n none from fun k=>Run.dry2 k t a n i (qF sg') x z2.n j HAT.o HAT2.o HRP.o HGX.o HOKM.o HJ.o (by rw[hwlen];omega));go_ret2;exact .inl ⟨rfl,HDR.o,((HBW.o.trans HBT.o (fun _ _ h=>h)).then_ HB7.o).then_ (fh.alloc fi _)⟩
     ·obtain rfl:l=j:=by omega
      obtain⟨⟨-,-,-,-,-,c16,-⟩,-,-,-,f16,-⟩:=HGN.o.cells;have HT:=ze (by have:=HGN.o.at16 (t+1);rwa [show((t+1:Nat):Int)=(t:Int)+1 by omega]at this);have hOf:=HO.o.but HT.o.2 (fun k e e2=>by have:=(HO.o.row.lt k e).1;have:=HZG.o;have e3:k=g:=e2;omega);have hOl:=HO.o.row.lt;obtain⟨pA,pc,rfl,-,hpr⟩:=hOf.shape;have HPB:=ze (show∀b off,pA=some ⟨b,off,none⟩->w.heap.size<=b from fun b off e=>by subst e;have:=(hOl b rfl).1;have:=HZW.o;omega);have HPR:=ze hpr;have HPL:=ze hPl;clear hOf hOl hpr hPl;go_wp2_with fail;go_ret2;refine .inr ⟨pA,pc,a+1+l,P,rfl,HPR.o,HPB.o,HCR.o,by have:=HPL.o;omega,by have:=HPL.o;omega,by rw[HPL.o];exact HT.o.1,(HBW.o.trans HBT.o (fun _ _ h=>h)).trans HT.o.2 (fun _ _ h=>h),hlw,fun k r h=>?_⟩;rw[HPL.o]at h;exact Run.some k t a n i (qF sg') x z.n l r HAT.o HAT2.o HRP.o HGX.o HOKM.o HJ.o (by rw[hwlen];exact hlw) h
  ·have HDN:=ze (fun W(hb:Below w5.heap.size w5 W)=>ZK wA wn wk a (by omega) W z.A z.n z.c w5.heap.size _ (HOK.o.rd.below hb) htl hzn hb.size hrt (.inr (by omega)));go_upto_region 6 with(fail)
   go_cut [7,8,9] (fun v7 v8 v9 wx=>v7=O J 0/\v9=O J 50/\Below w5.heap.size w5 wx/\∃ q8,v8=.pointer (some ⟨q8,0,none⟩)/\w5.heap.size<=q8/\q8<wx.heap.size/\Bx wx q8 [.slice wA wn wk,O J a])
   case first=>
    have SB:=ze (fun W{b c d e:Prop}(h:b/\c/\d/\e/\Below w5.heap.size w5 W)=>h.2.2.2.2);refine wp_region_held_drew (S:=(fun V=>V.cell? ⟨g,13,none⟩=some (.slice wA wn wk)/\V.cell? ⟨g,14,none⟩=some (O J a)/\V.cell? ⟨g,15,none⟩=some (.slice (some ⟨q,0,none⟩) Z.length zk)/\V.cell? ⟨q,i*2,none⟩=some (.slice z.A z.n z.c)/\Below w5.heap.size w5 V)) (by kernel_rfl) ?_ (fun hHeld=>?_)
    ·exact MK.o _ fh.drew
    refine qK [0,1,2,3,4,5,6,7,8,9,10,11] (by simp[zl];rfl) (by kernel_rfl) (by assumption) ?_
    iterate 12 (refine qz (v:=?_) (fun _ _ _ h=>h) (by rfl) ?_ ?_;rotate_left;(next=>((intro w hSw;(try dsimp only at hSw);go_simp);(try with_reducible rfl)));try simp only[Act.put,s0q,s1q,s2q])
    refine qL ?_
    iterate 5
     all_goals first
      |(refine jj [12,17] (by decide+kernel) ?_;refine j6 (by simp[zl];rfl) rfl (fun K hK=>?_) (j6 (by simp[zl];rfl) rfl (fun K hK=>?_) AllReadyH.nil))
      |(refine jj [17] (by decide+kernel) ?_;refine j6 (by simp[zl];rfl) rfl (fun K hK=>?_) AllReadyH.nil)
      |(refine jj [12] (by decide+kernel) ?_;refine j6 (by simp[zl];rfl) rfl (fun K hK=>?_) AllReadyH.nil)
      |(refine jj [18] (by decide+kernel) ?_;refine j6 (by simp[zl];rfl) rfl (fun K hK=>?_) AllReadyH.nil)
      |(refine jj [19] (by decide+kernel) ?_;refine j6 (by simp[zl];rfl) rfl (fun K hK=>?_) AllReadyH.nil)
      |(refine jj [20] (by decide+kernel) ?_;refine j6 (by simp[zl];rfl) rfl (fun K hK=>?_) AllReadyH.nil)
     all_goals go_simp
     all_goals first
      |(have hbH:=SB.o _ hHeld;go_at_call 51;(with_reducible refine(HDN.o _ hbH).mono ?_);rintro e w6 ⟨rfl,hb6⟩;have HB6:=ze (hbH.trans (hb6.mono hbH.size));have hz6:=HB6.o.size;(try(have hzz:w5.heap.size<w6.heap.size:=(by have:=hb6.size;simp at this;omega);have b0:w6.cell? ⟨w5.heap.size,0,none⟩=some (.slice none 0 0):=zf hb6 (by simp);have b1:w6.cell? ⟨w5.heap.size,1,none⟩=some (O J 0):=zf hb6 (by simp);have y0:w6.frozen? ⟨w5.heap.size,0,none⟩=false:=zG hb6 (by simp) (by simp);have y1:w6.frozen? ⟨w5.heap.size,1,none⟩=false:=zG hb6 (by simp) (by simp)));clear hb6 hbH;refine hK.out _ _ ?_ (fun hHeld=>?_);(next=>((refine MK.o _ ?_);(first|(with_reducible exact HB6.o)|(go_grown;done)|(go_grown;with_reducible exact HB6.o))));clear hK K;try simp only[Act.put,s0q,s1q,s2q])
      |(refine hK.out _ _ ?_ (fun hHeld=>?_);(next=>((refine MK.o _ ?_);(first|(with_reducible exact HB6.o)|(go_grown;done)|(go_grown;with_reducible exact HB6.o))));clear hK K;try simp only[Act.put,s0q,s1q,s2q])
     all_goals try(refine qK [13,14,15,16] (by simp[zl];rfl) (by decide+kernel) (by assumption) ?_;(iterate 4 (refine qz (v:=?_) (fun _ _ _ h=>h) (by rfl) ?_ ?_;rotate_left;(next=>((intro w hSw;(try dsimp only at hSw);go_simp);(try with_reducible rfl)));try simp only[Act.put,s0q,s1q,s2q]));refine qL ?_)
    all_goals
     refine wpAnyH_done (by kernel_rfl) ?_ _;go_wp2_with fail
     go_meet
     refine⟨rfl,rfl,SB.o _ hHeld,_,rfl,?_,?_,?_⟩
     ·first|exact fi|omega
     ·simp<;>omega
     ·first|(exact ur b0 b1 y0 y1 _ _)|(exact dN (by simp) (by simp))
   case rest=>
    obtain⟨rfl,rfl,hbx,q8,rfl,hq8,hqx,hbox⟩:=hcut;have HWL:=ze HG5.o.wd.2;have HBC:=ze (HBW5.o.trans (hbx.mono HBW5.o.size));clear hbox;go_wp2_with fail;go_ret2;exact .inl ⟨rfl,fun k=>Run.dry k t a n i (qF sg') HAT.o HAT2.o HRP.o (by rw[HWL.o];omega),But.of_below HBC.o⟩
end
end
section
open Go.RowKit HB Go.Maps CalP CumP TabP WhenP ArrP
theorem jW{fn:Func}{p t u:Tmp}{ty:TypeId}(h:fn.results= #[.tmp t,.cell p ty,.tmp u])(tmps:Array Value)(P:Program)(w:World):
  (results fn tmps).run P w=((asAddr (tmps.getD p undef)).run P w).andThen fun a w₁=>((loadVar ty a).run P w₁).andThen fun v w₂=>.ok (.tuple #[tmps.getD t undef,v,tmps.getD u undef]) w₂:=by
 simp only[results,h];simp[Sem.run_bind,Result.andThen]
structure Folk(s:Sc)(t:Nat)(P:List Pa):Prop where
 id:∀(j:Nat)(p:Pa),P[j]?=some p->p.id=(j:Int)
 ok:∀ p∈P,0<=p.tick/\p.tick<(t:Int)/\0<=p.frm/\p.frm<s.fl/\0<=p.to_/\p.to_<s.fl/\p.frm≠p.to_
 srt:P.Pairwise fun p q=>p.tick<=q.tick
theorem Folk.nil(s:Sc):Folk s 0 []:=⟨fun j p h=>by simp at h,fun p h=>by simp at h,List.Pairwise.nil⟩
theorem Folk.more{s:Sc}{t:Nat}{P Q:List Pa}(h:Folk s t P)(k:Crowd s t P.length Q):Folk s (t+1) (P++Q):=by
 refine⟨fun j p hp=>?_,fun p hp=>?_,List.pairwise_append.2 ⟨h.srt,?_,fun p hp q hq=>?_⟩⟩
 ·rw[List.getElem?_append]at hp;split at hp
  ·exact h.id j p hp
  ·rw[k.id _ p hp];omega
 ·rcases List.mem_append.1 hp with hp|hp
  ·have:=h.ok p hp;exact⟨this.1,by omega,this.2.2⟩
  ·have:=k.ok p hp;exact⟨by omega,by omega,this.2⟩
 ·exact List.pairwise_of_forall_mem_list fun p hp q hq=>by have:=(k.ok p hp).1;have:=(k.ok q hq).1;omega
 ·have:=(h.ok p hp).2.1;have:=(k.ok q hq).1;omega
theorem Folk.pas{s:Sc}(hs:s.ok){t:Nat}{P:List Pa}(h:Folk s t P)(ht:t<=1000000):Pas 0 P:=
 ⟨fun j p hp=>by rw[h.id j p hp,Nat.zero_add],fun p hp=>by have:=h.ok p hp;have:=hs.fl;omega,h.srt⟩
def Zi(g:Nat)(w:World):Nat:=match w.cell? ⟨g,16,none⟩with|some (.int _ z)=>z.toNat|_=>0
def dQ(s:Sc)(wA:Option Addr)(wn wc:Nat)(ws:List Int)(w:World)(e:Ending)(w':World):Prop:=
 Below w.heap.size w w'/\∃ r,Run (s.segs.map qF) ws (qw (s.segs.map qF) s.hor) 0 0 0 r/\
  ((r=none/\e=.returned (.tuple #[.slice none 0 0,.agg #[.slice wA wn wc,O J 0],O J 50]))\/
   ∃(A:Option Addr)(c a:Nat)(P:List Pa),r=some (a,P.length)/\e=.returned (.tuple #[.slice A P.length c,.agg #[.slice wA wn wc,O J a],O J 0])/\HB.Rd w' w'.heap.size 4 A P.length (P.flatMap Wl)/\P.length<=c/\Folk s (qw (s.segs.map qF) s.hor) P/\P.length<=a/\a<=wn)
theorem Vg(s:Sc)(hs:s.ok)(hf:s.fl<=20)(hh:s.hor<=10000)(sA:Option Addr)(sn sk:Nat)(wA:Option Addr)(wn wc:Nat)(ws:List Int)(w:World)(hg:Sgs w w.heap.size sA sn s.segs)(hw:HB.Rd w w.heap.size 1 wA wn (ws.map (Value.int .u32))/\ws.length=wn)(hwn:wn<=100000)(hwx:∀ x∈ws,0<=x/\x<=4294967295):
  Calls prog 8 #[s.v sA sn sk,.agg #[.slice wA wn wc,O J 0]] w (dQ s wA wn wc ws w):=by
 have hho:=hs.hor;have HMK:=ze (fun W(hb:Below w.heap.size w W)=>Hg s hs hf sA sn sk wA wn wc ws W ((hg.below hb).mono hb.size) ⟨(hw.1.below hb).mono hb.size,hw.2⟩);have HBB:=ze (Bs.three w (s.ls sA sn sk) [.slice wA wn wc,O J 0] [.slice none 0 0,O J 0] 25 32 32);have hT:∀ t:Nat,t<qw (s.segs.map qF) s.hor↔(t:Int)<s.hor/\(t:Int)<tot (s.segs.map qF):=fun t=>by unfold qw;omega
 have hTh:qw (s.segs.map qF) s.hor<=10000:=by unfold qw;omega
 have HT:=ze hT;clear hg hw hT;generalize hTT:qw (s.segs.map qF) s.hor=T at*;have HTT:=ze hTT;clear hTT;go_enter func8,ntmps8;go_upto_region 4 with(go_at_call 25;(with_reducible refine(HMK.o _ (by go_grown)).mono ?_);rintro r w1 ⟨g,v,Z,rfl,hgn,hb1,hgg⟩;have HGN:=ze hgn;have HB1:=ze (HBB.o.step hb1);have HGG:=ze hgg;clear hgn hb1 hgg);have hgg:w.heap.size+1+1+1<=g:=by have:=HGG.o;simpa using this
 have HX1:=ze (HB1.o.cell (q:=w.heap.size+1) (l:=[.slice wA wn wc,O J 0]) (by simp));have HX2:=ze (HB1.o.cell (q:=w.heap.size+1+1) (l:=[.slice none 0 0,O J 0]) (by simp));have HBW:=ze HB1.o.b;have hz1:=HBW.o.size;have hgz:g<w1.heap.size:=HGN.o.lt;clear HMK HBB HB1 HGG;go_wp2_with fail
 go_loopw [9] (fun o wr=>∃(t a:Nat)(P:List Pa),t<=T/\P.length<=a/\a<=wn/\Own wr w1.heap.size 117 4 Wl o P/\Folk s t P/\Gn s sA sn sk wA wn wc ws g v Z t a P.length wr/\But (fun k=>k=g) w1 wr/\∀ r,Run (s.segs.map qF) ws (T-t) t a P.length r->Run (s.segs.map qF) ws T 0 0 0 r) (fun _ wr=>T-Zi g wr)
 case atStart=>exact⟨0,0,[],Nat.zero_le _,fi,Nat.zero_le _,Own.nil _ _ _ _ _,Folk.nil s,HGN.o,But.refl _ _,fun r h=>h⟩
 case round=>
  obtain⟨t,a,P,htT,hPa,haw,ho,hfo,hgn,hbt,hrun⟩:=hrel;have HO:=ze ho;have HFO:=ze hfo;have HGR:=ze hgn;have HBT:=ze hbt;have HRUN:=ze hrun;have HTK:=ze (show Zi g wr=t from by unfold Zi;rw[(hgn.bx 16 _ rfl).1];simp);have HOV:=ze (Ve s sA sn sk wA wn wc ws g v Z t a P.length wr hs hgn);have hX1:=HX1.o.but hbt (by omega) (by show¬w.heap.size+1=g;omega);have hX2:=HX2.o.but hbt (by omega) (by show¬w.heap.size+1+1=g;omega);have hzr:=hbt.size;have HX1r:=ze hX1;have HX2r:=ze hX2;clear ho hfo hgn hbt hrun hX1 hX2;by_cases hlt:t<T
  ·have h2:=(HT.o t).1 hlt;have eov:decide (s.hor<=(t:Int)\/tot (s.segs.map qF)<=(t:Int))=false:=by simp;omega
   rw[eov]at HOV;have HN:=ze (fun W(hb:Below wr.heap.size wr W)=>He s sA sn sk wA wn wc ws g v Z t a P.length W hs hf (HGR.o.below hb) hwn hwx hPa haw (by omega) h2.1 h2.2);clear eov;go_upto_region 6 with(go_at_call 26;(with_reducible refine HOV.o.mono ?_);rintro r w2 ⟨rfl,hb2⟩;have HB2:=ze hb2;clear hb2);have HN2:=ze (HN.o _ HB2.o);clear HN HOV;go_upto_region 7 with(fail);refine HN2.o.mono ?_;have hz2:=HB2.o.size;have HBL:=ze (show Below w.heap.size w w2 from(HBW.o.trans (HBT.o.below (fun k hk=>by have e:k=g:=hk;omega) hz1)).trans (HB2.o.mono (by omega)));have HX1s:=ze (HX1r.o.below HB2.o (by omega));have HX2s:=ze (HX2r.o.below HB2.o (by omega));clear HN2;rintro r w3 (⟨rfl,hrn,hbn⟩|⟨A,c,a',P',rfl,hrd,-,hcr,haa,hP63,hgn,hbn,haw',hrn⟩)
   ·have HRN:=ze hrn;have HBN:=ze hbn;have hz3:=hbn.size;obtain⟨⟨x0,x1⟩,-⟩:=(HX1s.o.but hbn (by omega) (by show¬w.heap.size+1=g;omega)).o2;obtain⟨⟨y0,y1⟩,y2,y3⟩:=(HX2s.o.but hbn (by omega) (by show¬w.heap.size+1+1=g;omega)).o2;have hq1:w.heap.size+1<w3.heap.size:=by omega
    have hq2:w.heap.size+1+1<w3.heap.size:=by omega
    clear hrn hbn;go_wp2_with fail;go_region;go_wp2_with fail;refine bodyPost_ret (v:=.tuple #[.slice none 0 0,.agg #[.slice wA wn wc,O J 0],O J 50]) (by rw[jW rfl];go_simp) rfl ?_;have hbl3:Below w.heap.size w w3:=HBL.o.trans (HBN.o.below (fun k hk=>by have e:k=g:=hk;omega) (by omega));refine⟨?_,none,?_,.inl ⟨rfl,rfl⟩⟩
    ·exact(((hbl3.drew).setCell (p:=⟨w.heap.size+1+1,0,none⟩) (by show w.heap.size<=w.heap.size+1+1;omega) _).setCell (p:=⟨w.heap.size+1+1,1,none⟩) (by show w.heap.size<=w.heap.size+1+1;omega) _)
    ·rw[HTT.o];exact HRUN.o _ (by rw[show T-t=(T-t-1)+1 by omega];exact HRN.o _)
   ·have HRD:=ze hrd;have HCR:=ze hcr;have HGN3:=ze hgn;have HBN:=ze hbn;have HRN:=ze hrn;have hz3:=hbn.size;have hO2:=HO.o.below HB2.o;have HO3:=ze (hO2.but hbn (fun k e e2=>by have:=(hO2.row.lt k e).1;have e3:k=g:=e2;omega));have hPn:P.length<=1000000000:=by omega
    clear hrd hcr hgn hbn hrn hO2;go_wp2_with(at_builtin;refine qe (P:=prog) rfl _ _ 30 rfl underlying30 Pa.info rfl (by omega) (by omega) rfl HO3.o P' w3.heap.size A P'.length c rfl rfl HRD.o (fun u hu=>by obtain⟨p,-,hp⟩:=List.mem_flatMap.1 hu;exact YC p u hp) hPn (by omega) (by omega) ?_;intro v' w8 k1 k2;have K1:=ze k1;have K2:=ze k2;clear k1 k2);go_roundw
    case rel=>
     have hb8:But (fun k=>k=g) w1 w8:=(((HBT.o.then_ HB2.o).trans HBN.o (fun _ _ h=>h)).trans (Y:=fun k=>w1.heap.size<=k) ⟨K2.o.os,K2.o.tape,K2.o.output,K2.o.size,fun k hk hx=>K2.o.block k (by omega)⟩ (fun i hi hx=>absurd hx (by omega)));refine⟨t+1,a',P++P',by omega,by simp;omega,haw',K1.o,HFO.o.more HCR.o,HGN.o.turn hb8 (by rw[List.length_append];exact HGN3.o.bx.below K2.o hgz),hb8,fun r h=>HRUN.o r ?_⟩;rw[show T-t=(T-(t+1))+1 by omega];exact HRN.o _ r (by rw[List.length_append]at h;exact h)
    case measure=>
     rw[HTK.o,show Zi g w8=t+1 from by unfold Zi;rw[((HGN3.o.bx.below K2.o hgz) 16 _ rfl).1];simp];omega
  ·obtain rfl:t=T:=by omega
   have eov:decide (s.hor<=(t:Int)\/tot (s.segs.map qF)<=(t:Int))=true:=by have:=(HT.o t).2;simp;omega
   rw[eov]at HOV;clear eov;go_upto_region 10 with(go_at_call 26;(with_reducible refine HOV.o.mono ?_);rintro r w2 ⟨rfl,hb2⟩;have HB2:=ze hb2;clear hb2);have hz2:=HB2.o.size;have HG2:=ze (HGR.o.below HB2.o);obtain⟨⟨-,-,c13,c14,-,-,-⟩,-⟩:=HG2.o.cells;obtain⟨⟨y0,y1⟩,y2,y3⟩:=(HX2r.o.below HB2.o (by omega)).o2;have hq2:w.heap.size+1+1<w2.heap.size:=by omega
   have hgw2:g<w2.heap.size:=by omega
   have hne:¬ g=w.heap.size+1+1:=by omega
   have hbl2:Below w.heap.size w w2:=(HBW.o.trans (HBT.o.below (fun k hk=>by have e:k=g:=hk;omega) hz1)).trans (HB2.o.mono (by omega));have HBL:=ze hbl2;obtain⟨pA,pc,rfl,hpc,hpr⟩:=HO.o.shape;have hof:=(HO.o.below HB2.o);have hpr2:=HB.Own.but hof (X:=fun k=>k=w.heap.size+1+1) (((But.refl (fun k=>k=w.heap.size+1+1) w2).set (a:=⟨w.heap.size+1+1,0,none⟩) (.inl rfl) (.slice wA wn wc)).set (a:=⟨w.heap.size+1+1,1,none⟩) (.inl rfl) (O J a)) (fun k e e2=>by have:=(hof.row.lt k e).1;have e3:k=w.heap.size+1+1:=e2;omega);obtain⟨pA',pc',hpe,-,hpr3⟩:=hpr2.shape;cases hpe;have HPR:=ze hpr3;clear hpr hof hpr2 hpr3 hbl2;go_wp2_with fail;go_region;go_wp2_with fail;refine bodyPost_ret (v:=.tuple #[.slice pA P.length pc,.agg #[.slice wA wn wc,O J a],O J 0]) (by rw[jW rfl];go_simp) rfl ?_;refine⟨?_,some (a,P.length),?_,.inr ⟨pA,pc,a,P,rfl,rfl,?_,hpc,?_,hPa,haw⟩⟩
   ·exact(((HBL.o.drew).setCell (p:=⟨w.heap.size+1+1,0,none⟩) (by show w.heap.size<=w.heap.size+1+1;omega) _).setCell (p:=⟨w.heap.size+1+1,1,none⟩) (by show w.heap.size<=w.heap.size+1+1;omega) _)
   ·rw[HTT.o];exact HRUN.o _ (by rw[Nat.sub_self];exact Run.done _ _ _)
   ·exact HPR.o
   ·rw[HTT.o];exact HFO.o
end
end Go.Proofs.YtdeogmbfgkepeaaGreatDoor
