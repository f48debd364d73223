/- Contracts for WholeDelivers. -/
import Derived.Shelf.Strings.BuilderK
import Derived.Shelf.Strings.OnBuilder
import Derived.Test.YtdeogmbfgkepeaaGreatDoorR16
set_option linter.unusedVariables false
set_option linter.unusedSimpArgs false
set_option maxRecDepth 100000
set_option maxHeartbeats 64000000
namespace Go.Proofs.YtdeogmbfgkepeaaGreatDoor
open Go.Proofs.Tryz
open Go.Value renaming int->O
open Go.IntKind renaming i64->J
section
section
open Go.Shelf Go.RowKit
def Tryz.lays156_ren:Go.Shelf.Ren:=⟨fun|156=>110|165=>82|166=>77|169=>57|240=>101|241=>116|276=>131|277=>156|n=>n,fun|31=>49|9=>9|3=>3|4=>4|0=>0|20=>20|72=>123|76=>160|70=>120|37=>121|75=>159|127=>162|164=>239|5=>5|80=>127|n=>n,fun|n=>n⟩
theorem Tryz.lays156:Go.Proofs.Lays.n156 prog Tryz.lays156_ren:={
 mixed:=by kernel_rfl
 f156:=func110.trans (congrArg some (by kernel_rfl))
 f165:=func82.trans (congrArg some (by kernel_rfl))
 f166:=func77.trans (congrArg some (by kernel_rfl))
 f169:=func57.trans (congrArg some (by kernel_rfl))
 f240:=func101.trans (congrArg some (by kernel_rfl))
 f241:=func116.trans (congrArg some (by kernel_rfl))
 f276:=func131.trans (congrArg some (by kernel_rfl))
 f277:=func156.trans (congrArg some (by kernel_rfl))
 t0:=underlying0
 a0:=isAgg0
 z0:=sizeOf0
 v0:=zeroValue0
 t3:=underlying3
 a3:=isAgg3
 z3:=sizeOf3
 v3:=zeroValue3
 t4:=underlying4
 a4:=isAgg4
 z4:=sizeOf4
 v4:=zeroValue4
 t9:=underlying9
 a9:=isAgg9
 z9:=sizeOf9
 v9:=zeroValue9
 t20:=underlying20
 a20:=isAgg20
 z20:=sizeOf20
 v20:=zeroValue20
 t31:=underlying49
 a31:=isAgg49
 z31:=sizeOf49
 v31:=zeroValue49
 t37:=underlying121
 a37:=isAgg121
 z37:=sizeOf121
 v37:=zeroValue121
 t70:=underlying120
 a70:=isAgg120
 z70:=sizeOf120
 v70:=zeroValue120
 t72:=underlying123
 a72:=isAgg123
 z72:=sizeOf123
 v72:=zeroValue123
 t75:=underlying159
 a75:=isAgg159
 z75:=sizeOf159
 v75:=zeroValue159
 t76:=underlying160
 a76:=isAgg160
 z76:=sizeOf160
 v76:=zeroValue160
 t127:=underlying162
 a127:=isAgg162
 z127:=sizeOf162
 v127:=zeroValue162
 t164:=underlying239
 a164:=isAgg239
 z164:=sizeOf239
 v164:=zeroValue239}
theorem Tryz.Builder_Extra_156:Builder.Extra prog Tryz.lays156_ren where
 sizeBuilder:=by kernel_rfl
 liesBuilder:=by kernel_rfl
 t5:=underlying5
 a5:=isAgg5
 z5:=sizeOf5
 v5:=zeroValue5
 infoByte:=by kernel_rfl
 cellsByte:=by kernel_rfl
 sizeByte:=by kernel_rfl
 neB5:=by decide
theorem Tryz.lays166:Lays.n166 prog Tryz.lays156_ren:={Tryz.lays156 with}
theorem Tryz.lays169:Lays.n169 prog Tryz.lays156_ren:={Tryz.lays156 with}
end
open Go.RowKit HB
def Bldr(w:l6)(B b:Nat)(l:List UInt8):Prop:=Lib.IsBuilderF 123 5 B b (Lib.byteCells l) w
structure BdK(B b:Nat)(w w':l6):Prop where
 low:Below B w w'
 oth:Lib.OthersKept 5 (some b) w w'
theorem BdK.trans{B b:Nat}{w w1 w':l6}(h:BdK B b w w1)(k:BdK B b w1 w'):BdK B b w w':=⟨h.low.trans k.low,h.oth.trans k.oth⟩
theorem BdK.refl(B b:Nat)(w:l6):BdK B b w w:=⟨fh,Lib.OthersKept.refl _ _ _⟩
theorem Bldr.alloc{w:l6}{B b:Nat}{l:List UInt8}(h:Bldr w B b l)(o:Obj):Bldr (w.alloc o) B b l:=Lib.IsBuilderF.alloc h o
theorem Bldr.below{w w':l6}{B b:Nat}{l:List UInt8}(h:Bldr w B b l)(hb:fj w w'):Bldr w' B b l:=by
 have key:∀ p,Lib.BuilderAtF 123 5 B b p (Lib.byteCells l) w->Lib.BuilderAtF 123 5 B b p (Lib.byteCells l) w':=fun p h=>by
  have h1:=h.lt;obtain⟨hB,v,hk,h0,h2⟩:=h;exact⟨hB,v,(hb.block b h1).trans hk,h0.kept (row:=none) ⟨hb.os,hb.tape,hb.output,hb.size,fun k hk _=>hb.block k hk⟩ (by cases hv:v.ownBlock<;>simp),h2⟩
 exact Or.elim h (fun x=>.inl (key _ x)) (fun x=>.inr (key _ x))
theorem BdK.of{w w':l6}{B b:Nat}(hb:fj w w')(hB:B<=w.heap.size):BdK B b w w':=
 ⟨hb.mono hB,fun k o hk _ _=>(hb.block k (Vp.1 hk).1).trans hk⟩
theorem BdK.keep{w w':l6}{B b k:Nat}{c:Array Value}{t:TypeId}{fz:Nat×Nat}(h:BdK B b w w')(hk:w.heap[k]?=some (.cells c t fz))(hb:k≠b)(ht:t≠5):w'.heap[k]?=some (.cells c t fz):=
 h.oth k _ hk (fun e=>hb (ve e)) (fun c' fz' e=>by cases e;exact ht rfl)
theorem uP(w:l6):Bldr (w.alloc (.cells #[.pointer none,.slice none 0 0] 123)) w.heap.size w.heap.size []:=Lib.IsBuilderF.of (Lib.fresh_isBuilder _ _ w)
theorem zS(B b:Nat)(l:List UInt8)(s:iY)(w:l6)(h:Bldr w B b l)(hl:l.length+s.size<=1000000000)(hB:B<=w.heap.size):
  Calls prog 77 #[.pointer (some ⟨b,0,none⟩),.string s] w fun e w'=>e=.returned (.tuple #[O J s.size,.nilIface])/\Bldr w' B b (l++s.data.toList)/\BdK B b w w':=by
 refine(Any.Builder_WriteString_k Tryz.lays166 Tryz.Builder_Extra_156 B b (Lib.byteCells l) s w h (by rw[Lib.byteCells_length];omega) hB).mono ?_;rintro e w' ⟨rfl,h1,h2,h3⟩;refine⟨rfl,?_,h2,h3⟩;unfold Bldr;have e:Lib.byteCells (l++s.data.toList)=Lib.byteCells l++Lib.strCells s:=by simp[Lib.byteCells,Lib.strCells]
 rw[e];exact .inr h1
theorem xT(B b:Nat)(l:List UInt8)(w:l6)(h:Bldr w B b l)(hB:B<=w.heap.size):
  Calls prog 57 #[.pointer (some ⟨b,0,none⟩)] w fun e w'=>e=.returned (.string ⟨l.toArray⟩)/\BdK B b w w':=by
 refine(Any.Builder_String_any_k Tryz.lays169 Tryz.Builder_Extra_156 B b l w h hB).mono ?_;rintro e w' ⟨rfl,-,h2,h3⟩;exact⟨rfl,h2,h3⟩
end
section
open Go.RowKit HB LexP DigP
def wj:List (List UInt8)->List UInt8
 |[]=>[]
 |s::r=>s++r.flatMap (fun t=>32::t)
theorem Jd:∀ ws:List (List UInt8),zV (kH ws)=wj ws
 |[]=>rfl
 |[s]=>by simp[kH,zV,wj,Lx.bs]
 |s::t::q=>by
  have h:=Jd (t::q);simp only[zV,kH,QN,Lx.bs,wj]at h⊢;rw[h];simp
theorem Yg(l:List (List UInt8))(s:List UInt8):wj (l++[s])=if l=[]then s else wj l++32::s:=by
 cases l with
 |nil=>simp[wj]
 |cons a t=>simp[wj]
def nj(l:List Nat):List UInt8:=l.flatMap fun n=>32::jN n
theorem Yh(l:List Nat)(n:Nat):nj (l++[n])=nj l++32::jN n:=by simp[nj]
theorem KB(ws:List (List UInt8))(ns:List Nat):zV (zu ws ns)=wj ws++nj ns++[10]:=by
 have h:zV (ns.flatMap fun n=>[Lx.b,Lx.d n])=nj ns:=by
  induction ns with
  |nil=>rfl
  |cons n t ih=>simp only[zV,nj]at ih⊢;simp only[QN,Vs,ih];simp[Lx.bs]
 have h2:=Jd ws;unfold zu;simp only[zV]at h h2⊢;simp only[Vs,h,h2];rfl
theorem KC(n:Int)(h:0<=n):(zC n).data.toList=jN n.toNat:=by
 unfold zC;rw[if_neg (by omega)]
 show jN n.natAbs=_
 congr 1;omega
theorem qB(s:iY):s.data.toList.length=s.size:=by rw[Wh];rfl
theorem vn(B b kw:Nat)(acc:List UInt8)(ws:List iY)(A:iX)(ns:l8)(ck:Nat)(w:l6)(h:Bldr w B b acc)(hB:B<=w.heap.size)(hw:w.heap[kw]?=some (.cells (ws.map Value.string).toArray 9 (0,0)))(hwb:kw≠b)
  (hA:ns=[]\/∃ kn,A=some ⟨kn,0,none⟩/\w.heap[kn]?=some (.cells (ns.map (Value.int .i64)).toArray 3 (0,0))/\kn≠b)(ha:acc.length<=100000)(hws:∀ x∈ws,x.size<=100)(hwl:ws.length<=10)(hnl:ns.length<=10)(hn0:∀ n∈ns,0<=n/\n<=1048576)(hck:ns.length<=ck):
  Calls prog 54 #[.pointer (some ⟨b,0,none⟩),.slice (some ⟨kw,0,none⟩) ws.length ws.length,.slice A ns.length ck] w fun e w'=>e=.returned (.tuple #[])/\Bldr w' B b (acc++zV (zu (ws.map (·.data.toList)) (ns.map Int.toNat)))/\BdK B b w w':=by
 have H:=ze h;have HW:=ze hw;have HA:=ze hA;have hu:=ze hws;have hs:=ze hn0;clear h hw hA hws hn0
 go_in
 go_wp2_with fail
 go_loopw [12] (fun i wr=>∃ j:Nat,j<=ws.length/\i=O J j/\Bldr wr B b (acc++wj ((ws.take j).map (·.data.toList)))/\BdK B b w wr/\(wj ((ws.take j).map (·.data.toList))).length<=101*j) (fun i _=>ws.length-(intOf i).toNat)
 case atStart=>exact⟨0,vf _,rfl,by simpa[wj]using H.o,BdK.refl _ _ _,by simp[wj]⟩
 case round=>
  obtain⟨j,hj,rfl,h3,hk,hC⟩:=hrel;have h4:=ze h3;have HK:=ze hk;have hz:=vD hB hk.low.size;by_cases h8:j<ws.length
  ·obtain⟨x,hx⟩:∃ x,ws[j]?=some x:=⟨_,kD h8⟩;have ho:=hk.keep HW.o hwb (by decide);have c0:wr.cell? ⟨kw,j,none⟩=some (.string x):=by
    rw[cell_of_row _ kw j _ _ _ ho];simp[hx]
   have hL:=hu.o x (jx hx);have i0:(0:Int)<=(j:Int):=by omega
   have i1:(j:Int)<(ws.length:Int):=by omega
   have HX:=ze hx;have h5:=ze (show(ws.take (j+1)).map (·.data.toList)=(ws.take j).map (·.data.toList)++[x.data.toList] by rw[Vn,hx];simp);clear h3 hk ho hx;have hv:(acc++wj ((ws.take j).map (·.data.toList))).length<=110000:=by rw[kC];omega
   generalize hg:(ws.take j).map (·.data.toList)=P at*;rcases ZW j with h0|h0
   ·subst h0;have hP:P=[]:=by rw[<-hg];simp
    subst hP;have h6:=ze (zS B b _ x wr h4.o (by omega) hz);clear hg;go_wp2_with(go_at_call 77;(refine h6.o.mono ?_);rintro r w1 ⟨rfl,h1,h2⟩;have H1:=ze h1;have H2:=ze h2;clear h1 h2);go_roundw
    case rel=>exact⟨1,by omega,by go_num,by rw[h5.o];simpa[wj]using H1.o,HK.o.trans H2.o,by rw[h5.o];show(x.data.toList++[]).length<=_;rw[Hx,qB];omega⟩
    case measure=>simp[intOf];omega
   ·have hP:P≠[]:=by
     rw[<-hg];intro e;have h7:=congrArg List.length e;rw[KS,XT,KN]at h7;omega
    have hF:decide ((0:Int)<(j:Int))=true:=by simp;omega
    have HP:=ze hP;have h6:=ze (zS B b _ ⟨#[32]⟩ wr h4.o (by show _+1<=_;omega) hz);have hi:=ze (fun W(hb:Bldr W B b (acc++wj P++[32]))(hz:B<=W.heap.size)=>zS B b _ x W hb (by rw[kC,Jp];omega) hz);clear hg hP;go_wp2_with(first
     |(go_at_call 77;(with_reducible refine(h6.o).mono ?_);rintro r w1 ⟨rfl,h1,h2⟩;have H1:=ze h1;have H2:=ze h2;have he:=vD hz h2.low.size;clear h1 h2)
     |(go_at_call 77;(with_reducible refine(hi.o _ H1.o he).mono ?_);rintro r w2 ⟨rfl,h1,h2⟩;have H3:=ze h1;have H4:=ze h2;clear h1 h2))
    go_roundw
    case rel=>exact⟨j+1,by omega,by go_num,by rw[h5.o,Yg,if_neg HP.o];simpa using H3.o,(HK.o.trans H2.o).trans H4.o,by rw[h5.o,Yg,if_neg HP.o,kC,Zn,qB];omega⟩
    case measure=>simp[intOf];omega
  ·obtain rfl:j=ws.length:=by omega
   have hc:(ws.take ws.length).map (·.data.toList)=ws.map (·.data.toList):=by rw[UZ]
   rw[hc]at h3 hC;have hf:=ze h3;have hG:decide ((ws.length:Int)<(ws.length:Int))=false:=by simp
   generalize hP:ws.map (·.data.toList)=P at*;have ht:=ze hP;clear h3 hk h8 hP hc h4;obtain⟨w1,hp⟩:∃ w1,w1=wr:=⟨_,rfl⟩;have hD:=hp.symm;clear hp;subst hD;go_wp2_with fail
   go_loopw [27] (fun i wr=>∃ j:Nat,j<=ns.length/\i=O J j/\Bldr wr B b (acc++wj P++nj ((ns.take j).map Int.toNat))/\BdK B b w wr/\(nj ((ns.take j).map Int.toNat)).length<=8*j) (fun i _=>ns.length-(intOf i).toNat)
   case atStart=>exact⟨0,vf _,rfl,by simpa[nj]using hf.o,HK.o,by simp[nj]⟩
   case round=>
    obtain⟨j,hj,rfl,h3,hk,hy⟩:=hrel;have h4:=ze h3;have HK:=ze hk;have hz:=vD hB hk.low.size;by_cases h8:j<ns.length
    ·obtain⟨x,hx⟩:∃ x,ns[j]?=some x:=⟨_,kD h8⟩;rcases HA.o with e|⟨kn,rfl,h9,hl⟩
     ·rw[e]at h8;simp at h8
     have hn:=hk.keep h9 hl (by decide);have c0:wr.cell? ⟨kn,j,none⟩=some (O J x):=by
      rw[cell_of_row _ kn j _ _ _ hn];simp[hx]
     have hq:=hs.o x (jx hx);have i0:(0:Int)<=(j:Int):=by omega
     have i1:(j:Int)<(ns.length:Int):=by omega
     have h5:=ze (show(ns.take (j+1)).map Int.toNat=(ns.take j).map Int.toNat++[x.toNat] by rw[Vn,hx];simp);have hv:(acc++wj P++nj ((ns.take j).map Int.toNat)).length<=200000:=by rw[kC,kC];omega
     have hr:=ze (fun W=>ja x ⟨by omega,by omega⟩ W);have hJ:(zC x).size<=7:=by
      rw[<-qB,KC x hq.1];exact uJ _ (by omega)
     have hm:=ze (KC x hq.1);clear h3 hk hn hx h9;generalize(ns.take j).map Int.toNat=N at*;generalize zC x=tx at*;have h6:=ze (zS B b _ ⟨#[32]⟩ wr h4.o (by show _+1<=_;omega) hz);have hi:=ze (fun W(hb:Bldr W B b (acc++wj P++nj N++[32]))(hz:B<=W.heap.size)=>zS B b _ tx W hb (by rw[kC,Jp];omega) hz);go_wp2_with(first
      |(go_at_call 77;(with_reducible refine(h6.o).mono ?_);rintro r w2 ⟨rfl,h1,h2⟩;have H1:=ze h1;have H2:=ze h2;have he:=vD hz h2.low.size;clear h1 h2)
      |(go_at_call 21;(with_reducible refine(hr.o _).mono ?_);rintro r w3 ⟨rfl,hd⟩;have H3:=ze (H1.o.below hd);have H4:=ze (BdK.of (b:=b) hd he);have hE:=vD he hd.size;clear hd)
      |(go_at_call 77;(with_reducible refine(hi.o _ H3.o hE).mono ?_);rintro r w4 ⟨rfl,h1,h2⟩;have H5:=ze h1;have H6:=ze h2;clear h1 h2))
     go_roundw
     case rel=>exact⟨j+1,by omega,by go_num,by rw[h5.o,Yh,<-hm.o];simpa using H5.o,((HK.o.trans H2.o).trans H4.o).trans H6.o,by rw[h5.o,Yh,<-hm.o,kC,Zn,qB];omega⟩
     case measure=>simp[intOf];omega
    ·obtain rfl:j=ns.length:=by omega
     have hc:(ns.take ns.length).map Int.toNat=ns.map Int.toNat:=by rw[UZ]
     rw[hc]at h3 hy;have h4:=ze h3;have hI:decide ((ns.length:Int)<(ns.length:Int))=false:=by simp
     have h6:=ze (zS B b _ ⟨#[10]⟩ wr h4.o (by rw[kC,kC];show _+1<=_;omega) hz);clear h3 hk h8 hc;go_wp2_with(go_at_call 77;(with_reducible refine(h6.o).mono ?_);rintro r w2 ⟨rfl,h1,h2⟩;have H1:=ze h1;have H2:=ze h2;clear h1 h2);go_end0;exact⟨rfl,by rw[KB,ht.o];simpa using H1.o,HK.o.trans H2.o⟩
theorem uR(w:l6):Calls prog 55 #[O J 1] w fun e w'=>e=.returned (.string ⟨#[117,112,112,101,97,107]⟩)/\w=w':=by
 go_in
 go_wp2_with fail;go_ret;exact⟨rfl,rfl⟩
theorem uS(w:l6):Calls prog 55 #[O J 2] w fun e w'=>e=.returned (.string ⟨#[108,117,110,99,104]⟩)/\w=w':=by
 go_in
 go_wp2_with fail;go_ret;exact⟨rfl,rfl⟩
theorem uT(w:l6):Calls prog 55 #[O J 3] w fun e w'=>e=.returned (.string ⟨#[100,111,119,110,112,101,97,107]⟩)/\w=w':=by
 go_in
 go_wp2_with fail;go_ret;exact⟨rfl,rfl⟩
theorem uU(w:l6):Calls prog 55 #[O J 4] w fun e w'=>e=.returned (.string ⟨#[105,110,116,101,114,102,108,111,111,114]⟩)/\w=w':=by
 go_in
 go_wp2_with fail;go_ret;exact⟨rfl,rfl⟩
theorem xU(w:l6):Calls prog 56 #[O J 1] w fun e w'=>e=.returned (.string ⟨#[99,111,108,108,101,99,116,105,118,101]⟩)/\w=w':=by
 go_in
 go_wp2_with fail;go_ret;exact⟨rfl,rfl⟩
theorem xV(w:l6):Calls prog 56 #[O J 2] w fun e w'=>e=.returned (.string ⟨#[115,101,99,116,111,114,115]⟩)/\w=w':=by
 go_in
 go_wp2_with fail;go_ret;exact⟨rfl,rfl⟩
theorem xW(w:l6):Calls prog 56 #[O J 3] w fun e w'=>e=.returned (.string ⟨#[115,111,111,110,101,115,116]⟩)/\w=w':=by
 go_in
 go_wp2_with fail;go_ret;exact⟨rfl,rfl⟩
theorem xX(w:l6):Calls prog 56 #[O J 4] w fun e w'=>e=.returned (.string ⟨#[100,101,115,116,105,110,97,116,105,111,110]⟩)/\w=w':=by
 go_in
 go_wp2_with fail;go_ret;exact⟨rfl,rfl⟩
theorem ZB(k:Int)(h:1<=k/\k<=4)(w:l6):Calls prog 55 #[O J k] w fun e w'=>e=.returned (.string ⟨(ju k).toArray⟩)/\w=w':=by
 rcases(show k=1\/k=2\/k=3\/k=4 by omega)with rfl|rfl|rfl|rfl
 ·exact uR w
 ·exact uS w
 ·exact uT w
 ·exact uU w
theorem yY(k:Int)(h:1<=k/\k<=4)(w:l6):Calls prog 56 #[O J k] w fun e w'=>e=.returned (.string ⟨(jE k).toArray⟩)/\w=w':=by
 rcases(show k=1\/k=2\/k=3\/k=4 by omega)with rfl|rfl|rfl|rfl
 ·exact xU w
 ·exact xV w
 ·exact xW w
 ·exact xX w
theorem Yi{Q:l6->Prop}{W:l6}(S:l6->Prop)(hS:S W)(h:∀ W':l6,S W'->Q W'):Q W:=h W hS
theorem Qe(X:l6)(o:Obj)(k:Nat)(e:X.heap.size=k):(X.alloc o).heap[k]?=some o:=e▸heap_alloc_new X o
def Ga(b:Nat)(acc:List UInt8)(ws:List (List UInt8))(ns:l8)(W:l6)(e:Ending)(w':l6):Prop:=e=.returned (.tuple #[])/\Bldr w' b b (acc++zV (zu ws (ns.map Int.toNat)))/\BdK b b W w'
abbrev kM(ws:List (List UInt8)):List iY:=ws.map fun s=>⟨s.toArray⟩
theorem um(ws:List (List UInt8)):(kM ws).map (·.data.toList)=ws:=by
 unfold kM;rw[iP];exact(iL (fun _ _=>rfl)).trans (List.map_id ws)
section
variable(b:Nat)(acc:List UInt8)(ws:List (List UInt8))(ns:l8)(W:l6)(h:Bldr W b b acc)(hz:b<W.heap.size)(ha:acc.length<=100000)(hws:∀ x∈ws,x.length<=100)(hwl:ws.length<=10)(hnl:ns.length<=10)(hn0:∀ n∈ns,0<=n/\n<=1048576)
include h hz ha hws hwl hnl hn0
theorem aY:Calls prog 54 #[.pointer (some ⟨b,0,none⟩),.slice (some ⟨W.heap.size,0,none⟩) (kM ws).length (kM ws).length,.slice (some ⟨W.heap.size+1,0,none⟩) ns.length ns.length] ((W.alloc (.cells ((kM ws).map Value.string).toArray 9)).alloc (.cells (ns.map (Value.int .i64)).toArray 3)) (Ga b acc ws ns W):=by
 have hb:=((Below.refl W.heap.size W).alloc fi (.cells ((kM ws).map Value.string).toArray 9)).alloc (by simp) (.cells (ns.map (Value.int .i64)).toArray 3);refine(vn b b W.heap.size acc (kM ws) _ ns ns.length _ (h.below hb) (by simp;omega) ?_ (by omega) (.inr ⟨W.heap.size+1,rfl,?_,by omega⟩) ha (fun x hx=>?_) (by simpa using hwl) hnl hn0 fi).mono ?_
 ·exact((fh.alloc fi _).block W.heap.size (by simp)).trans (heap_alloc_new W _)
 ·exact Qe (W.alloc (.cells ((kM ws).map Value.string).toArray 9)) (.cells (ns.map (Value.int .i64)).toArray 3) _ (by simp)
 ·obtain⟨y,hy,rfl⟩:=Vl.1 hx;have:=hws y hy;rw[<-qB];exact this
 ·rintro e w' ⟨rfl,h1,h2⟩;rw[um]at h1;exact⟨rfl,h1,(BdK.of (b:=b) hb (by omega)).trans h2⟩
theorem Gb:Calls prog 54 #[.pointer (some ⟨b,0,none⟩),.slice (some ⟨W.heap.size,0,none⟩) (kM ws).length (kM ws).length,.slice (some ⟨W.heap.size+1,0,none⟩) ns.length ns.length] ((W.alloc (.cells ((kM ws).map Value.string).toArray 9)).alloc (.cells (ns.map (Value.int .i64)).toArray 3)).drew (Ga b acc ws ns W):=by
 have hb:=(((Below.refl W.heap.size W).alloc fi (.cells ((kM ws).map Value.string).toArray 9)).alloc (by simp) (.cells (ns.map (Value.int .i64)).toArray 3)).drew;refine(vn b b W.heap.size acc (kM ws) _ ns ns.length _ (h.below hb) (by simp;omega) ?_ (by omega) (.inr ⟨W.heap.size+1,rfl,?_,by omega⟩) ha (fun x hx=>?_) (by simpa using hwl) hnl hn0 fi).mono ?_
 ·exact((fh.alloc fi _).block W.heap.size (by simp)).trans (heap_alloc_new W _)
 ·exact Qe (W.alloc (.cells ((kM ws).map Value.string).toArray 9)) (.cells (ns.map (Value.int .i64)).toArray 3) _ (by simp)
 ·obtain⟨y,hy,rfl⟩:=Vl.1 hx;have:=hws y hy;rw[<-qB];exact this
 ·rintro e w' ⟨rfl,h1,h2⟩;rw[um]at h1;exact⟨rfl,h1,(BdK.of (b:=b) hb (by omega)).trans h2⟩
theorem Gc:Calls prog 54 #[.pointer (some ⟨b,0,none⟩),.slice (some ⟨W.heap.size+1,0,none⟩) (kM ws).length (kM ws).length,.slice (some ⟨W.heap.size,0,none⟩) ns.length ns.length] ((W.alloc (.cells (ns.map (Value.int .i64)).toArray 3)).alloc (.cells ((kM ws).map Value.string).toArray 9)).drew (Ga b acc ws ns W):=by
 have hb:=(((Below.refl W.heap.size W).alloc fi (.cells (ns.map (Value.int .i64)).toArray 3)).alloc (by simp) (.cells ((kM ws).map Value.string).toArray 9)).drew;refine(vn b b (W.heap.size+1) acc (kM ws) _ ns ns.length _ (h.below hb) (by simp;omega) ?_ (by omega) (.inr ⟨W.heap.size,rfl,?_,by omega⟩) ha (fun x hx=>?_) (by simpa using hwl) hnl hn0 fi).mono ?_
 ·exact Qe (W.alloc (.cells (ns.map (Value.int .i64)).toArray 3)) (.cells ((kM ws).map Value.string).toArray 9) _ (by simp)
 ·exact((fh.alloc fi _).block W.heap.size (by simp)).trans (heap_alloc_new W _)
 ·obtain⟨y,hy,rfl⟩:=Vl.1 hx;have:=hws y hy;rw[<-qB];exact this
 ·rintro e w' ⟨rfl,h1,h2⟩;rw[um]at h1;exact⟨rfl,h1,(BdK.of (b:=b) hb (by omega)).trans h2⟩
end
theorem cI(b:Nat)(acc:List UInt8)(ws:List (List UInt8))(W:l6)(h:Bldr W b b acc)(hz:b<W.heap.size)(ha:acc.length<=100000)(hws:∀ x∈ws,x.length<=100)(hwl:ws.length<=10):Calls prog 54 #[.pointer (some ⟨b,0,none⟩),.slice (some ⟨W.heap.size,0,none⟩) (kM ws).length (kM ws).length,.slice none 0 0] (W.alloc (.cells ((kM ws).map Value.string).toArray 9)) (Ga b acc ws [] W):=by
 have hb:=((Below.refl W.heap.size W).alloc fi (.cells ((kM ws).map Value.string).toArray 9));refine(vn b b W.heap.size acc (kM ws) none [] 0 _ (h.below hb) (by simp;omega) (heap_alloc_new W _) (by omega) (.inl rfl) ha (fun x hx=>?_) (by simpa using hwl) (by simp) (fun n hn=>by cases hn) fi).mono ?_
 ·obtain⟨y,hy,rfl⟩:=Vl.1 hx;have:=hws y hy;rw[<-qB];exact this
 ·rintro e w' ⟨rfl,h1,h2⟩;rw[um]at h1;exact⟨rfl,h1,(BdK.of (b:=b) hb (by omega)).trans h2⟩
structure TxS(b q:Nat)(sl:iZ)(w0:l6)(acc:List UInt8)(m:Nat)(W:l6):Prop where
 bd:Bldr W b b acc
 bx:Bx W q sl
 low:Below b w0 W
 z:b<W.heap.size
 qb:q<b
 len:acc.length<=m
theorem TxS.below{b q:Nat}{sl:iZ}{w0:l6}{acc:List UInt8}{m:Nat}{W W':l6}(h:TxS b q sl w0 acc m W)(hb:fj W W'):TxS b q sl w0 acc m W':=
 ⟨h.bd.below hb,h.bx.below hb (cU h.qb h.z),h.low.trans (hb.mono (Vq h.z)),kK h.z hb.size,h.qb,h.len⟩
theorem aZ(ws:List (List UInt8))(ns:l8)(hws:∀ x∈ws,x.length<=100)(hwl:ws.length<=2)(hnl:ns.length<=4)(hn0:∀ n∈ns,0<=n/\n<=1048576):(zV (zu ws (ns.map Int.toNat))).length<=300:=by
 rw[KB,kC,kC];have h1:(wj ws).length<=201:=by
  match ws,hwl with
  |[],_=>simp[wj]
  |[a],_=>have:=hws a (by simp);simp[wj];omega
  |[a,b],_=>
   have h1:=hws a (by simp);have h2:=hws b (by simp);simp[wj];omega
 have h2:(nj (ns.map Int.toNat)).length<=8*ns.length:=by
  clear hnl
  induction ns with
  |nil=>simp[nj]
  |cons n t ih=>
   have h3:=ih (fun x hx=>hn0 x (yP _ hx));have h4:=uJ n.toNat (by have:=hn0 n (xz ..);omega);simp only[nj,JF,QN,kC,Zn]at h3⊢;omega
 simp only[Zn,KN];omega
theorem TxS.wrote{b q:Nat}{sl:iZ}{w0:l6}{acc:List UInt8}{m:Nat}{W w':l6}{e:Ending}{ws:List (List UInt8)}{ns:l8}(h:TxS b q sl w0 acc m W)(hws:∀ x∈ws,x.length<=100)(hwl:ws.length<=2)(hnl:ns.length<=4)(hn0:∀ n∈ns,0<=n/\n<=1048576)(hl:Ga b acc ws ns W e w'):e=.returned (.tuple #[])/\TxS b q sl w0 (acc++zV (zu ws (ns.map Int.toNat))) (m+300) w'/\BdK b b W w':=
 ⟨hl.1,⟨hl.2.1,h.bx.below hl.2.2.low h.qb,h.low.trans hl.2.2.low,kK h.z hl.2.2.low.size,h.qb,by
  have:=aZ ws ns hws hwl hnl hn0;have:=h.len;rw[kC];omega⟩,hl.2.2⟩
theorem BdK.al{B b:Nat}{w W:l6}(h:BdK B b w W)(hz:B<=w.heap.size)(o:Obj):BdK B b w (W.alloc o):=h.trans (BdK.of (fh.alloc fi o) (vD hz h.low.size))
section
variable{b q:Nat}{sl:iZ}{w0:l6}{acc:List UInt8}{m:Nat}{W:l6}(ws:List (List UInt8))(ns:l8)(h:TxS b q sl w0 acc m W)(hm:m<=100000)(hws:∀ x∈ws,x.length<=100)(hwl:ws.length<=2)(hnl:ns.length<=4)(hn0:∀ n∈ns,0<=n/\n<=1048576)
include h hm hws hwl hnl hn0
theorem uV:Calls prog 54 #[.pointer (some ⟨b,0,none⟩),.slice (some ⟨W.heap.size,0,none⟩) (kM ws).length (kM ws).length,.slice (some ⟨W.heap.size+1,0,none⟩) ns.length ns.length] ((W.alloc (.cells ((kM ws).map Value.string).toArray 9)).alloc (.cells (ns.map (Value.int .i64)).toArray 3)) fun e w'=>e=.returned (.tuple #[])/\TxS b q sl w0 (acc++zV (zu ws (ns.map Int.toNat))) (m+300) w'/\BdK b b W w':=
 (aY b acc ws ns W h.bd h.z (vD h.len hm) hws (by omega) (by omega) hn0).mono fun _ _=>h.wrote hws hwl hnl hn0
theorem lj:Calls prog 54 #[.pointer (some ⟨b,0,none⟩),.slice (some ⟨W.heap.size,0,none⟩) (kM ws).length (kM ws).length,.slice (some ⟨W.heap.size+1,0,none⟩) ns.length ns.length] ((W.alloc (.cells ((kM ws).map Value.string).toArray 9)).alloc (.cells (ns.map (Value.int .i64)).toArray 3)).drew fun e w'=>e=.returned (.tuple #[])/\TxS b q sl w0 (acc++zV (zu ws (ns.map Int.toNat))) (m+300) w'/\BdK b b W w':=
 (Gb b acc ws ns W h.bd h.z (vD h.len hm) hws (by omega) (by omega) hn0).mono fun _ _=>h.wrote hws hwl hnl hn0
theorem lm:Calls prog 54 #[.pointer (some ⟨b,0,none⟩),.slice (some ⟨W.heap.size+1,0,none⟩) (kM ws).length (kM ws).length,.slice (some ⟨W.heap.size,0,none⟩) ns.length ns.length] ((W.alloc (.cells (ns.map (Value.int .i64)).toArray 3)).alloc (.cells ((kM ws).map Value.string).toArray 9)).drew fun e w'=>e=.returned (.tuple #[])/\TxS b q sl w0 (acc++zV (zu ws (ns.map Int.toNat))) (m+300) w'/\BdK b b W w':=
 (Gc b acc ws ns W h.bd h.z (vD h.len hm) hws (by omega) (by omega) hn0).mono fun _ _=>h.wrote hws hwl hnl hn0
end
theorem dt{b q:Nat}{sl:iZ}{w0:l6}{acc:List UInt8}{m:Nat}{W:l6}(ws:List (List UInt8))(h:TxS b q sl w0 acc m W)(hm:m<=100000)(hws:∀ x∈ws,x.length<=100)(hwl:ws.length<=2):Calls prog 54 #[.pointer (some ⟨b,0,none⟩),.slice (some ⟨W.heap.size,0,none⟩) (kM ws).length (kM ws).length,.slice none 0 0] (W.alloc (.cells ((kM ws).map Value.string).toArray 9)) fun e w'=>e=.returned (.tuple #[])/\TxS b q sl w0 (acc++zV (zu ws [])) (m+300) w'/\BdK b b W w':=
 (cI b acc ws W h.bd h.z (vD h.len hm) hws (by omega)).mono fun _ _ hl=>h.wrote (ns:=[]) hws hwl (by simp) (fun n hn=>by cases hn) hl
theorem Je(s:Sc)(hs:s.ok)(A:iX)(n c B:Nat)(w:l6)(hg:Sgs w B A n s.segs)(hB:B<=w.heap.size):Calls prog 29 #[s.v A n c] w (fk (.tuple #[.string (qU s),O J 0]) w):=by
 have hq:=ze (fun W(hb:fj w W)=>J7 s hs A n c B W (hg.below (hb.mono hB)) (vD hB hb.size));have h8:=ze hs;have HG:=ze hg;have hP:=hg.2;obtain⟨⟨e1,e2⟩,⟨e3,e4⟩,⟨e5,e6⟩,⟨e7,e8⟩,⟨e9,e10⟩,⟨e11,e12⟩,⟨e13,e14⟩,⟨e15,e16⟩,⟨e17,e18⟩,⟨e19,e20⟩,⟨e21,e22⟩,⟨e23,e24⟩,⟨e25,e26⟩,-⟩:=hs;clear hg
 go_in
 go_upto_region 5 with(go_at_call 47;(refine(hq.o _ (fh.alloc fi _)).mono ?_);rintro r V ⟨rfl,hb⟩;have h5:=ze hb;clear hb);obtain⟨sl,hR⟩:∃ sl,sl=s.ls A n c:=⟨_,rfl⟩;obtain⟨b,hb⟩:∃ b,b=V.heap.size:=⟨_,rfl⟩;refine Yi (W:=V.alloc (.cells #[.pointer none,.slice none 0 0] 123)) (fun W=>TxS b w.heap.size (s.ls A n c) W [] 0 W/\fj w W) ?_ ?_
 ·have hA:fj w (w.alloc (.cells (s.ls A n c).toArray 25)):=fh.alloc fi _;have hz:=h5.o.size;have hx:Bx V w.heap.size (s.ls A n c):=(Bx.new w (s.ls A n c) 25).below h5.o (by simp);have hr:fj V (V.alloc (.cells #[.pointer none,.slice none 0 0] 123)):=fh.alloc fi _;have hS:w.heap.size<V.heap.size:=by simp at hz;omega
  exact⟨⟨hb▸uP V,hx.below hr hS,fh,by simp;omega,by omega,fi⟩,(hA.trans (h5.o.mono (by simp))).trans (hr.mono (by omega))⟩
 rintro V0 ⟨h4,h3⟩;have hl:=ze h4;have hk:=ze h3;obtain⟨⟨x0,x1,x2,x3,x4,x5,x6,x7,x8,x9,x10,x11,x12⟩,-⟩:=h4.bx.o13;have hZ:w.heap.size<V0.heap.size:=cU h4.qb h4.z;rw[<-hb];clear h4 h3 hR sl h5 hq;have hT:=ze hb;clear hb;go_upto_region 8 with(first
  |(go_at_call 54;(refine(uV [kq] [s.opn,s.dw,s.cl,s.tr] ha.o (by omega) (by decide) (by decide) (by simp) (by intro n hn;simp only[qx,Zl,or_false]at hn;omega)).mono ?_);rintro r W3 ⟨rfl,h1,-⟩;have hc:=ze h1;have H1:w.heap.size<W3.heap.size:=cU h1.qb h1.z;clear h1 x0 x1 x2 x3 x4 x5 x6 x7 x8 x9 x10 x11 x12;obtain⟨⟨x0,x1,x2,x3,x4,x5,x6,x7,x8,x9,x10,x11,x12⟩,-⟩:=hc.o.bx.o13)
  |(go_at_call 54;(refine(uV [vH] [s.cars,s.cap] h0.o (by omega) (by decide) (by decide) (by simp) (by intro n hn;simp only[qx,Zl,or_false]at hn;omega)).mono ?_);rintro r W2 ⟨rfl,h1,-⟩;have ha:=ze h1;have H0:w.heap.size<W2.heap.size:=cU h1.qb h1.z;clear h1 x0 x1 x2 x3 x4 x5 x6 x7 x8 x9 x10 x11 x12;obtain⟨⟨x0,x1,x2,x3,x4,x5,x6,x7,x8,x9,x10,x11,x12⟩,-⟩:=ha.o.bx.o13)
  |(go_at_call 54;(refine(uV [jz] [s.fl,s.gap] hl.o (by omega) (by decide) (by decide) (by simp) (by intro n hn;simp only[qx,Zl,or_false]at hn;omega)).mono ?_);rintro r W1 ⟨rfl,h1,-⟩;have h0:=ze h1;have hi:w.heap.size<W1.heap.size:=cU h1.qb h1.z;clear h1 x0 x1 x2 x3 x4 x5 x6 x7 x8 x9 x10 x11 x12;obtain⟨⟨x0,x1,x2,x3,x4,x5,x6,x7,x8,x9,x10,x11,x12⟩,-⟩:=h0.o.bx.o13))
 go_wp2_with fail;have hL:=ze (show TxS b w.heap.size (s.ls A n c) V0 (zV (jU s)) 900 W3 from by
  have h9:=hc.o;have e:[]++zV (zu [jz] ([s.fl,s.gap].map Int.toNat))++zV (zu [vH] ([s.cars,s.cap].map Int.toNat))++zV (zu [kq] ([s.opn,s.dw,s.cl,s.tr].map Int.toNat))=zV (jU s):=by
   unfold jU;simp[zV]
  rwa [e]at h9)
 clear hl h0 ha hc x0 x1 x2 x3 x4 x5 x6 x7 x8 x9 x10 x11 x12
 go_loopw [41] (fun i wr=>∃ j:Nat,j<=n/\i=O J j/\TxS b w.heap.size (s.ls A n c) V0 (zV (jU s)++zV ((s.segs.take j).flatMap qJ)) (900+300*j) wr) (fun i _=>n-(intOf i).toNat)
 case atStart=>exact⟨0,vf _,rfl,by simpa using hL.o⟩
 case round=>
  obtain⟨j,hj,rfl,ht⟩:=hrel;have HT:=ze ht;have hz:=ht.z;have hY:=ht.qb;by_cases hv:j<n
  ·have hy:Sgs wr B A n s.segs:=(HG.o.below (hk.o.mono hB)).below (ht.low.mono (by omega));obtain⟨gb,off,g,rfl,hV,he,c0,c1,c2⟩:=hy.at_ hv;have hu:=h8.o.segs g (jx he);have hU:=ze hu;have hM:=ze (show(s.segs.take (j+1)).flatMap qJ=(s.segs.take j).flatMap qJ++qJ g by rw[Vn,he];simp);have i0:(0:Int)<=(j:Int):=by omega
   have i1:(j:Int)<(n:Int):=by omega
   have hX:j<=8:=by omega
   obtain⟨⟨f1,f2⟩,⟨f3,f4⟩,f5,f6⟩:=hu;have hN:=ze (fun W=>ZB g.k ⟨f1,f2⟩ W);have h6:=ze (show∀x∈[w_traffic,ju g.k],x.length<=100 from fun x hx=>by
    simp only[qx,Zl,or_false]at hx;rcases hx with rfl|rfl
    ·decide
    ·have:=Ks g.k;omega)
   clear ht hy he;go_upto_region 11 with(fail);clear c0 c1 c2;refine Yi (W:=wr.alloc (.cells #[O J g.k,O J g.t,O J g.r] 68)) (fun W=>W.heap[wr.heap.size]?=some (.cells #[O J g.k,O J g.t,O J g.r] 68 (0,0))/\TxS b w.heap.size (s.ls (some ⟨gb,off,none⟩) n c) V0 (zV (jU s)++zV ((s.segs.take j).flatMap qJ)) (900+300*j) W) ⟨heap_alloc_new wr _,HT.o.below (fh.alloc fi _)⟩ ?_;rintro V1 ⟨h7,hf⟩;obtain⟨q7,hw⟩:∃ q7,q7=wr.heap.size:=⟨_,rfl⟩;have hQ:b<q7:=by omega
   rw[<-hw]at h7⊢;have H7:=ze h7;have h0:=ze hf;have hi:b<=V1.heap.size:=Vq hf.z;have q0:V1.cell? ⟨q7,0,none⟩=some (O J g.k):=by rw[cell_of_row _ q7 0 _ _ _ h7];rfl
   have q1:V1.cell? ⟨q7,1,none⟩=some (O J g.t):=by rw[cell_of_row _ q7 1 _ _ _ h7];rfl
   have q2:V1.cell? ⟨q7,2,none⟩=some (O J g.r):=by rw[cell_of_row _ q7 2 _ _ _ h7];rfl
   have MK:=ze (fun W(hb:BdK b b V1 W)=>(show W.cell? ⟨q7,0,none⟩=some (O J g.k)/\W.cell? ⟨q7,1,none⟩=some (O J g.t)/\W.cell? ⟨q7,2,none⟩=some (O J g.r)/\BdK b b V1 W from by
    have h9:=hb.keep H7.o (by omega) (by decide);exact⟨by rw[cell_of_row _ q7 0 _ _ _ h9];rfl,by rw[cell_of_row _ q7 1 _ _ _ h9];rfl,by rw[cell_of_row _ q7 2 _ _ _ h9];rfl,hb⟩))
   have hO:=ze (show Calls prog 54 #[.pointer (some ⟨b,0,none⟩),.slice (some ⟨V1.heap.size,0,none⟩) 2 2,.slice (some ⟨V1.heap.size+1,0,none⟩) 2 2] ((V1.alloc (.cells #[.string ⟨#[116,114,97,102,102,105,99]⟩,.string ⟨(ju g.k).toArray⟩] 9)).alloc (.cells #[O J g.t,O J g.r] 3)).drew fun e w'=>e=.returned (.tuple #[])/\TxS b w.heap.size (s.ls (some ⟨gb,off,none⟩) n c) V0 (zV (jU s)++zV ((s.segs.take j).flatMap qJ)++zV (zu [w_traffic,ju g.k] ([g.t,g.r].map Int.toNat))) (900+300*j+300) w'/\BdK b b V1 w' from lj [w_traffic,ju g.k] [g.t,g.r] h0.o (by omega) h6.o (by simp) (by simp) (by intro n hn;simp only[qx,Zl,or_false]at hn;omega));have hG:=ze (show Calls prog 54 #[.pointer (some ⟨b,0,none⟩),.slice (some ⟨V1.heap.size+1,0,none⟩) 2 2,.slice (some ⟨V1.heap.size,0,none⟩) 2 2] ((V1.alloc (.cells #[O J g.t,O J g.r] 3)).alloc (.cells #[.string ⟨#[116,114,97,102,102,105,99]⟩,.string ⟨(ju g.k).toArray⟩] 9)).drew fun e w'=>e=.returned (.tuple #[])/\TxS b w.heap.size (s.ls (some ⟨gb,off,none⟩) n c) V0 (zV (jU s)++zV ((s.segs.take j).flatMap qJ)++zV (zu [w_traffic,ju g.k] ([g.t,g.r].map Int.toNat))) (900+300*j+300) w'/\BdK b b V1 w' from lm [w_traffic,ju g.k] [g.t,g.r] h0.o (by omega) h6.o (by simp) (by simp) (by intro n hn;simp only[qx,Zl,or_false]at hn;omega));have hE:=ze (BdK.of (b:=b) (Below.refl V1.heap.size V1).drew hi);clear h7 hf hw HT
   go_region_held3 (fun W=>W.cell? ⟨q7,0,none⟩=some (O J g.k)/\W.cell? ⟨q7,1,none⟩=some (O J g.t)/\W.cell? ⟨q7,2,none⟩=some (O J g.r)/\BdK b b V1 W)
    (((refine MK.o _ ?_);(first|(with_reducible exact hD.o)|(with_reducible exact hE.o)|(refine BdK.of ?_ hi;go_grown;done))))
    (first
     |(go_at_call 55;(with_reducible refine(hN.o _).mono ?_);rintro r wX ⟨rfl,e9⟩;subst e9)
     |(go_at_call 54;(first|(with_reducible refine(hO.o).mono ?_)|(with_reducible refine(hG.o).mono ?_));rintro r wX ⟨rfl,h1,h2⟩;have hJ:=ze h1;have hD:=ze h2;clear h1 h2))
   all_goals
    go_wp2_with fail;go_roundw
    case rel=>
     refine⟨j+1,by omega,by go_num,?_⟩;have h9:=hJ.o;have e:zV (jU s)++zV ((s.segs.take j).flatMap qJ)++zV (zu [w_traffic,ju g.k] ([g.t,g.r].map Int.toNat))=zV (jU s)++zV ((s.segs.take (j+1)).flatMap qJ):=by
      rw[hM.o,show qJ g=zu [w_traffic,ju g.k] ([g.t,g.r].map Int.toNat)from rfl];simp[zV]
     rw[e]at h9;exact⟨h9.bd,h9.bx,h9.low,h9.z,h9.qb,vD h9.len (by omega)⟩
    case measure=>simp[intOf];omega
  ·obtain rfl:j=n:=by omega
   have hC:s.segs.take j=s.segs:=Wc (by omega);rw[hC]at ht;have hW:j<=8:=by have:=h8.o.len;omega
   have hm:=ze ht;have H2:w.heap.size<wr.heap.size:=by omega
   have hF:=ze (fun W=>yY s.disp h8.o.disp W);have h6:=ze (show∀x∈[zP,jE s.disp],x.length<=100 from fun x hx=>by
    simp only[qx,Zl,or_false]at hx;rcases hx with rfl|rfl
    ·decide
    ·have:=J9 s.disp;omega)
   obtain⟨⟨x0,x1,x2,x3,x4,x5,x6,x7,x8,x9,x10,x11,x12⟩,-⟩:=hm.o.bx.o13;clear ht hv hC HT;go_wp2_with(first
    |(go_at_call 57;(refine(xT b b _ _ hd.o.bd (Vq hd.o.z)).mono ?_);rintro r W8 ⟨rfl,h1⟩;have hI:=ze h1;clear h1)
    |(go_at_call 56;(with_reducible refine(hF.o _).mono ?_);rintro r wX ⟨rfl,e9⟩;subst e9)
    |(go_at_call 54;(refine(uV [qp] [s.bins,s.width] hp.o (by omega) (by decide) (by decide) (by simp) (by intro n hn;simp only[qx,Zl,or_false]at hn;omega)).mono ?_);rintro r W7 ⟨rfl,h1,-⟩;have hd:=ze h1;clear h1)
    |(go_at_call 54;(refine(uV [jq] [s.hor] ho.o (by omega) (by decide) (by decide) (by simp) (by intro n hn;simp only[qx,Zl,or_false]at hn;omega)).mono ?_);rintro r W6 ⟨rfl,h1,-⟩;have hp:=ze h1;have H4:w.heap.size<W6.heap.size:=cU h1.qb h1.z;clear h1;clear x0 x1 x2 x3 x4 x5 x6 x7 x8 x9 x10 x11 x12;obtain⟨⟨x0,x1,x2,x3,x4,x5,x6,x7,x8,x9,x10,x11,x12⟩,-⟩:=hp.o.bx.o13)
    |(go_at_call 54;(refine(dt [zP,jE s.disp] hm.o (by omega) h6.o (by simp)).mono ?_);rintro r W5 ⟨rfl,h1,-⟩;have ho:=ze h1;have H3:w.heap.size<W5.heap.size:=cU h1.qb h1.z;clear h1;clear x0 x1 x2 x3 x4 x5 x6 x7 x8 x9 x10 x11 x12;obtain⟨⟨x0,x1,x2,x3,x4,x5,x6,x7,x8,x9,x10,x11,x12⟩,-⟩:=ho.o.bx.o13))
   go_ret2;refine⟨?_,(hk.o.trans ((hd.o.low).mono (by omega))).trans (hI.o.low.mono (by omega))⟩;have e:zV (jU s)++(zV (s.segs.flatMap qJ)++(zV (zu [zP,jE s.disp] [])++(zV (zu [jq] [s.hor.toNat])++zV (zu [qp] [s.bins.toNat,s.width.toNat]))))=zV (qT s):=by
    unfold qT uH;simp[zV]
   show Ending.returned (.tuple #[.string ⟨(zV (jU s)++(zV (s.segs.flatMap qJ)++(zV (zu [zP,jE s.disp] [])++(zV (zu [jq] [s.hor.toNat])++zV (zu [qp] [s.bins.toNat,s.width.toNat]))))).toArray⟩,O J 0])=_
   rw[e];rfl
end
end Go.Proofs.YtdeogmbfgkepeaaGreatDoor
