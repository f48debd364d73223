/- Contracts for WholeDelivers. -/
import Derived.Ground.Names2Prog
import Derived.Shelf.Strings.Trim
import Derived.Test.YtdeogmbfgkepeaaGreatDoorR17
import Derived.Test.YtdeogmbfgkepeaaGreatDoorR36
set_option linter.unusedVariables false
set_option linter.unusedSimpArgs false
set_option maxRecDepth 100000
set_option maxHeartbeats 64000000
namespace Go.Proofs.YtdeogmbfgkepeaaGreatDoor
open Go.Proofs.Tryz
section
open Go.RowKit HB
def Tryz.lays162_ren:Go.Shelf.Ren:=⟨fun|162=>196|232=>234|227=>235|234=>236|236=>237|228=>263|271=>264|151=>265|120=>280|197=>84|152=>281|260=>118|137=>291|119=>292|224=>159|225=>158|217=>157|266=>204|n=>n,fun|9=>9|4=>4|3=>3|5=>5|117=>380|116=>379|0=>0|124=>383|21=>21|105=>172|46=>137|119=>285|139=>288|138=>287|n=>n,fun|3=>1|4=>2|n=>n⟩
theorem Tryz.lays162:Go.Proofs.Lays.n162 prog Tryz.lays162_ren:={
 mixed:=by kernel_rfl
 f119:=func292.trans (congrArg some (by kernel_rfl))
 f120:=func280.trans (congrArg some (by kernel_rfl))
 f137:=func291.trans (congrArg some (by kernel_rfl))
 f151:=func265.trans (congrArg some (by kernel_rfl))
 f152:=func281.trans (congrArg some (by kernel_rfl))
 f162:=func196.trans (congrArg some (by kernel_rfl))
 f197:=func84.trans (congrArg some (by kernel_rfl))
 f217:=func157.trans (congrArg some (by kernel_rfl))
 f224:=func159.trans (congrArg some (by kernel_rfl))
 f225:=func158.trans (congrArg some (by kernel_rfl))
 f227:=func235.trans (congrArg some (by kernel_rfl))
 f228:=func263.trans (congrArg some (by kernel_rfl))
 f232:=func234.trans (congrArg some (by kernel_rfl))
 f234:=func236.trans (congrArg some (by kernel_rfl))
 f236:=func237.trans (congrArg some (by kernel_rfl))
 f260:=func118.trans (congrArg some (by kernel_rfl))
 f266:=func204.trans (congrArg some (by kernel_rfl))
 f271:=func264.trans (congrArg some (by kernel_rfl))
 t0:=underlying0
 a0:=isAgg0
 z0:=sizeOf0
 v0:=zeroValue0
 t3:=underlying3
 a3:=isAgg3
 z3:=sizeOf3
 v3:=zeroValue3
 t4:=underlying4
 a4:=isAgg4
 z4:=sizeOf4
 v4:=zeroValue4
 t5:=underlying5
 a5:=isAgg5
 z5:=sizeOf5
 v5:=zeroValue5
 t9:=underlying9
 a9:=isAgg9
 z9:=sizeOf9
 v9:=zeroValue9
 t21:=underlying21
 a21:=isAgg21
 z21:=sizeOf21
 v21:=zeroValue21
 t46:=underlying137
 a46:=isAgg137
 z46:=sizeOf137
 v46:=zeroValue137
 t105:=underlying172
 a105:=isAgg172
 z105:=sizeOf172
 v105:=zeroValue172
 t116:=underlying379
 a116:=isAgg379
 z116:=sizeOf379
 t117:=underlying380
 a117:=isAgg380
 z117:=sizeOf380
 v117:=zeroValue380
 t119:=underlying285
 a119:=isAgg285
 z119:=sizeOf285
 t124:=underlying383
 a124:=isAgg383
 z124:=sizeOf383
 v124:=zeroValue383
 t138:=underlying287
 a138:=isAgg287
 z138:=sizeOf287
 v138:=zeroValue287
 t139:=underlying288
 a139:=isAgg288
 z139:=sizeOf288
 v139:=zeroValue288
 g3:=by kernel_rfl
 g4:=by kernel_rfl}
theorem G6(s:iY)(w:l6)(hs:s.size<=9223372036854775807):Calls prog 196 #[.string s,.string ⟨#[32]⟩] w (fm (.string ⟨(Lib.trimRightB s.data.toList 32).toArray⟩) w):=
 Any.strings_TrimRight_one Tryz.lays162 s 32 (by decide) w hs
theorem jV(s:iY)(width:Int):(U8 s width).data.toList=List.replicate (min (max width 0) 65536-(s.size:Int)).toNat 32++s.data.toList:=by
 have h:=congrArg (fun b:iY=>b.data.toList) (aW s);simp only[strOfNums_data]at h;unfold U8;rw[strOfNums_data,XW,List.map_replicate];simp only[h]
 rfl
def yX(ws:l8)(i:Nat)(s:iY):List UInt8:=
 if i=0 then s.data.toList++(U8 ⟨#[]⟩ (ws.getD i 0-s.size)).data.toList else[32,32]++(U8 s (ws.getD i 0)).data.toList
def qy(ws:l8)(row:List iY):Nat->List UInt8
 |0=>[]
 |j+1=>qy ws row j++yX ws j (row.getD j ⟨#[]⟩)
theorem vY(s:iY)(q:Int)(hs:s.size<=1000)(hq:q<=1000):(U8 s q).size<=2000:=by
 have h:=congrArg List.length (jV s q);rw[kC,Vr]at h;have h1:s.data.toList.length=s.size:=by simp
 have h0:(U8 s q).data.toList.length=(U8 s q).size:=by simp
 omega
theorem G7(ws:l8)(h:∀ x∈ws,0<=x/\x<=1000)(i:Nat)(s:iY)(hs:s.size<=1000):(yX ws i s).length<=2100:=by
 have h0:0<=ws.getD i 0/\ws.getD i 0<=1000:=by
  rw[QR];rcases hx:ws[i]? with _|x
  ·simp
  ·exact h x (jx hx)
 have h1:s.data.toList.length=s.size:=by simp
 unfold yX;split
 ·rw[kC,jV,kC,Vr]
  show _+(_+0)<=_
  omega
 ·rw[kC,jV,kC,Vr]
  show 2+_<=_
  omega
theorem uQ(ws:l8)(h:∀ x∈ws,0<=x/\x<=1000)(row:List iY)(hr:∀ x∈row,x.size<=1000):∀ j,(qy ws row j).length<=2100*j
 |0=>fi
 |j+1=>by
  have h1:=uQ ws h row hr j;have h2:=G7 ws h j (row.getD j ⟨#[]⟩) (by
   rw[QR];rcases hx:row[j]? with _|x
   ·exact vf _
   ·exact hr x (jx hx))
  rw[qy,kC];omega
theorem U9(wA:iX)(wk:Nat)(ws:l8)(r:SRow)(w:l6)(hw:Rd w w.heap.size 1 wA ws.length (ws.map (Value.int .i64)))(hwl:ws.length<=100)(hwx:∀ x∈ws,0<=x/\x<=1000)(hr:SRok w w.heap.size r):
  Calls prog 147 #[.slice wA ws.length wk,.slice r.A r.n r.k] w (fk (.string ⟨(Lib.trimRightB (qy ws r.l r.n) 32).toArray⟩) w):=by
 have hl:=ze (uP w);have HW:=ze hw;have HR:=ze hr;have HX:=ze hwx;have ho:(ws.length:Int)<=100:=by omega
 obtain⟨rA,rn,rk,rl⟩:=r;have ht:rn<=100:=hr.n;have hn:(rn:Int)<=100:=by omega
 have hg:=ze (uQ ws hwx rl hr.x);clear hw hr hwx
 go_in
 go_wp2_with fail
 go_loopw [11] (fun i wr=>∃ j:Nat,j<=rn/\i=.int .i64 j/\Bldr wr w.heap.size w.heap.size (qy ws rl j)/\Below w.heap.size w wr) (fun i _=>rn-(intOf i).toNat)
 case atStart=>exact⟨0,vf _,rfl,hl.o,fh.alloc fi _⟩
 case round=>
  obtain⟨j,hj,rfl,hf,hb⟩:=hrel;have ha:=ze hf;have HB:=ze hb;have hz:=hb.size;by_cases hi:j<rn
  ·obtain⟨b2,off2,x,e2,hx,d0,x0⟩:=(HR.o.below hb).at_ (j:=j) hi;have e2:rA=some ⟨b2,off2,none⟩:=e2;subst e2;have hx:rl[j]?=some x:=hx;have i0:(0:Int)<=(j:Int):=by omega
   have i1:(j:Int)<(rn:Int):=by omega
   have hm:=hg.o j;clear hf hb;have hd:Hz (rl.getD j ⟨#[]⟩=x):=ze (by rw[QR,hx];rfl);have hk:=ze (show x.data.toList.length=x.size by simp);clear e2 hx;obtain⟨q,hq⟩:∃ q,q=ws.getD j 0:=⟨_,rfl⟩;have HQ:=ze hq.symm;have key:(0<=q/\q<=1000)/\((j<ws.length/\∃ b3 off3,wA=some ⟨b3,off3,none⟩/\wr.cell? ⟨b3,off3+j,none⟩=some (.int .i64 q))\/(¬(j<ws.length)/\q=0)):=by
    by_cases h9:j<ws.length
    ·have h8:ws[j]?=some q:=by rw[hq,QR,kD h9];rfl
     obtain⟨b3,off3,e3,-,hc⟩:=(HW.o.below HB.o).2 (by omega);exact⟨HX.o q (jx h8),.inl ⟨h9,b3,off3,e3,hc j _ (by rw[QL,h8];rfl)⟩⟩
    ·have h8:q=0:=by rw[hq,QR,Y0 (by omega)];rfl
     exact⟨by omega,.inr ⟨h9,h8⟩⟩
   clear hq;obtain⟨⟨q0,q1⟩,key⟩:=key;rcases key with⟨k1,b3,off3,rfl,d1⟩|⟨k1,k2⟩
   ·have i2:(j:Int)<(ws.length:Int):=by omega
    rcases ZW j with h5|h5
    ·subst h5;rw[Vt]at d0;rw[Vt]at d1;have hp:((x.size:Nat):Int)<=1000:=by omega
     have h3:=ze (zS w.heap.size w.heap.size _ x wr ha.o (by omega) hz);have HP:=ze (fun W=>ku ⟨#[]⟩ (q-(x.size:Int)) (vf _) W);have h6:=vY ⟨#[]⟩ (q-(x.size:Int)) (vf _) (by omega);have he:=ze h6;have h4:=ze (fun W(hb:Bldr W w.heap.size w.heap.size (qy ws rl 0++x.data.toList))(hz:w.heap.size<=W.heap.size)=>zS w.heap.size w.heap.size _ (U8 ⟨#[]⟩ (q-(x.size:Int))) W hb (by rw[kC];have:=hk.o;omega) hz);go_wp2_with(first
      |(go_at_call 77;(with_reducible refine(h3.o).mono ?_);rintro r w1 ⟨rfl,h1,h2⟩;have H1:=ze h1;have H2:=ze h2;have h0:=vD hz h2.low.size;clear h1 h2)
      |(go_at_call 195;(with_reducible refine(HP.o _).mono ?_);rintro r w2 ⟨rfl,h1⟩;have H3:=ze (H1.o.below h1);have H4:=ze h1;have h7:=vD h0 h1.size;clear h1)
      |(go_at_call 77;(with_reducible refine(h4.o _ H3.o h7).mono ?_);rintro r w3 ⟨rfl,h1,h2⟩;have H5:=ze h1;have H6:=ze h2;clear h1 h2))
     go_roundw
     case rel=>exact⟨0+1,by omega,by first|rfl|go_num,by rw[qy,hd.o];unfold yX;rw[HQ.o];first|(simpa using H5.o)|(rw[if_neg (by omega)];simpa using H5.o),HB.o.trans ((H2.o.low.trans (H4.o.mono h0)).trans H6.o.low)⟩
     case measure=>simp[intOf];omega
    ·
     have h3:=ze (zS w.heap.size w.heap.size _ ⟨#[32,32]⟩ wr ha.o (by show _+2<=_;omega) hz);have HP:=ze (fun W=>ku x q (by omega) W);have h6:=vY x q x0 q1;have he:=ze h6;have h4:=ze (fun W(hb:Bldr W w.heap.size w.heap.size (qy ws rl j++[32,32]))(hz:w.heap.size<=W.heap.size)=>zS w.heap.size w.heap.size _ (U8 x q) W hb (by rw[kC];show _+2+_<=_;omega) hz);have h5:decide ((0:Int)<(j:Int))=true:=by simp;omega
     go_wp2_with(first
      |(go_at_call 77;(with_reducible refine(h3.o).mono ?_);rintro r w1 ⟨rfl,h1,h2⟩;have H1:=ze h1;have H2:=ze h2;have h0:=vD hz h2.low.size;clear h1 h2)
      |(go_at_call 195;(with_reducible refine(HP.o _).mono ?_);rintro r w2 ⟨rfl,h1⟩;have H3:=ze (H1.o.below h1);have H4:=ze h1;have h7:=vD h0 h1.size;clear h1)
      |(go_at_call 77;(with_reducible refine(h4.o _ H3.o h7).mono ?_);rintro r w3 ⟨rfl,h1,h2⟩;have H5:=ze h1;have H6:=ze h2;clear h1 h2))
     go_roundw
     case rel=>exact⟨j+1,by omega,by first|rfl|go_num,by rw[qy,hd.o];unfold yX;rw[HQ.o];first|(simpa using H5.o)|(rw[if_neg (by omega)];simpa using H5.o),HB.o.trans ((H2.o.low.trans (H4.o.mono h0)).trans H6.o.low)⟩
     case measure=>simp[intOf];omega
   ·have i2:decide ((j:Int)<(ws.length:Int))=false:=by simp;omega
    subst k2;rcases ZW j with h5|h5
    ·subst h5;rw[Vt]at d0;have hp:((x.size:Nat):Int)<=1000:=by omega
     have h3:=ze (zS w.heap.size w.heap.size _ x wr ha.o (by omega) hz);have HP:=ze (fun W=>ku ⟨#[]⟩ (-(x.size:Int)) (vf _) W);have h6:=vY ⟨#[]⟩ (-(x.size:Int)) (vf _) (by omega);have he:=ze h6;have h4:=ze (fun W(hb:Bldr W w.heap.size w.heap.size (qy ws rl 0++x.data.toList))(hz:w.heap.size<=W.heap.size)=>zS w.heap.size w.heap.size _ (U8 ⟨#[]⟩ (-(x.size:Int))) W hb (by rw[kC];have:=hk.o;omega) hz);go_wp2_with(first
      |(go_at_call 77;(with_reducible refine(h3.o).mono ?_);rintro r w1 ⟨rfl,h1,h2⟩;have H1:=ze h1;have H2:=ze h2;have h0:=vD hz h2.low.size;clear h1 h2)
      |(go_at_call 195;(with_reducible refine(HP.o _).mono ?_);rintro r w2 ⟨rfl,h1⟩;have H3:=ze (H1.o.below h1);have H4:=ze h1;have h7:=vD h0 h1.size;clear h1)
      |(go_at_call 77;(with_reducible refine(h4.o _ H3.o h7).mono ?_);rintro r w3 ⟨rfl,h1,h2⟩;have H5:=ze h1;have H6:=ze h2;clear h1 h2))
     go_roundw
     case rel=>exact⟨0+1,by omega,by first|rfl|go_num,by rw[qy,hd.o];unfold yX;rw[HQ.o];first|(simpa using H5.o)|(rw[if_neg (by omega)];simpa using H5.o),HB.o.trans ((H2.o.low.trans (H4.o.mono h0)).trans H6.o.low)⟩
     case measure=>simp[intOf];omega
    ·
     have h3:=ze (zS w.heap.size w.heap.size _ ⟨#[32,32]⟩ wr ha.o (by show _+2<=_;omega) hz);have HP:=ze (fun W=>ku x 0 (by omega) W);have h6:=vY x 0 x0 (by omega);have he:=ze h6;have h4:=ze (fun W(hb:Bldr W w.heap.size w.heap.size (qy ws rl j++[32,32]))(hz:w.heap.size<=W.heap.size)=>zS w.heap.size w.heap.size _ (U8 x 0) W hb (by rw[kC];show _+2+_<=_;omega) hz);have h5:decide ((0:Int)<(j:Int))=true:=by simp;omega
     go_wp2_with(first
      |(go_at_call 77;(with_reducible refine(h3.o).mono ?_);rintro r w1 ⟨rfl,h1,h2⟩;have H1:=ze h1;have H2:=ze h2;have h0:=vD hz h2.low.size;clear h1 h2)
      |(go_at_call 195;(with_reducible refine(HP.o _).mono ?_);rintro r w2 ⟨rfl,h1⟩;have H3:=ze (H1.o.below h1);have H4:=ze h1;have h7:=vD h0 h1.size;clear h1)
      |(go_at_call 77;(with_reducible refine(h4.o _ H3.o h7).mono ?_);rintro r w3 ⟨rfl,h1,h2⟩;have H5:=ze h1;have H6:=ze h2;clear h1 h2))
     go_roundw
     case rel=>exact⟨j+1,by omega,by first|rfl|go_num,by rw[qy,hd.o];unfold yX;rw[HQ.o];first|(simpa using H5.o)|(rw[if_neg (by omega)];simpa using H5.o),HB.o.trans ((H2.o.low.trans (H4.o.mono h0)).trans H6.o.low)⟩
     case measure=>simp[intOf];omega
  ·obtain rfl:j=rn:=by omega
   have hs:decide ((j:Int)<(j:Int))=false:=by simp
   have hm:=hg.o j;have HS:=ze (xT w.heap.size w.heap.size _ wr ha.o hz);clear hi hf hb;go_wp2_with(first
    |(go_at_call 57;(refine HS.o.mono ?_);rintro r7 w7 ⟨rfl,k7⟩;have K7:=ze k7;clear k7)
    |(go_at_call 196;(refine(G6 _ _ (by have hl9:(⟨(qy ws rl j).toArray⟩:iY).size=(qy ws rl j).length:=rfl;omega)).mono ?_);rintro r8 w8 ⟨rfl,e8⟩;subst e8))
   go_ret;exact⟨rfl,HB.o.trans K7.o.low⟩
def j7(ws:l8)(row:List iY):List UInt8:=Lib.trimRightB (qy ws row row.length) 32
def zD(ws:l8)(rows:List (List iY)):List UInt8:=rows.flatMap fun r=>j7 ws r++[10]
theorem Ua(l:List UInt8)(c:UInt8):(Lib.trimRightB l c).length<=l.length:=by
 unfold Lib.trimRightB;rw[List.length_reverse];exact vD (List.dropWhile_sublist _).length_le (Nat.le_of_eq List.length_reverse)
theorem Xe(ws:l8)(rows:List (List iY))(j:Nat)(r:List iY)(h:rows[j]?=some r):zD ws (rows.take (j+1))=(zD ws (rows.take j)++j7 ws r)++[10]:=by
 unfold zD;rw[Vn,h];simp
theorem Jc(ws:l8)(h:∀ x∈ws,0<=x/\x<=1000)(r:List iY)(hr:∀ x∈r,x.size<=1000)(hn:r.length<=100):(j7 ws r).length<=210000:=by
 have h1:=Ua (qy ws r r.length) 32;have h2:=uQ ws h r hr r.length;unfold j7;omega
theorem Ub(A:iX)(n k:Nat)(R:List SRow)(w:l6)(hr:Srs w w.heap.size A n R)(hn:n<=1000):
  Calls prog 111 #[.slice A n k] w fun e w'=>(∃ws:l8,ws.length<=100/\(∀x∈ws,0<=x/\x<=1000)/\e=.returned (.string ⟨(zD ws (R.map (·.l))).toArray⟩))/\Below w.heap.size w w':=by
 have HR:=ze hr;have hd:=ze (fun W(hb:Below w.heap.size w W)=>Kz A n k w.heap.size R W (hr.below hb) hb.size hn);clear hr
 go_in
 go_wp2_with fail;refine(hd.o _ fh).mono ?_;rintro r1 w1 ⟨⟨v,ws,rfl,h1,h2,h3⟩,h4⟩;obtain⟨wA,wk,rfl,hC,hk⟩:=h1.ints;have ht:=ze hk;have hp:=ze h4;have HX:=ze h3;have h9:=h4.size;have hq:=ze (uP w1);have he:=ze h2;clear h1 h2 h3 h4 hk hd;go_wp2_with fail
 go_loopw [11] (fun i wr=>∃ j:Nat,j<=n/\i=.int .i64 j/\Bldr wr w1.heap.size w1.heap.size (zD ws ((R.map (·.l)).take j))/\Below w1.heap.size w1 wr/\(zD ws ((R.map (·.l)).take j)).length<=210001*j) (fun i _=>n-(intOf i).toNat)
 case atStart=>exact⟨0,vf _,rfl,by simpa[zD]using hq.o,fh.alloc fi _,by simp[zD]⟩
 case round=>
  obtain⟨j,hj,rfl,h7,hb,h8⟩:=hrel;have h5:=ze h7;have HB:=ze hb;have hz:=hb.size;have hB:(n:Int)<=1000:=by omega
  have hm:=ze ((hp.o.trans (HB.o.mono h9)));have hy:=HR.o.len;by_cases hi:j<n
  ·obtain⟨b2,off2,r,rfl,hx,d0,h0⟩:=(HR.o.below hm.o).elem hi;have i0:(0:Int)<=(j:Int):=by omega
   have i1:(j:Int)<(n:Int):=by omega
   have hc:=ze (Xe ws (R.map (·.l)) j r.l (by rw[QL,hx];rfl));have hg:=Jc ws HX.o r.l h0.x (by rw[h0.len];exact h0.n);have h6:=ze hg;have ha:=ze h8;have hs:=ze h0.len;have HL:=ze (U9 wA wk ws r wr ((ht.o.below HB.o).mono hz) he.o HX.o (h0.mono (vD h9 hz)));clear hx h0 h7 hb h8 hg;generalize zD ws ((R.map (·.l)).take j)=T at*;have hT:T.length<=300000000:=by have:=ha.o;omega
   have hu:=ze (fun W(hb:Bldr W w1.heap.size w1.heap.size T)(hz:w1.heap.size<=W.heap.size)=>zS w1.heap.size w1.heap.size T ⟨(j7 ws r.l).toArray⟩ W hb (by have:=h6.o;show _+(j7 ws r.l).length<=_;omega) hz);have hv:=ze (fun W(hb:Bldr W w1.heap.size w1.heap.size (T++j7 ws r.l))(hz:w1.heap.size<=W.heap.size)=>zS w1.heap.size w1.heap.size _ ⟨#[10]⟩ W hb (by rw[kC];have:=h6.o;show _+1<=_;omega) hz);have hf:(⟨(Lib.trimRightB (qy ws r.l r.n) 32).toArray⟩:iY)=⟨(j7 ws r.l).toArray⟩:=by unfold j7;rw[hs.o]
   rw[hf]at HL;clear hf;obtain⟨rA,rn,rk,rl⟩:=r;dsimp only at d0;go_wp2_with(first
    |(go_at_call 147;(with_reducible refine(HL.o).mono ?_);rintro r2 w2 ⟨rfl,h1⟩;have H1:=ze (h5.o.below h1);have H2:=ze h1;have ho:=vD hz h1.size;clear h1)
    |(go_at_call 77;(with_reducible refine(hu.o _ H1.o ho).mono ?_);rintro r3 w3 ⟨rfl,h1,h2⟩;have H3:=ze h1;have H4:=ze h2;have hw:=vD ho h2.low.size;clear h1 h2)
    |(go_at_call 77;(with_reducible refine(hv.o _ H3.o hw).mono ?_);rintro r4 w4 ⟨rfl,h1,h2⟩;have H5:=ze h1;have H6:=ze h2;clear h1 h2))
   go_roundw
   case rel=>
    refine⟨j+1,by omega,by go_num,by rw[hc.o];exact H5.o,HB.o.trans (((H2.o.mono hz).trans H4.o.low).trans H6.o.low),?_⟩;rw[hc.o,kC,kC,Jp];have h1:=h6.o;have h2:=ha.o;omega
   case measure=>simp[intOf];omega
  ·obtain rfl:j=n:=by omega
   have hA:decide ((j:Int)<(j:Int))=false:=by simp
   have hl:(R.map (·.l)).take j=R.map (·.l):=Wc (by rw[KS];omega);rw[hl]at h5;have HS:=ze (xT w1.heap.size w1.heap.size _ wr h5.o hz);clear hi h7 hb h8 hl;go_wp2_with(go_at_call 57;(refine HS.o.mono ?_);rintro r7 w7 ⟨rfl,k7⟩;have K7:=ze k7;clear k7);go_ret;exact⟨⟨ws,he.o,HX.o,rfl⟩,hm.o.trans (K7.o.low.mono h9)⟩
end
end Go.Proofs.YtdeogmbfgkepeaaGreatDoor
