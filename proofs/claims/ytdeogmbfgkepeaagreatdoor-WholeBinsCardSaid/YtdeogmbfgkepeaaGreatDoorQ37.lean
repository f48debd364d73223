/- Contracts that WholeBins needs. Each tells its conditions. -/
import Derived.Ground.Names2Prog
import Derived.Shelf.Strings.Trim
import Derived.Test.YtdeogmbfgkepeaaGreatDoorQ17
import Derived.Test.YtdeogmbfgkepeaaGreatDoorQ36
set_option linter.unusedVariables false
set_option linter.unusedSimpArgs false
set_option maxRecDepth 100000
set_option maxHeartbeats 64000000
namespace Go.Proofs.YtdeogmbfgkepeaaGreatDoor
open Go.Proofs.Tryz
section
open Go.RowKit HB
def Tryz.lays162_ren:Go.Shelf.Ren:=⟨fun|162=>196|232=>234|227=>235|234=>236|236=>237|228=>263|271=>264|151=>265|120=>280|197=>84|152=>281|260=>118|137=>291|119=>292|224=>159|225=>158|217=>157|266=>204|n=>n,fun|9=>9|4=>4|3=>3|5=>5|117=>380|116=>379|0=>0|124=>383|21=>21|105=>172|46=>137|119=>285|139=>288|138=>287|n=>n,fun|3=>1|4=>2|n=>n⟩
theorem Tryz.lays162:Go.Proofs.Lays.n162 prog Tryz.lays162_ren:={
 mixed:=by kernel_rfl
 f119:=func292.trans (congrArg some (by kernel_rfl))
 f120:=func280.trans (congrArg some (by kernel_rfl))
 f137:=func291.trans (congrArg some (by kernel_rfl))
 f151:=func265.trans (congrArg some (by kernel_rfl))
 f152:=func281.trans (congrArg some (by kernel_rfl))
 f162:=func196.trans (congrArg some (by kernel_rfl))
 f197:=func84.trans (congrArg some (by kernel_rfl))
 f217:=func157.trans (congrArg some (by kernel_rfl))
 f224:=func159.trans (congrArg some (by kernel_rfl))
 f225:=func158.trans (congrArg some (by kernel_rfl))
 f227:=func235.trans (congrArg some (by kernel_rfl))
 f228:=func263.trans (congrArg some (by kernel_rfl))
 f232:=func234.trans (congrArg some (by kernel_rfl))
 f234:=func236.trans (congrArg some (by kernel_rfl))
 f236:=func237.trans (congrArg some (by kernel_rfl))
 f260:=func118.trans (congrArg some (by kernel_rfl))
 f266:=func204.trans (congrArg some (by kernel_rfl))
 f271:=func264.trans (congrArg some (by kernel_rfl))
 t0:=underlying0
 a0:=isAgg0
 z0:=sizeOf0
 v0:=zeroValue0
 t3:=underlying3
 a3:=isAgg3
 z3:=sizeOf3
 v3:=zeroValue3
 t4:=underlying4
 a4:=isAgg4
 z4:=sizeOf4
 v4:=zeroValue4
 t5:=underlying5
 a5:=isAgg5
 z5:=sizeOf5
 v5:=zeroValue5
 t9:=underlying9
 a9:=isAgg9
 z9:=sizeOf9
 v9:=zeroValue9
 t21:=underlying21
 a21:=isAgg21
 z21:=sizeOf21
 v21:=zeroValue21
 t46:=underlying137
 a46:=isAgg137
 z46:=sizeOf137
 v46:=zeroValue137
 t105:=underlying172
 a105:=isAgg172
 z105:=sizeOf172
 v105:=zeroValue172
 t116:=underlying379
 a116:=isAgg379
 z116:=sizeOf379
 t117:=underlying380
 a117:=isAgg380
 z117:=sizeOf380
 v117:=zeroValue380
 t119:=underlying285
 a119:=isAgg285
 z119:=sizeOf285
 t124:=underlying383
 a124:=isAgg383
 z124:=sizeOf383
 v124:=zeroValue383
 t138:=underlying287
 a138:=isAgg287
 z138:=sizeOf287
 v138:=zeroValue287
 t139:=underlying288
 a139:=isAgg288
 z139:=sizeOf288
 v139:=zeroValue288
 g3:=by kernel_rfl
 g4:=by kernel_rfl}
theorem G6(s:ByteArray)(w:World)(hs:s.size<=9223372036854775807):Calls prog 196 #[.string s,.string ⟨#[32]⟩] w (fm (.string ⟨(Lib.trimRightB s.data.toList 32).toArray⟩) w):=
 Any.strings_TrimRight_one Tryz.lays162 s 32 (by decide) w hs
theorem jV(s:ByteArray)(width:Int):(U8 s width).data.toList=List.replicate (min (max width 0) 65536-(s.size:Int)).toNat 32++s.data.toList:=by
 have h:=congrArg (fun b:ByteArray=>b.data.toList) (aW s);simp only[strOfNums_data]at h;unfold U8;rw[strOfNums_data,List.map_append,List.map_replicate];simp only[h]
 rfl
def yX(ws:List Int)(i:Nat)(s:ByteArray):List UInt8:=
 if i=0 then s.data.toList++(U8 ⟨#[]⟩ (ws.getD i 0-s.size)).data.toList else[32,32]++(U8 s (ws.getD i 0)).data.toList
def qy(ws:List Int)(row:List ByteArray):Nat->List UInt8
 |0=>[]
 |j+1=>qy ws row j++yX ws j (row.getD j ⟨#[]⟩)
theorem vY(s:ByteArray)(q:Int)(hs:s.size<=1000)(hq:q<=1000):(U8 s q).size<=2000:=by
 have h:=congrArg List.length (jV s q);rw[List.length_append,List.length_replicate]at h;have hsz:s.data.toList.length=s.size:=by simp
 have hpz:(U8 s q).data.toList.length=(U8 s q).size:=by simp
 omega
theorem G7(ws:List Int)(h:∀ x∈ws,0<=x/\x<=1000)(i:Nat)(s:ByteArray)(hs:s.size<=1000):(yX ws i s).length<=2100:=by
 have h0:0<=ws.getD i 0/\ws.getD i 0<=1000:=by
  rw[List.getD_eq_getElem?_getD];rcases hx:ws[i]? with _|x
  ·simp
  ·exact h x (List.mem_of_getElem? hx)
 have hsz:s.data.toList.length=s.size:=by simp
 unfold yX;split
 ·rw[List.length_append,jV,List.length_append,List.length_replicate]
  show _+(_+0)<=_
  omega
 ·rw[List.length_append,jV,List.length_append,List.length_replicate]
  show 2+_<=_
  omega
theorem uQ(ws:List Int)(h:∀ x∈ws,0<=x/\x<=1000)(row:List ByteArray)(hr:∀ x∈row,x.size<=1000):∀ j,(qy ws row j).length<=2100*j
 |0=>fi
 |j+1=>by
  have h1:=uQ ws h row hr j;have h2:=G7 ws h j (row.getD j ⟨#[]⟩) (by
   rw[List.getD_eq_getElem?_getD];rcases hx:row[j]? with _|x
   ·exact Nat.zero_le _
   ·exact hr x (List.mem_of_getElem? hx))
  rw[qy,List.length_append];omega
theorem U9(wA:Option Addr)(wk:Nat)(ws:List Int)(r:SRow)(w:World)(hw:Rd w w.heap.size 1 wA ws.length (ws.map (Value.int .i64)))(hwl:ws.length<=100)(hwx:∀ x∈ws,0<=x/\x<=1000)(hr:SRok w w.heap.size r):
  Calls prog 147 #[.slice wA ws.length wk,.slice r.A r.n r.k] w (fk (.string ⟨(Lib.trimRightB (qy ws r.l r.n) 32).toArray⟩) w):=by
 have HB0:=ze (uP w);have HW:=ze hw;have HR:=ze hr;have HX:=ze hwx;have hwl9:(ws.length:Int)<=100:=by omega
 obtain⟨rA,rn,rk,rl⟩:=r;have hrn:rn<=100:=hr.n;have hrn9:(rn:Int)<=100:=by omega
 have HLN:=ze (uQ ws hwx rl hr.x);clear hw hr hwx;go_enter func147,ntmps147;go_wp2_with fail
 go_loopw [11] (fun i wr=>∃ j:Nat,j<=rn/\i=.int .i64 j/\Bldr wr w.heap.size w.heap.size (qy ws rl j)/\Below w.heap.size w wr) (fun i _=>rn-(intOf i).toNat)
 case atStart=>exact⟨0,Nat.zero_le _,rfl,HB0.o,fh.alloc fi _⟩
 case round=>
  obtain⟨j,hj,rfl,hbd,hb⟩:=hrel;have HBD:=ze hbd;have HB:=ze hb;have hz:=hb.size;by_cases hlt:j<rn
  ·obtain⟨b2,off2,x,e2,hx,d0,x0⟩:=(HR.o.below hb).at_ (j:=j) hlt;have e2:rA=some ⟨b2,off2,none⟩:=e2;subst e2;have hx:rl[j]?=some x:=hx;have i0:(0:Int)<=(j:Int):=by omega
   have i1:(j:Int)<(rn:Int):=by omega
   have hln:=HLN.o j;clear hbd hb;have HGD:Hz (rl.getD j ⟨#[]⟩=x):=ze (by rw[List.getD_eq_getElem?_getD,hx];rfl);have hsx:=ze (show x.data.toList.length=x.size by simp);clear e2 hx;obtain⟨q,hq⟩:∃ q,q=ws.getD j 0:=⟨_,rfl⟩;have HQ:=ze hq.symm;have key:(0<=q/\q<=1000)/\((j<ws.length/\∃ b3 off3,wA=some ⟨b3,off3,none⟩/\wr.cell? ⟨b3,off3+j,none⟩=some (.int .i64 q))\/(¬(j<ws.length)/\q=0)):=by
    by_cases h9:j<ws.length
    ·have h8:ws[j]?=some q:=by rw[hq,List.getD_eq_getElem?_getD,List.getElem?_eq_getElem h9];rfl
     obtain⟨b3,off3,e3,-,hc⟩:=(HW.o.below HB.o).2 (by omega);exact⟨HX.o q (List.mem_of_getElem? h8),.inl ⟨h9,b3,off3,e3,hc j _ (by rw[List.getElem?_map,h8];rfl)⟩⟩
    ·have h8:q=0:=by rw[hq,List.getD_eq_getElem?_getD,List.getElem?_eq_none (by omega)];rfl
     exact⟨by omega,.inr ⟨h9,h8⟩⟩
   clear hq;obtain⟨⟨q0,q1⟩,key⟩:=key;rcases key with⟨k1,b3,off3,rfl,d1⟩|⟨k1,k2⟩
   ·have i2:(j:Int)<(ws.length:Int):=by omega
    rcases Nat.eq_zero_or_pos j with hj0|hj0
    ·subst hj0;rw[Nat.add_zero]at d0;rw[Nat.add_zero]at d1;have hxs:((x.size:Nat):Int)<=1000:=by omega
     have HW1:=ze (zS w.heap.size w.heap.size _ x wr HBD.o (by omega) hz);have HP:=ze (fun W=>ku ⟨#[]⟩ (q-(x.size:Int)) (Nat.zero_le _) W);have hps:=vY ⟨#[]⟩ (q-(x.size:Int)) (Nat.zero_le _) (by omega);have HPL:=ze hps;have HW2:=ze (fun W(hb:Bldr W w.heap.size w.heap.size (qy ws rl 0++x.data.toList))(hz:w.heap.size<=W.heap.size)=>zS w.heap.size w.heap.size _ (U8 ⟨#[]⟩ (q-(x.size:Int))) W hb (by rw[List.length_append];have:=hsx.o;omega) hz);go_wp2_with(first
      |(go_at_call 77;(with_reducible refine(HW1.o).mono ?_);rintro r w1 ⟨rfl,h1,h2⟩;have H1:=ze h1;have H2:=ze h2;have hz1:=Nat.le_trans hz h2.low.size;clear h1 h2)
      |(go_at_call 195;(with_reducible refine(HP.o _).mono ?_);rintro r w2 ⟨rfl,h1⟩;have H3:=ze (H1.o.below h1);have H4:=ze h1;have hz2:=Nat.le_trans hz1 h1.size;clear h1)
      |(go_at_call 77;(with_reducible refine(HW2.o _ H3.o hz2).mono ?_);rintro r w3 ⟨rfl,h1,h2⟩;have H5:=ze h1;have H6:=ze h2;clear h1 h2))
     go_roundw
     case rel=>exact⟨0+1,by omega,by first|rfl|go_num,by rw[qy,HGD.o];unfold yX;rw[HQ.o];first|(simpa using H5.o)|(rw[if_neg (by omega)];simpa using H5.o),HB.o.trans ((H2.o.low.trans (H4.o.mono hz1)).trans H6.o.low)⟩
     case measure=>simp[intOf];omega
    ·
     have HW1:=ze (zS w.heap.size w.heap.size _ ⟨#[32,32]⟩ wr HBD.o (by show _+2<=_;omega) hz);have HP:=ze (fun W=>ku x q (by omega) W);have hps:=vY x q x0 q1;have HPL:=ze hps;have HW2:=ze (fun W(hb:Bldr W w.heap.size w.heap.size (qy ws rl j++[32,32]))(hz:w.heap.size<=W.heap.size)=>zS w.heap.size w.heap.size _ (U8 x q) W hb (by rw[List.length_append];show _+2+_<=_;omega) hz);have hj0:decide ((0:Int)<(j:Int))=true:=by simp;omega
     go_wp2_with(first
      |(go_at_call 77;(with_reducible refine(HW1.o).mono ?_);rintro r w1 ⟨rfl,h1,h2⟩;have H1:=ze h1;have H2:=ze h2;have hz1:=Nat.le_trans hz h2.low.size;clear h1 h2)
      |(go_at_call 195;(with_reducible refine(HP.o _).mono ?_);rintro r w2 ⟨rfl,h1⟩;have H3:=ze (H1.o.below h1);have H4:=ze h1;have hz2:=Nat.le_trans hz1 h1.size;clear h1)
      |(go_at_call 77;(with_reducible refine(HW2.o _ H3.o hz2).mono ?_);rintro r w3 ⟨rfl,h1,h2⟩;have H5:=ze h1;have H6:=ze h2;clear h1 h2))
     go_roundw
     case rel=>exact⟨j+1,by omega,by first|rfl|go_num,by rw[qy,HGD.o];unfold yX;rw[HQ.o];first|(simpa using H5.o)|(rw[if_neg (by omega)];simpa using H5.o),HB.o.trans ((H2.o.low.trans (H4.o.mono hz1)).trans H6.o.low)⟩
     case measure=>simp[intOf];omega
   ·have i2:decide ((j:Int)<(ws.length:Int))=false:=by simp;omega
    subst k2;rcases Nat.eq_zero_or_pos j with hj0|hj0
    ·subst hj0;rw[Nat.add_zero]at d0;have hxs:((x.size:Nat):Int)<=1000:=by omega
     have HW1:=ze (zS w.heap.size w.heap.size _ x wr HBD.o (by omega) hz);have HP:=ze (fun W=>ku ⟨#[]⟩ (-(x.size:Int)) (Nat.zero_le _) W);have hps:=vY ⟨#[]⟩ (-(x.size:Int)) (Nat.zero_le _) (by omega);have HPL:=ze hps;have HW2:=ze (fun W(hb:Bldr W w.heap.size w.heap.size (qy ws rl 0++x.data.toList))(hz:w.heap.size<=W.heap.size)=>zS w.heap.size w.heap.size _ (U8 ⟨#[]⟩ (-(x.size:Int))) W hb (by rw[List.length_append];have:=hsx.o;omega) hz);go_wp2_with(first
      |(go_at_call 77;(with_reducible refine(HW1.o).mono ?_);rintro r w1 ⟨rfl,h1,h2⟩;have H1:=ze h1;have H2:=ze h2;have hz1:=Nat.le_trans hz h2.low.size;clear h1 h2)
      |(go_at_call 195;(with_reducible refine(HP.o _).mono ?_);rintro r w2 ⟨rfl,h1⟩;have H3:=ze (H1.o.below h1);have H4:=ze h1;have hz2:=Nat.le_trans hz1 h1.size;clear h1)
      |(go_at_call 77;(with_reducible refine(HW2.o _ H3.o hz2).mono ?_);rintro r w3 ⟨rfl,h1,h2⟩;have H5:=ze h1;have H6:=ze h2;clear h1 h2))
     go_roundw
     case rel=>exact⟨0+1,by omega,by first|rfl|go_num,by rw[qy,HGD.o];unfold yX;rw[HQ.o];first|(simpa using H5.o)|(rw[if_neg (by omega)];simpa using H5.o),HB.o.trans ((H2.o.low.trans (H4.o.mono hz1)).trans H6.o.low)⟩
     case measure=>simp[intOf];omega
    ·
     have HW1:=ze (zS w.heap.size w.heap.size _ ⟨#[32,32]⟩ wr HBD.o (by show _+2<=_;omega) hz);have HP:=ze (fun W=>ku x 0 (by omega) W);have hps:=vY x 0 x0 (by omega);have HPL:=ze hps;have HW2:=ze (fun W(hb:Bldr W w.heap.size w.heap.size (qy ws rl j++[32,32]))(hz:w.heap.size<=W.heap.size)=>zS w.heap.size w.heap.size _ (U8 x 0) W hb (by rw[List.length_append];show _+2+_<=_;omega) hz);have hj0:decide ((0:Int)<(j:Int))=true:=by simp;omega
     go_wp2_with(first
      |(go_at_call 77;(with_reducible refine(HW1.o).mono ?_);rintro r w1 ⟨rfl,h1,h2⟩;have H1:=ze h1;have H2:=ze h2;have hz1:=Nat.le_trans hz h2.low.size;clear h1 h2)
      |(go_at_call 195;(with_reducible refine(HP.o _).mono ?_);rintro r w2 ⟨rfl,h1⟩;have H3:=ze (H1.o.below h1);have H4:=ze h1;have hz2:=Nat.le_trans hz1 h1.size;clear h1)
      |(go_at_call 77;(with_reducible refine(HW2.o _ H3.o hz2).mono ?_);rintro r w3 ⟨rfl,h1,h2⟩;have H5:=ze h1;have H6:=ze h2;clear h1 h2))
     go_roundw
     case rel=>exact⟨j+1,by omega,by first|rfl|go_num,by rw[qy,HGD.o];unfold yX;rw[HQ.o];first|(simpa using H5.o)|(rw[if_neg (by omega)];simpa using H5.o),HB.o.trans ((H2.o.low.trans (H4.o.mono hz1)).trans H6.o.low)⟩
     case measure=>simp[intOf];omega
  ·obtain rfl:j=rn:=by omega
   have hd0:decide ((j:Int)<(j:Int))=false:=by simp
   have hln:=HLN.o j;have HS:=ze (xT w.heap.size w.heap.size _ wr HBD.o hz);clear hlt hbd hb;go_wp2_with(first
    |(go_at_call 57;(refine HS.o.mono ?_);rintro r7 w7 ⟨rfl,k7⟩;have K7:=ze k7;clear k7)
    |(go_at_call 196;(refine(G6 _ _ (by have hl9:(⟨(qy ws rl j).toArray⟩:ByteArray).size=(qy ws rl j).length:=rfl;omega)).mono ?_);rintro r8 w8 ⟨rfl,e8⟩;subst e8))
   go_ret;exact⟨rfl,HB.o.trans K7.o.low⟩
def j7(ws:List Int)(row:List ByteArray):List UInt8:=Lib.trimRightB (qy ws row row.length) 32
def zD(ws:List Int)(rows:List (List ByteArray)):List UInt8:=rows.flatMap fun r=>j7 ws r++[10]
theorem Ua(l:List UInt8)(c:UInt8):(Lib.trimRightB l c).length<=l.length:=by
 unfold Lib.trimRightB;rw[List.length_reverse];exact Nat.le_trans (List.dropWhile_sublist _).length_le (Nat.le_of_eq List.length_reverse)
theorem Xe(ws:List Int)(rows:List (List ByteArray))(j:Nat)(r:List ByteArray)(h:rows[j]?=some r):zD ws (rows.take (j+1))=(zD ws (rows.take j)++j7 ws r)++[10]:=by
 unfold zD;rw[List.take_add_one,h];simp
theorem Jc(ws:List Int)(h:∀ x∈ws,0<=x/\x<=1000)(r:List ByteArray)(hr:∀ x∈r,x.size<=1000)(hn:r.length<=100):(j7 ws r).length<=210000:=by
 have h1:=Ua (qy ws r r.length) 32;have h2:=uQ ws h r hr r.length;unfold j7;omega
theorem Ub(A:Option Addr)(n k:Nat)(R:List SRow)(w:World)(hr:Srs w w.heap.size A n R)(hn:n<=1000):
  Calls prog 111 #[.slice A n k] w fun e w'=>(∃ws:List Int,ws.length<=100/\(∀x∈ws,0<=x/\x<=1000)/\e=.returned (.string ⟨(zD ws (R.map (·.l))).toArray⟩))/\Below w.heap.size w w':=by
 have HR:=ze hr;have HW0:=ze (fun W(hb:Below w.heap.size w W)=>Kz A n k w.heap.size R W (hr.below hb) hb.size hn);clear hr;go_enter func111,ntmps111;go_wp2_with fail;refine(HW0.o _ fh).mono ?_;rintro r1 w1 ⟨⟨v,ws,rfl,h1,h2,h3⟩,h4⟩;obtain⟨wA,wk,rfl,hwk,hrw⟩:=h1.ints;have HRW:=ze hrw;have HB1:=ze h4;have HX:=ze h3;have hz1:=h4.size;have HBF:=ze (uP w1);have HWS:=ze h2;clear h1 h2 h3 h4 hrw HW0;go_wp2_with fail
 go_loopw [11] (fun i wr=>∃ j:Nat,j<=n/\i=.int .i64 j/\Bldr wr w1.heap.size w1.heap.size (zD ws ((R.map (·.l)).take j))/\Below w1.heap.size w1 wr/\(zD ws ((R.map (·.l)).take j)).length<=210001*j) (fun i _=>n-(intOf i).toNat)
 case atStart=>exact⟨0,Nat.zero_le _,rfl,by simpa[zD]using HBF.o,fh.alloc fi _,by simp[zD]⟩
 case round=>
  obtain⟨j,hj,rfl,hbd,hb,hln⟩:=hrel;have HBD:=ze hbd;have HB:=ze hb;have hz:=hb.size;have hn9:(n:Int)<=1000:=by omega
  have hww:=ze ((HB1.o.trans (HB.o.mono hz1)));have hRl:=HR.o.len;by_cases hlt:j<n
  ·obtain⟨b2,off2,r,rfl,hx,d0,hrok⟩:=(HR.o.below hww.o).elem hlt;have i0:(0:Int)<=(j:Int):=by omega
   have i1:(j:Int)<(n:Int):=by omega
   have HTK:=ze (Xe ws (R.map (·.l)) j r.l (by rw[List.getElem?_map,hx];rfl));have hll:=Jc ws HX.o r.l hrok.x (by rw[hrok.len];exact hrok.n);have HLL:=ze hll;have HLN:=ze hln;have HRN:=ze hrok.len;have HL:=ze (U9 wA wk ws r wr ((HRW.o.below HB.o).mono hz) HWS.o HX.o (hrok.mono (Nat.le_trans hz1 hz)));clear hx hrok hbd hb hln hll;generalize zD ws ((R.map (·.l)).take j)=T at*;have hT:T.length<=300000000:=by have:=HLN.o;omega
   have HW1:=ze (fun W(hb:Bldr W w1.heap.size w1.heap.size T)(hz:w1.heap.size<=W.heap.size)=>zS w1.heap.size w1.heap.size T ⟨(j7 ws r.l).toArray⟩ W hb (by have:=HLL.o;show _+(j7 ws r.l).length<=_;omega) hz);have HW2:=ze (fun W(hb:Bldr W w1.heap.size w1.heap.size (T++j7 ws r.l))(hz:w1.heap.size<=W.heap.size)=>zS w1.heap.size w1.heap.size _ ⟨#[10]⟩ W hb (by rw[List.length_append];have:=HLL.o;show _+1<=_;omega) hz);have hle:(⟨(Lib.trimRightB (qy ws r.l r.n) 32).toArray⟩:ByteArray)=⟨(j7 ws r.l).toArray⟩:=by unfold j7;rw[HRN.o]
   rw[hle]at HL;clear hle;obtain⟨rA,rn,rk,rl⟩:=r;dsimp only at d0;go_wp2_with(first
    |(go_at_call 147;(with_reducible refine(HL.o).mono ?_);rintro r2 w2 ⟨rfl,h1⟩;have H1:=ze (HBD.o.below h1);have H2:=ze h1;have hz2:=Nat.le_trans hz h1.size;clear h1)
    |(go_at_call 77;(with_reducible refine(HW1.o _ H1.o hz2).mono ?_);rintro r3 w3 ⟨rfl,h1,h2⟩;have H3:=ze h1;have H4:=ze h2;have hz3:=Nat.le_trans hz2 h2.low.size;clear h1 h2)
    |(go_at_call 77;(with_reducible refine(HW2.o _ H3.o hz3).mono ?_);rintro r4 w4 ⟨rfl,h1,h2⟩;have H5:=ze h1;have H6:=ze h2;clear h1 h2))
   go_roundw
   case rel=>
    refine⟨j+1,by omega,by go_num,by rw[HTK.o];exact H5.o,HB.o.trans (((H2.o.mono hz).trans H4.o.low).trans H6.o.low),?_⟩;rw[HTK.o,List.length_append,List.length_append,List.length_singleton];have h1:=HLL.o;have h2:=HLN.o;omega
   case measure=>simp[intOf];omega
  ·obtain rfl:j=n:=by omega
   have hd0:decide ((j:Int)<(j:Int))=false:=by simp
   have htk:(R.map (·.l)).take j=R.map (·.l):=List.take_of_length_le (by rw[List.length_map];omega);rw[htk]at HBD;have HS:=ze (xT w1.heap.size w1.heap.size _ wr HBD.o hz);clear hlt hbd hb hln htk;go_wp2_with(go_at_call 57;(refine HS.o.mono ?_);rintro r7 w7 ⟨rfl,k7⟩;have K7:=ze k7;clear k7);go_ret;exact⟨⟨ws,HWS.o,HX.o,rfl⟩,hww.o.trans (K7.o.low.mono hz1)⟩
end
end Go.Proofs.YtdeogmbfgkepeaaGreatDoor
