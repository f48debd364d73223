/- Contracts for WholeDelivers. -/
import Derived.Shelf.LaysM
import Derived.Shelf.Strings.SplitShaped
import Derived.Test.YtdeogmbfgkepeaaGreatDoorR39
set_option linter.unusedVariables false
set_option linter.unusedSimpArgs false
set_option maxRecDepth 100000
set_option maxHeartbeats 64000000
namespace Go.Proofs.YtdeogmbfgkepeaaGreatDoor
open Go.Proofs.Tryz
section
section
open Go.Shelf Go.RowKit
def Tryz.laysM155_ren:Go.Shelf.Ren:=⟨fun|155=>38|154=>62|138=>81|165=>82|143=>83|166=>77|197=>84|169=>57|195=>114|218=>115|240=>101|241=>116|219=>117|260=>118|276=>131|277=>156|217=>157|225=>158|224=>159|267=>160|266=>204|314=>205|n=>n,fun|9=>9|3=>3|4=>4|72=>123|0=>0|76=>160|105=>172|21=>21|5=>5|70=>120|20=>20|37=>121|75=>159|127=>162|164=>239|46=>137|119=>285|139=>288|138=>287|146=>344|51=>151|80=>127|n=>n,fun|1=>0|3=>1|4=>2|n=>n⟩
theorem Tryz.laysM155:Go.Proofs.LaysM.n155 prog Tryz.laysM155_ren:={
 mixed:=by kernel_rfl
 f138:=func81.trans (congrArg some (by kernel_rfl))
 f143:=func83.trans (congrArg some (by kernel_rfl))
 f154:=func62.trans (congrArg some (by kernel_rfl))
 f155:=func38.trans (congrArg some (by kernel_rfl))
 f165:=func82.trans (congrArg some (by kernel_rfl))
 f166:=func77.trans (congrArg some (by kernel_rfl))
 f169:=func57.trans (congrArg some (by kernel_rfl))
 f195:=func114.trans (congrArg some (by kernel_rfl))
 f197:=func84.trans (congrArg some (by kernel_rfl))
 f217:=func157.trans (congrArg some (by kernel_rfl))
 f218:=func115.trans (congrArg some (by kernel_rfl))
 f219:=func117.trans (congrArg some (by kernel_rfl))
 f224:=func159.trans (congrArg some (by kernel_rfl))
 f225:=func158.trans (congrArg some (by kernel_rfl))
 f240:=func101.trans (congrArg some (by kernel_rfl))
 f241:=func116.trans (congrArg some (by kernel_rfl))
 f260:=func118.trans (congrArg some (by kernel_rfl))
 f266:=func204.trans (congrArg some (by kernel_rfl))
 f267:=func160.trans (congrArg some (by kernel_rfl))
 f276:=func131.trans (congrArg some (by kernel_rfl))
 f277:=func156.trans (congrArg some (by kernel_rfl))
 f314:=func205.trans (congrArg some (by kernel_rfl))
 t0:=underlying0
 a0:=isAgg0
 z0:=sizeOf0
 v0:=zeroValue0
 t3:=underlying3
 a3:=isAgg3
 z3:=sizeOf3
 v3:=zeroValue3
 t4:=underlying4
 a4:=isAgg4
 z4:=sizeOf4
 v4:=zeroValue4
 t5:=underlying5
 a5:=isAgg5
 z5:=sizeOf5
 v5:=zeroValue5
 t9:=underlying9
 a9:=isAgg9
 z9:=sizeOf9
 v9:=zeroValue9
 t20:=underlying20
 a20:=isAgg20
 z20:=sizeOf20
 v20:=zeroValue20
 t21:=underlying21
 a21:=isAgg21
 z21:=sizeOf21
 v21:=zeroValue21
 t37:=underlying121
 a37:=isAgg121
 z37:=sizeOf121
 v37:=zeroValue121
 t46:=underlying137
 a46:=isAgg137
 z46:=sizeOf137
 v46:=zeroValue137
 t51:=underlying151
 a51:=isAgg151
 z51:=sizeOf151
 v51:=zeroValue151
 t70:=underlying120
 a70:=isAgg120
 z70:=sizeOf120
 v70:=zeroValue120
 t72:=underlying123
 a72:=isAgg123
 z72:=sizeOf123
 v72:=zeroValue123
 t75:=underlying159
 a75:=isAgg159
 z75:=sizeOf159
 v75:=zeroValue159
 t76:=underlying160
 a76:=isAgg160
 z76:=sizeOf160
 v76:=zeroValue160
 t105:=underlying172
 a105:=isAgg172
 z105:=sizeOf172
 v105:=zeroValue172
 t119:=underlying285
 a119:=isAgg285
 z119:=sizeOf285
 t127:=underlying162
 a127:=isAgg162
 z127:=sizeOf162
 v127:=zeroValue162
 t138:=underlying287
 a138:=isAgg287
 z138:=sizeOf287
 v138:=zeroValue287
 t139:=underlying288
 a139:=isAgg288
 z139:=sizeOf288
 v139:=zeroValue288
 t146:=underlying344
 a146:=isAgg344
 z146:=sizeOf344
 v146:=zeroValue344
 t164:=underlying239
 a164:=isAgg239
 z164:=sizeOf239
 v164:=zeroValue239
 g1:=by kernel_rfl
 g3:=by kernel_rfl
 g4:=by kernel_rfl
 t80:=underlying127
 a80:=isAgg127
 z80:=sizeOf127
 v80:=zeroValue127
 i0:=by kernel_rfl
 i3:=by kernel_rfl
 i4:=by kernel_rfl
 i5:=by kernel_rfl
 i9:=by kernel_rfl
 i20:=by kernel_rfl
 i21:=by kernel_rfl
 i37:=by kernel_rfl
 i46:=by kernel_rfl
 i51:=by kernel_rfl
 i70:=by kernel_rfl
 i72:=by kernel_rfl
 i75:=by kernel_rfl
 i76:=by kernel_rfl
 i80:=by kernel_rfl
 i105:=by kernel_rfl
 i127:=by kernel_rfl
 i138:=by kernel_rfl
 i139:=by kernel_rfl
 i146:=by kernel_rfl
 i164:=by kernel_rfl
 m1:=by kernel_rfl
 s1_3:=fun w h=>Go.Proofs.cell_of_shapedOpen_int (zero:= #[.int .i64 0]) (t:=3) h (of_decide_eq_true (by kernel_rfl)) (by kernel_rfl) rfl (by kernel_rfl) (by kernel_rfl) underlying3
 m3:=by kernel_rfl
 m4:=by kernel_rfl}
theorem Tryz.Builder_Extra_155:Builder.Extra prog Tryz.laysM155_ren where
 sizeBuilder:=by kernel_rfl
 liesBuilder:=by kernel_rfl
 t5:=underlying5
 a5:=isAgg5
 z5:=sizeOf5
 v5:=zeroValue5
 infoByte:=by kernel_rfl
 cellsByte:=by kernel_rfl
 sizeByte:=by kernel_rfl
 neB5:=by decide
end
open Go.RowKit HB
theorem xd(a b:UInt8):∀(k:Nat)(s:List UInt8),(Lib.replaceK [a] [b] k s).length<=s.length+k
 |0,s=>by simp[Lib.replaceK]
 |k+1,s=>by
  unfold Lib.replaceK;split
  ·omega
  ·have h:=xd a b k (s.drop ((Lib.index s [a]).toNat+[a].length));rw[List.length_drop]at h;rw[kC,kC,XT];have:[b].length=1:=rfl;have:[a].length=1:=rfl;omega
theorem cJ(w:l6)(h:w.ShapedOpen prog):RepOK w:=by
 obtain⟨m,hm⟩:= Tryz.laysM155.s1_3 w h;intro W hb x hx;have h6:=Lib.countB_le (⟨#[32]⟩:iY) (by decide) x.size x fi;refine(Any.strings_ReplaceAll {Tryz.laysM155 with} Tryz.Builder_Extra_155 x ⟨#[32]⟩ ⟨#[43]⟩ m W (by omega) (zf hb hm) (by decide) (by show x.size+_*1<=_;omega)).mono ?_;rintro e w' ⟨rfl,h5⟩;refine⟨⟨_,rfl,?_⟩,h5⟩
 show(Lib.replaceAll x.data.toList [32] [43]).toArray.size<=1000
 rw[Wf];have h0:Lib.replaceAll x.data.toList [32] [43]=Lib.replaceK [32] [43] (Lib.replaceNum x.data.toList [32] (-1)) x.data.toList:=rfl;rw[h0];have h1:=xd 32 43 (Lib.replaceNum x.data.toList [32] (-1)) x.data.toList;have h2:=Lib.count_le x.data.toList [32];have h3:Lib.replaceNum x.data.toList [32] (-1)=Lib.count x.data.toList [32]:=by unfold Lib.replaceNum;rw[if_pos (.inl (by omega))]
 have h4:x.data.toList.length=x.size:=by rw[Wh];rfl
 omega
theorem ba(w:l6):Gm w:=by
 intro V hb q a b c d hr hs;obtain⟨bb,off,hA,h0,hc⟩:=hr.2 (by omega);cases hA;refine(Any.strings_Join Tryz.lays156 Tryz.Builder_Extra_156 q 0 4 [a,b,c,d] ⟨#[10]⟩ V (fun j x hx=>hc j _ ?_) h0 (by simp) (by simp) ?_).mono fun e w' h=>h
 ·match j with
  |0=>cases hx;rfl
  |1=>cases hx;rfl
  |2=>cases hx;rfl
  |3=>cases hx;rfl
  |(k+4)=>simp at hx
 ·have e:∀ y:iY,y.data.toList.length=y.size:=fun y=>by rw[Wh];rfl
  simp only[JF,Vm,Lib.join,List.intercalate,List.intersperse,List.flatten_cons,List.flatten_nil,kC,Zn,KN,e];omega
end
end Go.Proofs.YtdeogmbfgkepeaaGreatDoor
