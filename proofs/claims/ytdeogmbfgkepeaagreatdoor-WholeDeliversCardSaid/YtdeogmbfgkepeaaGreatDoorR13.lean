/- Contracts for WholeDelivers. -/
import Derived.Test.YtdeogmbfgkepeaaGreatDoorR10
import Derived.Test.YtdeogmbfgkepeaaGreatDoorR11
set_option linter.unusedVariables false
set_option linter.unusedSimpArgs false
set_option maxRecDepth 100000
set_option maxHeartbeats 64000000
namespace Go.Proofs.YtdeogmbfgkepeaaGreatDoor
open Go.Proofs.Tryz
open Go.Value renaming int->O
open Go.IntKind renaming i64->J
section
open Go.RowKit HB HeapP Go.Maps
namespace CalP
def bX(k i:Int)(x:En):Bool:=decide (x.k=k)&&decide (x.i=i)
theorem uf{k i:Int}{x:En}:bX k i x=true↔x.k=k/\x.i=i:=by simp[bX]
def wo(l:List En)(k i:Int):List En:=l.filter fun x=>!bX k i x
theorem zY{l:List En}{k i:Int}{x:En}:x∈wo l k i↔x∈l/\¬ (x.k=k/\x.i=i):=by
 unfold wo;rw[iO];simp only[Bool.not_eq_true',Bool.eq_false_iff,ne_eq,uf]
abbrev Uq(l:List En):Prop:=l.Pairwise fun a b=>¬ (a.k=b.k/\a.i=b.i)
def WC(e:En):Prop:=jX e.t/\jX e.k/\jX e.i
theorem Uq.same{l:List En}(h:Uq l){a b:En}(ha:a∈l)(hb:b∈l)(hk:a.k=b.k)(hi:a.i=b.i):a=b:=by
 induction l with
 |nil=>simp at ha
 |cons x l ih=>
  obtain⟨h1,h2⟩:=QK.1 h;rcases qx.1 ha with e1|h3
  ·rcases qx.1 hb with e2|h0
   ·rw[e1,e2]
   ·subst e1;exact absurd ⟨hk,hi⟩ (h1 b h0)
  ·rcases qx.1 hb with e2|h0
   ·subst e2;exact absurd ⟨hk.symm,hi.symm⟩ (h1 a h3)
   ·exact ih h2 h3 h0
theorem Uq.perm{l l':List En}(h:Uq l)(hp:l.Perm l'):Uq l':=(hp.pairwise_iff (fun{a b}(h:¬ (a.k=b.k/\a.i=b.i)) h'=>h ⟨h'.1.symm,h'.2.symm⟩)).1 h
theorem au{l:List En}{k i:Int}(h:∀ x∈l,¬(x.k=k/\x.i=i)):wo l k i=l:=
 List.filter_eq_self.2 fun x hx=>by
  have:=h x hx;cases hh:bX k i x with
  |false=>rfl
  |true=>exact absurd (uf.1 hh) this
theorem WD{l:List En}(hu:Uq l){q:Nat}{x:En}(hx:l[q]?=some x):wo l x.k x.i=l.take q++l.drop (q+1):=by
 obtain⟨hq,he⟩:=qd.1 hx;have h1:l=l.take q++x::l.drop (q+1):=by
  have:=(aa q l).symm
  rwa [dV hq,he]at this
 have h0:=hu;rw[h1,Uq,XZ,QK]at h0;obtain⟨-,⟨h3,-⟩,h4⟩:=h0
 conv=>lhs;rw[h1]
 unfold wo;rw[bV,List.filter_cons];have h2:(!bX x.k x.i x)=false:=by simp[bX]
 simp only[h2,Bool.false_eq_true,if_false];rw[List.filter_eq_self.2,List.filter_eq_self.2]
 ·intro y hy;cases hh:bX x.k x.i y with
  |false=>rfl
  |true=>have:=uf.1 hh;exact absurd ⟨this.1.symm,this.2.symm⟩ (h3 y hy)
 ·intro y hy;cases hh:bX x.k x.i y with
  |false=>rfl
  |true=>have:=uf.1 hh;exact absurd this (h4 y hy x (xz))
theorem ZV{l:List En}(hu:Uq l)(k i:Int):(wo l k i).length+(if∃e∈l,e.k=k/\e.i=i then 1 else 0)=l.length:=by
 by_cases h:∃ e∈l,e.k=k/\e.i=i
 ·obtain⟨e,he,rfl,rfl⟩:=h;obtain⟨q,hq⟩:=iF.1 he;have hl:=(qd.1 hq).1;rw[if_pos ⟨e,he,rfl,rfl⟩,WD hu hq,kC,XT,List.length_drop];omega
 ·rw[if_neg h,au (fun x hx hk=>h ⟨x,hx,hk⟩)]
  rfl
theorem JK{l:List En}(h:Zo l)(k i:Int):Zo (wo l k i):=h.sublist List.filter_sublist
theorem bY{l:List En}(h:Uq l)(k i:Int):Uq (wo l k i):=h.sublist List.filter_sublist
structure Cd(D:DataW Unit)(l:List En):Prop where
 has_:∀ k i,jX k->jX i->(Maps.has D (kl k i)=true↔∃ e∈l,e.k=k/\e.i=i)
 at_:∀ e∈l,∀z,D.atKey (kl e.k e.i) z=.lit (.int .i64 e.t)
 size:Maps.size D=l.length
theorem Cd.empty:Cd (.map []) []:=⟨fun k i _ _=>by simp[Maps.has],fun e he=>by simp at he,rfl⟩
theorem Cd.perm{D:DataW Unit}{l l':List En}(h:Cd D l)(hp:l.Perm l'):Cd D l':=
 ⟨fun k i hk hi=>by rw[h.has_ k i hk hi];exact⟨fun⟨e,he,hh⟩=>⟨e,hp.mem_iff.1 he,hh⟩,fun⟨e,he,hh⟩=>⟨e,hp.mem_iff.2 he,hh⟩⟩,
  fun e he=>h.at_ e (hp.mem_iff.2 he),by rw[h.size,hp.length_eq]⟩
theorem Cd.del{D:DataW Unit}{l:List En}(h:Cd D l)(ht:Maps.Tidy D)(hu:Uq l)(hw:∀ e∈l,WC e){k i:Int}(hk:jX k)(hi:jX i):Cd (D.del (kl k i)) (wo l k i):=by
 refine⟨fun k' i' h3 hi'=>?_,fun e he z=>?_,?_⟩
 ·by_cases h0:kl k' i'=kl k i
  ·obtain⟨rfl,rfl⟩:=xF h3 hi' hk hi h0;rw[Maps.has_del_same];constructor
   ·intro hh;cases hh
   ·rintro⟨e,he,hh⟩;exact absurd hh (zY.1 he).2
  ·rw[Maps.has_del_other h0,h.has_ k' i' h3 hi'];constructor
   ·rintro⟨e,he,rfl,rfl⟩;refine⟨e,zY.2 ⟨he,?_⟩,rfl,rfl⟩;rintro⟨rfl,rfl⟩;exact h0 rfl
   ·rintro⟨e,he,hh⟩;exact⟨e,(zY.1 he).1,hh⟩
 ·obtain⟨h1,h2⟩:=zY.1 he;have h4:=hw e h1;have h0:kl e.k e.i≠kl k i:=fun hh=>h2 (xF h4.2.1 h4.2.2 hk hi hh)
  rw[Maps.atKey_del_other h0];exact h.at_ e h1 z
 ·have h1:=Maps.size_del ht (k:=kl k i);have h2:=ZV hu k i;rw[h.size]at h1;by_cases hh:∃ e∈l,e.k=k/\e.i=i
  ·rw[if_pos ((h.has_ k i hk hi).2 hh)]at h1;rw[if_pos hh]at h2;omega
  ·rw[if_neg (fun h5=>hh ((h.has_ k i hk hi).1 h5))]at h1;rw[if_neg hh]at h2;omega
theorem Cd.put{D:DataW Unit}{l:List En}(h:Cd D l)(ht:Maps.Tidy D)(hu:Uq l)(hw:∀ e∈l,WC e){e:En}(he:WC e):Cd (D.put (kl e.k e.i) (.lit (.int .i64 e.t))) (e::wo l e.k e.i):=by
 have h3:=Wr he.2.1 he.2.2;refine⟨fun k' i' h4 hi'=>?_,fun x hx z=>?_,?_⟩
 ·by_cases h0:kl k' i'=kl e.k e.i
  ·obtain⟨rfl,rfl⟩:=xF h4 hi' he.2.1 he.2.2 h0;rw[Maps.has_put_same ht.isMap h3];exact⟨fun _=>⟨e,xz,rfl,rfl⟩,fun _=>rfl⟩
  ·rw[Maps.has_put_other h0,h.has_ k' i' h4 hi'];constructor
   ·rintro⟨x,hx,rfl,rfl⟩;refine⟨x,yP _ (zY.2 ⟨hx,?_⟩),rfl,rfl⟩;rintro⟨h1,h2⟩;exact h0 (by rw[h1,h2])
   ·rintro⟨x,hx,rfl,rfl⟩;rcases qx.1 hx with rfl|hx
    ·exact absurd rfl h0
    ·exact⟨x,(zY.1 hx).1,rfl,rfl⟩
 ·rcases qx.1 hx with rfl|hx
  ·exact Maps.atKey_put_same ht.isMap h3 _ z
  ·obtain⟨h1,h2⟩:=zY.1 hx;have h5:=hw x h1;have h0:kl x.k x.i≠kl e.k e.i:=fun hh=>h2 (xF h5.2.1 h5.2.2 he.2.1 he.2.2 hh)
   rw[Maps.atKey_put_other h0];exact h.at_ x h1 z
 ·rw[Maps.size_put ht,Zn];have h2:=ZV hu e.k e.i;by_cases hh:∃ x∈l,x.k=e.k/\x.i=e.i
  ·rw[if_pos ((h.has_ _ _ he.2.1 he.2.2).2 hh),h.size];rw[if_pos hh]at h2;omega
  ·rw[if_neg (fun h6=>hh ((h.has_ _ _ he.2.1 he.2.2).1 h6)),h.size];rw[if_neg hh]at h2;omega
structure Ch(L l:List En):Prop where
 heap:jt L
 srt:Zo l
 uq:Uq l
 sub:∀ e∈l,e∈L
 wf:∀ e∈L,WC e
theorem Ch.wfl{L l:List En}(h:Ch L l):∀ e∈l,WC e:=fun e he=>h.wf e (h.sub e he)
theorem Ch.live{L l:List En}(h:Ch L l)(hn:0<L.length)(hm:zA L∈l):∃ t,l=zA L::t:=by
 cases l with
 |nil=>simp at hm
 |cons x t=>
  refine⟨t,?_⟩;have h1:le (zA L) x:=vO h.heap (ke hn) x (h.sub x xz);rcases qx.1 hm with hh|hh
  ·rw[hh]
  ·rw[le_antisymm h1 ((QK.1 h.srt).1 _ hh)]
theorem Ch.stale{L L' l:List En}(h:Ch L l)(hh:jt L')(hp:L.Perm (zA L::L'))(hm:zA L∉l):Ch L' l:=
 ⟨hh,h.srt,h.uq,fun e he=>by
  rcases qx.1 (hp.mem_iff.1 (h.sub e he))with rfl|h1
  ·exact absurd he hm
  ·exact h1,fun e he=>h.wf e (hp.mem_iff.2 (yP _ he))⟩
theorem Ch.pop{L L' t:List En}(h:Ch L (zA L::t))(hh:jt L')(hp:L.Perm (zA L::L')):Ch L' t/\t=wo (zA L::t) (zA L).k (zA L).i:=by
 obtain⟨h1,h2⟩:=QK.1 h.uq;have h4:∀ e∈t,e≠zA L:=fun e he h0=>h1 e he (by rw[h0];exact⟨rfl,rfl⟩)
 refine⟨⟨hh,(QK.1 h.srt).2,h2,fun e he=>?_,fun e he=>h.wf e (hp.mem_iff.2 (yP _ he))⟩,?_⟩
 ·rcases qx.1 (hp.mem_iff.1 (h.sub e (yP _ he)))with h3|h3
  ·exact absurd h3 (h4 e he)
  ·exact h3
 ·have:=WD h.uq (q:=0) (x:=zA L) rfl;rw[this];rfl
theorem Ch.drop{L l:List En}(h:Ch L l)(k i:Int):Ch L (wo l k i):=
 ⟨h.heap,JK h.srt k i,bY h.uq k i,fun e he=>h.sub e (zY.1 he).1,h.wf⟩
theorem av{l:List En}(hu:Uq l)(e:En):Uq (e::wo l e.k e.i):=
 QK.2 ⟨fun x hx hh=>(zY.1 hx).2 ⟨hh.1.symm,hh.2.symm⟩,bY hu _ _⟩
theorem Ch.set{L L' l l':List En}{e:En}(h:Ch L l)(he:WC e)(hh:jt L')(hp:L'.Perm (e::L))(hs:Zo l')(hl:l'.Perm (e::wo l e.k e.i)):Ch L' l':=by
 refine⟨hh,hs,(av h.uq e).perm hl.symm,fun x hx=>?_,fun x hx=>?_⟩
 ·rcases qx.1 (hl.mem_iff.1 hx)with rfl|h1
  ·exact hp.mem_iff.2 xz
  ·exact hp.mem_iff.2 (yP _ (h.sub x (zY.1 h1).1))
 ·rcases qx.1 (hp.mem_iff.1 hx)with rfl|h1
  ·exact he
  ·exact h.wf x h1
theorem Ch.same{L l l':List En}{e:En}(h:Ch L l)(hm:e∈l)(hs:Zo l')(hl:l'.Perm (e::wo l e.k e.i)):Ch L l'/\l'.Perm l:=by
 obtain⟨q,hq⟩:=iF.1 hm;obtain⟨h3,h0⟩:=qd.1 hq;have h1:(e::wo l e.k e.i).Perm l:=by
  rw[WD h.uq hq];have h2:l=l.take q++e::l.drop (q+1):=by
   have:=(aa q l).symm
   rwa [dV h3,h0]at this
  conv=>rhs;rw[h2]
  exact List.perm_middle.symm
 have h2:=hl.trans h1;exact⟨⟨h.heap,hs,h.uq.perm h2.symm,fun x hx=>h.sub x (h2.mem_iff.1 hx),h.wf⟩,h2⟩
end CalP
end
section
open Go.RowKit HB HeapP Go.Maps CalP
namespace CalP
abbrev MT:TypeId:=143
theorem bZ(w:l6):(zeroValue 3).run prog w=.ok (O J 0) w:=by kernel_rfl
theorem eK{a:Int}(h:jX a):plainElem (H:=Unit) prog 3 (O J a)=some (.lit (.int .i64 a),[]):=plainElem_int underlying3 h
theorem zI:jX 0:=by unfold jX;decide
def Mp(w:l6)(m:Option Nat)(n:Nat)(l:List En):Prop:=
 (m=none/\l=[])\/∃ b D,m=some b/\w.ownsMap prog 148 (plainElem prog 3) b n D/\Cd D l
section
variable{w w':l6}{m:Option Nat}{n:Nat}{l:List En}
theorem Mp.kept(h:Mp w m n l){row:Option Nat}(hg:w.grownBy w' row)(hne:∀ b,m=some b->some b≠row):Mp w' m n l:=by
 rcases h with h|⟨b,D,h1,h2,h3⟩
 ·exact .inl h
 ·exact .inr ⟨b,D,h1,h2.kept hg (hne b h1),h3⟩
theorem Mp.below(h:Mp w m n l)(hb:fj w w'):Mp w' m n l:=
 h.kept (row:=none) ⟨hb.os,hb.tape,hb.output,hb.size,fun k hk _=>hb.block k hk⟩ (fun b _=>by simp)
theorem Mp.perm(h:Mp w m n l){l':List En}(hp:l.Perm l'):Mp w m n l':=by
 rcases h with⟨h1,h2⟩|⟨b,D,h1,h2,h3⟩
 ·subst h2;exact .inl ⟨h1,(List.Perm.nil_eq hp).symm⟩
 ·exact .inr ⟨b,D,h1,h2,h3.perm hp⟩
theorem Mp.mono(h:Mp w m n l){n':Nat}(hn:n<=n'):Mp w m n' l:=by
 rcases h with h|⟨b,D,h1,h2,h3⟩
 ·exact .inl h
 ·exact .inr ⟨b,D,h1,h2.mono hn,h3⟩
theorem Mp.lt(h:Mp w m n l){b:Nat}(hm:m=some b):b<w.heap.size:=by
 rcases h with⟨h1,_⟩|⟨b',D,h1,h2,h3⟩
 ·rw[h1]at hm;cases hm
 ·rw[h1]at hm;injection hm with hm;subst hm;exact h2.lt
theorem Mp.only{p g:Nat}(h:Mp w m n l)(ho:Only p g w w')(hp:∀ b,m=some b->b≠p/\b≠g):Mp w' m n l:=by
 rcases h with h|⟨b,D,h1,⟨es,clock,k1,k2,k3,k4⟩,h3⟩
 ·exact .inl h
 ·have hl:b<w.heap.size:=(Vp.1 k1).1;exact .inr ⟨b,D,h1,⟨es,clock,(ho.block b hl (hp b h1).1 (hp b h1).2).trans k1,k2,k3,k4⟩,h3⟩
theorem Mp.look(h:Mp w m n l)(hu:Uq l){k i:Int}(hk:jX k)(hi:jX i):
  ∃c ok,(Instr.lookup MT (.map m) (.agg #[O J k,O J i]) true).run prog w=.ok (.tuple #[O J c,.bool ok]) w/\
   ((ok=true/\∃ e∈l,e.k=k/\e.i=i/\e.t=c)\/(ok=false/\c=0/\∀ e∈l,¬(e.k=k/\e.i=i))):=by
 rcases h with⟨rfl,rfl⟩|⟨b,D,rfl,h2,h3⟩
 ·exact⟨0,false,Maps.look_nil true cellLaw underlying143 (bZ w) (qG hk hi),.inr ⟨rfl,rfl,by simp⟩⟩
 ·obtain⟨v,ps,h1,hv⟩:=h2.look_ok cellLaw underlying143 (bZ w) (eK zI) (qG hk hi);obtain⟨c,rfl,hc,_⟩:=plainElem_int_inv underlying3 hv;have h0:D.atKey (kl k i) (.lit (.int .i64 0))=.lit (.int .i64 c):=congrArg Prod.fst hc;refine⟨c,Maps.has D (kl k i),h1,?_⟩;cases hh:Maps.has D (kl k i)with
  |true=>
   obtain⟨e,he,rfl,rfl⟩:=(h3.has_ k i hk hi).1 hh;refine .inl ⟨rfl,e,he,rfl,rfl,?_⟩;rw[h3.at_ e he]at h0;injection h0 with h0;injection h0 with _ h0
  |false=>
   refine .inr ⟨rfl,?_,fun e he h4=>?_⟩
   ·rw[Maps.atKey_of_not_has hh]at h0;injection h0 with h0;injection h0 with _ h0;exact h0.symm
   ·rw[(h3.has_ k i hk hi).2 ⟨e,he,h4⟩]at hh;cases hh
theorem Mp.drop(h:Mp w m n l)(hu:Uq l)(hw:∀ e∈l,WC e){k i:Int}(hk:jX k)(hi:jX i)(ty:TypeId):
  ∃w',(Builtin.delete_ #[MT,148] ty #[.map m,.agg #[O J k,O J i]]).run prog w=.ok (.tuple #[]) w'/\Mp w' m n (wo l k i)/\w.grownBy w' m:=by
 rcases h with⟨rfl,rfl⟩|⟨b,D,rfl,h2,h3⟩
 ·exact⟨w,Maps.drop_nil cellLaw underlying143 (qG hk hi) ty,.inl ⟨rfl,rfl⟩,⟨rfl,rfl,rfl,fi,fun _ _ _=>rfl⟩⟩
 ·obtain⟨w',h0,r1,r2⟩:=h2.drop cellLaw underlying143 (qG hk hi) ty;exact⟨w',h0,.inr ⟨b,_,rfl,r1,h3.del (h2.tidy cellLaw) hu hw hk hi⟩,r2.grown⟩
theorem Mp.store{b:Nat}(h:Mp w (some b) n l)(hu:Uq l)(hw:∀ e∈l,WC e)(hn:n<maxLen){e:En}(he:WC e):
  ∃w',(Instr.mapUpdate MT (.map (some b)) (.agg #[O J e.k,O J e.i]) (O J e.t)).run prog w=.ok () w'/\Mp w' (some b) (n+1) (e::wo l e.k e.i)/\w.grownBy w' (some b):=by
 rcases h with⟨h1,_⟩|⟨b',D,h1,h2,h3⟩
 ·cases h1
 ·injection h1 with h1;subst h1;obtain⟨w',h0,r1,r2⟩:=h2.store cellLaw underlying143 hn (qG he.2.1 he.2.2) (eK he.1);exact⟨w',h0,.inr ⟨_,_,rfl,r1,h3.put (h2.tidy cellLaw) hu hw he⟩,r2.grown⟩
theorem Mp.len(h:Mp w m n l)(ty:TypeId):(Builtin.len_ #[MT] ty #[.map m]).run prog w=.ok (O J l.length) w:=by
 rcases h with⟨rfl,rfl⟩|⟨b,D,rfl,h2,h3⟩
 ·exact Maps.len_nil underlying143 ty
 ·rw[<-h3.size];exact h2.len underlying143 ty
theorem Mp.clear(h:Mp w m n l)(ty:TypeId):∃ w',(Builtin.clear_ #[MT] ty #[.map m]).run prog w=.ok (.tuple #[]) w'/\Mp w' m n []/\w.grownBy w' m:=by
 rcases h with⟨rfl,rfl⟩|⟨b,D,rfl,⟨es,clock,k1,k2,k3,k4⟩,h3⟩
 ·refine⟨w,?_,.inl ⟨rfl,rfl⟩,⟨rfl,rfl,rfl,fi,fun _ _ _=>rfl⟩⟩;simp[Builtin.clear_,run_underlying underlying143,Result.andThen]
 ·refine⟨ChangeMaps.setBlock w b (.map #[] clock),?_,.inr ⟨b,.map [],rfl,⟨#[],clock,ChangeMaps.heap_setBlock_same k1 _,⟨by simp,MapKept.stamped_empty clock,by simp⟩,vf _,rfl⟩,Cd.empty⟩,?_⟩
  ·simp[Builtin.clear_,run_underlying underlying143,MapKept.run_getObj_map k1,MapKept.run_setObj_map _ k1,Result.andThen,ChangeMaps.setBlock]
  ·exact World.mapTurned.grown ⟨es,clock,#[],clock,k1,rfl⟩
end
theorem Mp.made(w:l6):Mp (w.alloc (.map #[] 0)) (some w.heap.size) 0 []:=
 .inr ⟨_,.map [],rfl,World.ownsMap_made _ _ _ _,Cd.empty⟩
end CalP
end
end Go.Proofs.YtdeogmbfgkepeaaGreatDoor
