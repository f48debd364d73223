/- Contracts for WholeDelivers. -/
import Derived.Deep.RegionHeld3
set_option linter.unusedVariables false
set_option linter.unusedSimpArgs false
set_option maxRecDepth 100000
set_option maxHeartbeats 64000000
namespace Go.Proofs.YtdeogmbfgkepeaaGreatDoor
section
open Go
section
variable{P:Program}{md:Region.Mode}{ops:Array Oper}{Q:Exit->Act->World->Prop}{S:World->Prop}{w:World}{listed:Array Bool}{a:Act}
def zl(ops:Array Oper)(is:List Nat):List (Option Oper):=is.map fun i=>ops[i]?
def JI(md:Region.Mode)(ops:Array Oper):Array Bool->List Nat->Bool
 |_,[]=>true
 |listed,i::is=>Region.free md ops listed i&&((Region.ready md ops listed).contains i&&JI md ops (listed.setIfInBounds i true) is)
def ut:Array Bool->List Nat->Array Bool
 |listed,[]=>listed
 |listed,i::is=>ut (listed.setIfInBounds i true) is
def Tk(P:Program)(ops:Array Oper)(Q:Exit->Act->World->Prop)(S:World->Prop)(K:Act->Prop):List (Option Oper)->Act->Prop
 |[],a=>K a
 |none::_,_=>False
 |some o::l,a=>∃ v,(∀c a w,Q (.panic c) (a.put o.dst v) w->Q (.panic c) a w)/\YieldsIf P ops S o v a/\Tk P ops Q S K l (a.put o.dst v)
theorem Wn(hs:Region.noSelect ops=true)(hS:S w):∀(is:List Nat)(n:Nat)(listed:Array Bool)(a:Act),JI md ops listed is=true->
  Tk P ops Q S (fun a=>wpAnyH P md ops Q S n (ut listed is) a w) (zl ops is) a->wpAnyH P md ops Q S (n+is.length) listed a w
 |[],n,listed,a,_,h=>h
 |i::is,n,listed,a,hb,h=>by
  have e:zl ops (i::is)=ops[i]?::zl ops is:=rfl;rw[e]at h;cases ho:ops[i]? with
  |none=>rw[ho]at h;exact h.elim
  |some o=>
   rw[ho]at h;obtain⟨v,hQ,hy,ht⟩:=h;simp only[JI,Bool.and_eq_true]at hb;exact wpAnyH_take ho hs hb.1 hb.2.1 hQ hy hS (Wn hs hS is n _ _ hb.2.2 ht)
theorem qK(is:List Nat){F:Nat}{L:List (Option Oper)}(hL:zl ops is=L)(hb:(decide (is.length<=F)&&(Region.noSelect ops&&JI md ops listed is))=true)(hS:S w)
  (h:Tk P ops Q S (fun a=>wpAnyH P md ops Q S (F-is.length) (ut listed is) a w) L a):wpAnyH P md ops Q S F listed a w:=by
 subst hL;simp only[Bool.and_eq_true,decide_eq_true_eq]at hb;have:=Wn hb.2.1 hS is (F-is.length) listed a hb.2.2 h
 rwa [Nat.sub_add_cancel hb.1]at this
theorem qz{K:Act->Prop}{o:Oper}{l:List (Option Oper)}{v:Value}(hQ:∀ c a w,Q (.panic c) (a.put o.dst v) w->Q (.panic c) a w)(hw:Region.wanted o (yielded ops a.tmps)=true)(hy:∀ w,S w->(execOp a.eval o).run P w=.ok (.value v) w)(h:Tk P ops Q S K l (a.put o.dst v)):Tk P ops Q S K (some o::l) a:=
 ⟨v,hQ,.inl ⟨hw,hy⟩,h⟩
theorem ej{K:Act->Prop}{o:Oper}{l:List (Option Oper)}(hQ:∀ c a w,Q (.panic c) (a.put o.dst undef) w->Q (.panic c) a w)(hw:Region.wanted o (yielded ops a.tmps)=false)(h:Tk P ops Q S K l (a.put o.dst undef)):Tk P ops Q S K (some o::l) a:=
 ⟨undef,hQ,.inr ⟨hw,rfl⟩,h⟩
theorem qL{K:Act->Prop}(h:K a):Tk P ops Q S K [] a:=h
theorem jj(rs:List Nat){F:Nat}(hr:(decide (1<=F)&&(decide (Region.ready md ops listed=rs)&&!rs.isEmpty))=true)(h:AllReadyH P md ops Q S (F-1) listed a w rs):wpAnyH P md ops Q S F listed a w:=by
 simp only[Bool.and_eq_true,decide_eq_true_eq]at hr;have:=wpAnyH_ready hr.2.1 (by intro e;rw[e]at hr;simp at hr) h
 rwa [Nat.sub_add_cancel hr.1]at this
theorem j6{F i:Nat}{rs:List Nat}{m:Option Oper}{o:Oper}(ho:zl ops [i]=[m])(hm:m=some o)
  (h:∀ K':Act->World->Prop,Shut (∀a w,S w->(S w->wpAnyH P md ops Q S F (listed.setIfInBounds i true) a w)->K' a w)->if Region.wanted o (yielded ops a.tmps)=true then Oper.wp P o a w K' Q else K' (a.put o.dst undef) w)
  (hs:AllReadyH P md ops Q S F listed a w rs):AllReadyH P md ops Q S F listed a w (i::rs):=
 AllReadyH.cons (by subst hm;simpa[zl]using ho) h hs
end
end
section
namespace DigP
def jN(n:Nat):List UInt8:=if h:n<10 then[UInt8.ofNat (48+n)]else jN (n/10)++[UInt8.ofNat (48+n%10)]
termination_by n
def val(l:List UInt8):Nat:=l.foldl (fun a c=>a*10+(c.toNat-48)) 0
def dY(c:UInt8):Prop:=48<=c.toNat/\c.toNat<=57
theorem qH{n:Nat}(h:n<10):jN n=[UInt8.ofNat (48+n)]:=by rw[jN,dif_pos h]
theorem kQ{n:Nat}(h:¬ n<10):jN n=jN (n/10)++[UInt8.ofNat (48+n%10)]:=by rw[jN,dif_neg h]
theorem jJ{k:Nat}(h:k<10):(UInt8.ofNat (48+k)).toNat=48+k:=by
 rw[UInt8.toNat_ofNat'];omega
theorem QY(l:List UInt8)(c:UInt8):val (l++[c])=val l*10+(c.toNat-48):=by
 unfold val;rw[List.foldl_append];rfl
theorem Y6(n:Nat):val (jN n)=n:=by
 induction n using Nat.strongRecOn with
 |_ n ih=>
  by_cases h:n<10
  ·rw[qH h];simp only[val,List.foldl_cons,List.foldl_nil];rw[jJ h];omega
  ·rw[kQ h,QY,ih (n/10) (by omega),jJ (by omega)];omega
theorem JR(n:Nat):∀ c∈jN n,dY c:=by
 induction n using Nat.strongRecOn with
 |_ n ih=>
  by_cases h:n<10
  ·rw[qH h];intro c hc;simp only[List.mem_cons,List.not_mem_nil,or_false]at hc;subst hc;unfold dY;rw[jJ h];omega
  ·rw[kQ h];intro c hc;rcases List.mem_append.1 hc with hc|hc
   ·exact ih _ (by omega) c hc
   ·simp only[List.mem_cons,List.not_mem_nil,or_false]at hc;subst hc;unfold dY;rw[jJ (by omega)];omega
theorem qh(n:Nat):0<(jN n).length:=by
 by_cases h:n<10
 ·rw[qH h];simp
 ·rw[kQ h];simp
theorem WL(n:Nat)(h:1<(jN n).length):∃ c t,jN n=c::t/\c≠48:=by
 induction n using Nat.strongRecOn with
 |_ n ih=>
  by_cases h1:n<10
  ·rw[qH h1]at h;simp at h
  ·rw[kQ h1];by_cases h2:n/10<10
   ·rw[qH h2];refine⟨_,_,rfl,fun e=>?_⟩;have:=congrArg UInt8.toNat e;rw[jJ h2]at this;simp at this;omega
   ·obtain⟨c,t,h3,h4⟩:=ih (n/10) (by omega) (by rw[kQ h2,List.length_append];have:=qh (n/10/10);simp only[List.length_cons,List.length_nil];omega);rw[h3];exact⟨c,_,rfl,h4⟩
theorem QZ(l:List UInt8)(k:Nat):val (l.take k)<=val l:=by
 have key:∀(l:List UInt8)(a b:Nat),a<=b->∀ k,(l.take k).foldl (fun a c=>a*10+(c.toNat-48)) a<=l.foldl (fun a c=>a*10+(c.toNat-48)) b:=by
  intro l
  induction l with
  |nil=>intro a b h k;simpa using h
  |cons x t ih=>
   intro a b h k;cases k with
   |zero=>
    simp only[List.take_zero,List.foldl_nil,List.foldl_cons];have:=ih (b*10+(x.toNat-48)) (b*10+(x.toNat-48)) (Nat.le_refl _) 0;simp only[List.take_zero,List.foldl_nil]at this;omega
   |succ k=>simp only[List.take_succ_cons,List.foldl_cons];exact ih _ _ (by omega) k
 exact key l 0 0 (Nat.le_refl _) k
theorem Zp(l:List UInt8)(k:Nat)(c:UInt8)(h:l[k]?=some c):val (l.take (k+1))=val (l.take k)*10+(c.toNat-48):=by
 rw[List.take_add_one,h,<-QY];rfl
end DigP
end
section
namespace LexP
open DigP
inductive Lx where
 |w (s:List UInt8)
 |d (n:Nat)
 |b
 |nl
def Lx.bs:Lx->List UInt8
 |.w s=>s
 |.d n=>jN n
 |.b=>[32]
 |.nl=>[10]
def cY(c:UInt8):Prop:=97<=c.toNat/\c.toNat<=122
def sep:List Lx->Prop
 |[]=>True
 |.b::_=>True
 |.nl::_=>True
 |_=>False
def jC:List Lx->Prop
 |[]=>True
 |.w s::r=>s≠[]/\(∀c∈s,cY c)/\sep r/\jC r
 |.d n::r=>n<=1073741824/\sep r/\jC r
 |.b::r=>jC r
 |.nl::r=>jC r
abbrev zV(l:List Lx):List UInt8:=l.flatMap Lx.bs
theorem VM:∀{x:Lx}{r:List Lx},jC (x::r)->jC r
 |.w _,_,h=>h.2.2.2
 |.d _,_,h=>h.2.2
 |.b,_,h=>h
 |.nl,_,h=>h
theorem Km{r:List Lx}(h:sep r){c:UInt8}(hc:(zV r)[0]?=some c):c=32\/c=10:=by
 match r,h with
 |[],_=>simp[zV]at hc
 |.b::_,_=>simp[zV,Lx.bs]at hc;exact .inl hc.symm
 |.nl::_,_=>simp[zV,Lx.bs]at hc;exact .inr hc.symm
abbrev Tc:=Int×List UInt8×Int
def tok:Lx->Option Tc
 |.w s=>some (1,s,0)
 |.d n=>some (2,jN n,n)
 |.b=>none
 |.nl=>some (3,[],0)
abbrev toks(l:List Lx):List Tc:=l.filterMap tok
def kH:List (List UInt8)->List Lx
 |[]=>[]
 |[s]=>[.w s]
 |s::r=>.w s:: .b::kH r
def zu(ws:List (List UInt8))(ns:List Nat):List Lx:=kH ws++ns.flatMap (fun n=>[.b,.d n])++[.nl]
theorem VN(ns:List Nat)(hn:∀ n∈ns,n<=1073741824)(r:List Lx)(hr:jC r):jC (ns.flatMap (fun n=>[Lx.b,Lx.d n])++(.nl::r))/\sep (ns.flatMap (fun n=>[Lx.b,Lx.d n])++(.nl::r)):=by
 induction ns with
 |nil=>exact⟨hr,trivial⟩
 |cons n t ih=>
  have:=ih (fun m hm=>hn m (List.mem_cons_of_mem _ hm));exact⟨⟨hn n (List.mem_cons_self ..),this.2,this.1⟩,trivial⟩
theorem yE:∀(ws:List (List UInt8)),(∀s∈ws,s≠[]/\∀ c∈s,cY c)->∀ r,jC r->sep r->jC (kH ws++r)
 |[],_,r,hr,_=>hr
 |[s],h,r,hr,hs=>⟨(h s (by simp)).1,(h s (by simp)).2,hs,hr⟩
 |s::t::q,h,r,hr,hs=>⟨(h s (by simp)).1,(h s (by simp)).2,trivial,yE (t::q) (fun x hx=>h x (List.mem_cons_of_mem _ hx)) r hr hs⟩
theorem jy(ws:List (List UInt8))(ns:List Nat)(hw:∀ s∈ws,s≠[]/\∀ c∈s,cY c)(hn:∀ n∈ns,n<=1073741824)(r:List Lx)(hr:jC r):jC (zu ws ns++r):=by
 have h:=VN ns hn r hr;have:=yE ws hw _ h.1 h.2;simpa[zu]using this
theorem uF:∀ ws:List (List UInt8),toks (kH ws)=ws.map fun s=>(1,s,0)
 |[]=>rfl
 |[s]=>rfl
 |s::t::q=>by
  have:=uF (t::q);simp only[toks]at this⊢;simp only[kH,List.filterMap_cons,tok,List.map_cons];rw[this];rfl
theorem jK(ws:List (List UInt8))(ns:List Nat):toks (zu ws ns)=ws.map (fun s=>(1,s,0))++ns.map (fun n=>(2,jN n,(n:Int)))++[(3,[],0)]:=by
 have h:=uF ws;have h2:toks (ns.flatMap (fun n=>[Lx.b,Lx.d n]))=ns.map (fun n=>(2,jN n,(n:Int))):=by
  induction ns with
  |nil=>rfl
  |cons n t ih=>
   simp only[toks]at ih⊢;simp only[List.flatMap_cons,List.filterMap_append,List.filterMap_cons,List.filterMap_nil,tok,List.map_cons,ih];rfl
 unfold zu toks;rw[List.filterMap_append,List.filterMap_append];simp only[toks]at h h2;rw[h,h2];rfl
end LexP
end
section
namespace HistP
def eZ(b w:Int):Bool:=decide (1<=b/\b<=64/\1<=w/\w<=4096)
theorem Jg{b w:Int}(h:eZ b w=true):1<=b/\b<=64/\1<=w/\w<=4096:=by simpa[eZ]using h
def zX(b w n:Int):Int:=min (n/w) (b-1)
theorem yG{b w n:Int}(hb:1<=b)(hw:1<=w)(hn:0<=n):0<=zX b w n/\zX b w n<b:=by
 have:=Int.ediv_nonneg hn (show 0<=w by omega);unfold zX;omega
def vz(b w:Int)(i:Int)(t:Int):Bool:=decide (0<=t/\zX b w t=i)
def jA(b w:Int)(ts:List Int)(i:Nat):Int:=((ts.filter (vz b w i)).length:Int)
def zo(b w:Int)(m:Nat)(ts:List Int):List Int:=(List.range m).map (jA b w ts)
theorem zE(b w:Int)(m:Nat)(ts:List Int):(zo b w m ts).length=m:=by simp[zo]
theorem Xm(b w:Int)(m:Nat):zo b w m []=List.replicate m 0:=by
 apply List.ext_getElem?;intro i;by_cases hi:i<m<;>simp[zo,jA,hi]
theorem KI(b w:Int)(ts:List Int)(t:Int)(i:Nat):jA b w (ts++[t]) i=jA b w ts i+(if vz b w i t then 1 else 0):=by
 unfold jA;rw[List.filter_append];by_cases hb:vz b w i t<;>simp[hb]
theorem ya(b w:Int)(ts:List Int)(i:Nat):0<=jA b w ts i/\jA b w ts i<=ts.length:=by
 have:=List.length_filter_le (vz b w i) ts;unfold jA;omega
theorem Z1{b w:Int}{m:Nat}{ts:List Int}{i:Nat}{x:Int}(hi:i<m)(hx:(zo b w m ts)[i]?=some x):x=jA b w ts i:=by
 simp[zo,hi]at hx;exact hx.symm
theorem Uh{b w:Int}{m:Nat}{ts:List Int}{t:Int}{q:Nat}(h0:0<=t)(hq:zX b w t=q):
  (zo b w m ts).set q (jA b w ts q+1)=zo b w m (ts++[t]):=by
 apply List.ext_getElem?;intro i;rw[List.getElem?_set];by_cases hi:q=i
 ·subst hi;rw[if_pos rfl,zE];by_cases hm:q<m
  ·rw[if_pos hm];simp[zo,hm,KI,vz,h0,hq]
  ·rw[if_neg hm];simp[zo,hm]
 ·rw[if_neg hi];by_cases hm:i<m
  ·have:vz b w i t=false:=by simp[vz];intro _;omega
   simp[zo,hm,KI,this]
  ·simp[zo,hm]
def sum:List Int->Int
 |[]=>0
 |x::l=>x+sum l
theorem sum_append:∀(l m:List Int),sum (l++m)=sum l+sum m
 |[],m=>by simp[sum]
 |x::l,m=>by simp[sum,sum_append l m,Int.add_assoc]
theorem vZ:∀(l:List Int)(i:Nat)(x y:Int),l[i]?=some x->sum (l.set i y)=sum l+(y-x)
 |[],_,_,_,h=>by simp at h
 |a::l,0,x,y,h=>by
  simp only[List.getElem?_cons_zero,Option.some.injEq]at h;subst h;simp only[List.set_cons_zero,sum];omega
 |a::l,i+1,x,y,h=>by
  rw[List.getElem?_cons_succ]at h;simp only[List.set_cons_succ,sum,vZ l i x y h];omega
end HistP
end
section
namespace PickP
def sum:List Int->Int
 |[]=>0
 |x::l=>x+sum l
theorem sum_append:∀(l m:List Int),sum (l++m)=sum l+sum m
 |[],m=>by simp[sum]
 |x::l,m=>by simp[sum,sum_append l m,Int.add_assoc]
def pre(l:List Int)(k:Nat):Int:=sum (l.take k)
theorem xq(l:List Int):pre l 0=0:=rfl
theorem Za{l:List Int}{k:Nat}{x:Int}(h:l[k]?=some x):pre l (k+1)=pre l k+x:=by
 unfold pre;rw[List.take_add_one,h,sum_append];simp[sum]
theorem vq(l:List Int)(k:Nat)(h:l.length<=k):pre l k=sum l:=by unfold pre;rw[List.take_of_length_le h]
theorem GR(l:List Int)(h:∀ x∈l,0<=x)(k:Nat):pre l k<=pre l (k+1):=by
 rcases Nat.lt_or_ge k l.length with hl|hl
 ·have:=h _ (List.getElem_mem hl);rw[Za (List.getElem?_eq_getElem hl)];omega
 ·rw[vq l k hl,vq l (k+1) (by omega)];omega
theorem KV(l:List Int)(h:∀ x∈l,0<=x)(j:Nat):∀ d:Nat,pre l j<=pre l (j+d)
 |0=>Int.le_refl _
 |d+1=>Int.le_trans (KV l h j d) (GR l h (j+d))
theorem XD(l:List Int)(h:∀ x∈l,0<=x){a b:Nat}(hab:a<=b):pre l a<=pre l b:=by
 have:=KV l h a (b-a);rwa [Nat.add_sub_cancel' hab]at this
theorem XE(l:List Int)(h:∀ x∈l,0<=x)(k:Nat):pre l k<=sum l:=by
 rcases Nat.lt_or_ge k l.length with hl|hl
 ·rw[<-vq l l.length (Nat.le_refl _)];exact XD l h (by omega)
 ·rw[vq l k hl];omega
theorem Zc(l:List Int)(h:∀ x∈l,0<=x)(k:Nat):0<=pre l k:=by have:=XD l h (Nat.zero_le k);rwa [xq]at this
def kZ(l:List Int):Int×Int:=if l.any (fun x=>decide (x<0))then(0,22)else if 2147483648<sum l then(0,21)else if sum l=0 then(0,22)else(sum l,0)
theorem UF{l:List Int}{x:Int}{k:Nat}(h:l[k]?=some x)(hx:x<0):kZ l=(0,22):=by
 unfold kZ;rw[if_pos];rw[List.any_eq_true];exact⟨x,List.mem_of_getElem? h,by simpa using hx⟩
theorem XF{l:List Int}(h:∀ x∈l,0<=x):l.any (fun x=>decide (x<0))=false:=by
 rw[List.any_eq_false];intro x hx;have:=h x hx;simp;omega
theorem UG{l:List Int}(h:∀ x∈l,0<=x)(hs:2147483648<sum l):kZ l=(0,21):=by unfold kZ;rw[XF h,if_neg (by simp),if_pos hs]
theorem XG{l:List Int}(h:∀ x∈l,0<=x)(hs:sum l=0):kZ l=(0,22):=by unfold kZ;rw[XF h,if_neg (by simp),if_neg (by omega),if_pos hs]
theorem KW{l:List Int}(h:∀ x∈l,0<=x)(hs:¬ 2147483648<sum l)(h0:¬ sum l=0):kZ l=(sum l,0):=by unfold kZ;rw[XF h,if_neg (by simp),if_neg hs,if_neg h0]
def fg(w s:Int):Int:=w*s/4294967296
theorem Jw{w s:Int}(h0:0<=w)(h1:w<=4294967295)(h2:0<=s)(h3:s<=4294967295):0<=w*s/\w*s<=18446744065119617025:=by
 have a:=Int.mul_nonneg h0 h2;have b:w*s<=4294967295*s:=Int.mul_le_mul_of_nonneg_right h1 h2;omega
theorem UH{w s:Int}(h0:0<=w)(h1:w<=4294967295)(h2:0<s):0<=fg w s/\fg w s<s:=by
 have a:=Int.mul_nonneg h0 (Int.le_of_lt h2);have b:w*s<=4294967295*s:=Int.mul_le_mul_of_nonneg_right h1 (Int.le_of_lt h2);unfold fg;omega
def Spot(l:List Int)(n:Int)(k:Nat):Prop:=k<l.length/\pre l k<=n/\n<pre l (k+1)
theorem Spot.le{l:List Int}(h:∀ x∈l,0<=x){n n':Int}{k k':Nat}(p:Spot l n k)(p':Spot l n' k')(hn:n<=n'):k<=k':=by
 rcases Nat.lt_or_ge k' k with h1|h0
 ·have:=XD l h (show k'+1<=k from h1);have:=p.2.1;have:=p'.2.2;omega
 ·exact h0
theorem Spot.one{l:List Int}(h:∀ x∈l,0<=x){n:Int}{k k':Nat}(p:Spot l n k)(p':Spot l n k'):k=k':=
 Nat.le_antisymm (p.le h p' (Int.le_refl _)) (p'.le h p (Int.le_refl _))
end PickP
end
section
namespace CumP
def wt(rate:Int):Nat->Int
 |0=>67108864
 |k+1=>wt rate k*rate/(1000*((k:Int)+1))
theorem qW{rate:Int}(h:0<=rate):∀ k,0<=wt rate k
 |0=>by simp[wt]
 |k+1=>Int.ediv_nonneg (Int.mul_nonneg (qW h k) h) (by omega)
theorem Yy{rate:Int}(h:0<=rate)(h1:rate<=4000):∀ k,wt rate k<=wt 4000 k
 |0=>Int.le_refl _
 |k+1=>Int.ediv_le_ediv (by omega) (Int.mul_le_mul (Yy h h1 k) h1 h (qW (by decide) k))
def S(rate:Int):Nat->Int
 |0=>0
 |m+1=>S rate m+wt rate m
theorem GT{rate:Int}(h:0<=rate)(h1:rate<=4000):∀ m,S rate m<=S 4000 m
 |0=>Int.le_refl _
 |m+1=>by have:=GT h h1 m;have:=Yy h h1 m;simp only[S];omega
theorem dI{rate:Int}(h:0<=rate):∀(d m:Nat),S rate m<=S rate (m+d)
 |0,m=>Int.le_refl _
 |d+1,m=>by have:=dI h d m;have:=qW h (m+d);rw[<-Nat.add_assoc];simp only[S];omega
theorem bE{rate:Int}(h:0<=rate){i m:Nat}(hi:i<=m):S rate i<=S rate m:=by
 obtain⟨d,rfl⟩:=Nat.exists_eq_add_of_le hi;exact dI h d i
theorem dJ:S 4000 64<=4294967295:=by decide+kernel
theorem xr{rate:Int}(h:0<=rate)(h1:rate<=4000){m:Nat}(hm:m<=64):0<=S rate m/\S rate m<=4294967295:=by
 have a:=bE h (Nat.zero_le m);have b:=bE h hm;have c:=GT h h1 64;have d:=dJ;have:S rate 0=0:=rfl;omega
theorem Ze{rate:Int}(h:0<=rate)(h1:rate<=4000){k:Nat}(hk:k<64):0<=wt rate k/\wt rate k<=4294967295:=by
 have a:=xr h h1 (m:=k) (by omega);have b:=xr h h1 (m:=k+1) (by omega);have c:=qW h k;simp only[S]at b;omega
theorem GU{rate:Int}(h:0<=rate){m:Nat}(hm:1<=m):67108864<=S rate m:=by
 have:=bE h hm;have:S rate 1=67108864:=by simp[S,wt]
 omega
def Many(rate:Int)(m:Nat):Prop:=1<=m/\m<=64/\(∀i,i<m->0<wt rate i)/\(m<64->wt rate m=0)
theorem Many.not_lt{rate:Int}{m k:Nat}(h:Many rate m)(h':Many rate k):¬ m<k:=by
 intro h0;have a:=h.2.2.2 (by have:=h'.2.1;omega);have b:=h'.2.2.1 m h0;omega
theorem Many.one{rate:Int}{m k:Nat}(h:Many rate m)(h':Many rate k):m=k:=by
 have:=h.not_lt h';have:=h'.not_lt h;omega
def wl(rate:Int)(m:Nat):List Int:=(List.range m).map (wt rate)
theorem yg(rate:Int)(m:Nat):(wl rate m).length=m:=by simp[wl]
theorem bF(rate:Int)(m:Nat):wl rate (m+1)=wl rate m++[wt rate m]:=by unfold wl;rw[List.range_succ,List.map_append];rfl
theorem cR{rate:Int}{m i:Nat}{x:Int}(h:(wl rate m)[i]?=some x):x=wt rate i/\i<m:=by
 have hi:i<m:=by have:=(List.getElem?_eq_some_iff.1 h).1;rwa [yg]at this
 simp[wl,hi]at h;exact⟨h.symm,hi⟩
def cell(rate:Int)(m i:Nat):Int:=S rate (i+1)*4294967296/S rate m
def tb(rate:Int)(m j:Nat):List Int:=(List.range j).map (cell rate m)
theorem vr(rate:Int)(m j:Nat):(tb rate m j).length=j:=by simp[tb]
def Yz(rate:Int)(m j:Nat):List Int:=(List.range m).map fun i=>if i<j then cell rate m i else wt rate i
theorem kz(rate:Int)(m j:Nat):(Yz rate m j).length=m:=by simp[Yz]
theorem GV(rate:Int)(m:Nat):Yz rate m 0=wl rate m:=by unfold Yz wl;simp
theorem bG(rate:Int)(m:Nat):Yz rate m m=tb rate m m:=by
 unfold Yz tb;apply List.map_congr_left;intro i hi;rw[if_pos (List.mem_range.1 hi)]
theorem bH{rate:Int}{m j:Nat}{x:Int}(h:(Yz rate m j)[j]?=some x):x=wt rate j:=by
 have hi:j<m:=by have:=(List.getElem?_eq_some_iff.1 h).1;rwa [kz]at this
 simp[Yz,hi]at h;exact h.symm
theorem GW{rate:Int}{m j:Nat}(hj:j<m):(Yz rate m j).set j (cell rate m j)=Yz rate m (j+1):=by
 apply List.ext_getElem?;intro i;rw[List.getElem?_set,kz];by_cases hi:j=i
 ·subst hi;rw[if_pos rfl,if_pos hj];simp[Yz,hj]
 ·rw[if_neg hi];by_cases hm:i<m
  ·have:(i<j+1)=(i<j):=by apply propext;omega
   simp[Yz,hm,this]
  ·simp[Yz,hm]
def zB(hi lo:Int)(m:Nat):Int:=(hi*18446744073709551616+lo)/2^m
end CumP
end
section
namespace TabP
def Rises(l:List Int):Prop:=∀(i:Nat)(a b:Int),l[i]?=some a->l[i+1]?=some b->a<=b
theorem Rises.far{l:List Int}(h:Rises l):∀(d i:Nat)(a b:Int),l[i]?=some a->l[i+d]?=some b->a<=b
 |0,i,a,b,ha,hb=>by rw[Nat.add_zero,ha]at hb;obtain rfl:=Option.some.inj hb;exact Int.le_refl _
 |d+1,i,a,b,ha,hb=>by
  obtain⟨c,hc⟩:∃ c,l[i+d]?=some c:=by
   have:=(List.getElem?_eq_some_iff.1 hb).1;exact⟨l[i+d]'(by omega),List.getElem?_eq_getElem _⟩
  exact Int.le_trans (h.far d i a c ha hc) (h (i+d) c b hc hb)
theorem Rises.le{l:List Int}(h:Rises l){i j:Nat}{a b:Int}(hij:i<=j)(ha:l[i]?=some a)(hb:l[j]?=some b):a<=b:=by
 obtain⟨d,rfl⟩:=Nat.exists_eq_add_of_le hij;exact h.far d i a b ha hb
noncomputable def fd(l:List Int):Bool:= @decide (Rises l/\l[l.length-1]?=some 4294967296) (Classical.propDecidable _)
theorem qX(l:List Int):fd l=true↔Rises l/\l[l.length-1]?=some 4294967296:=by unfold fd;simp
theorem XJ{l:List Int}{i:Nat}{a b:Int}(ha:l[i]?=some a)(hb:l[i+1]?=some b)(h:b<a):fd l=false:=by
 rw[Bool.eq_false_iff];intro hr;have:=((qX l).1 hr).1 i a b ha hb;omega
theorem XK{l:List Int}{x:Int}(h:Rises l)(hx:l[l.length-1]?=some x):fd l=(x==4294967296):=by
 rw[Bool.eq_iff_iff,qX,beq_iff_eq];constructor
 ·rintro⟨_,h2⟩;rw[hx]at h2;exact Option.some.inj h2
 ·rintro rfl;exact⟨h,hx⟩
theorem XL:fd []=false:=by
 rw[Bool.eq_false_iff];intro hr;have:=((qX []).1 hr).2;simp at this
def First(l:List Int)(x:Int)(k:Nat):Prop:=k<=l.length/\(∀(i:Nat)(a:Int),i<k->l[i]?=some a->a<=x)/\(k<l.length->∃ a,l[k]?=some a/\x<a)
theorem First.not_lt{l:List Int}{x:Int}{j k:Nat}(h:First l x j)(h':First l x k):¬ j<k:=by
 intro h0;obtain⟨a,ha,hx⟩:=h.2.2 (by have:=h'.1;omega);have:=h'.2.1 j a h0 ha;omega
theorem First.one{l:List Int}{x:Int}{j k:Nat}(h:First l x j)(h':First l x k):j=k:=by
 have:=h.not_lt h';have:=h'.not_lt h;omega
theorem First.ex:∀(l:List Int)(x:Int),∃k,First l x k
 |[],x=>⟨0,by simp,fun i a hi=>by omega,fun h=>by simp at h⟩
 |a::l,x=>by
  by_cases h:x<a
  ·exact⟨0,by simp,fun i a hi=>by omega,fun _=>⟨a,rfl,h⟩⟩
  ·obtain⟨k,h1,h2,h3⟩:=First.ex l x;refine⟨k+1,by simp;omega,fun i b hi hb=>?_,fun hk=>?_⟩
   ·cases i with
    |zero=>simp at hb;omega
    |succ i=>simp at hb;exact h2 i b (by omega) hb
   ·obtain⟨b,hb,hx⟩:=h3 (by simp at hk;omega);exact⟨b,by simpa using hb,hx⟩
end TabP
end
section
namespace WhenP
abbrev Seg:=Int×Int×Int
def tk(g:Seg):Int:=min (max g.2.1 0) 1048576
theorem xt(g:Seg):0<=tk g/\tk g<=1048576:=by unfold tk;omega
def tot:List Seg->Int
 |[]=>0
 |g::l=>tk g+tot l
theorem Zf:∀(l m:List Seg),tot (l++m)=tot l+tot m
 |[],m=>by simp[tot]
 |g::l,m=>by simp[tot,Zf l m,Int.add_assoc]
theorem Jz:∀(l:List Seg),0<=tot l/\tot l<=1048576*l.length
 |[]=>by simp[tot]
 |g::l=>by have h:=Jz l;have k:=xt g;simp only[tot,List.length_cons];omega
def upto(l:List Seg)(k:Nat):Int:=tot (l.take k)
theorem JA(l:List Seg):upto l 0=0:=rfl
theorem qY(l:List Seg)(k:Nat)(h:l.length<=k):upto l k=tot l:=by unfold upto;rw[List.take_of_length_le h]
theorem yh{l:List Seg}{k:Nat}{g:Seg}(h:l[k]?=some g):upto l (k+1)=upto l k+tk g:=by
 unfold upto;rw[List.take_add_one,h,Zf];simp[tot]
theorem kA(l:List Seg)(k:Nat):0<=upto l k/\upto l k<=1048576*l.length:=by
 have h:=Jz (l.take k);have:(l.take k).length<=l.length:=by rw[List.length_take];omega
 unfold upto;omega
theorem JB(l:List Seg)(j:Nat):∀ d:Nat,upto l j<=upto l (j+d)
 |0=>Int.le_refl _
 |d+1=>by
  have h:=JB l j d;rcases Nat.lt_or_ge (j+d) l.length with hl|hl
  ·have e:=yh (k:=j+d) (List.getElem?_eq_getElem hl);have:=xt l[j+d];rw[<-Nat.add_assoc,e];omega
  ·rw[qY l (j+(d+1)) (by omega),<-qY l (j+d) hl];exact h
def At(l:List Seg)(n:Nat)(tick:Int)(j:Int)(ok:Bool):Prop:=
 (ok=true/\∃ i:Nat,i<n/\j=i/\upto l i<=tick/\tick<upto l (i+1))\/(ok=false/\j=0/\(tick<0\/upto l n<=tick))
theorem At.one{l:List Seg}{n:Nat}{tick j j':Int}{ok ok':Bool}(h:At l n tick j ok)(h':At l n tick j' ok'):j=j'/\ok=ok':=by
 have mono:∀ a b:Nat,a<=b->upto l a<=upto l b:=fun a b h4=>by
  have:=JB l a (b-a);rwa [Nat.add_sub_cancel' h4]at this
 rcases h with⟨rfl,i,hi,rfl,h1,h2⟩|⟨rfl,rfl,h1⟩<;>rcases h' with⟨rfl,i',hi',rfl,h3,h2'⟩|⟨rfl,rfl,h3⟩
 ·refine⟨?_,rfl⟩;rcases Nat.lt_trichotomy i i' with h0|rfl|h0
  ·have:=mono (i+1) i' h0;omega
  ·rfl
  ·have:=mono (i'+1) i h0;omega
 ·have:=mono (i+1) n hi;have:=(kA l i).1;omega
 ·have:=mono (i'+1) n hi';have:=(kA l i').1;omega
 ·exact⟨rfl,rfl⟩
end WhenP
end
section
namespace ArrP
open CumP TabP WhenP
theorem GX{rate:Int}{m j i:Nat}{x:Int}(h:(tb rate m j)[i]?=some x):x=cell rate m i/\i<j:=by
 have hi:i<j:=by have:=(List.getElem?_eq_some_iff.1 h).1;rwa [vr]at this
 simp[tb,hi]at h;exact⟨h.symm,hi⟩
theorem cf{rate:Int}{m j i:Nat}(h:i<j):(tb rate m j)[i]?=some (cell rate m i):=by simp[tb,h]
theorem JC{rate:Int}(h:0<=rate){m:Nat}(hm:1<=m):cell rate m (m-1)=4294967296:=by
 have p:=GU h hm;unfold cell;rw[show m-1+1=m by omega];exact Int.mul_ediv_cancel_left _ (by omega)
theorem UM{rate:Int}(h:0<=rate)(h1:rate<=4000){m:Nat}(hm:Many rate m):fd (tb rate m m)=true:=by
 rw[qX];have p:=GU h hm.1;refine⟨fun i a b ha hb=>?_,?_⟩
 ·obtain⟨rfl,-⟩:=GX ha;obtain⟨rfl,-⟩:=GX hb;have l:=bE h (show i+1<=i+1+1 by omega);exact Int.ediv_le_ediv (by omega) (Int.mul_le_mul_of_nonneg_right l (by omega))
 ·rw[vr,cf (by have:=hm.1;omega),JC h hm.1]
theorem GY{rate:Int}(h:0<=rate){m j:Nat}{x:Int}(hm:Many rate m)(hx:x<=4294967295)(hf:First (tb rate m m) x j):j<=63:=by
 have h1:=hm.1;have h2:=hm.2.1;rcases Nat.lt_or_ge j m with hj|hj
 ·omega
 ·have:=hf.2.1 (m-1) _ (by omega) (cf (by omega));rw[JC h h1]at this;omega
inductive Run (l:List Seg) (ws:List Int):Nat->Nat->Nat->Nat->Option (Nat×Nat)->Prop
 |done(t a n:Nat):Run l ws 0 t a n (some (a,n))
 |quiet (k t a n i:Nat) (g:Seg) (r:Option (Nat×Nat)) (hi:At l l.length t i true) (hg:l[i]?=some g) (h0:g.2.2=0) (h:Run l ws k (t+1) a n r):Run l ws (k+1) t a n r
 |dry (k t a n i:Nat) (g:Seg) (hi:At l l.length t i true) (hg:l[i]?=some g) (h0:0<g.2.2) (h:ws.length<=a):Run l ws (k+1) t a n none
 |dry2 (k t a n i:Nat) (g:Seg) (x:Int) (m j:Nat) (hi:At l l.length t i true) (hg:l[i]?=some g) (h0:0<g.2.2) (hx:ws[a]?=some x) (hm:Many g.2.2 m) (hj:First (tb g.2.2 m m) x j) (h:ws.length<a+1+j):Run l ws (k+1) t a n none
 |some (k t a n i:Nat) (g:Seg) (x:Int) (m j:Nat) (r:Option (Nat×Nat)) (hi:At l l.length t i true) (hg:l[i]?=some g) (h0:0<g.2.2) (hx:ws[a]?=some x) (hm:Many g.2.2 m) (hj:First (tb g.2.2 m m) x j) (hl:a+1+j<=ws.length) (h:Run l ws k (t+1) (a+1+j) (n+j) r):Run l ws (k+1) t a n r
theorem qk{l:List Seg}{t:Int}{i i':Nat}(h:At l l.length t i true)(h':At l l.length t i' true):i=i':=by
 have:=(h.one h').1;omega
theorem Run.one{l:List Seg}{ws:List Int}{k t a n:Nat}{r r':Option (Nat×Nat)}(h:Run l ws k t a n r)(h':Run l ws k t a n r'):r=r':=by
 induction h generalizing r' with
 |done t a n=>cases h';rfl
 |quiet k t a n i g r hi hg h0 h ih=>
  cases h' with
  |quiet _ _ _ _ i' g' _ hi' hg' h0' h'=>exact ih h'
  |dry _ _ _ _ i' g' hi' hg' h0' h'=>obtain rfl:=qk hi hi';rw[hg]at hg';obtain rfl:=Option.some.inj hg';omega
  |dry2 _ _ _ _ i' g' x m j hi' hg' h0' hx hm hj h'=>obtain rfl:=qk hi hi';rw[hg]at hg';obtain rfl:=Option.some.inj hg';omega
  |some _ _ _ _ i' g' x m j _ hi' hg' h0' hx hm hj hl h'=>obtain rfl:=qk hi hi';rw[hg]at hg';obtain rfl:=Option.some.inj hg';omega
 |dry k t a n i g hi hg h0 h=>
  cases h' with
  |quiet _ _ _ _ i' g' _ hi' hg' h0' h'=>obtain rfl:=qk hi hi';rw[hg]at hg';obtain rfl:=Option.some.inj hg';omega
  |dry _ _ _ _ i' g' hi' hg' h0' h'=>rfl
  |dry2 _ _ _ _ i' g' x m j hi' hg' h0' hx hm hj h'=>rfl
  |some _ _ _ _ i' g' x m j _ hi' hg' h0' hx hm hj hl h'=>omega
 |dry2 k t a n i g x m j hi hg h0 hx hm hj h=>
  cases h' with
  |quiet _ _ _ _ i' g' _ hi' hg' h0' h'=>obtain rfl:=qk hi hi';rw[hg]at hg';obtain rfl:=Option.some.inj hg';omega
  |dry _ _ _ _ i' g' hi' hg' h0' h'=>rfl
  |dry2 _ _ _ _ i' g' x m j hi' hg' h0' hx hm hj h'=>rfl
  |some _ _ _ _ i' g' x' m' j' _ hi' hg' h0' hx' hm' hj' hl h'=>
   obtain rfl:=qk hi hi';rw[hg]at hg';obtain rfl:=Option.some.inj hg';rw[hx]at hx';obtain rfl:=Option.some.inj hx';obtain rfl:=hm.one hm';obtain rfl:=hj.one hj';omega
 |some k t a n i g x m j r hi hg h0 hx hm hj hl h ih=>
  cases h' with
  |quiet _ _ _ _ i' g' _ hi' hg' h0' h'=>obtain rfl:=qk hi hi';rw[hg]at hg';obtain rfl:=Option.some.inj hg';omega
  |dry _ _ _ _ i' g' hi' hg' h0' h'=>omega
  |dry2 _ _ _ _ i' g' x' m' j' hi' hg' h0' hx' hm' hj' h'=>
   obtain rfl:=qk hi hi';rw[hg]at hg';obtain rfl:=Option.some.inj hg';rw[hx]at hx';obtain rfl:=Option.some.inj hx';obtain rfl:=hm.one hm';obtain rfl:=hj.one hj';omega
  |some _ _ _ _ i' g' x' m' j' _ hi' hg' h0' hx' hm' hj' hl' h'=>
   obtain rfl:=qk hi hi';rw[hg]at hg';obtain rfl:=Option.some.inj hg';rw[hx]at hx';obtain rfl:=Option.some.inj hx';obtain rfl:=hm.one hm';obtain rfl:=hj.one hj';exact ih h'
def qw(l:List Seg)(hor:Int):Nat:=(min hor (tot l)).toNat
theorem Run.le{l:List Seg}{ws:List Int}{k t a n:Nat}{r:Option (Nat×Nat)}(h:Run l ws k t a n r):∀(a' n':Nat),r=Option.some (a',n')->a<=a'/\n<=n'/\n'-n<=a'-a:=by
 induction h with
 |done t a n=>intro a' n' e;cases e;omega
 |quiet k t a n i g r hi hg h0 h ih=>exact ih
 |dry k t a n i g hi hg h0 h=>intro a' n' e;cases e
 |dry2 k t a n i g x m j hi hg h0 hx hm hj h=>intro a' n' e;cases e
 |some k t a n i g x m j r hi hg h0 hx hm hj hl h ih=>intro a' n' e;have:=ih a' n' e;omega
end ArrP
end
end Go.Proofs.YtdeogmbfgkepeaaGreatDoor
