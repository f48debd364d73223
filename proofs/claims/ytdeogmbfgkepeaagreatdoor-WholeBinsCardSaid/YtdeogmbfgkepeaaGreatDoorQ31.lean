/- Contracts that WholeBins needs. Each tells its conditions. -/
import Derived.Test.YtdeogmbfgkepeaaGreatDoorQ19
import Derived.Test.YtdeogmbfgkepeaaGreatDoorQ28
set_option linter.unusedVariables false
set_option linter.unusedSimpArgs false
set_option maxRecDepth 100000
set_option maxHeartbeats 64000000
namespace Go.Proofs.YtdeogmbfgkepeaaGreatDoor
open Go.Proofs.Tryz
open Go.Value renaming int->O
open Go.IntKind renaming i64->J,u64->U
section
open Go.RowKit HB Go.Maps CalP
structure TrOk(T:Int)(t:Tr):Prop where
 a0:0<=t.ar
 a1:t.ar<=T
 bo:t.bo=-1\/(t.ar<=t.bo/\t.bo<=T)
 al:t.al=-1\/(0<=t.bo/\t.bo<=t.al/\t.al<=T)
structure Inv(T:Int)(trips:List Tr)(L:HK->List Wt)(R:List (List Rid)):Prop where
 tr:∀ t∈trips,TrOk T t
 wt:∀ k,∀x∈L k,0<=x.id/\x.id<trips.length/\∀ t,trips[x.id.toNat]?=some t->t.bo=-1/\t.al=-1
 inc:∀ k,(L k).Pairwise (fun x y=>x.id<y.id)
 uni:∀ k k' x x',x∈L k->x'∈L k'->x.id=x'.id->k=k'
 ri:∀ l∈R,∀r∈l,0<=r.id/\r.id<trips.length/\∀ t,trips[r.id.toNat]?=some t->0<=t.bo
section
variable{T T':Int}{trips:List Tr}{L:HK->List Wt}{R:List (List Rid)}
theorem TrOk.later{t:Tr}(h:TrOk T t)(hT:T<=T'):TrOk T' t:=
 ⟨h.a0,Int.le_trans h.a1 hT,h.bo.imp id (fun h=>⟨h.1,by omega⟩),h.al.imp id (fun h=>⟨h.1,h.2.1,by omega⟩)⟩
theorem Inv.later(h:Inv T trips L R)(hT:T<=T'):Inv T' trips L R:=
 ⟨fun t ht=>(h.tr t ht).later hT,h.wt,h.inc,h.uni,h.ri⟩
theorem Inv.none(R:List (List Rid))(hR:∀ l∈R,l=[])(T:Int):Inv T [] (fun _=>[]) R:=
 ⟨fun t ht=>(by cases ht),fun k x hx=>(by cases hx),fun k=>List.Pairwise.nil,fun k k' x x' hx=>(by cases hx),fun l hl r hr=>(by have:=hR l hl;subst this;cases hr)⟩
theorem Inv.adm(h:Inv T trips L R)(t:Tr)(x:Wt)(k:HK)(h0:0<=t.ar)(h1:t.ar<=T)(hb:t.bo=-1)(ha:t.al=-1)(hx:x.id=trips.length):Inv T (trips++[t]) (qf L k (L k++[x])) R:=by
 have old:∀ k',∀y∈qf L k (L k++[x]) k',(y∈L k')\/(y=x/\k'=k):=by
  intro k' y hy;by_cases hk:k'=k
  ·subst hk;rw[jp]at hy;rcases List.mem_append.1 hy with hy|hy
   ·exact .inl hy
   ·exact .inr ⟨List.mem_singleton.1 hy,rfl⟩
  ·rw[zU _ _ hk]at hy;exact .inl hy
 refine⟨?_,?_,?_,?_,?_⟩
 ·intro u hu;rcases List.mem_append.1 hu with hu|hu
  ·exact h.tr u hu
  ·obtain rfl:=List.mem_singleton.1 hu;exact⟨h0,h1,.inl hb,.inl ha⟩
 ·intro k' y hy;rcases old k' y hy with hy|⟨rfl,-⟩
  ·obtain⟨a,b,c⟩:=h.wt k' y hy;refine⟨a,by rw[List.length_append];simp;omega,fun u hu=>c u ?_⟩;rw[List.getElem?_append_left (by omega)]at hu;exact hu
  ·refine⟨by omega,by rw[List.length_append];simp;omega,fun u hu=>?_⟩;rw[List.getElem?_append_right (by omega),hx,show((trips.length:Nat):Int).toNat-trips.length=0 by omega]at hu;simp at hu;subst hu;exact⟨hb,ha⟩
 ·intro k';by_cases hk:k'=k
  ·subst hk;rw[jp];refine List.pairwise_append.2 ⟨h.inc k',List.pairwise_singleton _ _,fun y hy z hz=>?_⟩;obtain rfl:=List.mem_singleton.1 hz;have:=(h.wt k' y hy).2.1;omega
  ·rw[zU _ _ hk];exact h.inc k'
 ·intro k1 k2 y y' hy hy' he;rcases old k1 y hy with h1|⟨e1,e2⟩
  ·rcases old k2 y' hy' with h2|⟨e3,e4⟩
   ·exact h.uni _ _ _ _ h1 h2 he
   ·have:=(h.wt k1 y h1).2.1;rw[he,e3,hx]at this;omega
  ·rcases old k2 y' hy' with h2|⟨e3,e4⟩
   ·have:=(h.wt k2 y' h2).2.1;rw[<-he,e1,hx]at this;omega
   ·rw[e2,e4]
 ·intro l hl r hr;obtain⟨a,b,c⟩:=h.ri l hl r hr;refine⟨a,by rw[List.length_append];simp;omega,fun u hu=>c u ?_⟩;rw[List.getElem?_append_left (by omega)]at hu;exact hu
theorem zx{α:Type}{l:List α}{i j:Nat}{x y:α}(h:(l.set i x)[j]?=some y):(i=j/\y=x/\j<l.length)\/(i≠j/\l[j]?=some y):=by
 rw[List.getElem?_set]at h;split at h
 ·rename_i e;subst e;split at h
  ·exact .inl ⟨rfl,(Option.some.inj h).symm,by assumption⟩
  ·cases h
 ·exact .inr ⟨by assumption,h⟩
theorem Inv.o(h:Inv T trips L R){i:Nat}{l l':List Rid}{r:Rid}{t:Tr}(hl:R[i]?=some l)(hr:r∈l)(hs:∀ x∈l',x∈l)(ht:trips[r.id.toNat]?=some t):
  Inv T (trips.set r.id.toNat {t with al:=T}) L (R.set i l'):=by
 have hrr:=h.ri l (List.mem_of_getElem? hl) r hr;have hb:=hrr.2.2 t ht;have hok:=h.tr t (List.mem_of_getElem? ht);refine⟨?_,?_,h.inc,h.uni,?_⟩
 ·intro u hu;obtain⟨j,hj⟩:=List.getElem?_of_mem hu;rcases zx hj with⟨rfl,rfl,-⟩|⟨-,hj⟩
  ·refine⟨hok.a0,hok.a1,hok.bo,.inr ⟨hb,?_,Int.le_refl _⟩⟩;rcases hok.bo with h1|h1
   ·omega
   ·exact h1.2
  ·exact h.tr u (List.mem_of_getElem? hj)
 ·intro k x hx;obtain⟨a,b,c⟩:=h.wt k x hx;refine⟨a,by rw[List.length_set];exact b,fun u hu=>?_⟩;rcases zx hu with⟨e,rfl,-⟩|⟨-,hu⟩
  ·have:=(c t (e▸ht)).1;omega
  ·exact c u hu
 ·intro m hm x hx;have key:0<=x.id/\x.id<trips.length/\∀ t,trips[x.id.toNat]?=some t->0<=t.bo:=by
   obtain⟨j,hj⟩:=List.getElem?_of_mem hm;rcases zx hj with⟨rfl,rfl,-⟩|⟨-,hj⟩
   ·exact h.ri l (List.mem_of_getElem? hl) x (hs x hx)
   ·exact h.ri m (List.mem_of_getElem? hj) x hx
  refine⟨key.1,by rw[List.length_set];exact key.2.1,fun u hu=>?_⟩;rcases zx hu with⟨e,rfl,-⟩|⟨-,hu⟩
  ·exact hb
  ·exact key.2.2 u hu
theorem Inv.in_(h:Inv T trips L R){k:HK}{x:Wt}{tl:List Wt}(hk:L k=x::tl){i:Nat}{l:List Rid}{t:Tr}(c z:Int)(hl:R[i]?=some l)(ht:trips[x.id.toNat]?=some t)(hT:0<=T):
  Inv T (trips.set x.id.toNat {t with car:=c,bo:=T}) (qf L k tl) (R.set i (l++[⟨x.id,z⟩])):=by
 have hx:=h.wt k x (by rw[hk];exact List.mem_cons_self ..);have hbt:=hx.2.2 t ht;have hok:=h.tr t (List.mem_of_getElem? ht);have sub:∀ k',∀y∈qf L k tl k',y∈L k'/\y.id≠x.id:=by
  intro k' y hy;by_cases hkk:k'=k
  ·subst hkk;rw[jp]at hy;have hp:=h.inc k';rw[hk,List.pairwise_cons]at hp;exact⟨by rw[hk];exact List.mem_cons_of_mem _ hy,by have:=hp.1 y hy;omega⟩
  ·rw[zU _ _ hkk]at hy;exact⟨hy,fun e=>hkk (h.uni k' k y x hy (by rw[hk];exact List.mem_cons_self ..) e)⟩
 refine⟨?_,?_,?_,?_,?_⟩
 ·intro u hu;obtain⟨j,hj⟩:=List.getElem?_of_mem hu;rcases zx hj with⟨rfl,rfl,-⟩|⟨-,hj⟩
  ·exact⟨hok.a0,hok.a1,.inr ⟨hok.a1,Int.le_refl _⟩,.inl hbt.2⟩
  ·exact h.tr u (List.mem_of_getElem? hj)
 ·intro k' y hy;obtain⟨hy1,hy2⟩:=sub k' y hy;obtain⟨a,b,c⟩:=h.wt k' y hy1;refine⟨a,by rw[List.length_set];exact b,fun u hu=>?_⟩;rcases zx hu with⟨e,rfl,-⟩|⟨-,hu⟩
  ·have:=hx.1;omega
  ·exact c u hu
 ·intro k';by_cases hkk:k'=k
  ·subst hkk;rw[jp];have hp:=h.inc k';rw[hk,List.pairwise_cons]at hp;exact hp.2
  ·rw[zU _ _ hkk];exact h.inc k'
 ·intro k1 k2 y y' hy hy' he;exact h.uni _ _ _ _ (sub k1 y hy).1 (sub k2 y' hy').1 he
 ·intro m hm r hr;have key:(0<=r.id/\r.id<trips.length/\∀ t,trips[r.id.toNat]?=some t->0<=t.bo)\/r.id=x.id:=by
   obtain⟨j,hj⟩:=List.getElem?_of_mem hm;rcases zx hj with⟨rfl,rfl,-⟩|⟨-,hj⟩
   ·rcases List.mem_append.1 hr with hr|hr
    ·exact .inl (h.ri l (List.mem_of_getElem? hl) r hr)
    ·obtain rfl:=List.mem_singleton.1 hr;exact .inr rfl
   ·exact .inl (h.ri m (List.mem_of_getElem? hj) r hr)
  rcases key with key|key
  ·refine⟨key.1,by rw[List.length_set];exact key.2.1,fun u hu=>?_⟩;rcases zx hu with⟨e,rfl,-⟩|⟨-,hu⟩
   ·exact hT
   ·exact key.2.2 u hu
  ·refine⟨by omega,by rw[List.length_set];omega,fun u hu=>?_⟩;rcases zx hu with⟨e,rfl,-⟩|⟨e,hu⟩
   ·exact hT
   ·exact absurd (by rw[key]) e
theorem Yo:∀(l:List Wt)(n:Int)(b:Nat),l.Pairwise (fun x y=>x.id<y.id)->(∀x∈l,n<=x.id/\x.id<n+b)->l.length<=b
 |[],_,_,_,_=>Nat.zero_le _
 |x::l,n,b,hp,hx=>by
  rw[List.pairwise_cons]at hp;have h0:=hx x (List.mem_cons_self ..);have hd:∃ b',b=b'+(x.id-n).toNat+1:=⟨b-(x.id-n).toNat-1,by omega⟩;obtain⟨b',rfl⟩:=hd;have:=Yo l (x.id+1) b' hp.2 (fun y hy=>by have h1:=hp.1 y hy;have h2:=hx y (List.mem_cons_of_mem _ hy);omega);rw[List.length_cons];omega
theorem Inv.len(h:Inv T trips L R)(k:HK):(L k).length<=trips.length:=
 Yo (L k) 0 trips.length (h.inc k) (fun x hx=>by have:=h.wt k x hx;omega)
theorem Inv.ok(h:Inv T trips L R)(hT:T<=100000000):∀ t∈trips,t.ok:=fun t ht=>by
 have:=h.tr t ht;refine⟨by have:=this.a0;omega,by have:=this.a1;omega,?_,?_,?_,?_⟩
 ·rcases this.bo with h|h
  ·omega
  ·have:=this.a0;omega
 ·rcases this.bo with h|h<;>omega
 ·rcases this.al with h|h<;>omega
 ·rcases this.al with h|h<;>omega
theorem Inv.done(h:Inv T trips L R):∀ t∈trips,dn t=true->0<=t.bo-t.ar/\0<=t.al-t.bo/\t.bo-t.ar<=T/\t.al-t.bo<=T:=fun t ht hd=>by
 have h1:=h.tr t ht;have h2:0<=t.al:=by
  unfold dn Tr.ph at hd;split at hd
  ·assumption
  ·split at hd<;>simp at hd
 have h3:=h1.a0;have h4:=h1.a1;rcases h1.al with h|h
 ·omega
 ·rcases h1.bo with h'|h'
  ·omega
  ·omega
end
end
section
open Go.RowKit HB
def yd(a n:Int):Int:=if 0<=n/\n<64 then bits .or .u64 a (IntKind.u64.wrap (2^(n%64).toNat))else a
def ye(b n:Int):Int:=if 64<=n/\n<128 then bits .or .u64 b (IntKind.u64.wrap (2^(n%64).toNat))else b
theorem Ut(a b n:Int)(w:World):Calls prog 231 #[zy a b,O J n] w (fk (zy (yd a n) (ye b n)) w):=by
 by_cases h0:0<=n
 ·by_cases h1:n<128
  ·have hq:n/64=0\/n/64=1:=by omega
   have ha:=Y5 n h0 h1;have hm0:0<=n%64:=by omega
   have hm1:n%64<64:=by omega
   rcases hq with hq|hq
   ·have hv1:yd a n=bits .or .u64 a (IntKind.u64.wrap (2^(n%64).toNat)):=by unfold yd;rw[if_pos (by omega)]
    have hv2:ye b n=b:=by unfold ye;rw[if_neg (by omega)]
    rw[hv1,hv2];clear hv1 hv2;go_enter func231,ntmps231;go_wp2_with fail;go_region
    all_goals
     go_wp2_with fail;refine bodyPost_ret (v:=zy (bits .or .u64 a (IntKind.u64.wrap (2^(n%64).toNat))) b) (by rw[zi rfl];go_simp) rfl ?_;exact⟨rfl,by go_grown⟩
   ·have hv1:ye b n=bits .or .u64 b (IntKind.u64.wrap (2^(n%64).toNat)):=by unfold ye;rw[if_pos (by omega)]
    have hv2:yd a n=a:=by unfold yd;rw[if_neg (by omega)]
    rw[hv1,hv2];clear hv1 hv2;go_enter func231,ntmps231;go_wp2_with fail;go_region
    all_goals
     go_wp2_with fail;refine bodyPost_ret (v:=zy a (bits .or .u64 b (IntKind.u64.wrap (2^(n%64).toNat)))) (by rw[zi rfl];go_simp) rfl ?_;exact⟨rfl,by go_grown⟩
  ·have hv1:yd a n=a:=by unfold yd;rw[if_neg (by omega)]
   have hv2:ye b n=b:=by unfold ye;rw[if_neg (by omega)]
   rw[hv1,hv2];clear hv1 hv2;go_enter func231,ntmps231;go_wp2_with fail;refine bodyPost_ret (v:=zy a b) (by rw[zi rfl];go_simp) rfl ?_;exact⟨rfl,by go_grown⟩
 ·have hv1:yd a n=a:=by unfold yd;rw[if_neg (by omega)]
  have hv2:ye b n=b:=by unfold ye;rw[if_neg (by omega)]
  rw[hv1,hv2];clear hv1 hv2;go_enter func231,ntmps231;go_wp2_with fail;refine bodyPost_ret (v:=zy a b) (by rw[zi rfl];go_simp) rfl ?_;exact⟨rfl,by go_grown⟩
def Gu(l:List Rid):Int:=l.foldl (fun a r=>yd a r.to_) 0
def Gv(l:List Rid):Int:=l.foldl (fun b r=>ye b r.to_) 0
theorem Jp{α β:Type}(f:β->α->β)(z:β)(l:List α)(j:Nat)(r:α)(h:l[j]?=some r):(l.take (j+1)).foldl f z=f ((l.take j).foldl f z) r:=by
 rw[List.take_add_one,h,List.foldl_append];rfl
theorem KN(c:Cr)(A:Option Addr)(n k B:Nat)(l:List Rid)(w:World)(h:Rds w B A n l)(hB:B<=w.heap.size)(hn:n<=1000000):Calls prog 251 #[c.v A n k] w (fk (zy (Gu l) (Gv l)) w):=by
 have HR:=ze h;have HB0:=ze (show fj w (((w.alloc (.cells (c.cells A n k) 265)).alloc (.cells #[O U 0,O U 0] 325)).alloc (.cells #[O U 0,O U 0] 325))from by go_grown);have HB2:=ze (Bx.two (w.alloc (.cells (c.cells A n k) 265)) [O U 0,O U 0] [O U 0,O U 0] 325 325 (by decide));clear h;go_enter func251,ntmps251;go_wp2_with fail
 go_loopw [9] (fun i wr=>∃(j:Nat)(x y:Int),j<=n/\i=O J j/\x=(l.take j).foldl (fun a r=>yd a r.to_) 0/\y=(l.take j).foldl (fun b r=>ye b r.to_) 0/\Bx wr (w.heap.size+1) [O U 0,O U 0]/\Bx wr (w.heap.size+2) [O U x,O U y]/\fj w wr) (fun i _=>n-(intOf i).toNat)
 case atStart=>exact⟨0,0,0,Nat.zero_le _,rfl,rfl,rfl,by have:=HB2.o.1;simpa using this,by have:=HB2.o.2;simpa using this,HB0.o⟩
 case round=>
  obtain⟨j,x,y,hj,rfl,hx,hy,h1,h2,hb⟩:=hrel;have HX:=ze hx;have HY:=ze hy;clear hx hy;have H1:=ze h1;have H2:=ze h2;have HW:=ze hb;have hz1:=h1.lt (by simp);have hz2:=h2.lt (by simp);obtain⟨⟨c0,c1⟩,f0,f1⟩:=h1.o2;obtain⟨⟨d0,d1⟩,g0,g1⟩:=h2.o2;clear h1 h2 hb;by_cases hlt:j<n
  ·obtain⟨b,off,r,rfl,hbb,hg,q0,q1⟩:=(HR.o.below (HW.o.mono hB)).at_ hlt;have i0:(0:Int)<=(j:Int):=by omega
   have i1:(j:Int)<(n:Int):=by omega
   have HBB:=ze hbb;have HG:=ze hg;clear hg hbb;go_wp2_with(go_at_call 231;refine(Ut x y r.to_ _).mono ?_;rintro e w1 ⟨rfl,hb1⟩;have H11:=ze (H1.o.below (fh.alloc fi _ |>.trans (hb1.mono (by simp))) hz1);have H21:=ze (H2.o.below (fh.alloc fi _ |>.trans (hb1.mono (by simp))) hz2);have HB1:=ze hb1;clear c0 c1 d0 d1 f0 f1 g0 g1;obtain⟨⟨d0,d1⟩,g0,g1⟩:=H21.o.o2);go_roundw
   case rel=>
    refine⟨j+1,yd x r.to_,ye y r.to_,by omega,by go_num,by rw[Jp _ _ _ _ _ HG.o,HX.o],by rw[Jp _ _ _ _ _ HG.o,HY.o],(H11.o.setOther (by simp) _).setOther (by simp) _,by have:=(H21.o.set 0 (O U (yd x r.to_))).set 1 (O U (ye y r.to_));simpa using this,?_⟩;exact((((HW.o.alloc HW.o.size _).trans (HB1.o.mono (by have:=HW.o.size;simp;omega))).setCell (p:=⟨w.heap.size+1+1,0,none⟩) (by simp only;omega) _).setCell (p:=⟨w.heap.size+1+1,1,none⟩) (by simp only;omega) _)
   case measure=>simp[intOf];omega
  ·obtain rfl:j=n:=by omega
   go_wp2_with fail;have hxa:x=Gu l:=by rw[HX.o,List.take_of_length_le (by rw[HR.o.2];exact fi)];rfl
   have hya:y=Gv l:=by rw[HY.o,List.take_of_length_le (by rw[HR.o.2];exact fi)];rfl
   refine bodyPost_ret (v:=zy x y) (by rw[zi rfl];go_simp) rfl ?_;exact⟨by rw[hxa,hya],(HW.o.setCell (p:=⟨w.heap.size+1,0,none⟩) (Nat.le_succ _) _).setCell (p:=⟨w.heap.size+1,1,none⟩) (Nat.le_succ _) _⟩
def kK(a b c d e f fl dir:Int)(l:List Rid):Bool:=
 kL (Gu l) (Gv l) fl||(if dir=0 then zF c d e f fl 1||zF c d e f fl (-1)else zF c d e f fl dir||(zF c d e f fl (-dir)&&!jx a b fl dir))
theorem KO{a b c d e f fl dir:Int}{l:List Rid}(h:kK a b c d e f fl dir l=false):StopP a b c d e f fl dir:=by
 unfold kK at h;rw[Bool.or_eq_false_iff]at h;refine⟨fun h0=>?_,fun h0=>?_⟩
 ·have h2:=h.2;rw[if_pos h0,Bool.or_eq_false_iff]at h2;exact h2
 ·have h2:=h.2;rw[if_neg h0,Bool.or_eq_false_iff]at h2;refine⟨h2.1,fun h3=>?_⟩;have h4:=h2.2;rw[h3]at h4;simpa using h4
theorem Z5(a b c d e f fl:Int)(cr:Cr)(A:Option Addr)(n k B:Nat)(l:List Rid)(w:World)(h:Rds w B A n l)(hB:B<=w.heap.size)(hn:n<=1000000)(hf: -1000<=fl)(hf1:fl<=1000000)(hd: -1<=cr.dir)(hd1:cr.dir<=1):
  Calls prog 230 #[qI a b c d e f,cr.v A n k,O J fl] w (fk (.bool (kK a b c d e f fl cr.dir l)) w):=by
 have HR:=ze h;have HB0:=ze (show fj w ((w.alloc (.cells (vF a b c d e f) 366)).alloc (.cells (cr.cells A n k) 265))from by go_grown);have HB2:=ze (Bx.two w [O U a,O U b,O U c,O U d,O U e,O U f] [O J cr.pos,O J cr.dir,O J cr.mode,O J cr.left,.bool cr.wt,.slice A n k] 366 265 (by simp));have HC:=ze (fun(D:Int)(V:World)=>qP a b c d e f fl D V);have HBY:=ze (fun(D:Int)(V:World)=>jT a b c d e f fl D V hf hf1);have HRD:=ze (fun(V:World)(hb:fj w V)=>KN cr A n k B l V (h.below (hb.mono hB)) (by have:=hb.size;omega) hn);clear h;go_enter func230,ntmps230;go_upto_region 1 with(fail)
 go_upto_if 7 with(first
  |(go_at_call 257;refine(ki (Gu l) (Gv l) fl _).mono ?_;rintro r w2 ⟨rfl,hb2⟩;have HW2:=ze (HW1.o.trans (hb2.mono HW1.o.size));have S2':=ze (S1.o.below hb2 (by omega));have C2':=ze (C1.o.below hb2 (by omega));have hz2:=hb2.size;clear hb2)
  |(go_at_call 251;refine(HRD.o _ HB0.o).mono ?_;rintro r w1 ⟨rfl,hb1⟩;have HW1:=ze (HB0.o.trans (hb1.mono (by simp;omega)));have S1:=ze (HB2.o.1.below hb1 (by simp;omega));have C1:=ze (HB2.o.2.below hb1 (by simp));have hz1:w.heap.size+1<w1.heap.size:=(by have:=hb1.size;simp at this;omega);clear hb1))
 have HW:=ze HW2.o;have HS:=ze S2'.o;have HCR:=ze C2'.o;have hz:w.heap.size+1<w2.heap.size:=by omega
 obtain⟨⟨a0,a1,a2,a3,a4,a5⟩,-⟩:=HS.o.o6;obtain⟨⟨d0,d1,d2,d3,d4,d5⟩,-⟩:=HCR.o.o6;clear HW1 S1 C1 HW2 S2' C2' HB0 HB2 HRD hz1 hz2;rcases Bool.eq_false_or_eq_true (kL (Gu l) (Gv l) fl)with hx|hx
 ·rw[hx];go_wp2_with fail;go_ret;exact⟨j8 (by unfold kK;simp[hx]),HW.o⟩
 ·rw[hx];have HXF:=ze hx;clear hx;by_cases h0:cr.dir=0
  ·rw[h0]at d1;rcases Bool.eq_false_or_eq_true (zF c d e f fl 1)with hy|hy
   ·go_wp2_with(go_at_call 255;refine(HC.o 1 _).mono ?_;rintro r w3 ⟨rfl,hb3⟩;rw[hy]);go_ret;exact⟨j8 (by unfold kK;simp[HXF.o,h0,hy]),HW.o.trans (hb3.mono HW.o.size)⟩
   ·go_wp2_with(first
     |(go_at_call 255;with_reducible refine(HC.o (-1) _).mono ?_;rintro r w4 ⟨rfl,hb4⟩)
     |(go_at_call 255;with_reducible refine(HC.o 1 _).mono ?_;rintro r w3 ⟨rfl,hb3⟩;rw[hy];have HW3:=ze (HW.o.trans (hb3.mono HW.o.size));have S3:=ze (HS.o.below hb3 (by omega));clear hb3 a0 a1 a2 a3 a4 a5;obtain⟨⟨a0,a1,a2,a3,a4,a5⟩,-⟩:=S3.o.o6))
    go_ret;exact⟨j8 (by unfold kK;simp[HXF.o,h0,hy]),HW3.o.trans (hb4.mono HW3.o.size)⟩
  ·rcases Bool.eq_false_or_eq_true (zF c d e f fl cr.dir)with hy|hy
   ·go_wp2_with(go_at_call 255;refine(HC.o cr.dir _).mono ?_;rintro r w3 ⟨rfl,hb3⟩;rw[hy]);go_ret;exact⟨j8 (by unfold kK;simp[HXF.o,h0,hy]),HW.o.trans (hb3.mono HW.o.size)⟩
   ·have hneg:cr.dir≠-cr.dir:=by omega
    rcases Bool.eq_false_or_eq_true (zF c d e f fl (-cr.dir))with hv|hv
    ·go_wp2_with(first
      |(go_at_call 256;with_reducible refine(HBY.o cr.dir _).mono ?_;rintro r w5 ⟨rfl,hb5⟩)
      |(go_at_call 255;with_reducible refine(HC.o (-cr.dir) _).mono ?_;rintro r w4 ⟨rfl,hb4⟩;rw[hv];have HW4:=ze (HW3.o.trans (hb4.mono HW3.o.size));have S4:=ze (S3.o.below hb4 (by omega));have C4:=ze (C3.o.below hb4 (by omega));clear hb4 a0 a1 a2 a3 a4 a5 d0 d1 d2 d3 d4 d5;obtain⟨⟨a0,a1,a2,a3,a4,a5⟩,-⟩:=S4.o.o6;obtain⟨⟨d0,d1,d2,d3,d4,d5⟩,-⟩:=C4.o.o6)
      |(go_at_call 255;with_reducible refine(HC.o cr.dir _).mono ?_;rintro r w3 ⟨rfl,hb3⟩;rw[hy];have HW3:=ze (HW.o.trans (hb3.mono HW.o.size));have S3:=ze (HS.o.below hb3 (by omega));have C3:=ze (HCR.o.below hb3 (by omega));have hz3:=hb3.size;clear hb3 a0 a1 a2 a3 a4 a5 d0 d1 d2 d3 d4 d5;obtain⟨⟨a0,a1,a2,a3,a4,a5⟩,-⟩:=S3.o.o6;obtain⟨⟨d0,d1,d2,d3,d4,d5⟩,-⟩:=C3.o.o6))
     go_ret;exact⟨j8 (by unfold kK;simp[HXF.o,h0,hy,hv]),HW4.o.trans (hb5.mono HW4.o.size)⟩
    ·go_wp2_with(first
      |(go_at_call 255;with_reducible refine(HC.o (-cr.dir) _).mono ?_;rintro r w4 ⟨rfl,hb4⟩;rw[hv])
      |(go_at_call 255;with_reducible refine(HC.o cr.dir _).mono ?_;rintro r w3 ⟨rfl,hb3⟩;rw[hy];have HW3:=ze (HW.o.trans (hb3.mono HW.o.size));have S3:=ze (HS.o.below hb3 (by omega));have C3:=ze (HCR.o.below hb3 (by omega));have hz3:=hb3.size;clear hb3 a0 a1 a2 a3 a4 a5 d0 d1 d2 d3 d4 d5;obtain⟨⟨a0,a1,a2,a3,a4,a5⟩,-⟩:=S3.o.o6;obtain⟨⟨d0,d1,d2,d3,d4,d5⟩,-⟩:=C3.o.o6))
     go_ret;exact⟨j8 (by unfold kK;simp[HXF.o,h0,hy,hv]),HW3.o.trans (hb4.mono HW3.o.size)⟩
end
section
open List renaming setIfInBounds_toArray->s0q,set_cons_zero->s1q,set_cons_succ->s2q
open Go.RowKit HB
def cM(p g dir:Int)(r:Ending):Prop:=∃ N F:Int,r=.returned (.tuple #[O J (N+1),O J F])/\0<=N/\N<=3000/\0<=p+dir*N/\p+dir*N<=127*g
structure AhP(p g dir N F:Int):Prop where
 n0:0<=N
 n1:N<=3000
 f0:0<=F
 f1:F<=127
 e:dir≠0->p+dir*N=F*g
 p0:0<=p+dir*N
 p1:p+dir*N<=127*g
theorem AhP.first{p g f r dir:Int}(h:Plc p g f r)(g0:1<=g)(g1:g<=16)(d0: -1<=dir)(d1:dir<=1):AhP p g dir (dx g f r dir) (dy f r dir):=by
 have hr:=h.rng g0 g1;have e1:(f+1)*g=f*g+g:=by rw[Int.add_mul,Int.one_mul]
 have:=h.e;have:=h.f0;have:=h.f1;have:=h.r0;have:=h.r1;have hl:=h.l;unfold dx dy;by_cases h0:r=0
 ·rw[if_pos h0,if_pos h0];refine⟨by omega,by omega,by omega,by omega,fun _=>?_,?_,?_⟩<;>rw[Int.mul_zero]<;>omega
 ·rw[if_neg h0,if_neg h0];have hf:f≠127:=fun e=>h0 (hl e)
  have h5:(f+1)*g<=127*g:=Int.mul_le_mul_of_nonneg_right (by omega) (by omega);have hd:dir=1\/dir=0\/dir=-1:=by omega
  rcases hd with rfl|rfl|rfl
  ·rw[if_pos (by decide),if_pos (by decide)];exact⟨by omega,by omega,by omega,by omega,fun _=>by omega,by omega,by omega⟩
  ·rw[if_neg (by decide),if_neg (by decide)];exact⟨by omega,by omega,by omega,by omega,fun h=>absurd rfl h,by omega,by omega⟩
  ·rw[if_neg (by decide),if_neg (by decide)];exact⟨by omega,by omega,by omega,by omega,fun _=>by omega,by omega,by omega⟩
theorem AhP.next{p g dir N F:Int}(h:AhP p g dir N F)(g0:1<=g)(g1:g<=16)(p0:0<=p)(p1:p<=127*g)(hd:(dir=1/\F<127)\/(dir=-1/\0<F)):AhP p g dir (N+g) (F+dir):=by
 have h1:=h.n0;have h3:=h.f0;have h4:=h.f1;have h5:=h.p0;have h6:=h.p1;rcases hd with⟨rfl,h7⟩|⟨rfl,h7⟩
 ·have he:=h.e (by decide);have e1:(F+1)*g=F*g+g:=by rw[Int.add_mul,Int.one_mul]
  have h8:(F+1)*g<=127*g:=Int.mul_le_mul_of_nonneg_right (by omega) (by omega);exact⟨by omega,by omega,by omega,by omega,fun _=>by omega,by omega,by omega⟩
 ·have he:=h.e (by decide);have e1:(F+-1)*g=F*g-g:=by rw[Int.add_mul];omega
  have h8:1*g<=F*g:=Int.mul_le_mul_of_nonneg_right (by omega) (by omega);exact⟨by omega,by omega,by omega,by omega,fun _=>by omega,by omega,by omega⟩
theorem Uu{a b c d e f fl dir:Int}{l:List Rid}(hs:kK a b c d e f fl dir l=false)(ho:qD a b c d e f fl dir=dir)(h0:dir≠0)(d0: -1<=dir)(d1:dir<=1):(dir=1/\fl<127)\/(dir=-1/\0<fl):=by
 have h:=(KO hs).next d0 d1 (by rw[ho];exact h0);rw[ho]at h;have h2:=J4 h.2;rcases h.1 with h3|h3<;>rcases h2 with h4|h4<;>omega
theorem Xr(s:Sc)(hs:s.ok)(sA:Option Addr)(sn sk:Nat)(cr:Cr)(A:Option Addr)(n k B:Nat)(l:List Rid)(x0 x1 y0 y1:Int)(w:World)(h:Rds w B A n l)(hB:B<=w.heap.size)(hn:n<=1000000)
  (p0:0<=cr.pos)(p1:cr.pos<=127*s.gap)(d0: -1<=cr.dir)(d1:cr.dir<=1):
  Calls prog 269 #[s.v sA sn sk,cr.v A n k,zy x0 x1,zy y0 y1] w fun r w'=>cM cr.pos s.gap cr.dir r/\fj w w':=by
 have g0:=hs.gap.1;have g1:=hs.gap.2;have hpl:=dv cr.pos s.gap g0 g1 p0 p1;generalize cr.pos/s.gap=f at hpl;generalize cr.pos%s.gap=r at hpl;have HA0:=ze (AhP.first hpl g0 g1 d0 d1);have HNX:=ze (fun V=>Xp cr.pos s.gap f r cr.dir V hpl g0 g1);generalize dx s.gap f r cr.dir=N0 at HA0 HNX;generalize dy f r cr.dir=F0 at HA0 HNX;have HM0:=ze (MvS.new w s sA sn sk cr A n k x0 x1 y0 y1 25 265 325 325);have HSEE:=ze (fun V(hb:fj w V)=>kU cr A n k B l s.cap x0 x1 y0 y1 V (h.below (hb.mono hB)) (by have:=hb.size;omega) hn);have HOF:=ze (fun a b c d e g F(hF0:0<=F)(hF1:F<=127) V=>xe a b c d e g F cr.dir V (by omega) (by omega) d0 d1);have HST:=ze (fun a b c d e g F(hF0:0<=F)(hF1:F<=127) V(hb:fj w V)=>Z5 a b c d e g F cr A n k B l V (h.below (hb.mono hB)) (by have:=hb.size;omega) hn (by omega) (by omega) d0 d1);clear hpl;go_enter func269,ntmps269;go_upto_region 1 with(fail);refine j9 (w:=w) (fun W=>MvS w W s sA sn sk cr A n k x0 x1 y0 y1) HM0.o (by go_grown) (by simp;omega) ?_;rintro W hm hbW hzW;clear HM0 hbW hzW;have HM:=ze hm;obtain⟨⟨s0,s1,s2,s3,s4,s5,s6,s7,s8,s9,s10,s11,s12⟩,-⟩:=HM.o.s.o13;obtain⟨⟨c0,c1,c2,c3,c4,c5⟩,b0,b1,b2,b3,b4,b5⟩:=HM.o.c.o6;obtain⟨⟨u0,u1⟩,-⟩:=HM.o.x.o2;obtain⟨⟨v0,v1⟩,-⟩:=HM.o.y.o2;clear hm;go_wp2_with(first
  |(go_at_call 283;refine(HNX.o _).mono ?_;rintro r w2 ⟨rfl,hb2⟩;have HM2:=ze (HM1.o.step ((fh.alloc fi _).trans (hb2.mono (by simp))));have HS2:=ze ((Bx.new w1 [O U a,O U b,O U c,O U d,O U e,O U g] 366).below hb2 (by simp));have hz2:=ze (show w1.heap.size<w2.heap.size from by have:=hb2.size;simp at this;omega);clear hb2)
  |(go_at_call 228;refine(HSEE.o _ HM.o.b).mono ?_;rintro r w1 ⟨⟨a,b,c,d,e,g,rfl⟩,hb1⟩;have HM1:=ze (HM.o.step hb1);have hz0:w.heap.size<w1.heap.size:=(by have:=HM1.o.z;omega);have hz1:w.heap.size+1<w1.heap.size:=(by have:=HM1.o.z;omega);have HZ1:=ze HM1.o.z;clear hb1 s0 s1 s2 s3 s4 s5 s6 s7 s8 s9 s10 s11 s12 c0 c1 c2 c3 c4 c5 b0 b1 b2 b3 b4 b5 u0 u1 v0 v1;obtain⟨⟨c0,c1,c2,c3,c4,c5⟩,b0,b1,b2,b3,b4,b5⟩:=HM1.o.c.o6;obtain⟨⟨s0,s1,s2,s3,s4,s5,s6,s7,s8,s9,s10,s11,s12⟩,-⟩:=HM1.o.s.o13))
 clear hz0 hz1;generalize w1.heap.size=q at*;clear HM HM1 HSEE HNX s0 s1 s2 s3 s4 s5 s6 s7 s8 s9 s10 s11 s12 c0 c1 c2 c3 c4 c5 b0 b1 b2 b3 b4 b5
 go_loopw [11,12] (fun i j wr=>∃ N F:Int,i=O J N/\j=O J F/\AhP cr.pos s.gap cr.dir N F/\MvS w wr s sA sn sk cr A n k x0 x1 y0 y1/\Bx wr q [O U a,O U b,O U c,O U d,O U e,O U g]) (fun _ j _=>if 0<cr.dir then(127-intOf j).toNat else(intOf j).toNat)
 case atStart=>exact⟨N0,F0,rfl,rfl,HA0.o,HM2.o,HS2.o⟩
 case round=>
  obtain⟨N,F,rfl,rfl,hap,hm,hs2⟩:=hrel;have HAP:=ze hap;have HM:=ze hm;have HS:=ze hs2;have hf0:=hap.f0;have hf1:=hap.f1;have hn0:=hap.n0;have hn1:=hap.n1;obtain⟨⟨s0,s1,s2,s3,s4,s5,s6,s7,s8,s9,s10,s11,s12⟩,-⟩:=HM.o.s.o13;obtain⟨⟨c0,c1,c2,c3,c4,c5⟩,b0,b1,b2,b3,b4,b5⟩:=HM.o.c.o6;obtain⟨⟨t0,t1,t2,t3,t4,t5⟩,-⟩:=HS.o.o6;have HOF1:=ze (fun V=>HOF.o a b c d e g F hf0 hf1 V);have HST1:=ze (fun V hb=>HST.o a b c d e g F hf0 hf1 V hb);have HB0:=ze (show fj w wr from HM.o.b);clear hap hm hs2;rcases Bool.eq_false_or_eq_true (kK a b c d e g F cr.dir l)with hx|hx
  ·go_wp2_with fail;refine wp_region_held_drew (S:=(fun W=>cr.K A n k W (w.heap.size+1)/\W.cell? ⟨q,0,none⟩=some (O U a)/\W.cell? ⟨q,1,none⟩=some (O U b)/\W.cell? ⟨q,2,none⟩=some (O U c)/\W.cell? ⟨q,3,none⟩=some (O U d)/\W.cell? ⟨q,4,none⟩=some (O U e)/\W.cell? ⟨q,5,none⟩=some (O U g)/\fj wr W)) (by kernel_rfl) ?_ (fun hHeld=>?_)
   ·exact⟨⟨c0,c1,c2,c3,c4,c5⟩,t0,t1,t2,t3,t4,t5,fh.drew⟩
   refine qK [0,1,2] (by simp[zl];rfl) (by kernel_rfl) (by assumption) ?_
   iterate 3 (refine qz (v:=?_) (fun _ _ _ h=>h) (by rfl) ?_ ?_;rotate_left;(next=>((intro w hSw;(try dsimp only at hSw);go_simp);(try with_reducible rfl)));try simp only[Act.put,s0q,s1q,s2q])
   refine qL ?_;refine jj [3] (by kernel_rfl) ?_;refine j6 (by simp[zl];rfl) rfl (fun K hK=>?_) AllReadyH.nil;go_simp
   (go_split_ands;(with_reducible refine(HST1.o _ (HB0.o.trans ((‹fj wr _›).mono HB0.o.size))).mono ?_);rintro r wX ⟨rfl,hbX⟩;rw[hx];go_wp2_with fail)
   refine hK.out _ _ ?_ (fun hHeld=>?_)
   ·(go_split_ands;exact⟨⟨zf hbX ‹_›,zf hbX ‹_›,zf hbX ‹_›,zf hbX ‹_›,zf hbX ‹_›,zf hbX ‹_›⟩,zf hbX ‹_›,zf hbX ‹_›,zf hbX ‹_›,zf hbX ‹_›,zf hbX ‹_›,zf hbX ‹_›,(‹fj wr _›).trans (hbX.mono (‹fj wr _›).size)⟩)
   clear hK K
   try simp only[Act.put,s0q,s1q,s2q]
   refine qK [4,5,6,7,8,9,10,11,12,13,14,15,16,17,18,19] (by simp[zl];rfl) (by kernel_rfl) (by assumption) ?_
   iterate 2 (refine qz (v:=?_) (fun _ _ _ h=>h) (by rfl) ?_ ?_;rotate_left;(next=>((intro w hSw;(try dsimp only at hSw);go_simp);(try with_reducible rfl)));try simp only[Act.put,s0q,s1q,s2q])
   iterate 8 (refine ej (fun _ _ _ h=>h) (by rfl) ?_;try simp only[Act.put,s0q,s1q,s2q])
   iterate 2 (refine qz (v:=?_) (fun _ _ _ h=>h) (by rfl) ?_ ?_;rotate_left;(next=>((intro w hSw;(try dsimp only at hSw);go_simp);(try with_reducible rfl)));try simp only[Act.put,s0q,s1q,s2q])
   iterate 3 (refine ej (fun _ _ _ h=>h) (by rfl) ?_;try simp only[Act.put,s0q,s1q,s2q])
   iterate 1 (refine qz (v:=?_) (fun _ _ _ h=>h) (by rfl) ?_ ?_;rotate_left;(next=>((intro w hSw;(try dsimp only at hSw);go_simp);(try with_reducible rfl)));try simp only[Act.put,s0q,s1q,s2q])
   refine qL ?_;refine wpAnyH_done (by kernel_rfl) ?_ _;go_split_ands;have HE:=ze (‹fj wr _›);go_wp2_with fail;go_ret2;exact⟨⟨N,F,rfl,HAP.o.n0,HAP.o.n1,HAP.o.p0,HAP.o.p1⟩,HB0.o.trans (HE.o.mono HB0.o.size)⟩
  ·have HX:=ze hx;rcases Int.decEq (qD a b c d e g F cr.dir) cr.dir with ho|ho
   ·have hoB:(qD a b c d e g F cr.dir==cr.dir)=false:=by simpa using ho
    clear ho;generalize qD a b c d e g F cr.dir=D at*;go_wp2_with fail;refine wp_region_held_drew (S:=(fun W=>cr.K A n k W (w.heap.size+1)/\W.cell? ⟨q,0,none⟩=some (O U a)/\W.cell? ⟨q,1,none⟩=some (O U b)/\W.cell? ⟨q,2,none⟩=some (O U c)/\W.cell? ⟨q,3,none⟩=some (O U d)/\W.cell? ⟨q,4,none⟩=some (O U e)/\W.cell? ⟨q,5,none⟩=some (O U g)/\fj wr W)) (by kernel_rfl) ?_ (fun hHeld=>?_)
    ·exact⟨⟨c0,c1,c2,c3,c4,c5⟩,t0,t1,t2,t3,t4,t5,fh.drew⟩
    refine qK [0,1,2] (by simp[zl];rfl) (by kernel_rfl) (by assumption) ?_
    iterate 3 (refine qz (v:=?_) (fun _ _ _ h=>h) (by rfl) ?_ ?_;rotate_left;(next=>((intro w hSw;(try dsimp only at hSw);go_simp);(try with_reducible rfl)));try simp only[Act.put,s0q,s1q,s2q])
    refine qL ?_;refine jj [3] (by kernel_rfl) ?_;refine j6 (by simp[zl];rfl) rfl (fun K hK=>?_) AllReadyH.nil;go_simp
    (go_split_ands;(with_reducible refine(HST1.o _ (HB0.o.trans ((‹fj wr _›).mono HB0.o.size))).mono ?_);rintro r wX ⟨rfl,hbX⟩;rw[hx];go_wp2_with fail)
    refine hK.out _ _ ?_ (fun hHeld=>?_)
    ·(go_split_ands;exact⟨⟨zf hbX ‹_›,zf hbX ‹_›,zf hbX ‹_›,zf hbX ‹_›,zf hbX ‹_›,zf hbX ‹_›⟩,zf hbX ‹_›,zf hbX ‹_›,zf hbX ‹_›,zf hbX ‹_›,zf hbX ‹_›,zf hbX ‹_›,(‹fj wr _›).trans (hbX.mono (‹fj wr _›).size)⟩)
    clear hK K
    try simp only[Act.put,s0q,s1q,s2q]
    refine qK [4,5,6,7,8,9,11,12] (by simp[zl];rfl) (by kernel_rfl) (by assumption) ?_
    iterate 8 (refine qz (v:=?_) (fun _ _ _ h=>h) (by rfl) ?_ ?_;rotate_left;(next=>((intro w hSw;(try dsimp only at hSw);go_simp);(try with_reducible rfl)));try simp only[Act.put,s0q,s1q,s2q])
    refine qL ?_;refine jj [10] (by kernel_rfl) ?_;refine j6 (by simp[zl];rfl) rfl (fun K hK=>?_) AllReadyH.nil;go_simp
    (go_split_ands;(with_reducible refine(HOF1.o _).mono ?_);rintro r wY ⟨rfl,hbY⟩;go_wp2_with fail)
    refine hK.out _ _ ?_ (fun hHeld=>?_)
    ·(go_split_ands;exact⟨⟨zf hbY ‹_›,zf hbY ‹_›,zf hbY ‹_›,zf hbY ‹_›,zf hbY ‹_›,zf hbY ‹_›⟩,zf hbY ‹_›,zf hbY ‹_›,zf hbY ‹_›,zf hbY ‹_›,zf hbY ‹_›,zf hbY ‹_›,(‹fj wr _›).trans (hbY.mono (‹fj wr _›).size)⟩)
    clear hK K
    try simp only[Act.put,s0q,s1q,s2q]
    refine qK [13,14,15,16,17,18,19] (by simp[zl];rfl) (by kernel_rfl) (by assumption) ?_
    iterate 3 (refine qz (v:=?_) (fun _ _ _ h=>h) (by rfl) ?_ ?_;rotate_left;(next=>((intro w hSw;(try dsimp only at hSw);go_simp);(try with_reducible rfl)));try simp only[Act.put,s0q,s1q,s2q])
    iterate 3 (refine ej (fun _ _ _ h=>h) (by rfl) ?_;try simp only[Act.put,s0q,s1q,s2q])
    iterate 1 (refine qz (v:=?_) (fun _ _ _ h=>h) (by rfl) ?_ ?_;rotate_left;(next=>((intro w hSw;(try dsimp only at hSw);go_simp);(try with_reducible rfl)));try simp only[Act.put,s0q,s1q,s2q])
    refine qL ?_;refine wpAnyH_done (by kernel_rfl) ?_ _;go_split_ands;have HE:=ze (‹fj wr _›);go_wp2_with fail;go_ret2;exact⟨⟨N,F,rfl,HAP.o.n0,HAP.o.n1,HAP.o.p0,HAP.o.p1⟩,HB0.o.trans (HE.o.mono HB0.o.size)⟩
   ·have HOD:=ze ho;have hoB:(qD a b c d e g F cr.dir==cr.dir)=true:=by simpa using ho
    have HD:=ze (fun h0=>Uu HX.o HOD.o h0 d0 d1);clear ho;generalize qD a b c d e g F cr.dir=D at*;by_cases hd0:cr.dir=0
    ·have hdB:(cr.dir !=0)=false:=by simpa using hd0
     clear hd0;go_wp2_with fail;refine wp_region_held_drew (S:=(fun W=>cr.K A n k W (w.heap.size+1)/\W.cell? ⟨q,0,none⟩=some (O U a)/\W.cell? ⟨q,1,none⟩=some (O U b)/\W.cell? ⟨q,2,none⟩=some (O U c)/\W.cell? ⟨q,3,none⟩=some (O U d)/\W.cell? ⟨q,4,none⟩=some (O U e)/\W.cell? ⟨q,5,none⟩=some (O U g)/\fj wr W)) (by kernel_rfl) ?_ (fun hHeld=>?_)
     ·exact⟨⟨c0,c1,c2,c3,c4,c5⟩,t0,t1,t2,t3,t4,t5,fh.drew⟩
     refine qK [0,1,2] (by simp[zl];rfl) (by kernel_rfl) (by assumption) ?_
     iterate 3 (refine qz (v:=?_) (fun _ _ _ h=>h) (by rfl) ?_ ?_;rotate_left;(next=>((intro w hSw;(try dsimp only at hSw);go_simp);(try with_reducible rfl)));try simp only[Act.put,s0q,s1q,s2q])
     refine qL ?_;refine jj [3] (by kernel_rfl) ?_;refine j6 (by simp[zl];rfl) rfl (fun K hK=>?_) AllReadyH.nil;go_simp
     (go_split_ands;(with_reducible refine(HST1.o _ (HB0.o.trans ((‹fj wr _›).mono HB0.o.size))).mono ?_);rintro r wX ⟨rfl,hbX⟩;rw[hx];go_wp2_with fail)
     refine hK.out _ _ ?_ (fun hHeld=>?_)
     ·(go_split_ands;exact⟨⟨zf hbX ‹_›,zf hbX ‹_›,zf hbX ‹_›,zf hbX ‹_›,zf hbX ‹_›,zf hbX ‹_›⟩,zf hbX ‹_›,zf hbX ‹_›,zf hbX ‹_›,zf hbX ‹_›,zf hbX ‹_›,zf hbX ‹_›,(‹fj wr _›).trans (hbX.mono (‹fj wr _›).size)⟩)
     clear hK K
     try simp only[Act.put,s0q,s1q,s2q]
     refine qK [4,5,6,7,8,9,11,12] (by simp[zl];rfl) (by kernel_rfl) (by assumption) ?_
     iterate 8 (refine qz (v:=?_) (fun _ _ _ h=>h) (by rfl) ?_ ?_;rotate_left;(next=>((intro w hSw;(try dsimp only at hSw);go_simp);(try with_reducible rfl)));try simp only[Act.put,s0q,s1q,s2q])
     refine qL ?_;refine jj [10] (by kernel_rfl) ?_;refine j6 (by simp[zl];rfl) rfl (fun K hK=>?_) AllReadyH.nil;go_simp
     (go_split_ands;(with_reducible refine(HOF1.o _).mono ?_);rintro r wY ⟨rfl,hbY⟩;go_wp2_with fail)
     refine hK.out _ _ ?_ (fun hHeld=>?_)
     ·(go_split_ands;exact⟨⟨zf hbY ‹_›,zf hbY ‹_›,zf hbY ‹_›,zf hbY ‹_›,zf hbY ‹_›,zf hbY ‹_›⟩,zf hbY ‹_›,zf hbY ‹_›,zf hbY ‹_›,zf hbY ‹_›,zf hbY ‹_›,zf hbY ‹_›,(‹fj wr _›).trans (hbY.mono (‹fj wr _›).size)⟩)
     clear hK K
     try simp only[Act.put,s0q,s1q,s2q]
     refine qK [13,14,15,16,17,18,19] (by simp[zl];rfl) (by kernel_rfl) (by assumption) ?_
     iterate 7 (refine qz (v:=?_) (fun _ _ _ h=>h) (by rfl) ?_ ?_;rotate_left;(next=>((intro w hSw;(try dsimp only at hSw);go_simp);(try with_reducible rfl)));try simp only[Act.put,s0q,s1q,s2q])
     refine qL ?_;refine wpAnyH_done (by kernel_rfl) ?_ _;go_split_ands;have HE:=ze (‹fj wr _›);go_wp2_with fail;go_ret2;exact⟨⟨N,F,rfl,HAP.o.n0,HAP.o.n1,HAP.o.p0,HAP.o.p1⟩,HB0.o.trans (HE.o.mono HB0.o.size)⟩
    ·have hdB:(cr.dir !=0)=true:=by simpa using hd0
     have hda:=HD.o hd0;have HNX:=ze (HAP.o.next g0 g1 p0 p1 hda);have HDA:=ze hda;have ew0:IntKind.i64.wrap (N+s.gap)=N+s.gap:=by rw[IntKind.wrap_i64];omega
     have ew1:IntKind.i64.wrap (F+cr.dir)=F+cr.dir:=by rw[IntKind.wrap_i64];omega
     clear hd0 hda;go_wp2_with fail;refine wp_region_held_drew (S:=(fun W=>cr.K A n k W (w.heap.size+1)/\W.cell? ⟨q,0,none⟩=some (O U a)/\W.cell? ⟨q,1,none⟩=some (O U b)/\W.cell? ⟨q,2,none⟩=some (O U c)/\W.cell? ⟨q,3,none⟩=some (O U d)/\W.cell? ⟨q,4,none⟩=some (O U e)/\W.cell? ⟨q,5,none⟩=some (O U g)/\fj wr W)) (by kernel_rfl) ?_ (fun hHeld=>?_)
     ·exact⟨⟨c0,c1,c2,c3,c4,c5⟩,t0,t1,t2,t3,t4,t5,fh.drew⟩
     refine qK [0,1,2] (by simp[zl];rfl) (by kernel_rfl) (by assumption) ?_
     iterate 3 (refine qz (v:=?_) (fun _ _ _ h=>h) (by rfl) ?_ ?_;rotate_left;(next=>((intro w hSw;(try dsimp only at hSw);go_simp);(try with_reducible rfl)));try simp only[Act.put,s0q,s1q,s2q])
     refine qL ?_;refine jj [3] (by kernel_rfl) ?_;refine j6 (by simp[zl];rfl) rfl (fun K hK=>?_) AllReadyH.nil;go_simp
     (go_split_ands;(with_reducible refine(HST1.o _ (HB0.o.trans ((‹fj wr _›).mono HB0.o.size))).mono ?_);rintro r wX ⟨rfl,hbX⟩;rw[hx];go_wp2_with fail)
     refine hK.out _ _ ?_ (fun hHeld=>?_)
     ·(go_split_ands;exact⟨⟨zf hbX ‹_›,zf hbX ‹_›,zf hbX ‹_›,zf hbX ‹_›,zf hbX ‹_›,zf hbX ‹_›⟩,zf hbX ‹_›,zf hbX ‹_›,zf hbX ‹_›,zf hbX ‹_›,zf hbX ‹_›,zf hbX ‹_›,(‹fj wr _›).trans (hbX.mono (‹fj wr _›).size)⟩)
     clear hK K
     try simp only[Act.put,s0q,s1q,s2q]
     refine qK [4,5,6,7,8,9,11,12] (by simp[zl];rfl) (by kernel_rfl) (by assumption) ?_
     iterate 8 (refine qz (v:=?_) (fun _ _ _ h=>h) (by rfl) ?_ ?_;rotate_left;(next=>((intro w hSw;(try dsimp only at hSw);go_simp);(try with_reducible rfl)));try simp only[Act.put,s0q,s1q,s2q])
     refine qL ?_;refine jj [10] (by kernel_rfl) ?_;refine j6 (by simp[zl];rfl) rfl (fun K hK=>?_) AllReadyH.nil;go_simp
     (go_split_ands;(with_reducible refine(HOF1.o _).mono ?_);rintro r wY ⟨rfl,hbY⟩;go_wp2_with fail)
     refine hK.out _ _ ?_ (fun hHeld=>?_)
     ·(go_split_ands;exact⟨⟨zf hbY ‹_›,zf hbY ‹_›,zf hbY ‹_›,zf hbY ‹_›,zf hbY ‹_›,zf hbY ‹_›⟩,zf hbY ‹_›,zf hbY ‹_›,zf hbY ‹_›,zf hbY ‹_›,zf hbY ‹_›,zf hbY ‹_›,(‹fj wr _›).trans (hbY.mono (‹fj wr _›).size)⟩)
     clear hK K
     try simp only[Act.put,s0q,s1q,s2q]
     refine qK [13,14,15,16,17,18,19] (by simp[zl];rfl) (by kernel_rfl) (by assumption) ?_
     iterate 7 (refine qz (v:=?_) (fun _ _ _ h=>h) (by rfl) ?_ ?_;rotate_left;(next=>((intro w hSw;(try dsimp only at hSw);go_simp);(try with_reducible rfl)));try simp only[Act.put,s0q,s1q,s2q])
     refine qL ?_;refine wpAnyH_done (by kernel_rfl) ?_ _;go_split_ands;have HE:=ze (‹fj wr _›);have HMF:=ze (HM.o.step HE.o);have HSF:=ze (HS.o.below HE.o (HS.o.lt (by simp)));obtain⟨⟨z0,z1,z2,z3,z4,z5,z6,z7,z8,z9,z10,z11,z12⟩,-⟩:=HMF.o.s.o13;obtain⟨⟨y0,y1,y2,y3,y4,y5⟩,-⟩:=HMF.o.c.o6;go_wp2_with fail;go_quiet(fail);go_wp2_with fail;go_roundw
     case rel=>exact⟨N+s.gap,F+cr.dir,rfl,rfl,HNX.o,HMF.o.drewN _,HSF.o.drewN _⟩
     case measure=>
      have h1:=HDA.o;simp only[intOf];rcases h1 with⟨h1,h2⟩|⟨h1,h2⟩
      ·rw[h1];simp;omega
      ·rw[h1];simp;omega
end
section
open Go.RowKit HB
structure NextP(g:Int)(c:Cr)(N:Int):Prop where
 n0:1<=N
 n1:N<=3001
 door:c.mode=2\/c.mode=3\/c.mode=4->N=c.left
 ride:c.mode=1->0<=c.pos+c.dir*(N-1)/\c.pos+c.dir*(N-1)<=127*g
def NextR(g:Int)(c:Cr)(r:Ending):Prop:=(∃N,r=.returned (.tuple #[O J N,.bool true])/\NextP g c N)\/(r=.returned (.tuple #[O J 0,.bool false])/\¬ (c.mode=1\/c.mode=2\/c.mode=3\/c.mode=4))
theorem Xs(s:Sc)(hs:s.ok)(sA:Option Addr)(sn sk:Nat)(cr:Cr)(A:Option Addr)(n k B:Nat)(l:List Rid)(x0 x1 y0 y1:Int)(w:World)(h:Rds w B A n l)(hB:B<=w.heap.size)(hn:n<=1000000)
  (p0:0<=cr.pos)(p1:cr.pos<=127*s.gap)(d0: -1<=cr.dir)(d1:cr.dir<=1)(hl:cr.mode=2\/cr.mode=3\/cr.mode=4->1<=cr.left/\cr.left<=64):
  Calls prog 245 #[s.v sA sn sk,cr.v A n k,zy x0 x1,zy y0 y1] w fun r w'=>NextR s.gap cr r/\fj w w':=by
 by_cases hd:cr.mode=2\/cr.mode=3\/cr.mode=4
 ·have HR:=ze (show NextR s.gap cr (.returned (.tuple #[O J cr.left,.bool true]))from .inl ⟨_,rfl,by have:=hl hd;omega,by have:=hl hd;omega,fun _=>rfl,fun h=>by omega⟩);clear hl;rcases hd with h2|h2|h2
  all_goals
   go_enter func245,ntmps245;go_wp2_with fail;go_ret2;exact⟨HR.o,by go_grown⟩
 ·have hm2:(cr.mode==2)=false:=by simp;omega
  have hm3:(cr.mode==3)=false:=by simp;omega
  have hm4:(cr.mode==4)=false:=by simp;omega
  have HD:=ze hd;clear hl hd;have g0:=hs.gap.1;have g1:=hs.gap.2;by_cases h1:cr.mode=1
  ·have HAH:=ze (fun V(hb:fj w V)=>Xr s hs sA sn sk cr A n k B l x0 x1 y0 y1 V (h.below (hb.mono hB)) (by have:=hb.size;omega) hn p0 p1 d0 d1);have H1:=ze h1;have e1:(cr.mode==1)=true:=by simpa using h1
   clear h h1;have hbb:=ze (show fj w ((((w.alloc (.cells #[O J s.fl,O J s.gap,O J s.cars,O J s.cap,O J s.opn,O J s.dw,O J s.cl,O J s.tr,.slice sA sn sk,O J s.disp,O J s.hor,O J s.bins,O J s.width] 25)).alloc (.cells (cr.cells A n k) 265)).alloc (.cells #[O U x0,O U x1] 325)).alloc (.cells #[O U y0,O U y1] 325))from by go_grown);go_enter func245,ntmps245;go_wp2_with(go_at_call 269;refine(HAH.o _ hbb.o).mono ?_;rintro r w1 ⟨⟨N,F,rfl,k0,k1,k2,k3⟩,hb1⟩;have HP:=ze (show 0<=N/\N<=3000/\0<=cr.pos+cr.dir*N/\cr.pos+cr.dir*N<=127*s.gap from⟨k0,k1,k2,k3⟩);clear k0 k1 k2 k3);go_ret2;obtain⟨k0,k1,k2,k3⟩:=HP.o;exact⟨.inl ⟨N+1,rfl,by omega,by omega,fun h=>absurd h HD.o,fun _=>by rw[show N+1-1=N by omega];exact⟨k2,k3⟩⟩,hbb.o.trans (hb1.mono (by simp;omega))⟩
  ·have e1:(cr.mode==1)=false:=by simpa using h1
   have HNO:=ze (show NextR s.gap cr (.returned (.tuple #[O J 0,.bool false]))from .inr ⟨rfl,by have:=HD.o;omega⟩);have HYES:=ze (show NextR s.gap cr (.returned (.tuple #[O J 1,.bool true]))from .inl ⟨1,rfl,by omega,by omega,fun h=>absurd h HD.o,fun h=>absurd h h1⟩);clear h1;have hpl:=dv cr.pos s.gap g0 g1 p0 p1;generalize cr.pos/s.gap=f at hpl;generalize cr.pos%s.gap=r at hpl;have HF:=ze (fun V=>jB cr.pos s.gap f r V hpl.e hpl.f0 hpl.r0 hpl.r1 (by have:=hpl.rng g0 g1;omega));have hf0:=hpl.f0;have hf1:=hpl.f1;have HSEE:=ze (fun V(hb:fj w V)=>kU cr A n k B l s.cap x0 x1 y0 y1 V (h.below (hb.mono hB)) (by have:=hb.size;omega) hn);have HOF:=ze (fun a b c d e g V=>xe a b c d e g f 0 V (by omega) (by omega) (by omega) (by omega));have HST:=ze (fun a b c d e g V(hb:fj w V)=>Z5 a b c d e g f cr A n k B l V (h.below (hb.mono hB)) (by have:=hb.size;omega) hn (by omega) (by omega) d0 d1);clear h hpl;have HM0:=ze (MvS.new w s sA sn sk cr A n k x0 x1 y0 y1 25 265 325 325);go_enter func245,ntmps245;go_upto_region 1 with(fail);refine j9 (w:=w) (fun W=>MvS w W s sA sn sk cr A n k x0 x1 y0 y1) HM0.o (by go_grown) (by simp;omega) ?_;rintro W hm hbW hzW;clear HM0 hbW hzW;have HM:=ze hm;obtain⟨⟨s0,s1,s2,s3,s4,s5,s6,s7,s8,s9,s10,s11,s12⟩,-⟩:=HM.o.s.o13;obtain⟨⟨c0,c1,c2,c3,c4,c5⟩,-⟩:=HM.o.c.o6;obtain⟨⟨u0,u1⟩,-⟩:=HM.o.x.o2;obtain⟨⟨v0,v1⟩,-⟩:=HM.o.y.o2;clear hm;go_upto_region 11 with(first
    |(go_at_call 227;refine(HF.o _).mono ?_;rintro e w1 ⟨rfl,m,rfl⟩)
    |(go_at_call 228;refine(HSEE.o _ (zg HM.o.b m)).mono ?_;rintro r w1 ⟨⟨a,b,c,d,e,g,rfl⟩,hb1⟩;have HM1:=ze ((HM.o.drewN m).step hb1)))
   refine j9 (w:=w1) (fun W=>Bx W w1.heap.size [O U a,O U b,O U c,O U d,O U e,O U g]) (Bx.new w1 _ _) (by go_grown) (by simp) ?_;rintro W2 ht hbW2 hzW2;have HT:=ze ht;have HMF:=ze (HM1.o.step hbW2);have HZ:=ze hzW2;clear HM1 HM HSEE HF ht hbW2 hzW2 s0 s1 s2 s3 s4 s5 s6 s7 s8 s9 s10 s11 s12 c0 c1 c2 c3 c4 c5 u0 u1 v0 v1;generalize w1.heap.size=q at*;obtain⟨⟨c0,c1,c2,c3,c4,c5⟩,-⟩:=HMF.o.c.o6;obtain⟨⟨t0,t1,t2,t3,t4,t5⟩,-⟩:=HT.o.o6;have HB2:=ze HMF.o.b;have HST1:=ze (fun V(hb:fj w V)=>HST.o a b c d e g V hb);have HOF1:=ze (fun V=>HOF.o a b c d e g V);clear HST HOF;by_cases hd0:cr.dir=0
   ·have e2:(cr.dir==0)=true:=by simpa using hd0
    clear hd0;rcases Bool.eq_false_or_eq_true (kK a b c d e g f cr.dir l)with hx|hx
    ·go_wp2_with(go_at_call 230;(with_reducible refine(HST1.o _ HB2.o).mono ?_);rintro r w3 ⟨rfl,hb3⟩;rw[hx]);go_ret2;exact⟨HYES.o,HB2.o.trans (hb3.mono HB2.o.size)⟩
    ·have hzz:=ze HB2.o.size;rcases Int.decEq (qD a b c d e g f 0) 0 with ho|ho
     ·have hoB:(qD a b c d e g f 0==0)=false:=by simpa using ho
      clear ho;generalize qD a b c d e g f 0=D at*;go_wp2_with(first
       |(go_at_call 229;(with_reducible refine(HOF1.o _).mono ?_);rintro r w4 ⟨rfl,hb4⟩)
       |(go_at_call 230;(with_reducible refine(HST1.o _ HB2.o).mono ?_);rintro r w3 ⟨rfl,hb3⟩;rw[hx];have HT3:=ze (HT.o.below hb3 HZ.o);have HB3:=ze (HB2.o.trans (hb3.mono HB2.o.size));clear t0 t1 t2 t3 t4 t5 c0 c1 c2 c3 c4 c5 hb3;obtain⟨⟨t0,t1,t2,t3,t4,t5⟩,-⟩:=HT3.o.o6))
      go_ret2;exact⟨HYES.o,HB3.o.trans (hb4.mono HB3.o.size)⟩
     ·have hoB:(qD a b c d e g f 0==0)=true:=by simpa using ho
      clear ho;generalize qD a b c d e g f 0=D at*;go_wp2_with(first
       |(go_at_call 229;(with_reducible refine(HOF1.o _).mono ?_);rintro r w4 ⟨rfl,hb4⟩)
       |(go_at_call 230;(with_reducible refine(HST1.o _ HB2.o).mono ?_);rintro r w3 ⟨rfl,hb3⟩;rw[hx];have HT3:=ze (HT.o.below hb3 HZ.o);have HB3:=ze (HB2.o.trans (hb3.mono HB2.o.size));clear t0 t1 t2 t3 t4 t5 c0 c1 c2 c3 c4 c5 hb3;obtain⟨⟨t0,t1,t2,t3,t4,t5⟩,-⟩:=HT3.o.o6))
      go_ret2;exact⟨HNO.o,HB3.o.trans (hb4.mono HB3.o.size)⟩
   ·have e2:(cr.dir==0)=false:=by simpa using hd0
    clear hd0;go_wp2_with fail;go_ret2;exact⟨HYES.o,HB2.o⟩
end
end Go.Proofs.YtdeogmbfgkepeaaGreatDoor
