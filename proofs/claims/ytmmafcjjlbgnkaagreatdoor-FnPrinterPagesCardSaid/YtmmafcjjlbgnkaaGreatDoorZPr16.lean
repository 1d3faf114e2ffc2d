/- What the proof rests on, part 16: contracts of functions. No condition beyond what each states. -/
import Derived.Test.YtmmafcjjlbgnkaaGreatDoorZPr9
namespace Go.Proofs.YtmmafcjjlbgnkaaGreatDoor
open Go.RowKit
set_option linter.all false
set_option maxHeartbeats 32000000
noncomputable section
def afe (ks:List Bool) (i:Nat):Bool:=ks[i]?.getD false
def afY (ks:List Bool) (h p q:Nat):Prop:=p<q∧q≤ks.length∧q≤p+h∧¬(q<ks.length∧afe ks (q-1)=true)
instance (ks:List Bool) (h p q:Nat):Decidable (afY ks h p q):=by unfold afY;infer_instance
def okQ (ks:List Bool) (h:Nat) (E:Nat→Int) (p q:Nat):Prop:=afY ks h p q∧0≤E q
instance (ks:List Bool) (h:Nat) (E:Nat→Int) (p q:Nat):Decidable (okQ ks h E p q):=by unfold okQ;infer_instance
def ko (ks:List Bool) (h:Nat) (E:Nat→Int) (p q:Nat):Int:=(if q=ks.length then 0 else((h:Int)-((q:Int)-p))*((h:Int)-((q:Int)-p)))+E q
theorem adP {ks:List Bool} {h:Nat} {E:Nat→Int} {p q:Nat} (ho:okQ ks h E p q):0≤ko ks h E p q:=by obtain⟨⟨h1,h2,h3,h4⟩,h5⟩:=ho;unfold ko;have:0≤((h:Int)-((q:Int)-p))*((h:Int)-((q:Int)-p)):=Int.mul_nonneg (by omega) (by omega);split<;>omega
def abb (ks:List Bool) (h:Nat) (E:Nat→Int) (p q:Nat) (s:Int×Nat):Int×Nat:=if okQ ks h E p q∧(s.1<0∨ko ks h E p q<s.1)then(ko ks h E p q,q)else s
def xY (ks:List Bool) (h:Nat) (E:Nat→Int) (p q:Nat) (s:Int×Nat):Int×Nat:=if okQ ks h E p q∧(s.1<0∨ko ks h E p q≤s.1)then(ko ks h E p q,q)else s
def dnP (ks:List Bool) (h:Nat) (E:Nat→Int) (p:Nat):Nat→Int×Nat
 |0=>(-1,0)
 |m+1=>abb ks h E p (ks.length-m) (dnP ks h E p m)
def upP (ks:List Bool) (h:Nat) (E:Nat→Int) (p:Nat):Nat→Int×Nat
 |0=>(-1,0)
 |m+1=>xY ks h E p (p+m+1) (upP ks h E p m)
structure jF (ks:List Bool) (h:Nat) (E:Nat→Int) (p:Nat) (Q:Nat→Prop) (s:Int×Nat):Prop where
 no:s.1<0→s=(-1,0)∧∀q,Q q→¬okQ ks h E p q
 yes:0≤s.1→Q s.2∧okQ ks h E p s.2∧s.1=ko ks h E p s.2∧∀q,Q q→okQ ks h E p q→ko ks h E p s.2≤ko ks h E p q∧(ko ks h E p q=ko ks h E p s.2→q≤s.2)
section
variable {ks:List Bool} {h:Nat} {E E':Nat→Int} {p:Nat} {Q Q':Nat→Prop} {s s':Int×Nat}
theorem jF.uniq (h1:jF ks h E p Q s) (h2:jF ks h E p Q s'):s=s':=by
 by_cases c1:s.1<0
 ·obtain⟨e1,n1⟩:=h1.no c1
  by_cases c2:s'.1<0
  ·rw[e1,(h2.no c2).1]
  ·obtain⟨q1,q2,_⟩:=h2.yes (by omega)
   exact absurd q2 (n1 _ q1)
 ·obtain⟨q1,q2,q3,q4⟩:=h1.yes (by omega)
  by_cases c2:s'.1<0
  ·exact absurd q2 ((h2.no c2).2 _ q1)
  ·obtain⟨r1,r2,r3,r4⟩:=h2.yes (by omega)
   have a1:=q4 _ r1 r2;have a2:=r4 _ q1 q2;have e:ko ks h E p s'.2=ko ks h E p s.2:=by omega
   have b1:=a1.2 e;have b2:=a2.2 e.symm;have e2:s.2=s'.2:=by omega
   exact Prod.ext (by rw[q3,r3,e]) e2
theorem jF.aw2 (hq:∀q,Q q↔Q' q) (h1:jF ks h E p Q s):jF ks h E p Q' s:=
 ⟨fun c=>⟨(h1.no c).1,fun q hh=>(h1.no c).2 q ((hq q).2 hh)⟩,fun c=>⟨(hq _).1 (h1.yes c).1,(h1.yes c).2.1,(h1.yes c).2.2.1,fun q hh=>(h1.yes c).2.2.2 q ((hq q).2 hh)⟩⟩
theorem jF.abb {q0:Nat} (h1:jF ks h E p Q s) (hlt:∀q,Q q→q0<q):jF ks h E p (fun q=>Q q∨q=q0) (abb ks h E p q0 s):=by
 unfold Proofs.YtmmafcjjlbgnkaaGreatDoor.abb;split
 ·rename_i hc
  obtain⟨hok,hc⟩:=hc;have hnn:=adP hok;refine⟨fun c=>?_,fun _=>⟨.inr rfl,hok,rfl,fun q hq hqo=>?_⟩⟩
  ·dsimp only at c;omega
  ·dsimp only
   rcases hq with hq|rfl
   ·by_cases c1:s.1<0
    ·exact absurd hqo ((h1.no c1).2 q hq)
    ·obtain⟨q1,q2,q3,q4⟩:=h1.yes (by omega)
     have:=(q4 q hq hqo).1;omega
   ·exact⟨Int.le_refl _,fun _=>Nat.le_refl _⟩
 ·rename_i hc
  refine⟨fun c=>⟨(h1.no c).1,fun q hq hqo=>?_⟩,fun c=>?_⟩
  ·rcases hq with hq|rfl
   ·exact(h1.no c).2 q hq hqo
   ·exact hc ⟨hqo,.inl c⟩
  ·obtain⟨q1,q2,q3,q4⟩:=h1.yes c
   refine⟨.inl q1,q2,q3,fun q hq hqo=>?_⟩;rcases hq with hq|rfl
   ·exact q4 q hq hqo
   ·have h5:¬ko ks h E p q<s.1:=fun e=>hc ⟨hqo,.inr e⟩
    have:=hlt _ q1;exact⟨by omega,fun _=>by omega⟩
theorem jF.xY {q0:Nat} (h1:jF ks h E p Q s) (hlt:∀q,Q q→q<q0):jF ks h E p (fun q=>Q q∨q=q0) (xY ks h E p q0 s):=by
 unfold Proofs.YtmmafcjjlbgnkaaGreatDoor.xY;split
 ·rename_i hc
  obtain⟨hok,hc⟩:=hc;have hnn:=adP hok;refine⟨fun c=>?_,fun _=>⟨.inr rfl,hok,rfl,fun q hq hqo=>?_⟩⟩
  ·dsimp only at c;omega
  ·dsimp only
   rcases hq with hq|rfl
   ·by_cases c1:s.1<0
    ·exact absurd hqo ((h1.no c1).2 q hq)
    ·obtain⟨q1,q2,q3,q4⟩:=h1.yes (by omega)
     have:=(q4 q hq hqo).1;have:=hlt _ hq;exact⟨by omega,fun _=>by omega⟩
   ·exact⟨Int.le_refl _,fun _=>Nat.le_refl _⟩
 ·rename_i hc
  refine⟨fun c=>⟨(h1.no c).1,fun q hq hqo=>?_⟩,fun c=>?_⟩
  ·rcases hq with hq|rfl
   ·exact(h1.no c).2 q hq hqo
   ·exact hc ⟨hqo,.inl c⟩
  ·obtain⟨q1,q2,q3,q4⟩:=h1.yes c
   refine⟨.inl q1,q2,q3,fun q hq hqo=>?_⟩;rcases hq with hq|rfl
   ·exact q4 q hq hqo
   ·have h5:¬ko ks h E p q≤s.1:=fun e=>hc ⟨hqo,.inr e⟩
    exact⟨by omega,fun _=>by omega⟩
theorem jF.zero (hQ:∀q,¬Q q):jF ks h E p Q (-1,0):=⟨fun _=>⟨rfl,fun q hq=>absurd hq (hQ q)⟩,fun c=>by dsimp only at c;omega⟩
theorem rH:∀m,m≤ks.length→jF ks h E p (fun q=>ks.length-m<q∧q≤ks.length) (dnP ks h E p m)
 |0,_=>jF.zero fun q hq=>by omega
 |m+1,hm=>by refine((rH m (by omega)).abb (q0:=ks.length-m) fun q hq=>by omega).aw2 fun q=>?_;omega
theorem wZ:∀m,jF ks h E p (fun q=>p<q∧q≤p+m) (upP ks h E p m)
 |0=>jF.zero fun q hq=>by omega
 |m+1=>by refine((wZ m).xY (q0:=p+m+1) fun q hq=>by omega).aw2 fun q=>?_;omega
def bq (ks:List Bool) (h:Nat) (E:Nat→Int) (p:Nat):Int×Nat:=dnP ks h E p (ks.length-p)
theorem aut (hp:p≤ks.length):upP ks h E p (ks.length-p)=bq ks h E p:=by refine(wZ (ks.length-p)).uniq (((rH (ks.length-p) (by omega))).aw2 fun q=>?_);omega
theorem tH (hp:p≤ks.length):jF ks h E p (fun q=>p<q∧q≤ks.length) (bq ks h E p):=
 (rH (ks.length-p) (by omega)).aw2 fun q=>by omega
theorem agL:∀d m,h≤m→upP ks h E p (m+d)=upP ks h E p m
 |0,m,_=>rfl
 |d+1,m,hm=>by show xY ks h E p (p+(m+d)+1) (upP ks h E p (m+d))=_;rw[agL d m hm];unfold Proofs.YtmmafcjjlbgnkaaGreatDoor.xY;rw[if_neg];rintro⟨⟨⟨_,_,h3,_⟩,_⟩,_⟩;omega
theorem asJ {m:Nat} (hm:h≤m) (hmn:m≤ks.length-p) (hp:p≤ks.length):upP ks h E p m=bq ks h E p:=by rw[←aut hp,←agL (ks.length-p-m) m hm];congr 1;omega
theorem akN (hE:∀q,p<q→q≤ks.length→E q=E' q) (hp:p≤ks.length):bq ks h E p=bq ks h E' p:=by
 have ok:∀q,p<q→q≤ks.length→(okQ ks h E p q↔okQ ks h E' p q)∧ko ks h E p q=ko ks h E' p q:=fun q h1 h2=>by unfold okQ ko;rw[hE q h1 h2];exact⟨Iff.rfl,rfl⟩
 have hb:=tH (ks:=ks) (h:=h) (E:=E) hp;refine jF.uniq (Q:=fun q=>p<q∧q≤ks.length) ⟨fun c=>⟨(hb.no c).1,fun q hq hqo=>(hb.no c).2 q hq ((ok q hq.1 hq.2).1.2 hqo)⟩,fun c=>?_⟩ (tH hp);obtain⟨q1,q2,q3,q4⟩:=hb.yes c;refine⟨q1,(ok _ q1.1 q1.2).1.1 q2,by rw[←(ok _ q1.1 q1.2).2];exact q3,fun q hq hqo=>?_⟩;rw[←(ok _ q1.1 q1.2).2,←(ok _ hq.1 hq.2).2];exact q4 q hq ((ok q hq.1 hq.2).1.2 hqo)
end
def tbP (ks:List Bool) (h:Nat):Nat→Nat→Int×Nat
 |0=>fun _=>(0,0)
 |k+1=>fun x=>if x=ks.length-(k+1)then bq ks h (fun q=>(tbP ks h k q).1) (ks.length-(k+1))else tbP ks h k x
section
variable {ks:List Bool} {h:Nat}
theorem aaS:∀{k x:Nat},k≤ks.length→x+k<ks.length→tbP ks h k x=(0,0)
 |0,x,_,_=>rfl
 |k+1,x,hk,hx=>by show(if x=ks.length-(k+1)then _ else tbP ks h k x)=_;rw[if_neg (by omega)];exact aaS (by omega) (by omega)
theorem xq {x:Nat}:∀{d k:Nat},k+d≤ks.length→ks.length≤x+k→tbP ks h (k+d) x=tbP ks h k x
 |0,k,_,_=>rfl
 |d+1,k,hk,hx=>by show(if x=ks.length-(k+d+1)then _ else tbP ks h (k+d) x)=_;rw[if_neg (by omega)];exact xq (by omega) hx
def dW (ks:List Bool) (h p:Nat):Int:=(tbP ks h ks.length p).1
def jL (ks:List Bool) (h p:Nat):Nat:=(tbP ks h ks.length p).2
theorem abP {p:Nat} (hp:p<ks.length):tbP ks h ks.length p=bq ks h (dW ks h) p:=by
 have e1:tbP ks h ks.length p=tbP ks h (ks.length-p) p:=by
  have:=xq (ks:=ks) (h:=h) (x:=p) (d:=p) (k:=ks.length-p) (by omega) (by omega)
  rwa[show ks.length-p+p=ks.length by omega]at this
 have e2:tbP ks h (ks.length-p) p=bq ks h (fun q=>(tbP ks h (ks.length-p-1) q).1) p:=by obtain⟨k,hk⟩:∃k,ks.length-p=k+1:=⟨ks.length-p-1,by omega⟩;rw[hk,Nat.add_sub_cancel];show(if p=ks.length-(k+1)then bq ks h _ (ks.length-(k+1))else _)=_;rw[if_pos (by omega),show ks.length-(k+1)=p by omega]
 rw[e1,e2];refine akN (fun q h1 h2=>?_) (by omega);unfold dW;have:=xq (ks:=ks) (h:=h) (x:=q) (d:=p+1) (k:=ks.length-p-1) (by omega) (by omega);rw[show ks.length-p-1+(p+1)=ks.length by omega]at this;rw[this]
theorem yM {p:Nat} (hp:p<ks.length) (h0:0≤dW ks h p):afY ks h p (jL ks h p)∧0≤dW ks h (jL ks h p):=by have hb:=tH (ks:=ks) (h:=h) (E:=dW ks h) (p:=p) (by omega);rw[←abP hp]at hb;exact(hb.yes h0).2.1
def mF (ks:List Bool) (h:Nat):Nat→Nat→List Nat
 |0,_=>[]
 |f+1,p=>if p<ks.length then jL ks h p::mF ks h f (jL ks h p)else []
theorem ac7 {f:Nat}:mF ks h f ks.length=[]:=by
 cases f with
 |zero=>rfl
 |succ f=>show(if ks.length<ks.length then _ else _)=_;rw[if_neg (by omega)]
def as6 (ks:List Bool) (h:Nat):List Nat:=mF ks h ks.length 0
def ChP (ks:List Bool) (h:Nat):Nat→List Nat→Prop
 |p,[]=>p=ks.length
 |p,q::r=>afY ks h p q∧ChP ks h q r
theorem ah6:∀{f p:Nat},ks.length≤p+f→p≤ks.length→0≤dW ks h p→ChP ks h p (mF ks h f p)
 |0,p,h1,h2,_=>by show p=ks.length;omega
 |f+1,p,h1,h2,h3=>by
  show ChP ks h p (if p<ks.length then _ else _);split
  ·rename_i hp
   obtain⟨k1,k2⟩:=yM hp h3;exact⟨k1,ah6 (by have:=k1.1;omega) k1.2.1 k2⟩
  ·show p=ks.length
   omega
theorem ark (h0:0≤dW ks h 0):ChP ks h 0 (as6 ks h):=ah6 (by omega) (by omega) h0
theorem rU:∀{p:Nat} {l:List Nat},ChP ks h p l→l.length+p≤ks.length
 |p,[],hc=>by have:p=ks.length:=hc;simp;omega
 |p,q::r,hc=>by have:=rU hc.2;have:=hc.1.1;simp only[List.length_cons];omega
def jV {α:Type} (l:List α):Nat→List Nat→List (List α)
 |_,[]=>[]
 |p,q::r=>(l.drop p).take (q-p)::jV l q r
theorem nI {α:Type} {l:List α}:∀{p:Nat} {r:List Nat},(jV l p r).length=r.length
 |_,[]=>rfl
 |p,q::r=>by show(jV l q r).length+1=_;rw[nI];rfl
theorem acR {α:Type} {l:List α} (hl:l.length=ks.length):∀{p:Nat} {r:List Nat},ChP ks h p r→(jV l p r).flatten=l.drop p
 |p,[],hc=>by have:p=ks.length:=hc;rw[this,←hl,List.drop_length];rfl
 |p,q::r,hc=>by show((l.drop p).take (q-p)::jV l q r).flatten=_;rw[List.flatten_cons,acR hl hc.2];have h1:=hc.1.1;rw[show l.drop q=(l.drop p).drop (q-p) by rw[List.drop_drop];congr 1;omega,List.take_append_drop]
theorem aea {α:Type} {l:List α}:∀{p:Nat} {r:List Nat} {q:Nat},jV l p (r++[q])=jV l p r++[(l.drop ((r.getLast?).getD p)).take (q-(r.getLast?).getD p)]
 |p,[],q=>rfl
 |p,x::r,q=>by
  show(l.drop p).take (x-p)::jV l x (r++[q])=_;rw[aea];have:((x::r).getLast?).getD p=(r.getLast?).getD x:=by
   cases r with
   |nil=>rfl
   |cons y r=>simp[List.getLast?_cons]
  rw[this];rfl
end
def wQ (n:Nat) (f:Nat→Int):List PV:=(List.range (n+1)).map fun x=>PV.val (.int .i64 (f x))
def ovr {α:Type} (f:Nat→α) (p:Nat) (v:α):Nat→α:=fun x=>if x=p then v else f x
theorem q8 {n:Nat} {f:Nat→Int}:(wQ n f).length=n+1:=by simp[wQ]
theorem ake {n i:Nat} {f:Nat→Int} (h:i≤n):(wQ n f)[i]?=some (.val (.int .i64 (f i))):=by unfold wQ;rw[List.getElem?_map,List.getElem?_range (by omega)];rfl
theorem alT {n i:Nat} {f:Nat→Int} {v:Int}:(wQ n f).set i (.val (.int .i64 v))=wQ n (ovr f i v):=by
 apply List.ext_getElem?;intro j;rw[List.getElem?_set,q8];by_cases hj:j<n+1
 ·unfold wQ ovr
  by_cases h:i=j
  ·subst h
   rw[if_pos rfl,if_pos hj,List.getElem?_map,List.getElem?_range hj,Option.map_some,if_pos rfl]
  ·rw[if_neg h,List.getElem?_map,List.getElem?_map,List.getElem?_range hj,Option.map_some,Option.map_some,if_neg (fun e=>h e.symm)]
 ·rw[List.getElem?_eq_none (by rw[q8];omega),List.getElem?_eq_none (by rw[q8];omega)]
  split<;>(try split)<;>first|rfl|omega
theorem yY {α:Type} {f:Nat→α} {p:Nat} {v v':α}:ovr (ovr f p v) p v'=ovr f p v':=by funext x;unfold ovr;split<;>rfl
theorem amH {α:Type} {f:Nat→α} {p:Nat} {v:α}:ovr f p v p=v:=by simp[ovr]
theorem amX {α:Type} {f:Nat→α} {p x:Nat} {v:α} (h:¬x=p):ovr f p v x=f x:=by simp[ovr,h]
theorem amS {α:Type} {f:Nat→α} {p:Nat}:ovr f p (f p)=f:=by
 funext x;unfold ovr;split
 ·rename_i e;rw[e]
 ·rfl
theorem ars {n:Nat}:List.replicate (n+1) (PV.val (.int .i64 0))=wQ n (fun _=>0):=by unfold wQ;symm;rw[List.eq_replicate_iff];exact⟨by rw[List.length_map,List.length_range],fun b hb=>by obtain⟨x,-,rfl⟩:=List.mem_map.1 hb;rfl⟩
attribute[push_cast]
 q8 ake alT ars
def kp (n j:Nat):Bool:=(decide (j=0)&&decide (2≤n))||(decide (j+2=n)&&decide (3≤n))
theorem awu {n j:Nat} (h:(j=0∧2≤n)∨(j+2=n∧3≤n)):kp n j=true:=by unfold kp;simpa using h
theorem ayK {n j:Nat} (h:¬((j=0∧2≤n)∨(j+2=n∧3≤n))):kp n j=false:=by
 cases e:kp n j with
 |false=>rfl
 |true=>unfold kp at e;exact absurd (by simpa using e) h
def kpN (n m:Nat):List Bool:=(List.range m).map (kp n)
def dX (c:List Nat):List Bool:=(c.map fun n=>kpN n n).flatten
theorem y9 (n m:Nat):kpN n (m+1)=kpN n m++[kp n m]:=by simp[kpN,List.range_succ]
theorem jo (n:Nat):kpN n 0=[]:=rfl
theorem lS (n m:Nat):(kpN n m).length=m:=by simp[kpN]
theorem oC (c:List Nat):(dX c).length=c.sum:=by unfold dX;rw[List.length_flatten,List.map_map];congr 1;rw[List.map_congr_left (g:=id) (fun n _=>by simp[lS]),List.map_id]
theorem pK {c:List Nat} {k:Nat} (h:k<c.length):dX (c.take (k+1))=dX (c.take k)++kpN (c[k]?.getD 0) (c[k]?.getD 0):=by unfold dX;rw[List.take_succ_eq_append_getElem h,List.map_append,List.flatten_append,List.getElem?_eq_getElem h,Option.getD_some];simp
theorem acP {c:List Nat} {k:Nat} (h:k<c.length):(c.take (k+1)).sum=(c.take k).sum+c[k]?.getD 0:=by rw[List.take_succ_eq_append_getElem h,List.sum_append,List.getElem?_eq_getElem h,Option.getD_some];simp
theorem uy (c:List Nat) (k:Nat):(c.take k).sum≤c.sum:=by
 conv=>rhs;rw[←List.take_append_drop k c,List.sum_append]
 omega
theorem adW {c:List Nat} {k i:Nat} (h:k<c.length) (hi:i<c[k]?.getD 0):afe (dX c) ((c.take k).sum+i)=kp (c[k]?.getD 0) i:=by
 have e:dX c=dX (c.take (k+1))++dX (c.drop (k+1)):=by unfold dX;rw[←List.flatten_append,←List.map_append,List.take_append_drop]
 unfold afe;rw[e,pK h,List.append_assoc,List.getElem?_append_right (by rw[oC];omega),oC,Nat.add_sub_cancel_left,List.getElem?_append_left (by rw[lS];exact hi)];unfold kpN;rw[List.getElem?_map,List.getElem?_range hi];rfl
theorem alr {c:List Nat} {h p q:Nat} (hm:afY (dX c) h p q) (hq:q<(dX c).length) {k:Nat} (hk:k<c.length) (h2:1<c[k]?.getD 0):¬q=(c.take k).sum+1∧¬q+1=(c.take k).sum+c[k]?.getD 0:=by
 have hno:=hm.2.2.2;constructor
 ·rintro rfl
  refine hno ⟨hq,?_⟩;have:=adW hk (i:=0) (by omega);rw[Nat.add_sub_cancel];rw[Nat.add_zero]at this;rw[this];exact awu (.inl ⟨rfl,by omega⟩)
 ·intro e
  refine hno ⟨hq,?_⟩;have h3:=adW hk (i:=c[k]?.getD 0-2) (by omega);rw[show q-1=(c.take k).sum+(c[k]?.getD 0-2) by omega,h3];refine awu ?_;omega
def ze (ks:List Bool) (h:Nat):Bool:=decide (0≤dW ks h 0)
def jD (ks:List Bool) (h:Nat):List Nat:=if ze ks h=true then as6 ks h else []
theorem yL {ks:List Bool} {h:Nat}:ze ks h=true↔0≤dW ks h 0:=by simp[ze]
theorem vX {ks:List Bool} {h:Nat} (hb:ze ks h=true):ChP ks h 0 (jD ks h):=by unfold jD;rw[if_pos hb];exact ark (yL.1 hb)
theorem ajv {α:Type} {ks:List Bool} {h:Nat} {l:List α} (hl:l.length=ks.length):∀{p:Nat} {r:List Nat},ChP ks h p r→∀x∈jV l p r,1≤x.length∧x.length≤h
 |p,[],_,x,hx=>by cases hx
 |p,q::r,hc,x,hx=>by
  rcases List.mem_cons.1 hx with rfl|hx
  ·obtain⟨h1,h2,h3,_⟩:=hc.1
   rw[List.length_take,List.length_drop];omega
  ·exact ajv hl hc.2 x hx
theorem agb {α:Type} {ks:List Bool} {h:Nat} {l:List α} (hl:l.length=ks.length):∀{p:Nat} {r:List Nat},ChP ks h p r→∀k,k<r.length→p+(((jV l p r).take (k+1)).flatten).length=r[k]?.getD 0
 |p,[],_,k,hk=>by simp at hk
 |p,q::r,hc,k,hk=>by
  obtain⟨h1,h2,h3,_⟩:=hc.1;show p+((((l.drop p).take (q-p)::jV l q r).take (k+1)).flatten).length=_;rw[List.take_succ_cons,List.flatten_cons,List.length_append,List.length_take,List.length_drop];cases k with
  |zero=>simp;omega
  |succ k=>have:=agb hl hc.2 k (by simpa using hk);rw[List.getElem?_cons_succ,←this];omega
theorem anH:∀{ks:List Bool} {h p:Nat} {r:List Nat},ChP ks h p r→∀k,k<r.length→∃p',afY ks h p' (r[k]?.getD 0)
 |ks,h,p,[],_,k,hk=>by simp at hk
 |ks,h,p,q::r,hc,0,_=>⟨p,hc.1⟩
 |ks,h,p,q::r,hc,k+1,hk=>by have:=anH hc.2 k (by simpa using hk);simpa using this
theorem aje:∀{ks:List Bool} {h p:Nat} {r:List Nat},ChP ks h p r→∀k,k+1<r.length→r[k]?.getD 0<ks.length
 |ks,h,p,[],_,k,hk=>by simp at hk
 |ks,h,p,[q],_,k,hk=>by simp at hk
 |ks,h,p,q::q2::r,hc,0,_=>by have h1:=hc.2.1.1;have h2:=hc.2.1.2.1;show q<_;omega
 |ks,h,p,q::q2::r,hc,k+1,hk=>by have:=aje hc.2 k (by simpa using hk);simpa using this
abbrev fu (b:Bool):PV:=.agg [.val (.int .i64 1),.val (.bool b),.val (.int .i64 0),.val (.int .i64 0)]
def dRw:Dec Bool where
 d:=fun| .agg [.val (.int .i64 h),.val (.bool b),.val (.int .i64 n),.val (.int .i64 f)]=>if h=1∧n=0∧f=0 then some b else none|_=>none
 e:=fu
 h:=fun p a h=>by
  split at h
  ·split at h
   ·rename_i hc
    obtain⟨rfl,rfl,rfl⟩:=hc;cases h;rfl
   ·cases h
  ·cases h
 h':=fun a=>rfl
theorem afp:dRw.e=fu:=rfl
abbrev asn:Dec (List Bool):=dL 4 dRw
def acz:Fun:=F1 dRw fun _=>some (bv true)
theorem ad4 {b:Bool}:acz [.agg [.val (.int .i64 1),.val (.bool b),.val (.int .i64 0),.val (.int .i64 0)]]=some (.val (.bool true)):=gu (A:=dRw) b
def qx:Fun:=F1 dI fun h=>some (bv (inB h 1 1000))
theorem tO {h:Int}:qx [.val (.int .i64 h)]=some (.val (.bool (inB h 1 1000))):=gu (A:=dI) h
def ayP:Ctx:={fn:=aY [(64,φIn)],io:=aY []}
theorem ao3:ak Tryz.prog ayP:=okΓ (fC Tryz.func64 oH aj) aj
def aqD:=ah (Γ:=ayP) (f:=64) (φ:=φIn) rfl
theorem aiB:Sound Tryz.prog 63 qx:=by refine au mixed ao3 Tryz.func63 rfl 5 rfl [.tmp 2] rfl (by kernel_rfl) fun ps r hr=>?_;obtain⟨h,rfl,hr⟩:=bQ hr;cases hr;refine⟨by simp,?_⟩;simp only[dIs,dUs,dSs,dz,dF,dx,dG,aR,dD,aU,aV,aS,aT];have gish_c64:=aqD;have ap:=bK;exact wlkF
def axS:Ctx:={fn:=aY [(64,φIn),(63,qx)],io:=aY []}
theorem arb:ak Tryz.prog axS:=okΓ (fC Tryz.func64 oH (fC Tryz.func63 aiB aj)) aj
def arX:=ah (Γ:=axS) (f:=64) (φ:=φIn) rfl
def aqM:=ah (Γ:=axS) (f:=63) (φ:=qx) rfl
theorem afv:Sound Tryz.prog 125 acz:=by
 refine au mixed arb Tryz.func125 rfl 16 rfl [.tmp 2] rfl (by kernel_rfl) fun ps r hr=>?_;obtain⟨b,rfl,hq⟩:=bQ hr;clear hr;cases hq;refine⟨by simp,?_⟩;have grwi_c64:=arX;have grwi_c63:=aqM;have ap:=bK;have ap2:=@tO;have h1:inB 1 1 1000=true:=by decide
 have h0:inB 0 0 1000=true:=by decide
 (try simp only[afp]);exact wlkF
def ayU:Ctx:={fn:=aY [(34,φIn)],io:=aY []}
theorem ao6:ak Tryz.prog ayU:=okΓ (fC Tryz.func34 iy aj) aj
def aoz:=ah (Γ:=ayU) (f:=34) (φ:=φIn) rfl
theorem afB:Sound Tryz.prog 99 acz:=by
 refine au mixed ao6 Tryz.func99 rfl 16 rfl [.tmp 2] rfl (by kernel_rfl) fun ps r hr=>?_;obtain⟨b,rfl,hq⟩:=bQ hr;clear hr;cases hq;refine⟨by simp,?_⟩;have grws_c34:=aoz;have ap:=bK;have h1:inB 1 1 1000=true:=by decide
 have h0:inB 0 0 1000=true:=by decide
 (try simp only[afp]);exact wlkF
def uh:Fun:=F1 asn fun l=>if l.length≤1000 then some (bv (decide (l.length≤30)))else none
theorem zJ {l:List Bool} (h:l.length≤1000):uh [.lst false 4 (l.map fu)]=some (.val (.bool (decide (l.length≤30)))):=(gu (A:=asn) l).trans (if_pos h)
def asz:Ctx:={fn:=aY [(125,acz)],io:=aY []}
theorem aml:ak Tryz.prog asz:=okΓ (fC Tryz.func125 afv aj) aj
def ahs:=ah (Γ:=asz) (f:=125) (φ:=acz) rfl
theorem abV:Sound Tryz.prog 94 uh:=by
 refine au mixed aml Tryz.func94 rfl 18 rfl [.tmp 2] rfl (by kernel_rfl) fun ps r hr=>?_;obtain⟨l,rfl,hpre,rfl⟩:=jQ hr;refine⟨by simp,?_⟩;simp only[dIs,dUs,dSs,dz,dF,dx,dG,aR,dD,aU,aV,aS,aT];(try simp only[afp]);have hdec:decide ((l.length:Int)≤30)=decide (l.length≤30):=decide_eq_decide.2 (by omega);have grwsi_c125:=ahs;have ap:=@ad4;(refine wlk ?_;intros);refine aG (α:=Nat×Nat) mixed (fun i=>[(0,.lst false 4 (l.map fu)),(5,.lst false 4 (l.map fu)),(6,iv l.length),(7,iv i.1)]) (fun i=>[]) (fun i=>i.2)
  (fun i=>i.1≤l.length) (fun i=>l.length-i.1) (by kernel_rfl) (0,0) (Nat.zero_le _) ?_ trivial rfl ?_
 ·exact agr
 rintro⟨k,y⟩ hk;dsimp only at hk;by_cases hkl:k<l.length
 ·(refine wlk ?_;intros)
  refine⟨(k+1,_),by dsimp only;omega,by dsimp only;omega,?_,trivial,rfl⟩;exact agr
 ·exact wlkF
def avr:Ctx:={fn:=aY [(99,acz)],io:=aY []}
theorem akt:ak Tryz.prog avr:=okΓ (fC Tryz.func99 afB aj) aj
def ajR:=ah (Γ:=avr) (f:=99) (φ:=acz) rfl
theorem ab2:Sound Tryz.prog 67 uh:=by
 refine au mixed akt Tryz.func67 rfl 19 rfl [.tmp 2] rfl (by kernel_rfl) fun ps r hr=>?_;obtain⟨l,rfl,hpre,rfl⟩:=jQ hr;refine⟨by simp,?_⟩;simp only[dIs,dUs,dSs,dz,dF,dx,dG,aR,dD,aU,aV,aS,aT];(try simp only[afp]);have hdec:decide ((l.length:Int)≤30)=decide (l.length≤30):=decide_eq_decide.2 (by omega);have grwss_c99:=ajR;have ap:=@ad4;(refine wlk ?_;intros);refine aG (α:=Nat) mixed (fun i=>[(0,.lst false 4 (l.map fu)),(3,iv i)]) (fun i=>[]) (fun i=>0)
  (fun i=>i≤l.length) (fun i=>l.length-i) (by kernel_rfl) 0 (Nat.zero_le _) ?_ trivial rfl ?_
 ·exact agr
 intro k hk;by_cases hkl:k<l.length
 ·(refine wlk ?_;intros)
  refine⟨k+1,by omega,by dsimp only;omega,?_,trivial,rfl⟩;exact agr
 ·exact wlkF
def alc:Fun:=F1 asn fun l=>if l.length≤1000 then some (iv l.length)else none
theorem amn {l:List Bool} (h:l.length≤1000):alc [.lst false 4 (l.map fu)]=some (.val (.int .i64 l.length)):=(gu (A:=asn) l).trans (if_pos h)
theorem ab6:Sound Tryz.prog 95 alc:=by
 refine au mixed bJ Tryz.func95 rfl 18 rfl [.tmp 2] rfl (by kernel_rfl) fun ps r hr=>?_;obtain⟨l,rfl,hpre,rfl⟩:=jQ hr;refine⟨by simp,?_⟩;simp only[dIs,dUs,dSs,dz,dF,dx,dG,aR,dD,aU,aV,aS,aT];(try simp only[afp]);(refine wlk ?_;intros);refine aG (α:=Nat×Nat) mixed (fun i=>[(3,iv i.1),(6,.lst false 4 (l.map fu)),(7,iv l.length),(8,iv i.1)]) (fun i=>[]) (fun i=>i.2)
  (fun i=>i.1≤l.length) (fun i=>l.length-i.1) (by kernel_rfl) (0,0) (Nat.zero_le _) ?_ trivial rfl ?_
 ·exact agr
 rintro⟨k,y⟩ hk;dsimp only at hk;by_cases hkl:k<l.length
 ·(refine wlk ?_;intros)
  refine⟨(k+1,_),by dsimp only;omega,by dsimp only;omega,?_,trivial,rfl⟩;exact agr
 ·obtain rfl:k=l.length:=by omega
  exact wlkF
def ald:Fun:=F2 asn dI fun l h=>if l.length≤1000 then some (bv (decide (l.length≤30)&&inB h 1 1000))else none
theorem alm {l:List Bool} {h:Int} (hl:l.length≤1000):ald [.lst false 4 (l.map fu),.val (.int .i64 h)]=some (.val (.bool (decide (l.length≤30)&&inB h 1 1000))):=(jm (A:=asn) (B:=dI) l h).trans (if_pos hl)
def GPa:Ctx:={fn:=aY [(94,uh),(63,qx)],io:=aY []}
theorem as1:ak Tryz.prog GPa:=okΓ (fC Tryz.func94 abV (fC Tryz.func63 aiB aj)) aj
def avu:=ah (Γ:=GPa) (f:=94) (φ:=uh) rfl
def asO:=ah (Γ:=GPa) (f:=63) (φ:=qx) rfl
theorem ae4:Sound Tryz.prog 61 ald:=by
 refine au mixed as1 Tryz.func61 rfl 11 rfl [.tmp 4] rfl (by kernel_rfl) fun ps r hr=>?_;obtain⟨l,h,rfl,hpre,rfl⟩:=iB hr;refine⟨by simp,?_⟩;simp only[dIs,dUs,dSs,dz,dF,dx,dG,aR,dD,aU,aV,aS,aT];(try simp only[afp]);have gpa_c94:=avu;have gpa_c63:=asO;have ap:=@zJ;have ap2:=@tO;cases h1:inB h 1 1000 with
 |true=>by_cases h2:l.length≤30
        ·exact wlkF
        ·exact wlkF
 |false=>by_cases h2:l.length≤30
         ·exact wlkF
         ·exact wlkF
def pcB (ks:List Bool) (h p q:Nat):Int:=if q=ks.length then 0 else((h:Int)-((q:Int)-p))*((h:Int)-((q:Int)-p))
def pcR (ks:List Bool) (h p q:Nat):Int:=if afY ks h p q then pcB ks h p q else-1
theorem qR {ks:List Bool} {h:Nat} {E:Nat→Int} {p q:Nat}:ko ks h E p q=pcB ks h p q+E q:=rfl
theorem rR {ks:List Bool} {h p q:Nat} (hm:afY ks h p q) (hh:h≤30):0≤pcB ks h p q∧pcB ks h p q≤900:=by
 obtain⟨h1,h2,h3,h4⟩:=hm;unfold pcB;split
 ·omega
 ·obtain⟨d,hd⟩:∃d:Nat,(h:Int)-((q:Int)-p)=d:=⟨h-(q-p),by omega⟩
  have hd2:d≤30:=by omega
  have:d*d≤30*30:=Nat.mul_le_mul hd2 hd2;rw[hd];have e:(d:Int)*d=((d*d:Nat):Int):=by simp
  omega
def abv:Fun:=fun ps=>open Classical in if hx:∃(ks:List Bool) (h p q:Nat),ps=[.lst false 4 (ks.map fu),.val (.int .i64 h),.val (.int .i64 p),.val (.int .i64 q)]∧ks.length≤30∧h≤30∧p<q∧q≤ks.length then some (iv (pcR hx.choose hx.choose_spec.choose hx.choose_spec.choose_spec.choose hx.choose_spec.choose_spec.choose_spec.choose))else none
theorem anx {a b:List Bool} (h:a.map fu=b.map fu):a=b:=(List.map_inj_right fun x y e=>by simpa using e).1 h
theorem adU {ks:List Bool} {h p q:Nat} (h1:ks.length≤30) (h2:h≤30) (h3:p<q) (h4:q≤ks.length):abv [.lst false 4 (ks.map fu),.val (.int .i64 h),.val (.int .i64 p),.val (.int .i64 q)]=some (.val (.int .i64 (pcR ks h p q))):=by have hx:∃(ks':List Bool) (h' p' q':Nat),[PV.lst false 4 (ks.map fu),.val (.int .i64 h),.val (.int .i64 p),.val (.int .i64 q)]=[.lst false 4 (ks'.map fu),.val (.int .i64 h'),.val (.int .i64 p'),.val (.int .i64 q')]∧ks'.length≤30∧h'≤30∧p'<q'∧q'≤ks'.length:=⟨ks,h,p,q,rfl,h1,h2,h3,h4⟩;unfold abv;rw[dif_pos hx];have e:=hx.choose_spec.choose_spec.choose_spec.choose_spec.1;generalize hx.choose_spec.choose_spec.choose_spec.choose=q' at*;generalize hx.choose_spec.choose_spec.choose=p' at*;generalize hx.choose_spec.choose=h' at*;generalize hx.choose=ks' at*;simp only[List.cons.injEq,PV.lst.injEq,PV.val.injEq,Value.int.injEq,true_and,and_true,Int.natCast_inj]at e;obtain⟨e1,e2,e3,e4⟩:=e;rw[anx e1,e2,e3,e4]
theorem afN {ps:List PV} {r:PV} (h:abv ps=some r):∃(ks:List Bool) (h p q:Nat),ps=[.lst false 4 (ks.map fu),.val (.int .i64 h),.val (.int .i64 p),.val (.int .i64 q)]∧(ks.length≤30∧h≤30∧p<q∧q≤ks.length)∧r=iv (pcR ks h p q):=by
 have h0:=h;unfold abv at h;split at h
 ·rename_i hx
  obtain⟨ks,hh,p,q,rfl,h1,h2,h3,h4⟩:=hx;rw[adU h1 h2 h3 h4]at h0;exact⟨ks,hh,p,q,rfl,⟨h1,h2,h3,h4⟩,(Option.some.inj h0).symm⟩
 ·cases h
def GPc:Ctx:={fn:=aY [(95,alc)],io:=aY []}
theorem avf:ak Tryz.prog GPc:=okΓ (fC Tryz.func95 ab6 aj) aj
def aek:=ah (Γ:=GPc) (f:=95) (φ:=alc) rfl
theorem aa0:Sound Tryz.prog 62 abv:=by
 refine au mixed avf Tryz.func62 rfl 47 rfl [.tmp 8] rfl (by kernel_rfl) fun ps r hr=>?_;obtain⟨ks,h,p,q,rfl,⟨h1,h2,h3,h4⟩,rfl⟩:=afN hr;clear hr;refine⟨by simp,?_⟩;have hsl:((ks.drop p).take (q-p)).length=q-p:=by rw[List.length_take,List.length_drop];omega
 have aph:=amn (l:=(ks.drop p).take (q-p)) (by omega);rw[hsl]at aph;have hqp:((q-p:Nat):Int)=(q:Int)-p:=by omega
 by_cases hneg:(h:Int)-((q:Int)-p)<0
 ·have hR:pcR ks h p q=-1:=if_neg fun hm=>by have:=hm.2.2.1;omega
  rw[hR];have gpc_c95:=aek;exact wlkF
 ·obtain⟨d,hd⟩:∃d:Nat,(h:Int)-((q:Int)-p)=d:=⟨h-(q-p),by omega⟩
  have hd2:d≤30:=by omega
  have hdd:d*d≤30*30:=Nat.mul_le_mul hd2 hd2;have hdc:(d:Int)*d=((d*d:Nat):Int):=by simp
  have w1:=dA (n:=((h:Int)-((q:Int)-p))*((h:Int)-((q:Int)-p))) (by rw[hd,hdc];omega) (by rw[hd,hdc];omega);clear hd hd2 hdd hdc;by_cases hqn:q=ks.length
  ·subst hqn
   have hR:pcR ks h p ks.length=0:=by unfold pcR;rw[if_pos ⟨h3,h4,by omega,fun e=>by omega⟩];exact if_pos rfl
   rw[hR];have gpc_c95:=aek;exact wlkF
  ·cases hkp:ks[q-1]?.getD false with
   |true=>have hR:pcR ks h p q=-1:=if_neg fun hm=>hm.2.2.2 ⟨by omega,hkp⟩;rw[hR];have gpc_c95:=aek;exact wlkF
   |false=>
    have hR:pcR ks h p q=((h:Int)-((q:Int)-p))*((h:Int)-((q:Int)-p)):=by unfold pcR;rw[if_pos ⟨h3,h4,by omega,fun e=>by rw[show afe ks (q-1)=ks[q-1]?.getD false from rfl,hkp]at e;cases e.2⟩];exact if_neg hqn
    rw[hR];have gpc_c95:=aek;exact wlkF
theorem adI {ks:List Bool} {h:Nat} {E:Nat→Int} {p:Nat} {B:Int} (hp:p≤ks.length) (hh:h≤30) (hB:0≤B) (hE:∀q,E q≤B):∀m,m≤ks.length→-1≤(dnP ks h E p m).1∧(dnP ks h E p m).1≤900+B∧(dnP ks h E p m).2≤ks.length:=fun m hm=>by
 have hb:=rH (ks:=ks) (h:=h) (E:=E) (p:=p) m hm;by_cases c:(dnP ks h E p m).1<0
 ·rw[(hb.no c).1]
  refine⟨?_,?_,?_⟩
  ·show(-1:Int)≤-1
   omega
  ·show(-1:Int)≤900+B
   omega
  ·show 0≤ks.length
   omega
 ·obtain⟨q1,q2,q3,q4⟩:=hb.yes (by omega)
  have h1:=rR q2.1 hh;have h2:=hE (dnP ks h E p m).2;rw[qR]at q3;exact⟨by omega,by omega,q1.2⟩
theorem lI {ks:List Bool} {h:Nat} (hh:h≤30):∀k,k≤ks.length→∀x,-1≤(tbP ks h k x).1∧(tbP ks h k x).1≤900*k∧(tbP ks h k x).2≤ks.length
 |0,_,x=>⟨by show(-1:Int)≤0;omega,by show(0:Int)≤900*0;omega,Nat.zero_le _⟩
 |k+1,hk,x=>by
  have ih:=lI (ks:=ks) hh k (by omega);show-1≤(if x=ks.length-(k+1)then bq ks h (fun q=>(tbP ks h k q).1) (ks.length-(k+1))else tbP ks h k x).1∧(if x=ks.length-(k+1)then bq ks h (fun q=>(tbP ks h k q).1) (ks.length-(k+1))else tbP ks h k x).1≤900*((k+1:Nat):Int)∧(if x=ks.length-(k+1)then bq ks h (fun q=>(tbP ks h k q).1) (ks.length-(k+1))else tbP ks h k x).2≤ks.length;split
  ·have:=adI (ks:=ks) (h:=h) (E:=fun q=>(tbP ks h k q).1) (p:=ks.length-(k+1)) (B:=900*k) (by omega) hh (by omega) (fun q=>(ih q).2.1) (ks.length-(ks.length-(k+1))) (by omega)
   unfold bq;refine⟨this.1,by omega,this.2.2⟩
  ·have:=ih x
   exact⟨this.1,by omega,this.2.2⟩
theorem adw {ks:List Bool} {h k:Nat} (hk:k<ks.length):(fun x=>(tbP ks h (k+1) x).1)=ovr (fun x=>(tbP ks h k x).1) (ks.length-(k+1)) (bq ks h (fun q=>(tbP ks h k q).1) (ks.length-(k+1))).1∧(fun x=>((tbP ks h (k+1) x).2:Int))=ovr (fun x=>((tbP ks h k x).2:Int)) (ks.length-(k+1)) ((bq ks h (fun q=>(tbP ks h k q).1) (ks.length-(k+1))).2:Int):=by
 constructor<;>(funext x;show _=if x=_ then _ else _;split)
 ·rename_i e;subst e;show(if ks.length-(k+1)=ks.length-(k+1)then _ else _:Int×Nat).1=_;rw[if_pos rfl]
 ·rename_i e;show(if x=ks.length-(k+1)then _ else _:Int×Nat).1=_;rw[if_neg e]
 ·rename_i e;subst e;show((if ks.length-(k+1)=ks.length-(k+1)then _ else _:Int×Nat).2:Int)=_;rw[if_pos rfl]
 ·rename_i e;show((if x=ks.length-(k+1)then _ else _:Int×Nat).2:Int)=_;rw[if_neg e]
def vw:Fun:=fun ps=>open Classical in if hx:∃(ks:List Bool) (h:Nat),ps=[.lst false 4 (ks.map fu),.val (.int .i64 h)]∧ks.length≤30∧1≤h∧h≤30 then some (.tup [.lst true 1 (((jD hx.choose hx.choose_spec.choose).map fun n:Nat=>(n:Int)).map fun n=> .val (.int .i64 n)),bv (ze hx.choose hx.choose_spec.choose)])else none
theorem qN {ks:List Bool} {h:Nat} (h1:ks.length≤30) (h2:1≤h) (h3:h≤30):vw [.lst false 4 (ks.map fu),.val (.int .i64 h)]=some (.tup [.lst true 1 (((jD ks h).map fun n:Nat=>(n:Int)).map fun n=> .val (.int .i64 n)),.val (.bool (ze ks h))]):=by have hx:∃(ks':List Bool) (h':Nat),[PV.lst false 4 (ks.map fu),.val (.int .i64 h)]=[.lst false 4 (ks'.map fu),.val (.int .i64 h')]∧ks'.length≤30∧1≤h'∧h'≤30:=⟨ks,h,rfl,h1,h2,h3⟩;unfold vw;rw[dif_pos hx];have e:=hx.choose_spec.choose_spec.1;generalize hx.choose_spec.choose=h' at*;generalize hx.choose=ks' at*;simp only[List.cons.injEq,PV.lst.injEq,PV.val.injEq,Value.int.injEq,true_and,and_true,Int.natCast_inj]at e;obtain⟨e1,e2⟩:=e;rw[anx e1,e2]
theorem vT {ps:List PV} {r:PV} (h:vw ps=some r):∃(ks:List Bool) (h:Nat),ps=[.lst false 4 (ks.map fu),.val (.int .i64 h)]∧(ks.length≤30∧1≤h∧h≤30)∧r=.tup [.lst true 1 (((jD ks h).map fun n:Nat=>(n:Int)).map fun n=> .val (.int .i64 n)),bv (ze ks h)]:=by
 have h0:=h;unfold vw at h;split at h
 ·rename_i hx
  obtain⟨ks,hh,rfl,h1,h2,h3⟩:=hx;rw[qN h1 h2 h3]at h0;exact⟨ks,hh,rfl,⟨h1,h2,h3⟩,(Option.some.inj h0).symm⟩
 ·cases h
def ayy:Ctx:={fn:=aY [(61,ald),(62,abv)],io:=aY []}
theorem ao9:ak Tryz.prog ayy:=okΓ (fC Tryz.func61 ae4 (fC Tryz.func62 aa0 aj)) aj
def aqr:=ah (Γ:=ayy) (f:=61) (φ:=ald) rfl
def aoj:=ah (Γ:=ayy) (f:=62) (φ:=abv) rfl
theorem afG:Sound Tryz.prog 26 vw:=by
 refine gM mixed ao9 Tryz.func26 rfl 105 rfl [.tmp 4,.tmp 5] rfl (by kernel_rfl) fun ps r hr=>?_;obtain⟨ks,h,rfl,⟨h1,h2,h3⟩,rfl⟩:=vT hr;clear hr;refine⟨by simp,?_⟩;have apa:=alm (l:=ks) (h:=h) (by omega);rw[decide_eq_true h1,show inB (h:Int) 1 1000=true from av.2 ⟨by omega,by omega⟩]at apa;have gbpi_c61:=aqr;have gbpi_c62:=aoj;(refine wlk ?_;intros);refine aG (α:=Nat) mixed (fun k=>[(0,.lst false 4 (ks.map fu)),(1,iv h),(6,iv ks.length),(7,.row 0 1 0 (ks.length+1)),(8,.row 1 1 0 (ks.length+1)),(9,.val (.int .i64 ((ks.length:Int)-1-k)))])
  (fun k=>[(0,3,1,wQ ks.length (fun x=>(tbP ks h k x).1)),(1,3,1,wQ ks.length (fun x=>((tbP ks h k x).2:Int)))]) (fun _=>2) (fun k=>k≤ks.length) (fun k=>ks.length-k) (by kernel_rfl) 0 (Nat.zero_le _) ?_ ?_ rfl ?_
 ·exact agi
 ·simp(disch:=(first|omega|(simp only[push_cast];first|done|omega))) only[push_cast,↓reduceIte,Nat.reduceEqDiff,Nat.reduceBEq,Nat.reduceAdd,Nat.reduceSub,Int.reduceToNat,List.length_append, *]
  try exact⟨rfl,rfl⟩
 intro k hk;have hbd:=lI (ks:=ks) h3 k hk;by_cases hkl:k<ks.length
 ·obtain⟨e1,e2⟩:=adw (h:=h) hkl
  have hlow:=aaS (ks:=ks) (h:=h) (k:=k) (x:=ks.length-(k+1)) hk (by omega);have hp:(ks.length:Int)-1-k=((ks.length-(k+1):Nat):Int):=by omega
  rw[hp];replace hp:=Lib.hid hp;have hdn:=fun m hm=>adI (ks:=ks) (h:=h) (E:=fun q=>(tbP ks h k q).1) (p:=ks.length-(k+1)) (B:=900*k) (by omega) h3 (by omega) (fun q=>(hbd q).2.1) m hm;have hbq:bq ks h (fun q=>(tbP ks h k q).1) (ks.length-(k+1))=dnP ks h (fun q=>(tbP ks h k q).1) (ks.length-(k+1)) (ks.length-(ks.length-(k+1))):=rfl;rw[hbq]at e1 e2;clear hbq;have hN0:((tbP ks h k (ks.length-(k+1))).2:Int)=0:=by rw[hlow];rfl
  have hEb:∀x,-1≤(fun x=>(tbP ks h k x).1) x∧(fun x=>(tbP ks h k x).1) x≤27000:=fun x=>by have:=hbd x;exact⟨this.1,by dsimp only;omega⟩
  replace hN0:(fun x=>((tbP ks h k x).2:Int)) (ks.length-(k+1))=0:=hN0;have hpk:ks.length-(k+1)<ks.length:=by omega
  clear hbd hlow;generalize hEe:(fun x=>(tbP ks h k x).1)=E at*;generalize hNe:(fun x=>((tbP ks h k x).2:Int))=Nx at*;replace e1:=Lib.hid e1;replace e2:=Lib.hid e2;clear hEe hNe;generalize ks.length-(k+1)=p at*;have hov:ovr Nx p ((dnP ks h E p 0).2:Int)=Nx:=by rw[show((dnP ks h E p 0).2:Int)=Nx p from hN0.symm];exact amS
  replace hov:=Lib.hid hov;replace hN0:=Lib.hid hN0;(refine wlk ?_;intros);refine aG (α:=Nat) mixed (fun m=>[(0,.lst false 4 (ks.map fu)),(1,iv h),(6,iv ks.length),(7,.row 0 1 0 (ks.length+1)),(8,.row 1 1 0 (ks.length+1)),(9,iv p),(10,.val (.int .i64 ((ks.length:Int)-m)))])
   (fun m=>[(0,3,1,wQ ks.length (ovr E p (dnP ks h E p m).1)),(1,3,1,wQ ks.length (ovr Nx p ((dnP ks h E p m).2:Int)))]) (fun _=>2) (fun m=>m≤ks.length-p) (fun m=>ks.length-p-m) (by kernel_rfl) 0 (Nat.zero_le _) ?_ ?_ rfl ?_
  ·exact agi
  ·(try dsimp only)
   rw[hov.out];simp(disch:=(first|omega|(simp only[push_cast];first|done|omega))) only[push_cast,↓reduceIte,Nat.reduceEqDiff,Nat.reduceBEq,Nat.reduceAdd,Nat.reduceSub,Int.reduceToNat,List.length_append, *];try rfl
  intro m hm;have hsb:=hdn m (by omega);by_cases hml:m<ks.length-p
  ·have hq:(ks.length:Int)-m=((ks.length-m:Nat):Int):=by omega
   have hst:dnP ks h E p (m+1)=abb ks h E p (ks.length-m) (dnP ks h E p m):=rfl;have hpq:p<ks.length-m:=by omega
   have hqn:ks.length-m≤ks.length:=by omega
   have hEq:=hEb (ks.length-m);(try dsimp only);rw[hq];replace hq:=Lib.hid hq;generalize ks.length-m=q at*;have apc:=adU (ks:=ks) (h:=h) (p:=p) (q:=q) h1 h3 hpq hqn;have hpm:=fun hm=>rR (ks:=ks) (h:=h) (p:=p) (q:=q) hm h3;generalize dnP ks h E p m=s at*;have ea:ovr E p s.1 q=E q:=amX (by omega);have eb:ovr E p s.1 p=s.1:=amH;have eo:∀v,ovr (ovr E p s.1) p v=ovr E p v:=fun v=>yY;have eo2:∀v,ovr (ovr Nx p (s.2:Int)) p v=ovr Nx p v:=fun v=>yY;unfold abb okQ at hst;rw[qR]at hst;clear hEb hN0 hov hdn e1 e2 hp;by_cases hok:afY ks h p q
   ·have hpc:pcR ks h p q=pcB ks h p q:=if_pos hok
    obtain⟨hc0,hc1⟩:=hpm hok;rw[hpc]at apc;clear hpm hpc;by_cases hE0:E q<0
    ·have hst2:dnP ks h E p (m+1)=s:=by rw[hst];exact if_neg fun e=>by have:=e.1.2;omega
     replace hst2:=Lib.hid hst2;clear hst;generalize pcB ks h p q=c at*;(refine wlk ?_;intros);refine⟨m+1,by omega,by dsimp only;omega,?_,?_,rfl⟩
     ·have hq:=hq.out
      exact agi
     ·(try dsimp only)
      rw[hst2.out];exact agr
    ·by_cases hs0:s.1<0
     ·have hst2:dnP ks h E p (m+1)=(pcB ks h p q+E q,q):=by rw[hst];exact if_pos ⟨⟨hok,by omega⟩,.inl hs0⟩
      replace hst2:=Lib.hid hst2;clear hst;generalize pcB ks h p q=c at*;(refine wlk ?_;intros);refine⟨m+1,by omega,by dsimp only;omega,?_,?_,rfl⟩
      ·have hq:=hq.out
       exact agi
      ·(try dsimp only)
       rw[hst2.out];exact agr
     ·by_cases hlt:pcB ks h p q+E q<s.1
      ·have hst2:dnP ks h E p (m+1)=(pcB ks h p q+E q,q):=by rw[hst];exact if_pos ⟨⟨hok,by omega⟩,.inr hlt⟩
       replace hst2:=Lib.hid hst2;clear hst;generalize pcB ks h p q=c at*;(refine wlk ?_;intros);refine⟨m+1,by omega,by dsimp only;omega,?_,?_,rfl⟩
       ·have hq:=hq.out
        exact agi
       ·(try dsimp only)
        rw[hst2.out];exact agr
      ·have hst2:dnP ks h E p (m+1)=s:=by rw[hst];exact if_neg fun e=>e.2.elim hs0 hlt
       replace hst2:=Lib.hid hst2;clear hst;generalize pcB ks h p q=c at*;(refine wlk ?_;intros);refine⟨m+1,by omega,by dsimp only;omega,?_,?_,rfl⟩
       ·have hq:=hq.out
        exact agi
       ·(try dsimp only)
        rw[hst2.out];exact agr
   ·have hpc:pcR ks h p q=-1:=if_neg hok
    rw[hpc]at apc;have hst2:dnP ks h E p (m+1)=s:=by rw[hst];exact if_neg fun e=>hok e.1.1
    replace hst2:=Lib.hid hst2;clear hst hpm hpc;(refine wlk ?_;intros);refine⟨m+1,by omega,by dsimp only;omega,?_,?_,rfl⟩
    ·have hq:=hq.out
     exact agi
    ·(try dsimp only)
     rw[hst2.out];exact agr
  ·obtain rfl:m=ks.length-p:=by omega
   have hm2:(ks.length:Int)-((ks.length-p:Nat):Int)=p:=by omega
   (try dsimp only);rw[hm2];clear hm2;generalize dnP ks h E p (ks.length-p)=s at*;(refine wlk ?_;intros);refine⟨k+1,by omega,by dsimp only;omega,?_,?_,rfl⟩
   ·have hp:=hp.out
    exact agi
   ·(try dsimp only)
    rw[e1.out,e2.out];exact agr
 ·obtain rfl:k=ks.length:=by omega
  (try dsimp only);rw[show(ks.length:Int)-1-(ks.length:Int)=-1 by omega,show(fun x=>(tbP ks h ks.length x).1)=dW ks h from rfl,show(fun x=>((tbP ks h ks.length x).2:Int))=fun x=>(jL ks h x:Int)from rfl];have hb0:-1≤dW ks h 0∧dW ks h 0≤27000:=by have:=hbd 0;exact⟨this.1,by unfold dW;omega⟩
  clear hbd;cases hB:ze ks h with
  |false=>
   have hl0:dW ks h 0<0:=by unfold ze at hB;simpa using hB
   have hE0:jD ks h=[]:=by unfold jD;rw[if_neg (by rw[hB];decide)]
   rw[hE0,List.map_nil,List.map_nil];clear hB hE0;generalize dW ks h=L at*;generalize(fun x=>(jL ks h x:Int))=Nx at*;(refine wlk ?_;intros);all_goals((with_reducible apply dw (by first|exact .inl rfl|exact .inr rfl));(simp(disch:=(first|omega|(simp only[push_cast];first|done|omega))) only[push_cast,↓reduceIte,Nat.reduceEqDiff,Nat.reduceBEq,Nat.reduceAdd,Nat.reduceSub,Int.reduceToNat, *]<;>with_reducible exact rfl))
   all_goals exact oM ⟨nil_le _ _,PV.le_refl _,trivial⟩
  |true=>
   have hl0:=yL.1 hB;have hE0:jD ks h=mF ks h ks.length 0:=if_pos hB;have hch:=rU (vX hB);have hnm:=fun p h1 h2=>yM (ks:=ks) (h:=h) (p:=p) h1 h2;have hpe:=fun f=>ac7 (ks:=ks) (h:=h) (f:=f);have hpS:∀f p,p<ks.length→mF ks h (f+1) p=jL ks h p::mF ks h f (jL ks h p):=fun f p hp=>if_pos hp;have hNb:∀p,jL ks h p≤ks.length:=fun p=>by
    by_cases hp:p<ks.length
    ·exact(tH (ks:=ks) (h:=h) (E:=dW ks h) (p:=p) (by omega))|>fun hb=>by
      have e:=abP (h:=h) hp;by_cases c:(bq ks h (dW ks h) p).1<0
      ·unfold jL
       rw[e,(hb.no c).1];exact Nat.zero_le _
      ·unfold jL
       rw[e];exact(hb.yes (by omega)).1.2
    ·have:=(lI (ks:=ks) h3 ks.length (Nat.le_refl _) p).2.2
     exact this
   rw[hE0]at hch;rw[hE0];clear hB hE0;generalize hLL:dW ks h=L at*;generalize hNN:jL ks h=Nx at*;generalize hZ:(mF ks h ks.length 0).map (fun n:Nat=>(n:Int))=Z at*;have hZl:Z.length≤ks.length:=by rw[←hZ,List.length_map];exact hch
   (refine wlk ?_;intros);refine aG (α:=List Int×Nat×Nat×Nat) mixed (fun i=>[(6,iv ks.length),(8,.row 1 1 0 (ks.length+1)),(12,nP 1 (i.1.map fun n=> .val (.int .i64 n)) i.2.2.1),(13,iv i.2.1)])
    (fun i=>[(1,3,1,wQ ks.length (fun x=>(Nx x:Int)))]++nO 3 1 (i.1.map fun n=> .val (.int .i64 n)) i.2.2.1) (fun i=>i.2.2.2)
    (fun i=>(i.2.1≤ks.length∧0≤L i.2.1)∧(2≤i.2.2.2∧(0<i.1.length→2≤i.2.2.1∧i.2.2.1<i.2.2.2))∧∃f,ks.length-i.2.1≤f∧i.1++(mF ks h f i.2.1).map (fun n:Nat=>(n:Int))=Z) (fun i=>ks.length-i.2.1) (by kernel_rfl) ([],0,0,2) ⟨⟨Nat.zero_le _,hl0⟩,⟨Nat.le_refl _,fun e=>absurd e (Nat.lt_irrefl 0)⟩,ks.length,by dsimp only;omega,by rw[List.nil_append];exact hZ⟩ ?_ ?_ rfl ?_
   ·(try dsimp only)
    rw[List.map_nil,eO];exact agi
   ·(try dsimp only)
    rw[List.map_nil,dO];simp(disch:=(first|omega|(simp only[push_cast];first|done|omega))) only[push_cast,↓reduceIte,Nat.reduceEqDiff,Nat.reduceBEq,Nat.reduceAdd,Nat.reduceSub,Int.reduceToNat,List.cons_append,List.nil_append,List.append_nil, *]
   rintro⟨OUT,p,o,y⟩ ⟨⟨hp,hLp⟩,⟨hy,hoy⟩,f,hf,hout⟩;dsimp only at hp hLp hy hoy hf hout⊢;by_cases hpl:p<ks.length
   ·obtain⟨f,rfl⟩:∃g,f=g+1:=⟨f-1,by omega⟩
    obtain⟨hm1,hm2⟩:=hnm p hpl hLp;have hn1:=hm1.1;have hn2:=hm1.2.1;rw[hpS f p hpl,List.map_cons]at hout;have hout2:(OUT++[(Nx p:Int)])++(mF ks h f (Nx p)).map (fun n:Nat=>(n:Int))=Z:=by rw[List.append_assoc];exact hout
    have hol:OUT.length+1≤ks.length:=by have:=congrArg List.length hout2;simp only[List.length_append,List.length_singleton]at this;omega
    clear hout hnm hpe hpS hm1 hLL hNN hZ hch;replace hout2:=Lib.hid hout2;replace hm2:=Lib.hid hm2;by_cases hO:OUT.length=0
    ·obtain rfl:OUT=[]:=List.eq_nil_of_length_eq_zero hO
     rw[List.map_nil,eO,dO,List.append_nil];clear hO hoy;(refine wlk ?_;intros);refine⟨([(Nx p:Int)],Nx p,y+1,y+2),⟨⟨by dsimp only;omega,hm2.out⟩,⟨by dsimp only;omega,fun _=>⟨by dsimp only;omega,by dsimp only;omega⟩⟩,f,by dsimp only;omega,hout2.out⟩,by dsimp only;omega,?_,?_,rfl⟩
     ·(try dsimp only)
      rw[aA (by simp)];exact agi
     ·(try dsimp only)
      rw[aB (by simp)];simp(disch:=(first|omega|(simp only[push_cast];first|done|omega))) only[push_cast,↓reduceIte,Nat.reduceEqDiff,Nat.reduceBEq,Nat.reduceAdd,Nat.reduceSub,Int.reduceToNat,List.cons_append,List.nil_append,List.append_nil, *]
    ·obtain⟨ho1,ho2⟩:=hoy (by omega)
     rw[aA (es:=OUT.map fun n=> .val (.int .i64 n)) (by rw[List.length_map];omega),aB (es:=OUT.map fun n=> .val (.int .i64 n)) (by rw[List.length_map];omega)];simp only[List.cons_append,List.nil_append,List.length_map];(refine wlk ?_;intros);refine⟨(OUT++[(Nx p:Int)],Nx p,y+1,y+2),⟨⟨by dsimp only;omega,hm2.out⟩,⟨by dsimp only;omega,fun _=>⟨by dsimp only;omega,by dsimp only;omega⟩⟩,f,by dsimp only;omega,hout2.out⟩,by dsimp only;omega,?_,?_,rfl⟩
     ·(try dsimp only)
      rw[aA (by simp)];exact agi
     ·(try dsimp only)
      rw[aB (by simp)];simp(disch:=(first|omega|(simp only[push_cast];first|done|omega))) only[push_cast,↓reduceIte,Nat.reduceEqDiff,Nat.reduceBEq,Nat.reduceAdd,Nat.reduceSub,Int.reduceToNat,List.cons_append,List.nil_append,List.append_nil, *]
   ·obtain rfl:p=ks.length:=by omega
    rw[hpe f,List.map_nil,List.append_nil]at hout;subst hout;clear hnm hpe hpS hLL hNN hZ hch hNb;by_cases hO:OUT.length=0
    ·obtain rfl:OUT=[]:=List.eq_nil_of_length_eq_zero hO
     rw[List.map_nil,eO,dO,List.append_nil];clear hO hoy;(refine wlk ?_;intros);all_goals((with_reducible apply dw (by first|exact .inl rfl|exact .inr rfl));(simp(disch:=(first|omega|(simp only[push_cast];first|done|omega))) only[push_cast,↓reduceIte,Nat.reduceEqDiff,Nat.reduceBEq,Nat.reduceAdd,Nat.reduceSub,Int.reduceToNat, *]<;>with_reducible exact rfl))
     all_goals exact oM ⟨nil_le _ _,PV.le_refl _,trivial⟩
    ·obtain⟨ho1,ho2⟩:=hoy (by omega)
     rw[aA (es:=OUT.map fun n=> .val (.int .i64 n)) (by rw[List.length_map];omega),aB (es:=OUT.map fun n=> .val (.int .i64 n)) (by rw[List.length_map];omega)];simp only[List.cons_append,List.nil_append,List.length_map];(refine wlk ?_;intros);all_goals((with_reducible apply dw (by first|exact .inl rfl|exact .inr rfl));(simp(disch:=(first|omega|(simp only[push_cast];first|done|omega))) only[push_cast,↓reduceIte,Nat.reduceEqDiff,Nat.reduceBEq,Nat.reduceAdd,Nat.reduceSub,Int.reduceToNat, *]<;>with_reducible exact rfl))
     all_goals exact PV.le_refl _
abbrev zN (c:List Nat):List Int:=c.map fun n:Nat=>(n:Int)
theorem as4 {a b:List Nat} (h:zN a=zN b):a=b:=(List.map_inj_right fun x y e=>Int.natCast_inj.1 e).1 h
theorem int_inj {a b:List Int} (h:(a.map fun n=>PV.val (.int .i64 n))=b.map fun n=>PV.val (.int .i64 n)):a=b:=(List.map_inj_right fun x y e=>by simpa using e).1 h
theorem ako {c:List Nat} {k:Nat} (h:k<c.length):(zN c)[k]?.getD 0=((c[k]?.getD 0:Nat):Int):=by rw[List.getElem?_map,List.getElem?_eq_getElem h];rfl
def anr (c:List Nat):Prop:=(∀x∈c,1≤x)∧c.sum≤30
def wN:Fun:=fun ps=>open Classical in if hx:∃c:List Nat,ps=[.lst false 1 ((zN c).map fun n=> .val (.int .i64 n)),.val (.int .i64 1)]∧anr c then some (.lst true 4 ((dX hx.choose).map fu))else none
theorem qL {c:List Nat} (h:anr c):wN [.lst false 1 ((zN c).map fun n=> .val (.int .i64 n)),.val (.int .i64 1)]=some (.lst true 4 ((dX c).map fu)):=by have hx:∃c':List Nat,[PV.lst false 1 ((zN c).map fun n=> .val (.int .i64 n)),.val (.int .i64 1)]=[.lst false 1 ((zN c').map fun n=> .val (.int .i64 n)),.val (.int .i64 1)]∧anr c':=⟨c,rfl,h⟩;unfold wN;rw[dif_pos hx];have e:=hx.choose_spec.1;generalize hx.choose=c' at*;simp only[List.cons.injEq,PV.lst.injEq,true_and,and_true]at e;rw[as4 (int_inj e)]
theorem vY {ps:List PV} {r:PV} (h:wN ps=some r):∃c:List Nat,ps=[.lst false 1 ((zN c).map fun n=> .val (.int .i64 n)),.val (.int .i64 1)]∧anr c∧r=.lst true 4 ((dX c).map fu):=by
 have h0:=h;unfold wN at h;split at h
 ·rename_i hx
  obtain⟨c,rfl,hc⟩:=hx;rw[qL hc]at h0;exact⟨c,rfl,hc,(Option.some.inj h0).symm⟩
 ·cases h
theorem atN {c:List Nat} (h:anr c):c.length≤30:=by
 have:c.length≤c.sum:=by
  have h1:=h.1;clear h
  induction c with
  |nil=>simp
  |cons x c ih=>have:=ih fun y hy=>h1 y (by simp[hy]);have:=h1 x (by simp);simp only[List.length_cons,List.sum_cons];omega
 have:=h.2;omega
theorem aar {c:List Nat} (h:anr c) {k:Nat} (hk:k<c.length):1≤c[k]?.getD 0∧(dX (c.take k)).length+c[k]?.getD 0≤30:=by have h1:=acP hk;have h2:=uy c (k+1);rw[oC];refine⟨?_,by have:=h.2;omega⟩;rw[List.getElem?_eq_getElem hk,Option.getD_some];exact h.1 _ (List.getElem_mem hk)
def avk:Ctx:={fn:=aY [(34,φIn)],io:=aY []}
theorem ala:ak Tryz.prog avk:=okΓ (fC Tryz.func34 iy aj) aj
def aku:=ah (Γ:=avk) (f:=34) (φ:=φIn) rfl
theorem aeW:Sound Tryz.prog 31 wN:=by
 refine gM mixed ala Tryz.func31 rfl 75 rfl [.tmp 4] rfl (by kernel_rfl) fun ps r hr=>?_;obtain⟨c,rfl,hc,rfl⟩:=vY hr;clear hr;refine⟨by simp,?_⟩;have hcl:=atN hc;have hzl:(zN c).length=c.length:=by simp
 have hza:=fun k h=>ako (c:=c) (k:=k) h;have hpt:=fun k h=>aar hc (k:=k) h;have hrt:=fun k h=>pK (c:=c) (k:=k) h;have hfull:c.take c.length=c:=List.take_length;have h11:inB 1 1 1000=true:=by decide
 have ap:=bK;clear hc;generalize zN c=C at*;have grwps_c34:=aku;(refine wlk ?_;intros);refine aG (α:=Nat×Nat×Nat) mixed (fun i=>[(0,.lst false 1 (C.map fun n=> .val (.int .i64 n))),(1,iv 1),(5,.row i.2.1 4 0 (dX (c.take i.1)).length),(6,iv i.1)])
  (fun i=>[(i.2.1,88,4,(dX (c.take i.1)).map fu)]) (fun i=>i.2.2) (fun i=>i.1≤c.length∧i.2.1<i.2.2) (fun i=>c.length-i.1) (by kernel_rfl) (0,0,1) ⟨Nat.zero_le _,by decide⟩ ?_ ?_ rfl ?_
 ·(simp(disch:=(first|omega|(simp only[push_cast];first|done|omega))) only[push_cast,↓reduceIte,Nat.reduceEqDiff,Nat.reduceBEq,Nat.reduceAdd,Nat.reduceSub,Int.reduceToNat,List.length_append, *];try exact congrArg (fun z=>PV.val (Value.int IntKind.i64 z)) (by omega))
  try rfl
 ·simp(disch:=(first|omega|(simp only[push_cast];first|done|omega))) only[push_cast,↓reduceIte,Nat.reduceEqDiff,Nat.reduceBEq,Nat.reduceAdd,Nat.reduceSub,Int.reduceToNat,List.length_append, *]
  try rfl
 rintro⟨k,o,y⟩ ⟨hk,hoy⟩;dsimp only at hk hoy⊢;by_cases hkl:k<c.length
 ·obtain⟨hn1,hn30⟩:=hpt k hkl
  have hzk:=hza k hkl;have hr1:=hrt k hkl;have hin:inB (c[k]?.getD 0:Nat) 1 30=true:=av.2 ⟨by omega,by omega⟩;clear hpt hza hrt hfull;replace hr1:=Lib.hid hr1;generalize c[k]?.getD 0=n at*;generalize dX (c.take k)=R at*;(refine wlk ?_;intros);refine aG (α:=Nat×Nat×Nat) mixed (fun i=>[(0,.lst false 1 (C.map fun n=> .val (.int .i64 n))),(1,iv 1),(5,.row i.2.1 4 0 (R++kpN n i.1).length),(6,iv k),(7,iv i.1)])
   (fun i=>[(i.2.1,88,4,(R++kpN n i.1).map fu)]) (fun i=>i.2.2) (fun i=>i.1≤n∧i.2.1<i.2.2) (fun i=>n-i.1) (by kernel_rfl) (0,o,_) ⟨Nat.zero_le _,hoy⟩ ?_ ?_ rfl ?_
  ·(try dsimp only)
   rw[jo,List.append_nil];exact agi;try rfl
  ·(try dsimp only)
   rw[jo,List.append_nil];exact agr;try rfl
  rintro⟨j,o2,y2⟩ ⟨hj,hoy2⟩;dsimp only at hj hoy2⊢;have hRl:(R++kpN n j).length=R.length+j:=by rw[List.length_append,lS]
  by_cases hjl:j<n
  ·have hs:(R++kpN n (j+1)).map fu=(R++kpN n j).map fu++[fu (kp n j)]:=by rw[y9,←List.append_assoc,List.map_append];rfl
   have hsl:(R++kpN n (j+1)).length=R.length+j+1:=by rw[List.length_append,lS];omega
   replace hs:=Lib.hid hs;replace hsl:=Lib.hid hsl;have hkt:=fun h=>awu (n:=n) (j:=j) h;have hkf:=fun h=>ayK (n:=n) (j:=j) h;replace hkt:=Lib.hid hkt;replace hkf:=Lib.hid hkf;have hml:((R++kpN n j).map fu).length=R.length+j:=by rw[List.length_map,hRl]
   rw[hRl];generalize(R++kpN n j).map fu=Q at*;clear hr1 hRl;(refine wlk6 ?_ ?_ ?_ ?_ ?_ ?_<;>intros<;>try with_reducible exact trivial);all_goals refine⟨(j+1,y2+1,y2+2),⟨by dsimp only;omega,by dsimp only;omega⟩,by dsimp only;omega,?_,?_,rfl⟩
   all_goals first
    |(dsimp only;rw[hsl.out];(simp(disch:=(first|omega|(simp only[push_cast];first|done|omega))) only[push_cast,↓reduceIte,Nat.reduceEqDiff,Nat.reduceBEq,Nat.reduceAdd,Nat.reduceSub,Int.reduceToNat,List.length_append, *];try exact congrArg (fun z=>PV.val (Value.int IntKind.i64 z)) (by omega));done)
    |skip
   all_goals(try dsimp only)
   all_goals rw[hs.out]
   all_goals first
    |rw[hkt.out (by omega)]
    |rw[hkf.out (by omega)]
    |rw[show kp n j=decide ((2:Int)<(n:Int)) by
      rcases Nat.lt_or_ge 2 n with q|q
      ·rw[hkt.out (by omega),decide_eq_true (by omega)]
      ·rw[hkf.out (by omega),decide_eq_false (by omega)]]
    |rw[show kp n j=decide ((1:Int)<(n:Int)) by
      rcases Nat.lt_or_ge 1 n with q|q
      ·rw[hkt.out (by omega),decide_eq_true (by omega)]
      ·rw[hkf.out (by omega),decide_eq_false (by omega)]]
   all_goals(try rw[show decide ((2:Int)<(n:Int))=true from decide_eq_true (by omega)])
   all_goals(try rw[show decide ((1:Int)<(n:Int))=true from decide_eq_true (by omega)])
   all_goals exact agr
  ·obtain rfl:j=n:=by omega
   rw[←hr1.out]at*;(refine wlk ?_;intros);refine⟨(k+1,o2,y2),⟨by dsimp only;omega,hoy2⟩,by dsimp only;omega,?_,?_,rfl⟩
   ·exact agi
   ·exact agr
 ·obtain rfl:k=c.length:=by omega
  rw[hfull];clear hpt hza hrt hfull;generalize dX c=R at*;(refine wlk ?_;intros);all_goals((with_reducible apply dw (by first|exact .inl rfl|exact .inr rfl));(simp(disch:=(first|omega|(simp only[push_cast];first|done|omega))) only[push_cast,↓reduceIte,Nat.reduceEqDiff,Nat.reduceBEq,Nat.reduceAdd,Nat.reduceSub,Int.reduceToNat, *]<;>with_reducible exact rfl))
  all_goals exact PV.le_refl _
def arp:Ctx:={fn:=aY [(64,φIn),(63,qx)],io:=aY []}
theorem akL:ak Tryz.prog arp:=okΓ (fC Tryz.func64 oH (fC Tryz.func63 aiB aj)) aj
def akp:=ah (Γ:=arp) (f:=64) (φ:=φIn) rfl
def ak1:=ah (Γ:=arp) (f:=63) (φ:=qx) rfl
theorem afP:Sound Tryz.prog 27 wN:=by
 refine gM mixed akL Tryz.func27 rfl 52 rfl [.tmp 4] rfl (by kernel_rfl) fun ps r hr=>?_;obtain⟨c,rfl,hc,rfl⟩:=vY hr;clear hr;refine⟨by simp,?_⟩;have hcl:=atN hc;have hzl:(zN c).length=c.length:=by simp
 have hza:=fun k h=>ako (c:=c) (k:=k) h;have hpt:=fun k h=>aar hc (k:=k) h;have hrt:=fun k h=>pK (c:=c) (k:=k) h;have hfull:c.take c.length=c:=List.take_length;have h11:inB 1 1 1000=true:=by decide
 have ap:=bK;have ap2:=@tO;clear hc;generalize zN c=C at*;have grwpi_c64:=akp;have grwpi_c63:=ak1;(refine wlk ?_;intros);refine aG (α:=Nat×Nat×Nat) mixed (fun i=>[(1,iv 1),(5,nP 4 ((dX (c.take i.1)).map fu) i.2.1),(12,.lst false 1 (C.map fun n=> .val (.int .i64 n))),(13,iv c.length),(14,iv i.1)])
  (fun i=>nO 88 4 ((dX (c.take i.1)).map fu) i.2.1) (fun i=>i.2.2) (fun i=>i.1≤c.length∧(0<(dX (c.take i.1)).length→i.2.1<i.2.2)) (fun i=>c.length-i.1) (by kernel_rfl) (0,0,0) ⟨Nat.zero_le _,fun h=>absurd h (Nat.lt_irrefl 0)⟩ ?_ ?_ rfl ?_
 ·(try dsimp only)
  rw[show(dX (c.take 0)).map fu=[]from rfl,eO];exact agi
 ·(try dsimp only)
  rw[show(dX (c.take 0)).map fu=[]from rfl,dO];(try trivial)
 rintro⟨k,o,y⟩ ⟨hk,hoy⟩;dsimp only at hk hoy⊢;by_cases hkl:k<c.length
 ·obtain⟨hn1,hn30⟩:=hpt k hkl
  have hzk:=hza k hkl;have hr1:=hrt k hkl;have hin:inB (c[k]?.getD 0:Nat) 1 (30-((dX (c.take k)).length:Int))=true:=av.2 ⟨by omega,by omega⟩;have hin0:(dX (c.take k)).length=0→inB (c[k]?.getD 0:Nat) 1 30=true:=fun h=>av.2 ⟨by omega,by omega⟩;clear hpt hza hrt hfull;replace hr1:=Lib.hid hr1;generalize c[k]?.getD 0=n at*;generalize dX (c.take k)=R at*;by_cases hR0:R.length=0
  ·obtain rfl:R=[]:=List.eq_nil_of_length_eq_zero hR0
   have hin1:=hin0 rfl;have hin2:inB (n:Int) 1 (30-0)=true:=hin1;clear hin;rw[List.map_nil,eO,dO];(refine wlk ?_;intros);refine aG (α:=Nat×Nat×Nat) mixed (fun i=>[(1,iv 1),(5,nP 4 (([]++kpN n i.1).map fu) i.2.1),(7,iv n),(12,.lst false 1 (C.map fun n=> .val (.int .i64 n))),(13,iv c.length),(14,iv k),(24,iv n),(25,iv i.1)])
    (fun i=>nO 88 4 (([]++kpN n i.1).map fu) i.2.1) (fun i=>i.2.2) (fun i=>i.1≤n∧(0<([]++kpN n i.1).length→i.2.1<i.2.2)) (fun i=>n-i.1) (by kernel_rfl) (0,o,_) ⟨Nat.zero_le _,by rw[jo,List.append_nil];exact hoy⟩ ?_ ?_ rfl ?_
   ·(try dsimp only)
    rw[jo,List.append_nil];(try rw[aA (es:=([]:List Bool).map fu) (by rw[List.length_map];omega)]);exact agi;try rfl
   ·(try dsimp only)
    rw[jo,List.append_nil];(try rw[aB (es:=([]:List Bool).map fu) (by rw[List.length_map];omega)]);(try simp only[List.map_nil,dO]);first
     |trivial
     |(simp(disch:=(first|omega|(simp only[push_cast];first|done|omega))) only[push_cast,↓reduceIte,Nat.reduceEqDiff,Nat.reduceBEq,Nat.reduceAdd,Nat.reduceSub,Int.reduceToNat,List.length_append, *];done)
     |(simp(disch:=(first|omega|(simp only[push_cast];first|done|omega))) only[push_cast,↓reduceIte,Nat.reduceEqDiff,Nat.reduceBEq,Nat.reduceAdd,Nat.reduceSub,Int.reduceToNat,List.length_append, *];rfl)
   rintro⟨j,o2,y2⟩ ⟨hj,hoy2⟩;dsimp only at hj hoy2⊢;have hRl:([]++kpN n j).length=([]:List Bool).length+j:=by rw[List.length_append,lS]
   by_cases hjl:j<n
   ·have hs:([]++kpN n (j+1)).map fu=([]++kpN n j).map fu++[fu (kp n j)]:=by rw[y9,←List.append_assoc,List.map_append];rfl
    have hsl:([]++kpN n (j+1)).length=([]:List Bool).length+j+1:=by rw[List.length_append,lS];omega
    replace hs:=Lib.hid hs;replace hsl:=Lib.hid hsl;have hkt:=fun h=>awu (n:=n) (j:=j) h;have hkf:=fun h=>ayK (n:=n) (j:=j) h;replace hkt:=Lib.hid hkt;replace hkf:=Lib.hid hkf;have hml:(([]++kpN n j).map fu).length=([]:List Bool).length+j:=by rw[List.length_map,hRl]
    rw[hRl]at hoy2;generalize([]++kpN n j).map fu=Q at*;clear hr1 hRl;by_cases hQ0:Q.length=0
    ·obtain rfl:Q=[]:=List.eq_nil_of_length_eq_zero hQ0
     rw[eO,dO];clear hQ0 hml;(refine wlk6 ?_ ?_ ?_ ?_ ?_ ?_<;>intros<;>try with_reducible exact trivial);all_goals refine⟨(j+1,y2+1,y2+2),⟨by dsimp only;omega,fun _=>by dsimp only;omega⟩,by dsimp only;omega,?_,?_,rfl⟩
     all_goals(try dsimp only)
     all_goals rw[hs.out,List.nil_append]
     all_goals first
      |rw[hkt.out (by omega)]
      |rw[hkf.out (by omega)]
      |rw[show kp n j=decide ((n:Int)≥3) by
        rcases Nat.lt_or_ge 2 n with q|q
        ·rw[hkt.out (by omega),decide_eq_true (by omega)]
        ·rw[hkf.out (by omega),decide_eq_false (by omega)]]
      |rw[show kp n j=decide ((n:Int)≥2) by
        rcases Nat.lt_or_ge 1 n with q|q
        ·rw[hkt.out (by omega),decide_eq_true (by omega)]
        ·rw[hkf.out (by omega),decide_eq_false (by omega)]]
     all_goals(try rw[show decide ((n:Int)≥3)=true from decide_eq_true (by omega)])
     all_goals(try rw[show decide ((n:Int)≥2)=true from decide_eq_true (by omega)])
     all_goals(try rw[aA (by simp)])
     all_goals(try rw[aB (by simp)])
     all_goals exact agi
    ·have hoy3:=hoy2 (by omega)
     rw[aA (es:=Q) (by omega),aB (es:=Q) (by omega)];rw[hml];(refine wlk6 ?_ ?_ ?_ ?_ ?_ ?_<;>intros<;>try with_reducible exact trivial);all_goals refine⟨(j+1,y2+1,y2+2),⟨by dsimp only;omega,fun _=>by dsimp only;omega⟩,by dsimp only;omega,?_,?_,rfl⟩
     all_goals(try dsimp only)
     all_goals rw[hs.out]
     all_goals first
      |rw[hkt.out (by omega)]
      |rw[hkf.out (by omega)]
      |rw[show kp n j=decide ((n:Int)≥3) by
        rcases Nat.lt_or_ge 2 n with q|q
        ·rw[hkt.out (by omega),decide_eq_true (by omega)]
        ·rw[hkf.out (by omega),decide_eq_false (by omega)]]
      |rw[show kp n j=decide ((n:Int)≥2) by
        rcases Nat.lt_or_ge 1 n with q|q
        ·rw[hkt.out (by omega),decide_eq_true (by omega)]
        ·rw[hkf.out (by omega),decide_eq_false (by omega)]]
     all_goals(try rw[show decide ((n:Int)≥3)=true from decide_eq_true (by omega)])
     all_goals(try rw[show decide ((n:Int)≥2)=true from decide_eq_true (by omega)])
     all_goals(try rw[aA (by simp)])
     all_goals(try rw[aB (by simp)])
     all_goals exact agi
   ·obtain rfl:j=n:=by omega
    rw[←hr1.out]at*;have hoy3:=hoy2 (by omega);rw[aA (es:=(dX (c.take (k+1))).map fu) (by rw[List.length_map];omega),aB (es:=(dX (c.take (k+1))).map fu) (by rw[List.length_map];omega)];rw[List.length_map];clear hr1;(refine wlk ?_;intros);refine⟨(k+1,o2,y2),⟨by dsimp only;omega,hoy2⟩,by dsimp only;omega,?_,?_,rfl⟩
    ·(try dsimp only)
     rw[aA (es:=(dX (c.take (k+1))).map fu) (by rw[List.length_map];omega)];exact agi
    ·(try dsimp only)
     rw[aB (es:=(dX (c.take (k+1))).map fu) (by rw[List.length_map];omega)];exact agr
  ·have hoy1:=hoy (by omega)
   rw[aA (es:=R.map fu) (by rw[List.length_map];omega),aB (es:=R.map fu) (by rw[List.length_map];omega)];rw[List.length_map];(refine wlk ?_;intros);refine aG (α:=Nat×Nat×Nat) mixed (fun i=>[(1,iv 1),(5,nP 4 ((R++kpN n i.1).map fu) i.2.1),(7,iv n),(12,.lst false 1 (C.map fun n=> .val (.int .i64 n))),(13,iv c.length),(14,iv k),(24,iv n),(25,iv i.1)])
    (fun i=>nO 88 4 ((R++kpN n i.1).map fu) i.2.1) (fun i=>i.2.2) (fun i=>i.1≤n∧(0<(R++kpN n i.1).length→i.2.1<i.2.2)) (fun i=>n-i.1) (by kernel_rfl) (0,o,_) ⟨Nat.zero_le _,by rw[jo,List.append_nil];exact hoy⟩ ?_ ?_ rfl ?_
   ·(try dsimp only)
    rw[jo,List.append_nil];(try rw[aA (es:=R.map fu) (by rw[List.length_map];omega)]);exact agi;try rfl
   ·(try dsimp only)
    rw[jo,List.append_nil];(try rw[aB (es:=R.map fu) (by rw[List.length_map];omega)]);(try simp only[List.map_nil,dO]);first
     |trivial
     |(simp(disch:=(first|omega|(simp only[push_cast];first|done|omega))) only[push_cast,↓reduceIte,Nat.reduceEqDiff,Nat.reduceBEq,Nat.reduceAdd,Nat.reduceSub,Int.reduceToNat,List.length_append, *];done)
     |(simp(disch:=(first|omega|(simp only[push_cast];first|done|omega))) only[push_cast,↓reduceIte,Nat.reduceEqDiff,Nat.reduceBEq,Nat.reduceAdd,Nat.reduceSub,Int.reduceToNat,List.length_append, *];rfl)
   rintro⟨j,o2,y2⟩ ⟨hj,hoy2⟩;dsimp only at hj hoy2⊢;have hRl:(R++kpN n j).length=R.length+j:=by rw[List.length_append,lS]
   by_cases hjl:j<n
   ·have hs:(R++kpN n (j+1)).map fu=(R++kpN n j).map fu++[fu (kp n j)]:=by rw[y9,←List.append_assoc,List.map_append];rfl
    have hsl:(R++kpN n (j+1)).length=R.length+j+1:=by rw[List.length_append,lS];omega
    replace hs:=Lib.hid hs;replace hsl:=Lib.hid hsl;have hkt:=fun h=>awu (n:=n) (j:=j) h;have hkf:=fun h=>ayK (n:=n) (j:=j) h;replace hkt:=Lib.hid hkt;replace hkf:=Lib.hid hkf;have hml:((R++kpN n j).map fu).length=R.length+j:=by rw[List.length_map,hRl]
    rw[hRl]at hoy2;generalize(R++kpN n j).map fu=Q at*;clear hr1 hRl;by_cases hQ0:Q.length=0
    ·obtain rfl:Q=[]:=List.eq_nil_of_length_eq_zero hQ0
     rw[eO,dO];clear hQ0 hml;(refine wlk6 ?_ ?_ ?_ ?_ ?_ ?_<;>intros<;>try with_reducible exact trivial);all_goals refine⟨(j+1,y2+1,y2+2),⟨by dsimp only;omega,fun _=>by dsimp only;omega⟩,by dsimp only;omega,?_,?_,rfl⟩
     all_goals(try dsimp only)
     all_goals rw[hs.out,List.nil_append]
     all_goals first
      |rw[hkt.out (by omega)]
      |rw[hkf.out (by omega)]
      |rw[show kp n j=decide ((n:Int)≥3) by
        rcases Nat.lt_or_ge 2 n with q|q
        ·rw[hkt.out (by omega),decide_eq_true (by omega)]
        ·rw[hkf.out (by omega),decide_eq_false (by omega)]]
      |rw[show kp n j=decide ((n:Int)≥2) by
        rcases Nat.lt_or_ge 1 n with q|q
        ·rw[hkt.out (by omega),decide_eq_true (by omega)]
        ·rw[hkf.out (by omega),decide_eq_false (by omega)]]
     all_goals(try rw[show decide ((n:Int)≥3)=true from decide_eq_true (by omega)])
     all_goals(try rw[show decide ((n:Int)≥2)=true from decide_eq_true (by omega)])
     all_goals(try rw[aA (by simp)])
     all_goals(try rw[aB (by simp)])
     all_goals exact agi
    ·have hoy3:=hoy2 (by omega)
     rw[aA (es:=Q) (by omega),aB (es:=Q) (by omega)];rw[hml];(refine wlk6 ?_ ?_ ?_ ?_ ?_ ?_<;>intros<;>try with_reducible exact trivial);all_goals refine⟨(j+1,y2+1,y2+2),⟨by dsimp only;omega,fun _=>by dsimp only;omega⟩,by dsimp only;omega,?_,?_,rfl⟩
     all_goals(try dsimp only)
     all_goals rw[hs.out]
     all_goals first
      |rw[hkt.out (by omega)]
      |rw[hkf.out (by omega)]
      |rw[show kp n j=decide ((n:Int)≥3) by
        rcases Nat.lt_or_ge 2 n with q|q
        ·rw[hkt.out (by omega),decide_eq_true (by omega)]
        ·rw[hkf.out (by omega),decide_eq_false (by omega)]]
      |rw[show kp n j=decide ((n:Int)≥2) by
        rcases Nat.lt_or_ge 1 n with q|q
        ·rw[hkt.out (by omega),decide_eq_true (by omega)]
        ·rw[hkf.out (by omega),decide_eq_false (by omega)]]
     all_goals(try rw[show decide ((n:Int)≥3)=true from decide_eq_true (by omega)])
     all_goals(try rw[show decide ((n:Int)≥2)=true from decide_eq_true (by omega)])
     all_goals(try rw[aA (by simp)])
     all_goals(try rw[aB (by simp)])
     all_goals exact agi
   ·obtain rfl:j=n:=by omega
    rw[←hr1.out]at*;have hoy3:=hoy2 (by omega);rw[aA (es:=(dX (c.take (k+1))).map fu) (by rw[List.length_map];omega),aB (es:=(dX (c.take (k+1))).map fu) (by rw[List.length_map];omega)];rw[List.length_map];clear hr1;(refine wlk ?_;intros);refine⟨(k+1,o2,y2),⟨by dsimp only;omega,hoy2⟩,by dsimp only;omega,?_,?_,rfl⟩
    ·(try dsimp only)
     rw[aA (es:=(dX (c.take (k+1))).map fu) (by rw[List.length_map];omega)];exact agi
    ·(try dsimp only)
     rw[aB (es:=(dX (c.take (k+1))).map fu) (by rw[List.length_map];omega)];exact agr
 ·obtain rfl:k=c.length:=by omega
  rw[hfull]at*;clear hpt hza hrt hfull;generalize dX c=R at*;by_cases hR0:R.length=0
  ·obtain rfl:R=[]:=List.eq_nil_of_length_eq_zero hR0
   rw[List.map_nil,eO,dO];(refine wlk ?_;intros);all_goals((with_reducible apply dw (by first|exact .inl rfl|exact .inr rfl));(simp(disch:=(first|omega|(simp only[push_cast];first|done|omega))) only[push_cast,↓reduceIte,Nat.reduceEqDiff,Nat.reduceBEq,Nat.reduceAdd,Nat.reduceSub,Int.reduceToNat, *]<;>with_reducible exact rfl))
   all_goals exact nil_le _ _
  ·have hoy1:=hoy (by omega)
   rw[aA (es:=R.map fu) (by rw[List.length_map];omega),aB (es:=R.map fu) (by rw[List.length_map];omega)];rw[List.length_map];(refine wlk ?_;intros);all_goals((with_reducible apply dw (by first|exact .inl rfl|exact .inr rfl));(simp(disch:=(first|omega|(simp only[push_cast];first|done|omega))) only[push_cast,↓reduceIte,Nat.reduceEqDiff,Nat.reduceBEq,Nat.reduceAdd,Nat.reduceSub,Int.reduceToNat, *]<;>with_reducible exact rfl))
   all_goals exact PV.le_refl _
structure Fgn where
 bk:Nat→Prop
 at_:World→Prop
 keep:∀w w':World,(∀i,bk i→w'.heap[i]?=w.heap[i]?)→at_ w→at_ w'
def Fgn.no:Fgn:=⟨fun _=>False,fun _=>True,fun _ _ _ _=>trivial⟩
structure HzC (io:IoS) (w00 w0:World) (B:Nat) (bk:Nat→Prop):Prop where
 ne:∀i,io.wr i∨io.im i∨io.it i→¬bk i
 lo:∀i,io.wr i∨io.it i→B≤i
 lt:∀i,io.wr i→i<w0.heap.size
 hb:∀b,bk b→b<w0.heap.size
 sz:B≤w0.heap.size
 fr:Fr (fun i=>bk i∨B≤i) w00 w0
 tk:∀t∈tks,t<B∧¬bk t
def Zt (P:Program) (N B:Nat) (w00:World) (s:AS) (σ:Fgn) (a:Act) (w:World):Prop:=
 (∃io w0 g,Rel io w0 N g s a w∧HzC io w00 w0 B σ.bk)∧σ.at_ w
section
variable {P:Program} {N B:Nat} {w00:World}
theorem HzC.sG {io:IoS} {w0:World} {bk:Nat→Prop} (h:HzC io w00 w0 B bk) {g:Gh} {s:AS} {a:Act} {w:World} (hr:Rel io w0 N g s a w) {kk:Bool} {i:Nat} (hi:g.I kk i):i<w.heap.size∧¬bk i:=by
 refine⟨hr.lt _ _ hi,?_⟩;cases kk with
 |false=>exact h.ne i (.inr (.inl (hr.old i hi)))
 |true=>
  rcases hr.new i hi with⟨h1,_⟩|h1
  ·exact fun e=>by have:=h.hb i e;omega
  ·exact h.ne i (.inr (.inr h1))
theorem HzC.iW {io:IoS} {w0:World} {bk:Nat→Prop} (h:HzC io w00 w0 B bk) {g:Gh} {s:AS} {a:Act} {w:World} (hr:Rel io w0 N g s a w) {o:Nat} {c:Nat×Nat×List PV} (ho:s.ob o=some c):g.β o<w.heap.size∧¬bk (g.β o)∧B≤g.β o:=by
 obtain⟨h1,h2,h3,h4⟩:=hr.ob o c ho;obtain⟨arr,ha,_⟩:=h4.1;refine⟨lt_of_heap ha,?_,?_⟩
 ·rcases h2 with h2|h2
  ·exact fun e=>by have:=h.hb _ e;omega
  ·exact h.ne _ (.inl h2)
 ·rcases h2 with h2|h2
  ·have:=h.sz;omega
  ·exact h.lo _ (.inl h2)
theorem Fgn.same {io:IoS} {w0:World} {σ:Fgn} {g g':Gh} {s s':AS} {a a':Act} {w w':World} (hC:HzC io w00 w0 B σ.bk) (h1:Rel io w0 N g s a w) (h2:Rel io w0 N g' s' a' w') (hM:σ.at_ w):σ.at_ w':=
 σ.keep w w' (fun i hi=>by have q:∀{g:Gh} {s:AS} {a:Act} {w:World},Rel io w0 N g s a w→w.heap[i]?=w0.heap[i]?:=fun hr=>hr.fr.block i (hC.hb i hi) fun q=>hC.ne i (.inl q) hi;rw[q h1,q h2]) hM
structure HZ (P:Program) (N B:Nat) (w00:World) (c:Code) (K:X→AS→Fgn→Prop) (s:AS) (σ:Fgn):Prop where
 go:∀a w,Zt P N B w00 s σ a w→∀Q:Exit→Act→World→Prop,(∀x s' σ' a' w',Zt P N B w00 s' σ' a' w'→K x s' σ'→Q x.qo a' w')→CWp P c Q a w
variable {c c1 c2:Code} {K:X→AS→Fgn→Prop} {s s':AS} {σ:Fgn}
theorem HZ.seq (h:HZ P N B w00 c1 (fun x s' σ'=>match x with| .normal=>HZ P N B w00 c2 K s' σ'| .exit id=>K (.exit id) s' σ'| .ret=>K .ret s' σ') s σ):HZ P N B w00 (.seq c1 c2) K s σ:=HZ.mk fun a w hs Q hQ=>by
 refine wp_seq (CWp.wp (h.go a w hs _ fun x s' σ' a' w' hs' hk=>?_));cases x with
 |normal=>exact(hk.go a' w' hs' Q hQ).wp
 |exit id=>exact hQ _ s' σ' a' w' hs' hk
 |ret=>exact hQ _ s' σ' a' w' hs' hk
theorem HZ.block {id:Nat} (h:HZ P N B w00 c (fun x s' σ'=>K (x.out id) s' σ') s σ):HZ P N B w00 (.block id c) K s σ:=HZ.mk fun a w hs Q hQ=>by
 refine wp_block (CWp.wp (h.go a w hs _ fun x s' σ' a' w' hs' hk=>?_));have:=hQ _ s' σ' a' w' hs' hk;cases x with
 |normal=>exact this
 |ret=>exact this
 |exit id'=>
  simp only[X.qo,Exit.inBlock,X.out]at this⊢;split
  ·rename_i hid;simpa [hid]using this
  ·rename_i hid;simpa [hid]using this
theorem Zt.forget {a:Act} {w:World} (h:Zt P N B w00 s σ a w) (hf:s.forget s'):Zt P N B w00 s' σ a w:=by obtain⟨⟨io,w0,g,hr,hC⟩,hM⟩:=h;exact⟨⟨io,w0,g,hr.forget hf,hC⟩,hM⟩
theorem HZ.loop {α:Type} (S:α→AS) (I:α→Fgn→Prop) (μ:α→Nat) (i:α) (hi:I i σ) (hs:s.forget (S i))
 (h:∀i σ,I i σ→HZ P N B w00 c (fun x s' σ'=>match x with| .normal=>∃j,I j σ'∧μ j<μ i∧s'.forget (S j)| .exit id=>K (.exit id) s' σ'| .ret=>K .ret s' σ') (S i) σ):HZ P N B w00 (.loop c) K s σ:=by
 have key:∀n i σ,μ i=n→I i σ→∀a w,Zt P N B w00 (S i) σ a w→∀Q:Exit→Act→World→Prop,(∀x s' σ' a' w',Zt P N B w00 s' σ' a' w'→K x s' σ'→Q x.qo a' w')→jU P c Q a w:=by
  intro n
  induction n using Nat.strongRecOn with
  |_ n ih=>
   intro i σ hn hi a w hst Q hQ;refine jU.step (CWp.wp ((h i σ hi).go a w hst _ fun x s' σ' a' w' hst' hk=>?_));cases x with
   |normal=>obtain⟨j,hj,hlt,hf⟩:=hk;exact ih (μ j) (hn▸hlt) j σ' rfl hj a' w' (hst'.forget hf) Q hQ
   |exit id=>exact hQ _ s' σ' a' w' hst' hk
   |ret=>exact hQ _ s' σ' a' w' hst' hk
 exact HZ.mk fun a w hst Q hQ=>key _ i σ rfl hi a w (hst.forget hs) Q hQ
theorem HZ.eng {Γ:Ctx} (hm:P.follows .mixedOrders=true) (hΓ:ak P Γ) (hc:codeOk Γ true N c=true) (hp:pq P Γ N c (fun x s'=>K x s' σ) s.tm s.ob s.nx):HZ P N B w00 c K s σ:=HZ.mk fun a w hs Q hQ=>by obtain⟨⟨io,w0,g,hr,hC⟩,hM⟩:=hs;obtain⟨x,s',h1,h2⟩:=wK (fun _=>hm) c _ _ hc hp;exact h1.cwp hΓ.w (fun b hb=>hC.lt b hb) g a w Q hr fun g' a' w' hr'=>hQ x s' σ a' w' ⟨⟨io,w0,g',hr',hC⟩,Fgn.same hC hr hr' hM⟩ h2
variable {ops:Array Oper} {J:AS→Fgn→Prop} {j:Nat} {o:Oper} {l l1 l2:List Oper}
theorem HZ.aap {α:Type} (Lf:α→List (Nat×PV)) (O:α→List (Nat×Nat×Nat×List PV)) (XX:α→Nat) (I:α→Fgn→Prop) (μ:α→Nat) (i:α) (hi:I i σ) (h1:agree s.tm (Lf i)) (h2:kN s.ob (O i)) (h3:s.nx=XX i)
 (h:∀i σ,I i σ→HZ P N B w00 c (fun x s' σ'=>match x with| .normal=>∃j,I j σ'∧μ j<μ i∧agree s'.tm (Lf j)∧kN s'.ob (O j)∧s'.nx=XX j| .exit id=>K (.exit id) s' σ'| .ret=>K .ret s' σ') ⟨lk (Lf i),lo (O i),XX i⟩ σ):HZ P N B w00 (.loop c) K s σ:=by
 refine HZ.loop (fun i=>mkS (Lf i) (O i) (XX i)) I μ i hi (jf (iI h1) (gJ h2) h3) fun i σ hi=>⟨fun a w hs Q hQ=>(h i σ hi).go a w hs Q fun x s' σ' a' w' hs' hk=>hQ x s' σ' a' w' hs' ?_⟩;cases x with
 |normal=>obtain⟨j,k1,k2,k3,k4,k5⟩:=hk;exact⟨j,k1,k2,jf (iI k3) (gJ k4) k5⟩
 |exit id=>exact hk
 |ret=>exact hk
theorem HZ.start {ps:List PV} (h:HZ P N B w00 c K ⟨(bY ps).tm,fun _=>none,0⟩ σ):HZ P N B w00 c K (bY ps) σ:=h
end
end
end Go.Proofs.YtmmafcjjlbgnkaaGreatDoor
