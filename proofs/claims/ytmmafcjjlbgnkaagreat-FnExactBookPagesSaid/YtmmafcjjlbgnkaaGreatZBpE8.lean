/- What the proof rests on, part 8: contracts of functions. No condition beyond what each states. -/
import Derived.Test.YtmmafcjjlbgnkaaGreatZBpE7
namespace Go.Proofs.YtmmafcjjlbgnkaaGreat
open Go.RowKit
set_option linter.all false
set_option maxHeartbeats 32000000
noncomputable section
def afy {α:Type} (m:Nat→α) (l:List α) (j:Nat):List α:=(List.range j).map m++l.drop j
section
variable {α:Type} {m:Nat→α} {l:List α} {j:Nat}
theorem abl (h:j≤l.length):(afy m l j).length=l.length:=by simp[afy];omega
theorem aiy:afy m l 0=l:=by simp[afy]
theorem af9 (h:l.length≤j):afy m l j=(List.range j).map m:=by simp[afy,List.drop_eq_nil_of_le h]
theorem ajC (h:j<l.length):(afy m l j).set j (m j)=afy m l (j+1):=by have e:l.drop j=l[j]::l.drop (j+1):=List.drop_eq_getElem_cons h;unfold afy;rw[List.set_append_right _ _ (by simp),e,show j-((List.range j).map m).length=0 by simp,List.set_cons_zero,List.range_succ];simp
end
def awe {α:Type} (T:Nat) (en:α→PV) (ps:List PV) (cs:List aU):Prop:=
 (∃(l:List α) (k:Int),ps=[.row 0 1 0 l.length,.val (.int .i64 k)]∧cs=[(T,1,l.map en)]∧l.length≤1048576∧0<k∧k≤1099511627776)∨∃k:Int,ps=[.val (.slice none 0 0),.val (.int .i64 k)]∧cs=[]
def Marks {α:Type} (T:Nat) (en:α→PV) (mk:Int→Nat→List α) (Φ:iD):Prop:=
 (∀(l:List α) (k:Int),l.length≤1048576→0<k→k≤1099511627776→Φ [.row 0 1 0 l.length,.val (.int .i64 k)] [(T,1,l.map en)]=some (.val (.int .i64 (k+l.length)),[(T,1,(mk k l.length).map en)]))∧
 ∀k:Int,Φ [.val (.slice none 0 0),.val (.int .i64 k)] []=some (.val (.int .i64 k),[])
def okH (k:Int):Prop:=0<k∧k≤1099511627776
instance (k:Int):Decidable (okH k):=by unfold okH;infer_instance
theorem jF:∃φ:Fun,Sound Tryz.prog 55 φ∧∀k:Int,0<k→k≤2199023255552→∃s:ByteArray,φ [.val (.int .i64 k)]=some (.val (.string s))∧s.size≤2199023255553:=by
 obtain⟨φ,h1,h2⟩:=yT mixed bL Tryz.func55 rfl 20 rfl [.tmp 2] rfl (by kernel_rfl) (fun ps=>∃k:Int,ps=[.val (.int .i64 k)]∧0<k∧k≤2199023255552)
  (fun ps r=>∃s:ByteArray,r=.val (.string s)∧s.size≤2199023255553) (fun ps ⟨k,e,_⟩=>by rw[e];simp) (fun ps ⟨k,e,hk,hk2⟩=>by
    subst e;(refine wlk6 ?_ ?_ ?_ ?_ ?_ ?_<;>intros<;>try with_reducible exact trivial);refine aF (α:=ByteArray×Int×Nat) mixed (fun s=>[(0,iv s.2.1),(3,.val (.string s.1))]) (fun j=>[]) (fun s=>s.2.2)
     (fun s=>(s.1.size:Int)+s.2.1≤2199023255552∧0≤s.2.1) (fun s=>s.2.1.toNat) (by kernel_rfl) (⟨#[]⟩,k,0) ⟨by have h0:((⟨#[]⟩:ByteArray)).size=0:=rfl;dsimp only;omega,by dsimp only;omega⟩ ?_ trivial rfl ?_
    ·simp(disch:=(first|omega|(simp only[push_cast];first|done|omega))) only[push_cast,↓reduceIte,Nat.reduceEqDiff,Nat.reduceBEq,Nat.reduceAdd,Nat.reduceSub,Int.reduceToNat,List.length_append, *]
    rintro⟨s,q,y⟩ ⟨h3,h4⟩;dsimp only at h3 h4;have h5:((⟨#[109]⟩:ByteArray)).size=1:=rfl;(refine wlk6 ?_ ?_ ?_ ?_ ?_ ?_<;>intros<;>try with_reducible exact trivial)
    ·refine⟨(bytesOf [IntKind.u8.wrap (48+q % 10)]++s,q/10,y+1),⟨?_,?_⟩,?_,?_,trivial,rfl⟩
     ·simp only[ByteArray.size_append,pX,List.length_cons,List.length_nil];omega
     ·dsimp only;omega
     ·dsimp only;omega
     ·simp(disch:=(first|omega|(simp only[push_cast];first|done|omega))) only[push_cast,↓reduceIte,Nat.reduceEqDiff,Nat.reduceBEq,Nat.reduceAdd,Nat.reduceSub,Int.reduceToNat,List.length_append, *]
    ·refine⟨_,⟨⟨#[109]⟩++s,rfl,?_⟩,aa3 (by(simp(disch:=(first|omega|(simp only[push_cast];first|done|omega))) only[push_cast,↓reduceIte,Nat.reduceEqDiff,Nat.reduceBEq,Nat.reduceAdd,Nat.reduceSub,Int.reduceToNat, *]<;>with_reducible exact rfl))⟩
     rw[ByteArray.size_append];omega)
 refine⟨φ,h1,fun k hk hk2=>?_⟩;obtain⟨r,e,s,rfl,hs⟩:=h2 _ ⟨k,rfl,hk,hk2⟩;exact⟨s,e,hs⟩
def pI:Fun:=Classical.choose jF
theorem rF:Sound Tryz.prog 55 pI:=(Classical.choose_spec jF).1
open Classical in
noncomputable def mkT (k:Int):ByteArray:=if h:0<k∧k≤2199023255552 then Classical.choose ((Classical.choose_spec jF).2 k h.1 h.2)else .empty
theorem vv {k:Int} (h:0<k) (h2:k≤2199023255552):pI [.val (.int .i64 k)]=some (.val (.string (mkT k))):=by unfold mkT;rw[dif_pos ⟨h,h2⟩];exact(Classical.choose_spec ((Classical.choose_spec jF).2 k h h2)).1
def iX (k:Int) (n:Nat):LS:=(List.range n).map fun j:Nat=>mkT (k+j)
theorem eB (k:Int) (n:Nat):(iX k n).length=n:=by simp[iX]
theorem ahp (k:Int) {n j:Nat} (h:j<n):(iX k n)[j]?.getD .empty=mkT (k+j):=by simp[iX,h]
def axS:Ctx:={fn:=aT [(55,pI)],io:=aT []}
theorem aqX:au Tryz.prog axS:=okΓ (fC Tryz.func55 rF aj) aj
def apN:=ah (Γ:=axS) (f:=55) (φ:=pI) rfl
theorem jf:∃Φ:iD,eO Tryz.prog 34 Φ∧Marks 9 (fun s:ByteArray=> .val (.string s)) iX Φ:=by
 obtain⟨Φ,h1,h2⟩:=aie mixed aqX Tryz.func34 rfl 20 rfl [.tmp 4] rfl (by kernel_rfl) (awe 9 fun s:ByteArray=> .val (.string s))
  (fun ps cs r cs'=>(∀(l:LS) (k:Int),ps=[.row 0 1 0 l.length,.val (.int .i64 k)]→cs=[(9,1,l.map fun s=> .val (.string s))]→r=.val (.int .i64 (k+l.length))∧cs'=[(9,1,(iX k l.length).map fun s=> .val (.string s))])∧∀k:Int,ps=[.val (.slice none 0 0),.val (.int .i64 k)]→r=.val (.int .i64 k)∧cs'=[])
  (fun ps cs hd=>by rcases hd with⟨l,k,rfl,_⟩|⟨k,rfl,_⟩<;>simp) (fun ps cs hd=>by
    rcases hd with⟨l,k,rfl,rfl,hl,hk,hk2⟩|⟨k,rfl,rfl⟩
    ·rw[ag3]
     (refine wlkX ?_;intros);refine aF (α:=Nat) mixed (fun j=>[(0,.row 0 1 0 l.length),(1,iv (k+j)),(5,iv j)]) (fun j=>[(0,9,1,(afy (fun j:Nat=>mkT (k+j)) l j).map fun s=> .val (.string s))]) (fun _=>1)
      (fun j=>j≤l.length) (fun j=>l.length-j) (by kernel_rfl) 0 (Nat.zero_le _) ?_ ?_ rfl ?_
     ·simp(disch:=(first|omega|(simp only[push_cast];first|done|omega))) only[push_cast,↓reduceIte,Nat.reduceEqDiff,Nat.reduceBEq,Nat.reduceAdd,Nat.reduceSub,Int.reduceToNat,Int.add_zero]
     ·simp(disch:=(first|omega|(simp only[push_cast];first|done|omega))) only[push_cast,↓reduceIte,Nat.reduceEqDiff,Nat.reduceBEq,Nat.reduceAdd,Nat.reduceSub,Int.reduceToNat,aiy]
     intro j hj;have hm:(afy (fun j:Nat=>mkT (k+j)) l j).length=l.length:=abl hj;by_cases h:j<l.length
     ·have ap:=vv (k:=k+j) (by omega) (by omega)
      have gmks_c55:=apN;(refine wlk ?_;intros);refine⟨j+1,by omega,by dsimp only;omega,?_,?_,rfl⟩
      ·simp(disch:=(first|omega|(simp only[push_cast];first|done|omega))) only[push_cast,↓reduceIte,Nat.reduceEqDiff,Nat.reduceBEq,Nat.reduceAdd,Nat.reduceSub,Int.reduceToNat, *]
       simp only[Int.add_assoc,and_self]
      ·simp(disch:=(first|omega|(simp only[push_cast];first|done|omega))) only[push_cast,↓reduceIte,Nat.reduceEqDiff,Nat.reduceBEq,Nat.reduceAdd,Nat.reduceSub,Int.reduceToNat, *]
       rw[←ajC h]
     ·(refine wlk ?_;intros)
      refine asL (r:=.val (.int .i64 (k+j))) (c':=(9,1,(afy (fun j:Nat=>mkT (k+j)) l j).map fun s=> .val (.string s))) (by first|exact .inl rfl|exact .inr rfl) (by(simp(disch:=(first|omega|(simp only[push_cast];first|done|omega))) only[push_cast,↓reduceIte,Nat.reduceEqDiff,Nat.reduceBEq,Nat.reduceAdd,Nat.reduceSub,Int.reduceToNat, *]<;>with_reducible exact rfl)) (by(simp(disch:=(first|omega|(simp only[push_cast];first|done|omega))) only[push_cast,↓reduceIte,Nat.reduceEqDiff,Nat.reduceBEq,Nat.reduceAdd,Nat.reduceSub,Int.reduceToNat, *]<;>with_reducible exact rfl)) ⟨fun l1 k1 e1 e2=>?_,fun k1 e1=>by simp at e1⟩;obtain⟨e3,e4⟩:l.length=l1.length∧k=k1:=by simpa using e1
      subst e4;rw[af9 (by omega),←e3,show j=l.length by omega];exact⟨rfl,rfl⟩
    ·rw[ami]
     (refine wlkX ?_;intros);refine aF (α:=Unit) mixed (fun j=>[(0,.val (.slice none 0 0)),(1,iv k),(5,iv 0)]) (fun j=>[]) (fun _=>0)
      (fun j=>True) (fun j=>0) (by kernel_rfl) () trivial ?_ trivial rfl ?_
     ·exact agr
     intro j hj;(refine wlk ?_;intros);refine auH (r:=.val (.int .i64 k)) (by first|exact .inl rfl|exact .inr rfl) (by(simp(disch:=(first|omega|(simp only[push_cast];first|done|omega))) only[push_cast,↓reduceIte,Nat.reduceEqDiff,Nat.reduceBEq,Nat.reduceAdd,Nat.reduceSub,Int.reduceToNat, *]<;>with_reducible exact rfl)) ⟨fun l1 k1 e1 e2=>by simp at e1,fun k1 e1=>?_⟩;obtain rfl:k=k1:=by simpa using e1
     exact⟨rfl,rfl⟩)
 refine⟨Φ,h1,fun l k hl hk hk2=>?_,fun k=>?_⟩
 ·obtain⟨r,cs',e,hr,_⟩:=h2 _ _ (.inl ⟨l,k,rfl,rfl,hl,hk,hk2⟩)
  obtain⟨rfl,rfl⟩:=hr l k rfl rfl;exact e
 ·obtain⟨r,cs',e,_,hr⟩:=h2 _ _ (.inr ⟨k,rfl,rfl⟩)
  obtain⟨rfl,rfl⟩:=hr k rfl;exact e
def abY:iD:=Classical.choose jf
theorem alB:eO Tryz.prog 34 abY:=(Classical.choose_spec jf).1
theorem ade:Marks 9 (fun s:ByteArray=> .val (.string s)) iX abY:=(Classical.choose_spec jf).2
def axV:Ctx:={fn:=aT [(55,pI)],io:=aT []}
theorem aow:au Tryz.prog axV:=okΓ (fC Tryz.func55 rF aj) aj
def an8:=ah (Γ:=axV) (f:=55) (φ:=pI) rfl
def xg:Fun:=F2 dSs dI fun l k=>if l=iX k l.length∧l.length≤1048576∧okH k then some (iv (k+l.length))else none
theorem adX {k:Int} {n:Nat} (hn:n≤1048576) (hk:0<k) (hk2:k≤1099511627776):xg [.lst false 1 ((iX k n).map fun s=> .val (.string s)),.val (.int .i64 k)]=some (.val (.int .i64 (k+n))):=by refine(gY (A:=dSs) (B:=dI) (iX k n) k).trans ((if_pos ⟨by rw[eB],by rw[eB];exact hn,hk,hk2⟩).trans ?_);rw[eB]
theorem tX:Sound Tryz.prog 35 xg:=by
 refine ak mixed aow Tryz.func35 rfl 22 rfl [.tmp 4] rfl (by kernel_rfl) fun ps r hr=>?_;obtain⟨l,k,rfl,hpre,rfl⟩:=gy hr;refine⟨by simp,?_⟩;simp only[dIs,dUs,dSs,bR,bV,bT,bU,aI,bW,aL,aO,aH,aJ];obtain⟨hl,hlen,hk,hk2⟩:=hpre;have hat:∀j:Nat,j<l.length→l[j]?.getD .empty=mkT (k+j):=fun j hj=>by rw[hl,ahp k hj]
 clear hl;(refine wlkX ?_;intros);refine aF (α:=Nat) mixed (fun j=>[(0,.lst false 1 (l.map fun s=> .val (.string s))),(1,iv (k+j)),(5,iv j)]) (fun j=>[]) (fun _=>0)
  (fun j=>j≤l.length) (fun j=>l.length-j) (by kernel_rfl) 0 (Nat.zero_le _) ?_ trivial rfl ?_
 ·simp(disch:=(first|omega|(simp only[push_cast];first|done|omega))) only[push_cast,↓reduceIte,Nat.reduceEqDiff,Nat.reduceBEq,Nat.reduceAdd,Nat.reduceSub,Int.reduceToNat,Int.add_zero]
 intro j hj;by_cases h:j<l.length
 ·have hj2:=hat j h
  have ap:=vv (k:=k+j) (by omega) (by omega);clear hat;have ghds_c55:=an8;(refine wlk ?_;intros);refine⟨j+1,by omega,by dsimp only;omega,?_,trivial,rfl⟩;simp(disch:=(first|omega|(simp only[push_cast];first|done|omega))) only[push_cast,↓reduceIte,Nat.reduceEqDiff,Nat.reduceBEq,Nat.reduceAdd,Nat.reduceSub,Int.reduceToNat, *];simp only[Int.add_assoc,and_self]
 ·clear hat
  (refine wlk ?_;intros);rw[show l.length=j by omega];(exact fnF)
def afM:afk:=G1 dSs fun l=>if l.length≤1048576 then some (.row 0 1 0 l.length,[(9,1,l.map fun s=> .val (.string s))])else none
theorem ab9 {l:LS} (h:l.length≤1048576):afM [.lst false 1 (l.map fun s=> .val (.string s))]=some (.row 0 1 0 l.length,[(9,1,l.map fun s=> .val (.string s))]):=
 (aqE (A:=dSs) l).trans (if_pos h)
theorem uG:jW Tryz.prog 32 afM:=by
 refine r9 mixed bL Tryz.func32 rfl 22 rfl [.tmp 2] rfl (by kernel_rfl) fun ps r cs' hr=>?_;obtain⟨l,rfl,hq⟩:=agW hr;clear hr;split at hq
 case isFalse=>cases hq
 case isTrue hpre=>
 cases hq;refine⟨by simp,?_⟩;simp only[dIs,dUs,dSs,bR,bV,bT,bU,aI,bW,aL,aO,aH,aJ];(refine wlkX ?_;intros);refine aF (α:=Nat) mixed (fun k=>[(0,.lst false 1 (l.map fun s=> .val (.string s))),(3,.row 0 1 0 l.length),(4,iv k)]) (fun k=>[(0,9,1,(kH l .empty k).map fun s=> .val (.string s))]) (fun _=>1)
  (fun k=>k≤l.length) (fun k=>l.length-k) (by kernel_rfl) 0 (Nat.zero_le _) ?_ ?_ rfl ?_
 ·simp only[push_cast,↓reduceIte,Nat.reduceEqDiff,Nat.reduceBEq,Nat.reduceAdd,Nat.reduceSub,Int.reduceToNat]
 ·simp only[push_cast,↓reduceIte,Nat.reduceEqDiff,Nat.reduceBEq,Nat.reduceAdd,Nat.reduceSub,Int.reduceToNat,oH,List.map_replicate]
 intro k hk;have hfl:(kH l .empty k).length=l.length:=j4;by_cases h:k<l.length
 ·(refine wlk ?_;intros)
  refine⟨k+1,by omega,by dsimp only;omega,by simp only[push_cast,↓reduceIte,Nat.reduceEqDiff,Nat.reduceBEq,Nat.reduceAdd,Nat.reduceSub,Int.reduceToNat],?_,rfl⟩;simp only[push_cast,↓reduceIte,Nat.reduceEqDiff,Nat.reduceBEq,Nat.reduceAdd,Nat.reduceSub,Int.reduceToNat];rw[←tF (y:=l[k]?.getD .empty) h (by simp[h])]
 ·(refine wlk ?_;intros)
  have e:=lq (zs:=l) (z:=ByteArray.empty) (k:=k) (by omega);rw[e];((with_reducible apply tH (0) (by first|exact .inl rfl|exact .inr rfl));(focus(simp(disch:=(first|omega|(simp only[push_cast];first|done|omega))) only[push_cast,↓reduceIte,Nat.reduceEqDiff,Nat.reduceBEq,Nat.reduceAdd,Nat.reduceSub,Int.reduceToNat, *]<;>with_reducible exact rfl));(focus(simp(disch:=(first|omega|(simp only[push_cast];first|done|omega))) only[push_cast,↓reduceIte,Nat.reduceEqDiff,Nat.reduceBEq,Nat.reduceAdd,Nat.reduceSub,Int.reduceToNat, *]<;>with_reducible exact rfl)))
theorem akL {l:LS} (h:l.length≤1048576):aaX afM [.lst false 1 (l.map fun s=> .val (.string s))] []=some (.row 0 1 0 l.length,[(9,1,l.map fun s=> .val (.string s))]):=by refine(aky (cs:=[]) (by rw[mapM_cons',mapM_nil',uT];exact(congrArg (fun x=>Option.bind x _) jP).trans rfl) (ab9 h) rfl (by rw[mapM_cons',mapM_nil',uz];rfl)).trans ?_;rfl
def dZ (T:Nat) (v:Value) (vs:List Value) (w:World):Prop:=
 (v=.slice none 0 0∧vs=[])∨∃g cap arr,v=.slice (some ⟨g,0,none⟩) vs.length cap∧vs.length≤cap∧cap≤9223372036854775807∧w.heap[g]?=some (.cells arr T (0,0))∧cap≤arr.size∧∀(j:Nat) (u:Value),vs[j]?=some u→arr[j]?=some u
def aeS (u:Value):Prop:=u.cells=#[u]∧u.oneCell'=true
theorem iN (s:ByteArray):aeS (.string s):=⟨rfl,rfl⟩
theorem gH (a:Option Addr) (n c:Nat):aeS (.slice a n c):=⟨rfl,rfl⟩
def bY (l:LS):List Value:=l.map Value.string
section
variable {T T1 T2:Nat} {v:Value} {vs:List Value} {ls:List LS} {w w':World}
theorem dZ.same (h:dZ T v vs w) (hs:∀g,v.ownBlock=some g→w'.heap[g]?=w.heap[g]?):dZ T v vs w':=by
 rcases h with h|⟨g,cap,arr,rfl,h1,h2,h3,h4,h5⟩
 ·exact .inl h
 ·exact .inr ⟨g,cap,arr,rfl,h1,h2,(hs g rfl).trans h3,h4,h5⟩
theorem dZ.lt (h:dZ T v vs w) {g:Nat} (hg:v.ownBlock=some g):g<w.heap.size:=by
 rcases h with⟨rfl,_⟩|⟨g',cap,arr,rfl,h1,h2,h3,h4,h5⟩
 ·cases hg
 ·cases hg
  exact lt_of_heap h3
theorem dZ.zD {g0:Gh} {es:List PV} {g:Nat} {arr:Array Value} (ha:w.heap[g]?=some (.cells arr T (0,0))) (h5:∀(j:Nat) (u:Value),vs[j]?=some u→arr[j]?=some u) (hl:es.length=vs.length) (he:∀(j:Nat) (e:PV) (u:Value),es[j]?=some e→vs[j]?=some u→Rep g0 w e u∧aeS u):bf g0 w 1 es g 0:=
 bf.of fun i e hi=>by
  have hlt:i<vs.length:=by rw[←hl];exact(List.getElem?_eq_some_iff.1 hi).1
  obtain⟨k1,k2⟩:=he i e vs[i] hi (List.getElem?_eq_getElem hlt);refine⟨vs[i],k1,⟨by rw[k2.1];simp[k2.2],fun j hj=>?_⟩,by rw[k2.1];rfl⟩;rw[k2.1]at hj⊢;have hj0:j=0:=by have:j<1:=hj;omega
  subst hj0;simp only[World.cell?,ha,Nat.zero_add,Nat.mul_one,Nat.add_zero,Option.isSome_none,Bool.false_eq_true,if_false];exact h5 i _ (List.getElem?_eq_getElem hlt)
theorem dZ.rep {Jm:Nat→Prop} {es:List PV} (h:dZ T v vs w) (hJ:∀g,v.ownBlock=some g→Jm g) (hl:es.length=vs.length) (he:∀(j:Nat) (e:PV) (u:Value),es[j]?=some e→vs[j]?=some u→Rep (kG Jm) w e u∧aeS u):Rep (kG Jm) w (.lst false 1 es) v:=by
 rcases h with⟨rfl,rfl⟩|⟨g,cap,arr,rfl,h1,h2,h3,h4,h5⟩
 ·have:es=[]:=List.eq_nil_of_length_eq_zero hl
  subst this;simp only[Rep];exact⟨none,0,rfl,Nat.le_refl _,by decide,.inl (by simp)⟩
 ·simp only[Rep]
  refine⟨some ⟨g,0,none⟩,cap,by rw[hl],by omega,h2,.inr ⟨g,0,rfl,⟨rfl,hJ g rfl⟩,dZ.zD h3 h5 hl he⟩⟩
theorem dZ.axR {Jm:Nat→Prop} {l:LS} (h:dZ T v (bY l) w) (hJ:∀g,v.ownBlock=some g→Jm g):Rep (kG Jm) w (.lst false 1 (l.map fun s=> .val (.string s))) v:=
 h.rep hJ (by simp[bY]) fun j e u h1 h2=>by unfold bY at h2;rw[List.getElem?_map]at h1 h2;rw[Option.map_eq_some_iff]at h1 h2;obtain⟨s,q1,rfl⟩:=h1;obtain⟨s',q2,rfl⟩:=h2;rw[q1]at q2;cases q2;exact⟨by simp[Rep],iN s⟩
structure iM (T1 T2:Nat) (v:Value) (vs:List Value) (ls:List LS) (w:World):Prop where
 out:dZ T1 v vs w
 len:vs.length=ls.length
 inn:∀(j:Nat) (u:Value) (l:LS),vs[j]?=some u→ls[j]?=some l→dZ T2 u (bY l) w
 dis:∀(i j:Nat) (x y:Value),i≠j→vs[i]?=some x→vs[j]?=some y→x.ownBlock=none∨x.ownBlock≠y.ownBlock
 ne:∀u∈vs,u.ownBlock=none∨u.ownBlock≠v.ownBlock
def mI (v:Value) (vs:List Value) (i:Nat):Prop:=v.ownBlock=some i∨∃u∈vs,u.ownBlock=some i
theorem iM.same (h:iM T1 T2 v vs ls w) (hs:∀i,mI v vs i→w'.heap[i]?=w.heap[i]?):iM T1 T2 v vs ls w':=
 ⟨h.out.same fun g hg=>hs g (.inl hg),h.len,fun j u l h1 h2=>(h.inn j u l h1 h2).same fun g hg=>hs g (.inr ⟨u,List.mem_of_getElem? h1,hg⟩),h.dis,h.ne⟩
theorem iM.lt (h:iM T1 T2 v vs ls w) {i:Nat} (hi:mI v vs i):i<w.heap.size:=by
 rcases hi with hi|⟨u,hu,hi⟩
 ·exact h.out.lt hi
 ·obtain⟨j,hj,rfl⟩:=List.getElem_of_mem hu
  have hj2:j<ls.length:=by rw[←h.len];exact hj
  exact(h.inn j _ _ (List.getElem?_eq_getElem hj) (List.getElem?_eq_getElem hj2)).lt hi
theorem iM.one (h:iM T1 T2 v vs ls w):∀u∈vs,aeS u:=fun u hu=>by
 obtain⟨j,hj,rfl⟩:=List.getElem_of_mem hu;have hj2:j<ls.length:=by rw[←h.len];exact hj
 rcases h.inn j _ _ (List.getElem?_eq_getElem hj) (List.getElem?_eq_getElem hj2)with⟨e,_⟩|⟨g,cap,arr,e,_⟩
 ·rw[e];exact gH _ _ _
 ·rw[e];exact gH _ _ _
theorem iM.rep {Jm:Nat→Prop} (h:iM T1 T2 v vs ls w) (hJ:∀i,mI v vs i→Jm i):Rep (kG Jm) w (.lst false 1 (ls.map fun l=> .lst false 1 (l.map fun s=> .val (.string s)))) v:=
 h.out.rep (fun g hg=>hJ g (.inl hg)) (by rw[List.length_map,h.len]) fun j e u h1 h2=>by rw[List.getElem?_map,Option.map_eq_some_iff]at h1;obtain⟨l,q1,rfl⟩:=h1;exact⟨(h.inn j u l h2 q1).axR fun g hg=>hJ g (.inr ⟨u,List.mem_of_getElem? h2,hg⟩),h.one u (List.mem_of_getElem? h2)⟩
def ssF (T1 T2:Nat) (v:Value) (vs:List Value) (ls:List LS):Fgn:=⟨mI v vs,iM T1 T2 v vs ls,fun w w' h hM=>hM.same h⟩
end
section
variable {P:Program} {N B:Nat} {w00:World} {s:AS} {σ:Fgn} {ops:Array Oper} {J:AS→Fgn→Prop} {j:Nat} {o:Oper} {l:List Oper}
theorem ZO.axN {x y:Operand} {t d T g n c:Nat} {kk:IntKind} {i:Int} (ho:o.op=.indexAddr t x y) (hdst:o.dst=some d) (hd:d<N) (hg:o.guard=none) (hu:bX P t=some T) (hs:aX P T=some 1) (hx:look s.tm x=.val (.slice (some ⟨g,0,none⟩) n c)) (hy:look s.tm y=.val (.int kk i)) (h0:0≤i) (hi:i<(n:Int))
 (h:ZO P N B w00 ops (j+1) l J (s.put (some d) (.val (.pointer (some ⟨g,i.toNat,none⟩)))) σ):ZO P N B w00 ops j (o::l) J s σ:=by
 refine ZO.one hg fun a w hst Kn Q hK=>?_;have hst0:=hst;obtain⟨⟨io,w0,g0,hr,hC⟩,hM⟩:=hst0;have hX:=hr.look x;have hY:=hr.look y;rw[hx]at hX;rw[hy]at hY;simp only[Rep]at hX hY;have hu':P.underlying t=some (.slice T):=by
  unfold bX at hu;split at hu
  ·rename_i e he;cases hu;exact he
  ·cases hu
 have ha:(⟨g,0,none⟩:Addr).add (i.toNat*1)=⟨g,0+i.toNat*1,none⟩:=Addr.add_mid g 0 _;have hrun:(execOp a.eval o).run P w=.ok (.value (.pointer (some ⟨g,i.toNat,none⟩))) w:=by unfold execOp;simp only[ho,hX,hY];simp[Instr.indexAt,asIntOf,Sem.run_bind,run_underlying hu' w,h0,hi,cK hs w];simpa using ha
 unfold Oper.wp;rw[hrun,Oper.upon_value,hdst];exact hK _ _ _ _ (hst.put (fun x e=>by cases e;exact hd) fun g w=>by simp[Rep]) h
theorem ZO.ldF {x:Operand} {t d b f:Nat} {u:Value} (ho:o.op=.load t x) (hdst:o.dst=some d) (hd:d<N) (hg:o.guard=none) (ht:jC P t=some false) (hx:look s.tm x=.val (.pointer (some ⟨b,f,none⟩))) (hat:∀w,σ.at_ w→w.cell? ⟨b,f,none⟩=some u) (hu:aeS u)
 (h:ZO P N B w00 ops (j+1) l J (s.put (some d) (.val u)) σ):ZO P N B w00 ops j (o::l) J s σ:=by
 refine ZO.one hg fun a w hst Kn Q hK=>?_;have hst0:=hst;obtain⟨⟨io,w0,g0,hr,hC⟩,hM⟩:=hst0;have hX:=hr.look x;rw[hx]at hX;simp only[Rep]at hX;have hc:jJ w b f u:=⟨by rw[hu.1];simp[hu.2],fun j hj=>by
  rw[hu.1]at hj⊢;have hj0:j=0:=by have:j<1:=hj;omega
  subst hj0;rw[Nat.add_zero,hat w hM];rfl⟩
 have hsub:aap P t 0 (.val u)=some (.val u):=by
  have hc1:bA (.val u)=some [.val u]:=by simp[bA,lF,hu.2]
  unfold aap;rw[hc1,ht];rfl
 obtain⟨v,k1,k2⟩:=gN (P:=P) (g:=kG fun _=>False) (w:=w) (e:=.val u) (u:=u) (b:=b) (c:=f) (f:=0) (t:=t) (p:=.val u) (by simp[Rep]) hc hsub;simp only[Rep]at k2;subst k2;rw[Nat.add_zero]at k1;have hrun:(execOp a.eval o).run P w=.ok (.value v) w:=by simp[execOp,ho,hX,k1]
 unfold Oper.wp;rw[hrun,Oper.upon_value,hdst];exact hK _ _ _ _ (hst.put (fun x e=>by cases e;exact hd) fun g w=>by simp[Rep]) h
end
section
variable {P:Program} {N B:Nat} {w00:World} {s:AS} {σ:Fgn} {ops:Array Oper} {J:AS→Fgn→Prop} {j:Nat} {o:Oper} {l:List Oper} {c:Code} {K:X→AS→Fgn→Prop}
theorem om {g:Gh} {w:World} {T b n:Nat} {arr:Array Value} {vs:List Value} {v:Value} (hv:∃c,v=.slice (some ⟨b,0*1,none⟩) n c∧n≤c∧c≤9223372036854775807∧(0+c)*1≤arr.size) (hn:n=vs.length) (ha:w.heap[b]?=some (.cells arr T (0,0))) (he:bf g w 1 (vs.map PV.val) b 0) (h1:∀u∈vs,aeS u):dZ T v vs w∧v.ownBlock=some b:=by subst hn;obtain⟨c,rfl,h2,h3,h4⟩:=hv;refine⟨.inr ⟨b,c,arr,by simp,h2,h3,ha,by omega,fun j u hj=>?_⟩,by simp[Value.ownBlock]⟩;obtain⟨u',m1,m2,m3⟩:=he.get (i:=j) (e:=.val u) (by rw[List.getElem?_map,hj];rfl);simp only[Rep]at m1;subst m1;have h0:=h1 u' (List.mem_of_getElem? hj);have:=m2.2 0 (by rw[h0.1];exact Nat.zero_lt_one);rw[h0.1]at this;simp only[World.cell?,ha,Nat.zero_add,Nat.mul_one,Nat.add_zero,Option.isSome_none,Bool.false_eq_true,if_false]at this;simpa using this
theorem HZ.atQ {σ':Value→Fgn} {ob T t n:Nat} {vs:List Value} (ho:s.ob ob=some (T,1,vs.map PV.val)) (ht:s.tm t=.row ob 1 0 n) (hn:n=vs.length) (h1:∀u∈vs,aeS u)
 (hσ:∀v b,v.ownBlock=some b→¬σ.bk b→∀w,dZ T v vs w→σ.at_ w→(∀i,(σ' v).bk i↔σ.bk i∨i=b)∧(σ' v).at_ w)
 (h:∀v b,v.ownBlock=some b→B≤b→(∃c,v=.slice (some ⟨b,0,none⟩) vs.length c)→HZ P N B w00 c K ⟨upd s.tm t (.val v),upd s.ob ob none,s.nx⟩ (σ' v)):HZ P N B w00 c K s σ:=HZ.mk fun a w hs Q hQ=>by
 obtain⟨g,b,arr,q1,q2,q3,q4,q5,q6,q7,q8,q9⟩:=hs.give ho;have hv:=q8 (.tmp t);rw[show look s.tm (.tmp t)=s.tm t from rfl,ht]at hv;obtain⟨hrow,hblk⟩:=om (q7 0 n _ hv) hn q4 q6 h1;obtain⟨k1,k2⟩:=hσ _ b hblk q3 w hrow hs.2;have hz:=q9 (σ' (a.eval (.tmp t))) k1 k2;refine(h (a.eval (.tmp t)) b hblk q1 ?_).go a w ?_ Q hQ
 ·obtain⟨c,hc,_⟩:=q7 0 n _ hv
  exact⟨c,by rw[hc,hn];try simp⟩
 obtain⟨⟨io,w0,g0,hr,hC⟩,hM⟩:=hz;refine⟨⟨io,w0,g0,⟨hr.nt,hr.df,fun t'=>?_,hr.ob,hr.inj,hr.nx,hr.lt,hr.new,hr.fr,hr.old,hr.fix,hr.hl,hr.tab⟩,hC⟩,hM⟩;show Rep g0 w (upd s.tm t _ t') _;unfold upd;split
 ·rename_i e
  subst e;simp only[Rep];rfl
 ·exact hr.tm t'
theorem l8 {α:Type} (l:List α) (i:Nat) (x:α):(l.set i x).length=l.length:=List.length_set ..
theorem iM.put {T1 T2:Nat} {v u:Value} {vs:List Value} {ls:List LS} {x:LS} {w w':World} {g b k:Nat} {arr:Array Value} (h:iM T1 T2 v vs ls w) (hk:vs[k]?=some (.slice none 0 0)) (hv:v.ownBlock=some g) (hb:u.ownBlock=some b) (hnb:¬mI v vs b) (hu:dZ T2 u (bY x) w)
 (ha:w.heap[g]?=some (.cells arr T1 (0,0))) (hw:∀i,i≠g→w'.heap[i]?=w.heap[i]?) (hg:w'.heap[g]?=some (.cells (arr.setIfInBounds k u) T1 (0,0))):iM T1 T2 v (vs.set k u) (ls.set k x) w'∧∀i,mI v (vs.set k u) i↔mI v vs i∨i=b:=by
 have hkl:k<vs.length:=(List.getElem?_eq_some_iff.1 hk).1;have hbg:b≠g:=fun e=>hnb (.inl (by rw[hv,e]));have hget:∀(j:Nat) (y:Value),(vs.set k u)[j]?=some y→(j=k∧y=u)∨(j≠k∧vs[j]?=some y):=fun j y hj=>by
  rw[List.getElem?_set]at hj;by_cases e:k=j
  ·subst e
   rw[if_pos rfl,if_pos hkl]at hj;exact .inl ⟨rfl,(Option.some.inj hj).symm⟩
  ·rw[if_neg e]at hj
   exact .inr ⟨fun q=>e q.symm,hj⟩
 have hinb:∀(j:Nat) (y:Value),vs[j]?=some y→∀i,y.ownBlock=some i→i≠b∧i≠g:=fun j y hj i hi=>by
  refine⟨fun e=>hnb (.inr ⟨y,List.mem_of_getElem? hj,e▸hi⟩),fun e=>?_⟩;rcases h.ne y (List.mem_of_getElem? hj)with q|q
  ·rw[q]at hi;cases hi
  ·exact q (by rw[hi,hv,e])
 refine⟨⟨?_,by rw[l8,l8];exact h.len,fun j y z hj hz=>?_,fun i j y z hij hi hj=>?_,fun y hy=>?_⟩,fun i=>?_⟩
 ·rcases h.out with⟨rfl,_⟩|⟨g',cap,arr',rfl,h1,h2,h3,h4,h5⟩
  ·cases hv
  ·have hgg:g'=g:=by cases hv;rfl
   subst hgg;rw[ha]at h3;cases h3;refine .inr ⟨g',cap,_,by rw[l8],by rw[l8];exact h1,h2,hg,by simpa using h4,fun j y hj=>?_⟩;rw[Array.getElem?_setIfInBounds];rcases hget j y hj with⟨rfl,rfl⟩|⟨q1,q2⟩
   ·rw[if_pos rfl,if_pos (by omega)]
   ·rw[if_neg (fun e=>q1 e.symm)]
    exact h5 j y q2
 ·rw[List.getElem?_set]at hz
  rcases hget j y hj with⟨rfl,rfl⟩|⟨q1,q2⟩
  ·rw[if_pos rfl]at hz
   split at hz
   ·cases hz
    refine hu.same fun i hi=>hw i fun e=>?_;rw[hb]at hi;cases hi;exact hbg e
   ·cases hz
  ·rw[if_neg (fun e=>q1 e.symm)]at hz
   exact(h.inn j y z q2 hz).same fun i hi=>hw i (hinb j y q2 i hi).2
 ·rcases hget i y hi with⟨rfl,rfl⟩|⟨q1,q2⟩<;>rcases hget j z hj with⟨rfl,rfl⟩|⟨q3,q4⟩
  ·exact absurd rfl hij
  ·right
   intro e;exact(hinb j z q4 b (by rw[←e,hb])).1 rfl
  ·by_cases e:y.ownBlock=none
   ·exact .inl e
   ·right
    intro e2;exact(hinb i y q2 b (by rw[e2,hb])).1 rfl
  ·exact h.dis i j y z hij q2 q4
 ·obtain⟨j,hj⟩:=List.getElem?_of_mem hy
  rcases hget j y hj with⟨rfl,rfl⟩|⟨q1,q2⟩
  ·right
   rw[hb,hv];intro e;cases e;exact hbg rfl
  ·exact h.ne y (List.mem_of_getElem? q2)
 ·constructor
  ·rintro(q|⟨y,hy,q⟩)
   ·exact .inl (.inl q)
   ·obtain⟨j,hj⟩:=List.getElem?_of_mem hy
    rcases hget j y hj with⟨rfl,rfl⟩|⟨q1,q2⟩
    ·rw[hb]at q
     cases q;exact .inr rfl
    ·exact .inl (.inr ⟨y,List.mem_of_getElem? q2,q⟩)
  ·rintro((q|⟨y,hy,q⟩)|rfl)
   ·exact .inl q
   ·obtain⟨j,hj⟩:=List.getElem?_of_mem hy
    have hjk:j≠k:=fun e=>by subst e;rw[hk]at hj;cases hj;cases q
    exact .inr ⟨y,List.mem_of_getElem? (i:=j) (by rw[List.getElem?_set,if_neg (fun e=>hjk e.symm)];exact hj),q⟩
   ·exact .inr ⟨u,List.mem_of_getElem? (i:=k) (by rw[List.getElem?_set,if_pos rfl,if_pos hkl]),hb⟩
theorem akt {arr:Array Value} {i:Nat} {u:Value} (hi:i<arr.size):(eP arr.toList i [u]).toArray=arr.setIfInBounds i u:=by
 apply Array.ext_getElem?;intro j;rw[List.getElem?_toArray,mW _ _ _ (by simp;omega),Array.getElem?_setIfInBounds];by_cases h:i=j
 ·subst h
  rw[if_pos ⟨Nat.le_refl _,by simp⟩,if_pos rfl,if_pos hi];simp
 ·rw[if_neg (by simp;omega),if_neg h]
  simp
theorem ZO.ayj {x y:Operand} {t T1 T2 g k n ob:Nat} {v:Value} {vs:List Value} {ls:List LS} {z:LS} (ho:o.op=.store t x y) (hdst:o.dst=none) (hg:o.guard=none) (hs:aX P t=some 1) (hx:look s.tm x=.val (.pointer (some ⟨g,k,none⟩))) (hv:v.ownBlock=some g) (hk:vs[k]?=some (.slice none 0 0))
 (hy:look s.tm y=.row ob 1 0 n) (hob:s.ob ob=some (T2,1,z.map fun s=> .val (.string s))) (hn:n=z.length)
 (h:∀u,(∀b,u.ownBlock=some b→B≤b)→ZO P N B w00 ops (j+1) l J ⟨s.tm,upd s.ob ob none,s.nx⟩ (ssF T1 T2 v (vs.set k u) (ls.set k z))):ZO P N B w00 ops j (o::l) J s (ssF T1 T2 v vs ls):=by
 refine ZO.one hg fun a w hst Kn Q hK=>?_;obtain⟨g0,b,arr,q1,q2,q3,q4,q5,q6,q7,q8,q9⟩:=hst.give hob;have hX:=q8 x;have hY:=q8 y;rw[hx]at hX;rw[hy]at hY;simp only[Rep]at hX;have hes:(z.map fun s=>PV.val (.string s))=(bY z).map PV.val:=by unfold bY;rw[List.map_map];rfl
 rw[hes]at q6;obtain⟨hrow,hblk⟩:=om (q7 0 n _ hY) (by rw[hn];simp[bY]) q4 q6 (fun u hu=>by unfold bY at hu;obtain⟨s,_,rfl⟩:=List.mem_map.1 hu;exact iN s)
 obtain⟨cc,hcc,_⟩:=q7 0 n _ hY;have hM:iM T1 T2 v vs ls w:=hst.2;obtain⟨arr1,ha1,hk1⟩:∃arr1,w.heap[g]?=some (.cells arr1 T1 (0,0))∧k<arr1.size:=by
  have hkl:k<vs.length:=(List.getElem?_eq_some_iff.1 hk).1;rcases hM.out with⟨rfl,_⟩|⟨g',cap,arr',rfl,h1,h2,h3,h4,h5⟩
  ·cases hv
  ·cases hv
   exact⟨arr',h3,by omega⟩
 have hone:aeS (a.eval y):=by rw[hcc];exact gH _ _ _
 have hst2:=run_storeCells_at P g k T1 (a.eval y).cells.toList 0 arr1 w ha1 (by rw[hone.1];simp;omega) (fun v hv=>by rw[hone.1]at hv;simp at hv;rw[hv];exact hone.2);have hrun:(execOp a.eval o).run P w=.ok .skip (w.setRow g (arr1.setIfInBounds k (a.eval y))):=by
  have hsv:(storeVar t ⟨g,k,none⟩ (a.eval y)).run P w=.ok () (w.setRow g (arr1.setIfInBounds k (a.eval y))):=by
   unfold storeVar;rw[Sem.run_bind,cK hs w];have hsz:(a.eval y).cells.size=1:=by rw[hone.1];rfl
   simp only[Result.andThen_ok,hsz,ne_eq,not_true_eq_false,if_false];rw[←akt hk1];rw[hone.1]at hst2⊢;simpa [eP]using hst2
  simp only[execOp,ho,hX,Instr.storeAt,Instr.sureAddr,Sem.run_bind,Sem.run_pure,Result.andThen_ok,hsv]
 unfold Oper.wp;rw[hrun,Oper.upon_skip,hdst];obtain⟨k1,k2⟩:=hM.put (u:=a.eval y) (x:=z) (w':=w.setRow g (arr1.setIfInBounds k (a.eval y))) hk hv hblk q3 hrow ha1 (fun i hi=>setRow_other _ _ _ _ hi) (setRow_heap _ _ _ _ _ _ ha1);have hz1:=q9 ⟨fun i=>mI v vs i∨i=b,fun w=>iM T1 T2 v vs ls w∧dZ T2 (a.eval y) (bY z) w,fun w w' hh hm=>⟨hm.1.same fun i hi=>hh i (.inl hi),hm.2.same fun i hi=>hh i (.inr (by rw[hblk]at hi;cases hi;rfl))⟩⟩ (fun i=>Iff.rfl) ⟨hM,hrow⟩;have hsize:(w.setRow g (arr1.setIfInBounds k (a.eval y))).heap.size=w.heap.size:=by simp[World.setRow]
 have hz2:=hz1.mZ (σ':=ssF T1 T2 v (vs.set k (a.eval y)) (ls.set k z)) (w':=w.setRow g (arr1.setIfInBounds k (a.eval y))) ⟨rfl,rfl,rfl,by rw[hsize];exact Nat.le_refl _,fun i hi hn=>setRow_other _ _ _ _ fun e=>hn (.inl (by rw[hv,e]))⟩ (fun i _ e=>(k2 i).1 e) (fun i e=>(k2 i).2 e) (fun i e=>by
  rw[hsize];rcases(k2 i).1 e with e|rfl
  ·exact hM.lt e
  ·exact q2) k1
 exact hK _ _ _ _ hz2 (h _ fun b' hb'=>by rw[hblk]at hb';cases hb';exact q1)
end
def mG:List PV→List Nat
 |[]=>[]
 | .own o _ _ _::l=>o::mG l
 | .row o _ _ _::l=>o::mG l
 |_::l=>mG l
def wS:PV→List Nat
 | .own o _ _ _=>[o]
 | .row o _ _ _=>[o]
 | .agg cs=>mG cs
 |_=>[]
def zG:List PV→List Nat
 |[]=>[]
 |p::ps=>wS p++zG ps
theorem acR:∀cs:List PV,(cs.flatMap fun c=>match c with| .own o _ _ _=>[o]| .row o _ _ _=>[o]|_=>[])=mG cs
 |[]=>rfl
 |c::cs=>by rw[List.flatMap_cons,acR cs];cases c<;>rfl
theorem ac6:∀ps:List PV,ps.flatMap refsOf=zG ps
 |[]=>rfl
 |p::ps=>by
  rw[List.flatMap_cons,ac6 ps];show _=wS p++zG ps;congr 1;cases p with
  |agg cs=>exact acR cs
  |_=>rfl
section
variable {Φ:iD} {ob:bn} {nx:Nat}
def ajB (Φ:iD) (ob:bn) (nx a b:Nat) (qs:List PV):Option aU→Option aU→Option (PV×bn×Nat)
 |some c,some d=>(c.2.2.mapM (fH (inn [a,b]) fuel)).bind fun es=>(d.2.2.mapM (fH (inn [a,b]) fuel)).bind fun fs=>ioR [a,b] ob nx (Φ qs [(c.1,c.2.1,es),(d.1,d.2.1,fs)])
 |_,_=>none
def ioX (Φ:iD) (ob:bn) (nx:Nat) (ps:List PV):List Nat→Option (PV×bn×Nat)
 |[]=>(ps.mapM (fH (inn []) fuel)).bind fun qs=>ioR [] ob nx (Φ qs [])
 |[o]=>(ps.mapM (fH (inn [o]) fuel)).bind fun qs=>ahZ Φ ob nx o qs (ob o)
 |[a,b]=>(ps.mapM (fH (inn [a,b]) fuel)).bind fun qs=>ajB Φ ob nx a b qs (ob a) (ob b)
 |_=>afv Φ ob nx ps
theorem atF (ps:List PV):afv Φ ob nx ps=ioX Φ ob nx ps (dedup (zG ps)):=by
 generalize hos:dedup (zG ps)=os;rw[←ac6]at hos
 match os with
 |[]=>
  show _=(ps.mapM (fH (inn []) fuel)).bind _;cases h2:ps.mapM (fH (inn []) fuel)with
  |some qs=>rw[rO ps [] hos,h2,mapM_nil'];rfl
  |none=>rw[rO ps [] hos,h2,mapM_nil'];rfl
 |[o]=>
  show _=(ps.mapM (fH (inn [o]) fuel)).bind _;cases h2:ps.mapM (fH (inn [o]) fuel)with
  |some qs=>rw[ajz hos h2];rfl
  |none=>rw[rO ps [o] hos,h2];cases [o].mapM ob<;>rfl
 |[a,b]=>
  show _=(ps.mapM (fH (inn [a,b]) fuel)).bind _;rw[rO ps [a,b] hos];simp only[mapM_cons',mapM_nil',afw];cases ps.mapM (fH (inn [a,b]) fuel)with
  |none=>cases ob a<;>cases ob b<;>rfl
  |some qs=>
   simp only[Option.bind_some];cases ob a with
   |none=>rfl
   |some c=>
    cases ob b with
    |none=>rfl
    |some d=>
     obtain⟨T,sz,es0⟩:=c;obtain⟨T2,sz2,fs0⟩:=d;simp only[Option.bind_some,Option.map_some,ajB,mapM_cons',mapM_nil',afw];cases es0.mapM (fH (inn [a,b]) fuel)with
     |none=>rfl
     |some es=>simp only[Option.bind_some,Option.map_some];cases fs0.mapM (fH (inn [a,b]) fuel)<;>rfl
 |_::_::_::_=>rfl
theorem aoF {ps:List PV}:ioX Φ ob nx ps []=(ps.mapM (fH (inn []) fuel)).bind fun qs=>ioR [] ob nx (Φ qs []):=rfl
theorem apC {ps:List PV} {o:Nat}:ioX Φ ob nx ps [o]=(ps.mapM (fH (inn [o]) fuel)).bind fun qs=>ahZ Φ ob nx o qs (ob o):=rfl
theorem aqW {ps:List PV} {a b:Nat}:ioX Φ ob nx ps [a,b]=(ps.mapM (fH (inn [a,b]) fuel)).bind fun qs=>ajB Φ ob nx a b qs (ob a) (ob b):=rfl
theorem ad5 {a b T T2 sz sz2:Nat} {es es2 qs:List PV}:ajB Φ ob nx a b qs (some (T,sz,es)) (some (T2,sz2,es2))=(es.mapM (fH (inn [a,b]) fuel)).bind fun es=>(es2.mapM (fH (inn [a,b]) fuel)).bind fun fs=>ioR [a,b] ob nx (Φ qs [(T,sz,es),(T2,sz2,fs)]):=rfl
theorem awE {a b:Nat}:inn [a,b] a=some 0:=by simp[inn]
theorem awN {a b:Nat} (h:¬a=b):inn [a,b] b=some 1:=by
 have h2:(a==b)=false:=by simpa using h
 simp[inn,List.idxOf_cons,h2]
theorem akB {a b nx:Nat}:aiP [a,b] nx 0=some a:=rfl
theorem ajn {a b nx:Nat}:aiP [a,b] nx 1=some b:=rfl
theorem arb:dedup []=[]:=rfl
theorem atD {o:Nat}:dedup [o]=[o]:=rfl
theorem auv:zG []=[]:=rfl
theorem aoD {p:PV} {ps:List PV}:zG (p::ps)=wS p++zG ps:=rfl
theorem atI {v:Value}:wS (.val v)=[]:=rfl
theorem auZ {k:Bool} {sz:Nat} {es:List PV}:wS (.lst k sz es)=[]:=rfl
theorem asb {k:Bool} {e:PV} {o:Nat}:wS (.ptr k e o)=[]:=rfl
theorem atc {o a b c:Nat}:wS (.own o a b c)=[o]:=rfl
theorem ara {o a b c:Nat}:wS (.row o a b c)=[o]:=rfl
theorem auh {cs:List PV}:wS (.agg cs)=mG cs:=rfl
theorem avg:mG []=[]:=rfl
theorem atm {v:Value} {l:List PV}:mG (.val v::l)=mG l:=rfl
theorem atC {k:Bool} {sz:Nat} {es l:List PV}:mG (.lst k sz es::l)=mG l:=rfl
theorem asr {o a b c:Nat} {l:List PV}:mG (.own o a b c::l)=o::mG l:=rfl
theorem auO {o a b c:Nat} {l:List PV}:mG (.row o a b c::l)=o::mG l:=rfl
end
attribute[push_cast low]
 atF
attribute[push_cast]
 aoF apC aqW ad5 awE awN akB ajn arb atD auv aoD atI auZ asb atc ara auh avg atm atC asr auO
def awh (l:List LS):Prop:=l.length≤1048576∧∀k:Nat,(l[k]?.getD []).length≤1048576
abbrev yx:Value:=.slice none 0 0
theorem aiS {T:Nat} {w:World}:dZ T yx (bY []) w:=.inl ⟨rfl,rfl⟩
theorem iM.fresh {T1 T2 n:Nat} {v:Value} {w:World} (h:dZ T1 v (List.replicate n yx) w):iM T1 T2 v (List.replicate n yx) (List.replicate n []) w:=
 ⟨h,by simp,fun j u l h1 h2=>by
   obtain⟨_,rfl⟩:=List.mem_replicate.1 (List.mem_of_getElem? h1);obtain⟨_,rfl⟩:=List.mem_replicate.1 (List.mem_of_getElem? h2);exact aiS,fun i j x y _ h1 _=>by
   obtain⟨_,rfl⟩:=List.mem_replicate.1 (List.mem_of_getElem? h1);exact .inl rfl,fun u hu=>by
   obtain⟨_,rfl⟩:=List.mem_replicate.1 hu;exact .inl rfl⟩
theorem yK {n:Nat} {v:Value} {i:Nat}:mI v (List.replicate n yx) i↔v.ownBlock=some i:=by
 constructor
 ·rintro(h|⟨u,hu,h⟩)
  ·exact h
  ·obtain⟨_,rfl⟩:=List.mem_replicate.1 hu
   cases h
 ·exact .inl
theorem alz {α:Type} {l:List α} {z:α} {k:Nat} (hk:k<l.length):(l.take k++List.replicate (l.length-k) z).set k l[k]=l.take (k+1)++List.replicate (l.length-(k+1)) z:=by
 have hl:(l.take k).length=k:=by rw[List.length_take];omega
 rw[List.set_append_right (h:=by omega),hl,Nat.sub_self];obtain⟨m,hm⟩:∃m,l.length-k=m+1:=⟨l.length-k-1,by omega⟩;rw[hm,List.replicate_succ,List.set_cons_zero,show l.length-(k+1)=m by omega,List.take_succ_eq_append_getElem hk,List.append_assoc];rfl
section
variable {P:Program} {N B:Nat} {w00:World} {s:AS} {σ:Fgn} {ops:Array Oper} {J:AS→Fgn→Prop} {j:Nat} {o:Oper} {l:List Oper}
theorem iM.turn {T1 T2:Nat} {v u:Value} {vs:List Value} {ls:List LS} {x:LS} {w w':World} {k:Nat} (h:iM T1 T2 v vs ls w) (hk:vs[k]?=some u) (hw:∀i,(∀b,u.ownBlock=some b→i≠b)→i<w.heap.size→w'.heap[i]?=w.heap[i]?) (hu:dZ T2 u (bY x) w'):iM T1 T2 v vs (ls.set k x) w':=by
 have hum:=List.mem_of_getElem? hk;refine⟨h.out.same fun g hg=>hw g (fun b hb e=>?_) (h.out.lt hg),by rw[l8];exact h.len,fun i y z hi hz=>?_,h.dis,h.ne⟩
 ·rcases h.ne u hum with q|q
  ·rw[q]at hb;cases hb
  ·exact q (by rw[hb,hg,e])
 ·rw[List.getElem?_set]at hz
  by_cases e:k=i
  ·subst e
   rw[hk]at hi;cases hi;rw[if_pos rfl]at hz;split at hz
   ·cases hz
    exact hu
   ·cases hz
  ·rw[if_neg e]at hz
   have hr:=h.inn i y z hi hz;refine hr.same fun g hg=>hw g (fun b hb e2=>?_) (hr.lt hg);rcases h.dis i k y u (fun q=>e q.symm) hi hk with q|q
   ·rw[q]at hg;cases hg
   ·exact q (by rw[hg,hb,e2])
structure acO (P:Program) (f T2:Nat) (mk:Int→Nat→LS):Prop where
 io:∃Φ,eO P f Φ∧(∀(z:LS) (k:Int),z.length≤1048576→0<k→k≤1099511627776→Φ [.row 0 1 0 z.length,.val (.int .i64 k)] [(T2,1,z.map fun s=> .val (.string s))]=some (.val (.int .i64 (k+z.length)),[(T2,1,(mk k z.length).map fun s=> .val (.string s))]))∧∀k:Int,Φ [.val (.slice none 0 0),.val (.int .i64 k)] []=some (.val (.int .i64 k),[])
 nl:∀k,mk k 0=[]
theorem ZO.axm {f:Nat} {c:Call} {x y:Operand} {T1 T2 i:Nat} {k:Int} {v u:Value} {vs:List Value} {ls:List LS} {z:LS} {mk:Int→Nat→LS} (hmk:acO P f T2 mk) (ho:o.op=.call c) (hc:c.callee=.value (.func f)) (ha:c.args=#[x,y]) (hf:Fnd P f) (hg:o.guard=none) (hd:∀y,o.dst=some y→y<N) (hx:look s.tm x=.val u) (hy:look s.tm y=.val (.int .i64 k)) (hu:vs[i]?=some u) (hz:ls[i]?=some z) (hlz:z.length≤1048576) (hlm:(mk k z.length).length=z.length) (hk0:0<k) (hk1:k≤1099511627776)
 (h:ZO P N B w00 ops (j+1) l J (s.put o.dst (.val (.int .i64 (k+z.length)))) (ssF T1 T2 v vs (ls.set i (mk k z.length)))):ZO P N B w00 ops j (o::l) J s (ssF T1 T2 v vs ls):=by
 obtain⟨⟨Φ,hS,h1,h2⟩,h3⟩:=hmk;refine ZO.wh ho hc hf hg hd (fun r σ'=>r=.int .i64 (k+z.length)∧σ'=ssF T1 T2 v vs (ls.set i (mk k z.length))) (fun a w hst=>?_) (fun r σ' e=>by obtain⟨rfl,rfl⟩:=e;exact h);obtain⟨⟨io,w0,g,hr,hC⟩,hM⟩:=hst;have hX:=hr.look x;have hY:=hr.look y;rw[hx]at hX;rw[hy]at hY;simp only[Rep]at hX hY;have hM':iM T1 T2 v vs ls w:=hM;rw[ha];simp only[List.map_toArray,List.map_cons,List.map_nil,hX,hY];have hrow:=hM'.inn i u z hu hz;have hum:=List.mem_of_getElem? hu;have hT0:jv w (fun b=>ssF T1 T2 v vs ls|>.bk b):=(hr.tab.keep hr.fr fun t ht=>(hr.tab.apart t ht)).io fun t ht=>(hC.tk t ht).2;rcases hrow with⟨rfl,hz0⟩|⟨gb,cap,arr,rfl,q1,q2,q3,q4,q5⟩
 ·have hz0:z=[]:=by unfold bY at hz0;simpa using hz0
  subst hz0;refine(hS w (fun _ _=>False) (fun _=>0) (fun _=>0) [.val (.slice none 0 0),.val (.int .i64 k)] [] _ _ _ (h2 k) (fun _ _ q=>False.elim q) ⟨fun o ho=>by simp at ho,fun o o' ho=>by simp at ho,fun o c hc=>by simp at hc⟩ (hT0.io fun t ht=>by rintro⟨o,ho,_⟩;simp at ho) ⟨_,_,rfl,by simp[Rep],_,_,rfl,by simp[Rep],rfl⟩).mono ?_;rintro e w' ⟨v',β',κ',M,rfl,hfr,-,-,-,-,-,hrep⟩;simp only[Rep]at hrep;subst hrep;have hkeep:∀i,i<w.heap.size→w'.heap[i]?=w.heap[i]?:=fun i hi=>hfr.block i hi fun⟨o,ho,_⟩=>by simp at ho
  refine⟨_,_,rfl,⟨by simp,rfl⟩,⟨hfr.os,hfr.tape,hfr.output,hfr.size,fun i hi _=>hkeep i hi⟩,fun _ _ q=>q,fun _ q=>q,fun b' q=>Nat.lt_of_lt_of_le (hM'.lt q) hfr.size,?_⟩;refine hM'.turn hu (fun i _ hi=>hkeep i hi) ?_;rw[List.length_nil,h3];exact aiS
 ·have hzl:(bY z).length=z.length:=by simp[bY]
  rw[hzl]at q1 hum hu⊢;have hbk:(ssF T1 T2 v vs ls).bk gb:=.inr ⟨_,hum,rfl⟩;have hes:bf (d9 (fun _ _=>False) (fun _=>gb) (fun _=>arr.size) 1) w 1 (z.map fun s=>PV.val (.string s)) gb 0:=dZ.zD (vs:=bY z) q3 q5 (by simp[bY]) fun j e u h1 h2=>by unfold bY at h2;rw[List.getElem?_map]at h1 h2;rw[Option.map_eq_some_iff]at h1 h2;obtain⟨s,p1,rfl⟩:=h1;obtain⟨s',p2,rfl⟩:=h2;rw[p1]at p2;cases p2;exact⟨by simp[Rep],iN s⟩
  refine(hS w (fun _ _=>False) (fun _=>gb) (fun _=>arr.size) [.row 0 1 0 z.length,.val (.int .i64 k)] [(T2,1,z.map fun s=> .val (.string s))] _ _ _ (h1 z k hlz hk0 hk1) (fun _ _ q=>False.elim q) ⟨fun o ho=>⟨lt_of_heap q3,fun _ q=>q⟩,fun o o' ho ho' _=>by simp at ho ho';omega,fun o c hc=>?_⟩ (hT0.io fun t ht=>?_) ?_).mono ?_
  ·have ho:o=0:=by have:=(List.getElem?_eq_some_iff.1 hc).1;simpa using this
   subst ho;cases hc;exact⟨⟨arr,q3,rfl⟩,by show(z.map _).length*1≤arr.size;rw[List.length_map];omega,hes⟩
  ·rintro⟨o,ho,rfl⟩
   exact(hC.tk _ ht).2 hbk
  ·refine⟨_,_,rfl,?_,_,_,rfl,by simp[Rep],rfl⟩
   simp only[Rep];exact⟨cap,by simp[d9],q1,q2,by show(0+cap)*1≤arr.size;omega,by exact Nat.zero_lt_one,fun q=>q⟩
  ·rintro e w' ⟨v',β',κ',M,rfl,hfr,-,hβ,-,-,hO',hrep⟩
   simp only[Rep]at hrep;subst hrep;obtain⟨hβ0,hκ0⟩:=hβ 0 (by simp);obtain⟨⟨arr2,p1,p2⟩,p3,p4⟩:=hO'.at_ 0 _ rfl;have p1:w'.heap[gb]?=some (.cells arr2 T2 (0,0)):=by have:(d9 (addN (fun _ _=>False) M) β' κ' 1).β 0=gb:=hβ0;rw[←this];exact p1
   have p2:arr2.size=arr.size:=p2.trans hκ0;have p4:bf (d9 (addN (fun _ _=>False) M) β' κ' 1) w' 1 ((bY (mk k z.length)).map PV.val) gb 0:=by
    have e1:(d9 (addN (fun _ _=>False) M) β' κ' 1).β 0=gb:=hβ0;have e2:(bY (mk k z.length)).map PV.val=(mk k z.length).map fun s=>PV.val (.string s):=by unfold bY;rw[List.map_map];rfl
    rw[e2,←e1];exact p4
   have hkeep:∀i,i≠gb→i<w.heap.size→w'.heap[i]?=w.heap[i]?:=fun i hne hi=>hfr.block i hi fun⟨o,ho,q⟩=>hne q;refine⟨_,_,rfl,⟨rfl,rfl⟩,⟨hfr.os,hfr.tape,hfr.output,hfr.size,fun i hi hn=>hkeep i (fun q=>hn (q▸hbk)) hi⟩,fun _ _ q=>q,fun _ q=>q,fun b' q=>Nat.lt_of_lt_of_le (hM'.lt q) hfr.size,?_⟩;refine hM'.turn hu (fun i hne hi=>hkeep i (hne gb rfl) hi) ?_;exact(om (n:=z.length) ⟨cap,by simp,q1,q2,by omega⟩ (by simp[bY,hlm]) p1 p4 fun u hu=>by unfold bY at hu;obtain⟨s,_,rfl⟩:=List.mem_map.1 hu;exact iN s).1
end
abbrev aaj (l:List LS):PV:=.lst false 1 (l.map fun p=> .lst false 1 (p.map fun s=> .val (.string s)))
theorem awF {n k:Nat} (h:k<n):(List.replicate n yx)[k]?=some yx:=by simp[h]
def axT:Ctx:={fn:=aT [],io:=aT [(32,(aaX afM))]}
theorem kU:au Tryz.prog axT:=okΓ aj (fD Tryz.func32 uG.lift aj)
theorem aqs:axT.io 32=some (aaX afM):=rfl
theorem ae6 {l:List LS} {w:World} {Jm:Nat→Prop} {args:Array Value} (hl:awh l) (hJ:∀b,Jm b→b<w.heap.size) (hT:jv w fun _=>False) (hargs:bI (kG Jm) w [aaj l] args.toList):
 Calls Tryz.prog 31 args w fun e w'=>∃v vs,e=.returned v∧Fr (fun _=>False) w w'∧iM 24 9 v vs l w'∧∀i,mI v vs i→w.heap.size≤i:=by
 have hc:=HZ.calls (σ:=Fgn.no) (N:=23) (rs:=[.tmp 2]) (ps:=[aaj l]) Tryz.func31 rfl rfl rfl (fun b e=>False.elim e) trivial hT hJ (fun b _ e=>e) hargs (by show 1≤_;decide) (fun p σ'=>∃v vs,p=.val v∧σ'=ssF 24 9 v vs l) ?_
 ·refine hc.mono ?_
  rintro e w' ⟨v0,σ',p,g,rfl,⟨v,vs,rfl,rfl⟩,hr,hf,hb,ha⟩;simp only[Rep]at hr;subst hr;exact⟨v0,vs,rfl,hf,ha,fun i hi=>((hb i hi).2).elim (fun e=>False.elim e) id⟩
 obtain⟨hlen,hin⟩:=hl;refine HZ.start ?_;show HZ _ _ _ _ _ _ ⟨(bM [aaj l]).tm,fun _=>none,0⟩ _;refine HZ.seq (HZ.eng mixed kU (by kernel_rfl) ?_);(try dsimp only);(refine wlk ?_;intros);refine HZ.seq (HZ.eng mixed kU (by kernel_rfl) ?_);(try dsimp only);(refine wlk ?_;intros);refine HZ.cut (Lf:=[(0,aaj l),(3,.row 0 1 0 l.length)]) (O:=[(0,24,1,(List.replicate l.length yx).map PV.val)]) (x:=1) ?_ ?_ rfl ?_
 ·exact agr
 ·simp only[List.map_replicate]
  exact agr
 refine HZ.atQ (t:=3) (n:=l.length) (ob:=0) (vs:=List.replicate l.length yx) (σ':=fun v=>ssF 24 9 v (List.replicate l.length yx) (List.replicate l.length [])) (by rfl) (by rfl) (by simp) (fun u hu=>by obtain⟨_,rfl⟩:=List.mem_replicate.1 hu;exact gH _ _ _) (fun v b hv _ w hw _=>⟨fun i=>yK.trans ⟨fun e=> .inr (by rw[hv]at e;cases e;rfl),fun e=>e.elim (fun e=>False.elim e) fun e=>by rw[hv,e]⟩,iM.fresh hw⟩) fun v b hvb hB ⟨cc,hcc⟩=>?_;rw[List.length_replicate]at hcc;refine HZ.seq (HZ.seq (HZ.eng mixed kU (by kernel_rfl) ?_));(try dsimp only);(refine wlk ?_;intros);(try dsimp only);refine HZ.block (HZ.xW (α:=Nat×Nat) (fun i=>[(0,aaj l),(3,.val v),(4,iv i.1)]) (fun _=>[]) (fun i=>i.2)
  (fun i σ=>i.1≤l.length∧∃vs,σ=ssF 24 9 v vs (l.take i.1++List.replicate (l.length-i.1) [])∧vs.length=l.length∧(∀j,i.1≤j→j<l.length→vs[j]?=some yx)∧∀i,mI v vs i→w.heap.size≤i) (fun i=>l.length-i.1) (0,1) ⟨Nat.zero_le _,_,rfl,by simp,fun j _ hj=>awF hj,fun i hi=>by rw[yK,hvb]at hi;cases hi;exact hB⟩ ?_ trivial rfl ?_)
 ·exact agr
 rintro⟨k,y⟩ σ ⟨hk,vs,rfl,hvl,hnil,hblk⟩;dsimp only at hk hnil;by_cases hkl:k<l.length
 ·refine HZ.seq (HZ.eng mixed kU (by kernel_rfl) ?_)
  (try dsimp only);(refine wlk ?_;intros);(try dsimp only);have ap:=akL (hin k);refine HZ.seq (HZ.block ?_);refine HZ.each ?_;refine ZO.pre (imm:=⟨[],[],[]⟩) 7 kU (by kernel_rfl) (by simp only[List.take_succ_cons,List.take_zero]<;>exact rfl) (by simp only[List.drop_succ_cons,List.drop_zero]<;>exact rfl) (by simp only[List.map_cons,List.map_nil]<;>exact rfl) ?_;(try dsimp only);have gtss_c32:=aqs;(refine wlk ?_;intros);(try dsimp only);refine ZO.axN (d:=21) (T:=24) (g:=b) (n:=l.length) (c:=cc) (kk:=.i64) (i:=k) rfl rfl (by decide) rfl (by kernel_rfl) (by kernel_rfl) ?_ ?_ (by omega) (by omega) ?_
  ·rw[←hcc]
   (simp(disch:=(first|omega|(simp only[push_cast];first|done|omega))) only[push_cast,↓reduceIte,Nat.reduceEqDiff,Nat.reduceBEq,Nat.reduceAdd,Nat.reduceSub,Int.reduceToNat, *]<;>with_reducible exact rfl)
  ·(simp(disch:=(first|omega|(simp only[push_cast];first|done|omega))) only[push_cast,↓reduceIte,Nat.reduceEqDiff,Nat.reduceBEq,Nat.reduceAdd,Nat.reduceSub,Int.reduceToNat, *]<;>with_reducible exact rfl)
  dsimp only[AS.put];refine ZO.ayj (g:=b) (k:=k) (n:=(l[k]?.getD []).length) (ob:=y) (z:=l[k]?.getD []) rfl rfl rfl (by kernel_rfl) ?_ hvb (hnil k (Nat.le_refl _) hkl) ?_ ?_ rfl fun u hub=>?_
  ·(simp(disch:=(first|omega|(simp only[push_cast];first|done|omega))) only[push_cast,↓reduceIte,Nat.reduceEqDiff,Nat.reduceBEq,Nat.reduceAdd,Nat.reduceSub,Int.reduceToNat, *]<;>with_reducible exact rfl)
  ·(simp(disch:=(first|omega|(simp only[push_cast];first|done|omega))) only[push_cast,↓reduceIte,Nat.reduceEqDiff,Nat.reduceBEq,Nat.reduceAdd,Nat.reduceSub,Int.reduceToNat, *]<;>with_reducible exact rfl)
  ·(simp(disch:=(first|omega|(simp only[push_cast];first|done|omega))) only[push_cast,↓reduceIte,Nat.reduceEqDiff,Nat.reduceBEq,Nat.reduceAdd,Nat.reduceSub,Int.reduceToNat, *]<;>with_reducible exact rfl)
  refine ZO.nil ?_;(try dsimp only[X.out]);refine HZ.eng mixed kU (by kernel_rfl) ?_;(try dsimp only);(refine wlk ?_;intros);(try dsimp only);refine⟨(k+1,y+1),⟨by dsimp only;omega,vs.set k u,?_,?_,?_,?_⟩,by dsimp only;omega,?_,?_,rfl⟩
  ·rw[show l[k]?.getD []=l[k] by rw[List.getElem?_eq_getElem hkl,Option.getD_some],alz hkl]
  ·rw[l8];exact hvl
  ·intro j h1 h2
   dsimp only at h1;rw[List.getElem?_set,if_neg (by omega)];exact hnil j (by omega) h2
  ·rintro i (q|⟨y',hy,q⟩)
   ·exact hblk i (.inl q)
   ·rcases List.mem_or_eq_of_mem_set hy with hy|rfl
    ·exact hblk i (.inr ⟨y',hy,q⟩)
    ·exact hub i q
  ·(try dsimp only)
   exact agr
  ·(try dsimp only)
   exact agr
 ·refine HZ.seq (HZ.eng mixed kU (by kernel_rfl) ?_)
  (try dsimp only);(refine wlk ?_;intros);(try dsimp only[X.out]);obtain rfl:k=l.length:=by omega
  refine HZ.seq (HZ.eng mixed kU (by kernel_rfl) ?_);(try dsimp only);(refine wlk ?_;intros);(try dsimp only);refine HZ.ret ⟨.inr rfl,⟨_,by(simp(disch:=(first|omega|(simp only[push_cast];first|done|omega))) only[push_cast,↓reduceIte,Nat.reduceEqDiff,Nat.reduceBEq,Nat.reduceAdd,Nat.reduceSub,Int.reduceToNat, *]<;>with_reducible exact rfl),_,vs,rfl,?_⟩,fun i hi=> .inr (hblk i hi)⟩;rw[List.take_length,Nat.sub_self,←hcc];simp
theorem alR {P:Program} {t e ty:Nat} {a:Option Addr} {n c:Nat} (h0:bX P t=some e):qm P t ty (.val (.slice a n c))=some (.val (.int .i64 n)):=by have h:=kQ h0;simp[qm,zy,toVal,Builtin.len_,underlying,Go.program,bind,Sem.bind,pure,av,h,goInt]
def mkK (l:List LS) (k:Int):Nat→Int
 |0=>k
 |j+1=>mkK l k j+(l[j]?.getD []).length
def mkL (l:List LS) (k:Int):Nat→List LS
 |0=>l
 |j+1=>(mkL l k j).set j (iX (mkK l k j) (l[j]?.getD []).length)
theorem oP (l:List LS) (k:Int):∀j,(mkL l k j).length=l.length
 |0=>rfl
 |j+1=>by rw[mkL,l8,oP l k j]
theorem aml {l:List LS} {k:Int}:∀{j i:Nat},j≤i→(mkL l k j)[i]?=l[i]?
 |0,i,_=>rfl
 |j+1,i,h=>by rw[mkL,List.getElem?_set,if_neg (by omega)];exact aml (by omega)
def jV (l:List LS):Nat:=(l.map List.length).sum
theorem zU (l:List LS) (k:Int):∀j,j≤l.length→mkK l k j=k+(jV (l.take j):Nat)
 |0,_=>by simp[mkK,jV]
 |j+1,h=>by have ih:=zU l k j (by omega);unfold jV at ih⊢;rw[mkK,ih,List.take_succ_eq_append_getElem (show j<l.length by omega),List.map_append,List.sum_append,List.getElem?_eq_getElem (show j<l.length by omega),Option.getD_some];simp;omega
theorem sS (l:List LS) (j:Nat):jV (l.take j)≤jV l:=by
 unfold jV
 conv=>rhs;rw[←List.take_append_drop j l,List.map_append,List.sum_append]
 omega
theorem aa0 {l:List LS} {j:Nat} (h:j<l.length):(l[j]?.getD []).length≤jV l:=by have h1:=sS l (j+1);unfold jV at h1⊢;rw[List.take_succ_eq_append_getElem h,List.map_append,List.sum_append]at h1;rw[List.getElem?_eq_getElem h,Option.getD_some];simp at h1;omega
theorem ac4:acO Tryz.prog 34 9 iX:=⟨⟨abY,alB,fun z k h1 h2 h3=>ade.1 z k h1 h2 h3,fun k=>ade.2 k⟩,fun k=>List.eq_nil_of_length_eq_zero (eB k 0)⟩
theorem qb {l:List LS} {k0:Int} {v:Value} {vs:List Value} {w:World} {args:Array Value} (hM:iM 24 9 v vs l w) (hl:jV l≤1048576) (hl2:l.length≤1048576) (hk0:0<k0) (hk1:k0≤1048577) (hT:jv w (mI v vs)) (hargs:args=#[v,.int .i64 k0]):
 Calls Tryz.prog 16 args w fun e w'=>e=.returned (.int .i64 (k0+jV l))∧Fr (mI v vs) w w'∧iM 24 9 v vs (mkL l k0 l.length) w':=by
 have hargs2:bI (kG fun _=>False) w [.val v,.val (.int .i64 k0)] args.toList:=by rw[hargs];exact⟨_,_,rfl,by simp[Rep],_,_,rfl,by simp[Rep],rfl⟩
 have hc:=HZ.calls (σ:=ssF 24 9 v vs l) (N:=19) (rs:=[.tmp 4]) (ps:=[.val v,.val (.int .i64 k0)]) Tryz.func16 rfl rfl rfl (fun b e=>hM.lt e) hM hT (fun b e=>False.elim e) (fun b e=>False.elim e) hargs2 (by show 2≤_;decide) (fun p σ'=>p=.val (.int .i64 (k0+jV l))∧σ'=ssF 24 9 v vs (mkL l k0 l.length)) ?_
 ·refine hc.mono ?_
  rintro e w' ⟨v0,σ',p,g,rfl,⟨rfl,rfl⟩,hr,hf,hb,ha⟩;simp only[Rep]at hr;subst hr;exact⟨rfl,hf,ha⟩
 have hvs:∃g c,(v=yx∧l.length=0)∨v=.slice (some ⟨g,0,none⟩) l.length c:=by
  rcases hM.out with⟨h1,h2⟩|⟨g,cap,arr,h1,_⟩
  ·exact⟨0,0,.inl ⟨h1,by rw[←hM.len,h2];rfl⟩⟩
  ·exact⟨g,cap,.inr (by rw[h1,hM.len])⟩
 refine HZ.start ?_;show HZ _ _ _ _ _ _ ⟨(bM [.val v,.val (.int .i64 k0)]).tm,fun _=>none,0⟩ _;refine HZ.seq (HZ.eng mixed bL (by kernel_rfl) ?_);(try dsimp only);(refine wlk ?_;intros);refine HZ.seq (HZ.seq (HZ.eng mixed bL (by kernel_rfl) ?_));(try dsimp only);(refine wlk ?_;intros);(try dsimp only);refine HZ.block (HZ.xW (α:=Nat) (fun j=>[(0,.val v),(1,.val (.int .i64 (mkK l k0 j))),(5,iv j)]) (fun _=>[]) (fun _=>0)
  (fun j σ=>j≤l.length∧σ=ssF 24 9 v vs (mkL l k0 j)) (fun j=>l.length-j) 0 ⟨Nat.zero_le _,rfl⟩ ?_ trivial rfl ?_)
 ·(try dsimp only)
  simp(disch:=(first|omega|(simp only[push_cast];first|done|omega))) only[push_cast,↓reduceIte,Nat.reduceEqDiff,Nat.reduceBEq,Nat.reduceAdd,Nat.reduceSub,Int.reduceToNat,List.length_append, *];try rfl
 rintro j σ ⟨hj,rfl⟩;have hkj:=zU l k0 j hj;have hlt:=sS l j;obtain⟨g,c,hv⟩:=hvs;by_cases hjl:j<l.length
 ·rcases hv with⟨_,hv⟩|hv
  ·omega
  have hla:=aa0 hjl;subst hv;have hl8:=fun ty=>alR (P:=Tryz.prog) (t:=23) (e:=24) (ty:=ty) (a:=some ⟨g,0,none⟩) (n:=l.length) (c:=c) (by kernel_rfl);refine HZ.seq (HZ.eng mixed bL (by kernel_rfl) ?_);(try dsimp only);(refine wlk ?_;intros);(try dsimp only);have hjv:j<vs.length:=by rw[hM.len];exact hjl
  have hcell:∀w',iM 24 9 (.slice (some ⟨g,0,none⟩) l.length c) vs (mkL l k0 j) w'→w'.cell? ⟨g,j,none⟩=some vs[j]:=fun w' h'=>by
   rcases h'.out with⟨e,_⟩|⟨g',cap,arr,e,p1,p2,p3,p4,p5⟩
   ·cases e
   ·rw[hM.len]at e
    cases e;simp only[World.cell?,p3,Option.isSome_none,Bool.false_eq_true,if_false];exact p5 j _ (List.getElem?_eq_getElem hjv)
  refine HZ.seq (HZ.block (HZ.each ?_));refine ZO.pre (imm:=⟨[],[],[]⟩) 2 bL (by kernel_rfl) (by simp only[List.take_succ_cons,List.take_zero]<;>exact rfl) (by simp only[List.drop_succ_cons,List.drop_zero]<;>exact rfl) (by simp only[List.map_cons,List.map_nil]<;>exact rfl) ?_;(try dsimp only);(refine wlk ?_;intros);(try dsimp only);refine ZO.axN (d:=14) (T:=24) (g:=g) (n:=l.length) (c:=c) (kk:=.i64) (i:=j) rfl rfl (by decide) rfl (by kernel_rfl) (by kernel_rfl) ?_ ?_ (by omega) (by omega) ?_
  ·(simp(disch:=(first|omega|(simp only[push_cast];first|done|omega))) only[push_cast,↓reduceIte,Nat.reduceEqDiff,Nat.reduceBEq,Nat.reduceAdd,Nat.reduceSub,Int.reduceToNat, *]<;>with_reducible exact rfl)
  ·(simp(disch:=(first|omega|(simp only[push_cast];first|done|omega))) only[push_cast,↓reduceIte,Nat.reduceEqDiff,Nat.reduceBEq,Nat.reduceAdd,Nat.reduceSub,Int.reduceToNat, *]<;>with_reducible exact rfl)
  dsimp only[AS.put];refine ZO.ldF (d:=15) (b:=g) (f:=j) (u:=vs[j]) rfl rfl (by decide) rfl (by kernel_rfl) ?_ (fun w' h'=>hcell w' h') (hM.one _ (List.getElem_mem hjv)) ?_
  ·(simp(disch:=(first|omega|(simp only[push_cast];first|done|omega))) only[push_cast,↓reduceIte,Nat.reduceEqDiff,Nat.reduceBEq,Nat.reduceAdd,Nat.reduceSub,Int.reduceToNat, *]<;>with_reducible exact rfl)
  dsimp only[AS.put];refine ZO.pre (imm:=⟨[],[],[]⟩) 1 bL (by kernel_rfl) (by simp only[List.take_succ_cons,List.take_zero]<;>exact rfl) (by simp only[List.drop_succ_cons,List.drop_zero]<;>exact rfl) (by simp only[List.map_cons,List.map_nil]<;>exact rfl) ?_;(try dsimp only);(refine wlk ?_;intros);(try dsimp only);refine ZO.axm (x:=.tmp 15) (y:=.tmp 16) (i:=j) (k:=mkK l k0 j) (u:=vs[j]) (z:=l[j]?.getD []) ac4 rfl rfl rfl ⟨_,Tryz.func34,rfl,rfl⟩ rfl (by rintro y ⟨⟩;decide) ?_ ?_ (List.getElem?_eq_getElem hjv) ?_ (by omega) (eB _ _) (by omega) (by omega) ?_
  ·(simp(disch:=(first|omega|(simp only[push_cast];first|done|omega))) only[push_cast,↓reduceIte,Nat.reduceEqDiff,Nat.reduceBEq,Nat.reduceAdd,Nat.reduceSub,Int.reduceToNat, *]<;>with_reducible exact rfl)
  ·(simp(disch:=(first|omega|(simp only[push_cast];first|done|omega))) only[push_cast,↓reduceIte,Nat.reduceEqDiff,Nat.reduceBEq,Nat.reduceAdd,Nat.reduceSub,Int.reduceToNat, *]<;>with_reducible exact rfl)
  ·rw[aml (Nat.le_refl _),List.getElem?_eq_getElem hjl,Option.getD_some]
  dsimp only[AS.put];refine ZO.pre (imm:=⟨[],[],[]⟩) 1 bL (by kernel_rfl) (by simp only[List.take_succ_cons,List.take_zero]<;>exact rfl) (by simp only[List.drop_succ_cons,List.drop_zero]<;>exact rfl) (by simp only[List.map_cons,List.map_nil]<;>exact rfl) ?_;(try dsimp only);(refine wlk ?_;intros);(try dsimp only);refine ZO.nil ?_;(try dsimp only[X.out]);refine HZ.eng mixed bL (by kernel_rfl) ?_;(try dsimp only);(refine wlk ?_;intros);(try dsimp only);refine⟨j+1,⟨by omega,rfl⟩,by omega,?_,trivial,rfl⟩;(try dsimp only);rw[show mkK l k0 (j+1)=mkK l k0 j+(l[j]?.getD []).length from rfl];exact agr
 ·obtain rfl:j=l.length:=by omega
  have hkk:mkK l k0 l.length=k0+jV l:=by rw[hkj,List.take_length]
  replace hkk:=Lib.hid hkk;clear hkj hlt;rcases hv with⟨hv,hl0⟩|hv
  ·subst hv
   have hkk0:mkK l k0 0=k0+jV l:=by have:=hkk.out;rwa[hl0]at this
   replace hkk0:=Lib.hid hkk0;clear hkk;rw[hl0]at*;refine HZ.seq (HZ.eng mixed bL (by kernel_rfl) ?_);(try dsimp only);(refine wlk ?_;intros);(try simp only[X.out,↓reduceIte]);refine HZ.seq (HZ.eng mixed bL (by kernel_rfl) ?_);(try dsimp only);(refine wlk ?_;intros);(try dsimp only);exact HZ.ret ⟨.inr rfl,⟨_,by(simp(disch:=(first|omega|(simp only[push_cast];first|done|omega))) only[push_cast,↓reduceIte,Nat.reduceEqDiff,Nat.reduceBEq,Nat.reduceAdd,Nat.reduceSub,Int.reduceToNat, *]<;>with_reducible exact rfl),by rw[←hkk0.out];rfl,by first|rfl|(rw[hl0];rfl)⟩,fun i hi=> .inl hi⟩
  ·subst hv
   have hl8:=fun ty=>alR (P:=Tryz.prog) (t:=23) (e:=24) (ty:=ty) (a:=some ⟨g,0,none⟩) (n:=l.length) (c:=c) (by kernel_rfl);refine HZ.seq (HZ.eng mixed bL (by kernel_rfl) ?_);(try dsimp only);(refine wlk ?_;intros);(try simp only[X.out,↓reduceIte]);refine HZ.seq (HZ.eng mixed bL (by kernel_rfl) ?_);(try dsimp only);(refine wlk ?_;intros);(try dsimp only);exact HZ.ret ⟨.inr rfl,⟨_,by(simp(disch:=(first|omega|(simp only[push_cast];first|done|omega))) only[push_cast,↓reduceIte,Nat.reduceEqDiff,Nat.reduceBEq,Nat.reduceAdd,Nat.reduceSub,Int.reduceToNat, *]<;>with_reducible exact rfl),by rw[←hkk.out];rfl,rfl⟩,fun i hi=> .inl hi⟩
structure ahA (T1 T2:Nat) (vo:Value) (vs:List Value) (vp:Value) (p:List LS) (q:LS) (w:World):Prop where
 ss:iM T1 T2 vo vs p w
 row:dZ T2 vp (bY q) w
 ap:∀i,vp.ownBlock=some i→¬mI vo vs i
def aeY (T1 T2:Nat) (vo:Value) (vs:List Value) (vp:Value) (p:List LS) (q:LS):Fgn:=⟨fun i=>mI vo vs i∨vp.ownBlock=some i,ahA T1 T2 vo vs vp p q,fun w w' h hM=>⟨hM.ss.same fun i hi=>h i (.inl hi),hM.row.same fun i hi=>h i (.inr hi),hM.ap⟩⟩
def ax7 (T2:Nat) (vo:Value) (vs:List Value) (vp:Value) (q:LS):Fgn:=⟨fun i=>mI vo vs i∨vp.ownBlock=some i,fun w=>dZ T2 vp (bY q) w,fun w w' h hM=>hM.same fun i hi=>h i (.inr hi)⟩
def axa (vo:Value) (vs:List Value) (vp:Value):Fgn:=⟨fun i=>mI vo vs i∨vp.ownBlock=some i,fun _=>True,fun _ _ _ _=>trivial⟩
theorem ahA.lt {T1 T2:Nat} {vo vp:Value} {vs:List Value} {p:List LS} {q:LS} {w:World} (h:ahA T1 T2 vo vs vp p q w) {i:Nat} (hi:mI vo vs i∨vp.ownBlock=some i):i<w.heap.size:=hi.elim h.ss.lt h.row.lt
section
variable {P:Program}
theorem acO.calls {f T2:Nat} {mk:Int→Nat→LS} (hmk:acO P f T2 mk) {u:Value} {z:LS} {k:Int} {w:World} (hrow:dZ T2 u (bY z) w) (hlz:z.length≤1048576) (hk0:0<k) (hk1:k≤1099511627776) (hT:jv w fun b=>u.ownBlock=some b):
 Calls P f #[u,.int .i64 k] w fun e w'=>e=.returned (.int .i64 (k+z.length))∧Fr (fun b=>u.ownBlock=some b) w w':=by
 obtain⟨⟨Φ,hS,h1,h2⟩,h3⟩:=hmk;rcases hrow with⟨rfl,hz0⟩|⟨gb,cap,arr,rfl,q1,q2,q3,q4,q5⟩
 ·have hz0:z=[]:=by unfold bY at hz0;simpa using hz0
  subst hz0;refine(hS w (fun _ _=>False) (fun _=>0) (fun _=>0) [.val (.slice none 0 0),.val (.int .i64 k)] [] _ _ _ (h2 k) (fun _ _ q=>False.elim q) ⟨fun o ho=>by simp at ho,fun o o' ho=>by simp at ho,fun o c hc=>by simp at hc⟩ (hT.io fun t ht=>by rintro⟨o,ho,_⟩;simp at ho) ⟨_,_,rfl,by simp[Rep],_,_,rfl,by simp[Rep],rfl⟩).mono ?_;rintro e w' ⟨v',β',κ',M,rfl,hfr,-,-,-,-,-,hrep⟩;simp only[Rep]at hrep;subst hrep;exact⟨by simp,hfr.os,hfr.tape,hfr.output,hfr.size,fun i hi _=>hfr.block i hi fun⟨o,ho,_⟩=>by simp at ho⟩
 ·have hzl:(bY z).length=z.length:=by simp[bY]
  rw[hzl]at q1⊢;have hes:bf (d9 (fun _ _=>False) (fun _=>gb) (fun _=>arr.size) 1) w 1 (z.map fun s=>PV.val (.string s)) gb 0:=dZ.zD (vs:=bY z) q3 q5 (by simp[bY]) fun j e u h1 h2=>by unfold bY at h2;rw[List.getElem?_map]at h1 h2;rw[Option.map_eq_some_iff]at h1 h2;obtain⟨s,p1,rfl⟩:=h1;obtain⟨s',p2,rfl⟩:=h2;rw[p1]at p2;cases p2;exact⟨by simp[Rep],iN s⟩
  refine(hS w (fun _ _=>False) (fun _=>gb) (fun _=>arr.size) [.row 0 1 0 z.length,.val (.int .i64 k)] [(T2,1,z.map fun s=> .val (.string s))] _ _ _ (h1 z k hlz hk0 hk1) (fun _ _ q=>False.elim q) ⟨fun o ho=>⟨lt_of_heap q3,fun _ q=>q⟩,fun o o' ho ho' _=>by simp at ho ho';omega,fun o c hc=>?_⟩ (hT.io fun t ht=>?_) ?_).mono ?_
  ·have ho:o=0:=by have:=(List.getElem?_eq_some_iff.1 hc).1;simpa using this
   subst ho;cases hc;exact⟨⟨arr,q3,rfl⟩,by show(z.map _).length*1≤arr.size;rw[List.length_map];omega,hes⟩
  ·rintro⟨o,ho,rfl⟩
   exact hT.apart _ ht rfl
  ·refine⟨_,_,rfl,?_,_,_,rfl,by simp[Rep],rfl⟩
   simp only[Rep];exact⟨cap,by simp[d9],q1,q2,by show(0+cap)*1≤arr.size;omega,by exact Nat.zero_lt_one,fun q=>q⟩
  ·rintro e w' ⟨v',β',κ',M,rfl,hfr,-,hβ,-,-,hO',hrep⟩
   simp only[Rep]at hrep;subst hrep;exact⟨rfl,hfr.os,hfr.tape,hfr.output,hfr.size,fun i hi hn=>hfr.block i hi fun⟨o,ho,q⟩=>hn (by rw[q];rfl)⟩
theorem jW.row {f T:Nat} {Ψ:afk} (hs:jW P f Ψ) {ps:List PV} {l:LS} (hΨ:Ψ ps=some (.row 0 1 0 l.length,[(T,1,l.map fun s=> .val (.string s))])) {w:World} {Jm:Nat→Prop} {args:Array Value} (hJ:∀i,Jm i→i<w.heap.size) (hT:jv w fun _=>False) (hargs:bI (kG Jm) w ps args.toList):
 Calls P f args w fun e w'=>∃v,e=.returned v∧Fr (fun _=>False) w w'∧dZ T v (bY l) w'∧∃b,v.ownBlock=some b∧w.heap.size≤b:=by
 refine(hs w (fun k b=>k=false∧Jm b) (fun _=>0) (fun _=>0) ps [] args _ _ (by simpa using hΨ) (fun k b hb=>hJ b hb.2) ⟨fun o ho=>by simp at ho,fun o o' ho=>by simp at ho,fun o c ho=>by simp at ho⟩ (hT.io fun t ht=>by rintro⟨o,ho,_⟩;simp at ho) hargs).mono ?_;rintro e w' ⟨v,β',κ',M,rfl,hfr,-,-,hnew,hM,hO',hrep⟩;obtain⟨⟨arr2,p1,p2⟩,p3,p4⟩:=hO'.at_ 0 _ rfl;have hb:w.heap.size≤β' 0:=hnew 0 (Nat.zero_le _) (by simp);simp only[Rep]at hrep;obtain⟨c,e1,e2,e3,e4,e5⟩:=hrep;have e6:(bY l).map PV.val=l.map fun s=>PV.val (.string s):=by unfold bY;rw[List.map_map];rfl
 dsimp only at p1 p4;rw[←e6]at p4;have hr:=om (n:=l.length) ⟨c,e1,e2,e3,by rw[p2];exact e4⟩ (by simp[bY]) p1 p4 fun u hu=>by unfold bY at hu;obtain⟨s,_,rfl⟩:=List.mem_map.1 hu;exact iN s
 exact⟨v,rfl,⟨hfr.os,hfr.tape,hfr.output,hfr.size,fun i hi _=>hfr.block i hi fun⟨o,ho,_⟩=>by simp at ho⟩,hr.1,_,hr.2,hb⟩
end
abbrev ahv (p:List LS) (q:LS) (x y z:Int):PV:=.agg [.lst false 1 (p.map fun p=> .lst false 1 (p.map fun s=> .val (.string s))),.lst false 1 (q.map fun s=> .val (.string s)),.val (.int .i64 x),.val (.int .i64 y),.val (.int .i64 z)]
abbrev bkV (vo vp:Value) (x y z:Int):Value:=.agg #[vo,vp,.int .i64 x,.int .i64 y,.int .i64 z]
abbrev bkQ (vo vp:Value) (x y z:Int):PV:=.agg [.val vo,.val vp,.val (.int .i64 x),.val (.int .i64 y),.val (.int .i64 z)]
theorem dZ.sl {T:Nat} {v:Value} {vs:List Value} {w:World} (h:dZ T v vs w):∃a n c,v=.slice a n c:=by
 rcases h with⟨rfl,_⟩|⟨g,cap,arr,rfl,_⟩
 ·exact⟨_,_,_,rfl⟩
 ·exact⟨_,_,_,rfl⟩
theorem aeJ {p:List LS} {q:LS} {x y z:Int} {w:World} {Jm:Nat→Prop} {args:Array Value} (hp:awh p) (hq:q.length≤1048576) (hJ:∀b,Jm b→b<w.heap.size) (hT:jv w fun _=>False) (hargs:bI (kG Jm) w [ahv p q x y z] args.toList):
 Calls Tryz.prog 12 args w fun e w'=>∃vo vs vp,e=.returned (bkV vo vp x y z)∧Fr (fun _=>False) w w'∧ahA 24 9 vo vs vp p q w'∧∀i,(mI vo vs i∨vp.ownBlock=some i)→w.heap.size≤i:=by
 have hc:=HZ.calls (σ:=Fgn.no) (N:=22) (rs:=[.cell 2 26]) (ps:=[ahv p q x y z]) Tryz.func12 rfl rfl rfl (fun b e=>False.elim e) trivial hT hJ (fun b _ e=>e) hargs (by show 1≤_;decide) (fun P' σ'=>∃vo vs vp,P'=bkQ vo vp x y z∧σ'=aeY 24 9 vo vs vp p q) ?_
 ·refine hc.mono ?_
  rintro e w' ⟨v0,σ',P',g,rfl,⟨vo,vs,vp,rfl,rfl⟩,hr,hf,hb,ha⟩;simp only[Rep,bI]at hr;obtain⟨l,rfl,v1,l1,h1,rfl,v2,l2,rfl,rfl,v3,l3,rfl,rfl,v4,l4,rfl,rfl,v5,l5,rfl,rfl,rfl⟩:=hr;refine⟨v1,vs,v2,?_,hf,ha,fun i hi=>((hb i hi).2).elim (fun e=>False.elim e) id⟩;obtain⟨ll⟩:=l;simp only at h1;rw[h1]
 refine HZ.start ?_;show HZ _ _ _ _ _ _ ⟨(bM [ahv p q x y z]).tm,fun _=>none,0⟩ _;refine HZ.seq (HZ.eng mixed bL (by kernel_rfl) ?_);(try dsimp only);(refine wlk ?_;intros);refine HZ.seq (HZ.eng mixed bL (by kernel_rfl) ?_);(try dsimp only);(refine wlk ?_;intros);refine HZ.seq (HZ.each ?_);refine ZO.pre (imm:=⟨[],[],[]⟩) 2 bL (by kernel_rfl) (by simp only[List.take_succ_cons,List.take_zero]<;>exact rfl) (by simp only[List.drop_succ_cons,List.drop_zero]<;>exact rfl) (by simp only[List.map_cons,List.map_nil]<;>exact rfl) ?_;(try dsimp only);(refine wlk ?_;intros);(try dsimp only);refine ZO.wh rfl rfl ⟨_,Tryz.func31,rfl,rfl⟩ rfl (by rintro y ⟨⟩;decide) (fun v σ'=>(∃a n c,v=.slice a n c)∧∃vs,σ'=ssF 24 9 v vs p∧∀i,mI v vs i→w.heap.size≤i) (fun a w1 hst=>?_) (fun vo σ' ⟨⟨a1,n1,c1,hvo⟩,vs,e,hbo⟩=>?_)
 ·obtain⟨⟨io,w0,g,hr,hC⟩,hM⟩:=hst
  simp only[List.map_toArray,List.map_cons,List.map_nil];have hrep:=hr.avt (x:=.tmp 5) (q:=aaj p) (by(simp(disch:=(first|omega|(simp only[push_cast];first|done|omega))) only[push_cast,↓reduceIte,Nat.reduceEqDiff,Nat.reduceBEq,Nat.reduceAdd,Nat.reduceSub,Int.reduceToNat, *]<;>with_reducible exact rfl));have hT1:jv w1 fun _=>False:=(hr.tab.keep hr.fr fun t ht=>(hr.tab.apart t ht)).io fun _ _ q=>False.elim q;refine(ae6 hp (fun b hb=>hb) hT1 ⟨_,_,rfl,hrep,rfl⟩).mono ?_;rintro e w' ⟨v,vs,rfl,hf,hs,hb⟩;have hsz:=Nat.le_trans hC.sz hr.fr.size;exact⟨v,_,rfl,⟨hs.out.sl,vs,rfl,fun i hi=>Nat.le_trans hsz (hb i hi)⟩,⟨hf.os,hf.tape,hf.output,hf.size,fun i hi _=>hf.block i hi fun e=>e⟩,fun i hi e=>by have:=hb i e;omega,fun i e=>False.elim e,fun i e=>hs.lt e,hs⟩
 subst e hvo;have hc1:bA (.val (.slice a1 n1 c1))=some [.val (.slice a1 n1 c1)]:=rfl;dsimp only[AS.put];refine ZO.pre (imm:=⟨[],[],[]⟩) 2 bL (by kernel_rfl) (by simp only[List.take_succ_cons,List.take_zero]<;>exact rfl) (by simp only[List.drop_succ_cons,List.drop_zero]<;>exact rfl) (by simp only[List.map_cons,List.map_nil]<;>exact rfl) ?_;(try dsimp only);(refine wlk ?_;intros);(try dsimp only);refine ZO.nil ?_;(try dsimp only);refine HZ.seq (HZ.each ?_);refine ZO.pre (imm:=⟨[],[],[]⟩) 2 bL (by kernel_rfl) (by simp only[List.take_succ_cons,List.take_zero]<;>exact rfl) (by simp only[List.drop_succ_cons,List.drop_zero]<;>exact rfl) (by simp only[List.map_cons,List.map_nil]<;>exact rfl) ?_;(try dsimp only);(refine wlk ?_;intros);(try dsimp only);refine ZO.wh rfl rfl ⟨_,Tryz.func32,rfl,rfl⟩ rfl (by rintro y ⟨⟩;decide) (fun v σ'=>(∃a n c,v=.slice a n c)∧σ'=aeY 24 9 (.slice a1 n1 c1) vs v p q∧∀i,v.ownBlock=some i→w.heap.size≤i) (fun a w1 hst=>?_) (fun vp σ' ⟨⟨a2,n2,c2,hvp⟩,e,hbp⟩=>?_)
 ·obtain⟨⟨io,w0,g,hr,hC⟩,hM⟩:=hst
  simp only[List.map_toArray,List.map_cons,List.map_nil];have hrep:=hr.avt (x:=.tmp 9) (q:=.lst false 1 (q.map fun s=> .val (.string s))) (by(simp(disch:=(first|omega|(simp only[push_cast];first|done|omega))) only[push_cast,↓reduceIte,Nat.reduceEqDiff,Nat.reduceBEq,Nat.reduceAdd,Nat.reduceSub,Int.reduceToNat, *]<;>with_reducible exact rfl));have hT1:jv w1 fun _=>False:=(hr.tab.keep hr.fr fun t ht=>(hr.tab.apart t ht)).io fun _ _ q=>False.elim q;refine(uG.row (ab9 hq) (fun b hb=>hb) hT1 ⟨_,_,rfl,hrep,rfl⟩).mono ?_;rintro e w' ⟨v,rfl,hf,hs,b,hvb,hb⟩;have hsz:=Nat.le_trans hC.sz hr.fr.size;have hM':iM 24 9 (.slice a1 n1 c1) vs p w1:=hM;have hk:∀i,i<w1.heap.size→w'.heap[i]?=w1.heap[i]?:=fun i hi=>hf.block i hi fun e=>e;have hss:iM 24 9 (.slice a1 n1 c1) vs p w':=hM'.same fun i hi=>hk i (hM'.lt hi);refine⟨v,_,rfl,⟨hs.sl,rfl,fun i hi=>by rw[hvb]at hi;cases hi;omega⟩,⟨hf.os,hf.tape,hf.output,hf.size,fun i hi _=>hk i hi⟩,fun i hi e=>?_,fun i e=> .inl e,fun i e=>e.elim hss.lt hs.lt,⟨hss,hs,fun i hi e=>?_⟩⟩
  ·rcases e with e|e
   ·exact e
   ·rw[hvb]at e;cases e;omega
  ·rw[hvb]at hi
   cases hi;have:=hM'.lt e;omega
 subst e hvp;have hc2:bA (.val (.slice a2 n2 c2))=some [.val (.slice a2 n2 c2)]:=rfl;dsimp only[AS.put];refine ZO.pre (imm:=⟨[],[],[]⟩) 2 bL (by kernel_rfl) (by simp only[List.take_succ_cons,List.take_zero]<;>exact rfl) (by simp only[List.drop_succ_cons,List.drop_zero]<;>exact rfl) (by simp only[List.map_cons,List.map_nil]<;>exact rfl) ?_;(try dsimp only);(refine wlk ?_;intros);(try dsimp only);refine ZO.nil ?_;(try dsimp only);refine HZ.eng mixed bL (by kernel_rfl) ?_;(try dsimp only);(refine wlk ?_;intros);(try dsimp only);refine⟨.inr rfl,⟨_,by(simp(disch:=(first|omega|(simp only[push_cast];first|done|omega))) only[push_cast,↓reduceIte,Nat.reduceEqDiff,Nat.reduceBEq,Nat.reduceAdd,Nat.reduceSub,Int.reduceToNat, *]<;>with_reducible exact rfl),_,vs,_,rfl,rfl⟩,fun i hi=> .inr (hi.elim (hbo i) (hbp i))⟩
theorem zo {p:List LS} {q:LS} {x y z k0:Int} {vo vp:Value} {vs:List Value} {w:World} {args:Array Value} (hM:ahA 24 9 vo vs vp p q w) (hl:jV p≤1048576) (hp:p.length≤1048576) (hq:q.length≤1048576) (hk0:0<k0) (hk1:k0≤1048577) (hT:jv w fun i=>mI vo vs i∨vp.ownBlock=some i) (hargs:args=#[bkV vo vp x y z,.int .i64 k0]):
 Calls Tryz.prog 15 args w fun e w'=>e=.returned (.int .i64 (k0+jV p+q.length))∧Fr (fun i=>mI vo vs i∨vp.ownBlock=some i) w w':=by
 have hargs2:bI (kG fun _=>False) w [bkQ vo vp x y z,.val (.int .i64 k0)] args.toList:=by rw[hargs];refine⟨_,_,rfl,?_,_,_,rfl,by simp[Rep],rfl⟩;simp[Rep,bI]
 have hc:=HZ.calls (σ:=aeY 24 9 vo vs vp p q) (N:=14) (rs:=[.tmp 4]) (ps:=[bkQ vo vp x y z,.val (.int .i64 k0)]) Tryz.func15 rfl rfl rfl (fun b e=>hM.lt e) hM hT (fun b e=>False.elim e) (fun b e=>False.elim e) hargs2 (by show 2≤_;decide) (fun P' σ'=>P'=.val (.int .i64 (k0+jV p+q.length))) ?_
 ·refine hc.mono ?_
  rintro e w' ⟨v0,σ',P',g,rfl,rfl,hr,hf,hb,ha⟩;simp only[Rep]at hr;subst hr;exact⟨rfl,hf⟩
 obtain⟨a1,n1,c1,hvo⟩:=hM.ss.out.sl;obtain⟨a2,n2,c2,hvp⟩:=hM.row.sl;clear hargs2;subst hvo hvp;have hc1:bA (bkQ (.slice a1 n1 c1) (.slice a2 n2 c2) x y z)=some [.val (.slice a1 n1 c1),.val (.slice a2 n2 c2),.val (.int .i64 x),.val (.int .i64 y),.val (.int .i64 z)]:=rfl;refine HZ.start ?_;show HZ _ _ _ _ _ _ ⟨(bM [bkQ (.slice a1 n1 c1) (.slice a2 n2 c2) x y z,.val (.int .i64 k0)]).tm,fun _=>none,0⟩ _;refine HZ.seq (HZ.eng mixed bL (by kernel_rfl) ?_);(try dsimp only);(refine wlk ?_;intros);refine HZ.seq (HZ.each ?_);refine ZO.pre (imm:=⟨[],[],[]⟩) 3 bL (by kernel_rfl) (by simp only[List.take_succ_cons,List.take_zero]<;>exact rfl) (by simp only[List.drop_succ_cons,List.drop_zero]<;>exact rfl) (by simp only[List.map_cons,List.map_nil]<;>exact rfl) ?_;(try dsimp only);(refine wlk ?_;intros);(try dsimp only);refine ZO.wh rfl rfl ⟨_,Tryz.func16,rfl,rfl⟩ rfl (by rintro y ⟨⟩;decide) (fun v σ'=>v=.int .i64 (k0+jV p)∧σ'=ax7 9 (.slice a1 n1 c1) vs (.slice a2 n2 c2) q) (fun a w1 hst=>?_) (fun v σ' ⟨e1,e2⟩=>?_)
 ·obtain⟨⟨io,w0,g,hr,hC⟩,hM1⟩:=hst
  have hM1:ahA 24 9 (.slice a1 n1 c1) vs (.slice a2 n2 c2) p q w1:=hM1;have hX:=hr.look (.tmp 6);have hY:=hr.look (.tmp 7);rw[show look _ (.tmp 6)=.val (.slice a1 n1 c1)from by(simp(disch:=(first|omega|(simp only[push_cast];first|done|omega))) only[push_cast,↓reduceIte,Nat.reduceEqDiff,Nat.reduceBEq,Nat.reduceAdd,Nat.reduceSub,Int.reduceToNat, *]<;>with_reducible exact rfl)]at hX;rw[show look _ (.tmp 7)=.val (.int .i64 k0)from by(simp(disch:=(first|omega|(simp only[push_cast];first|done|omega))) only[push_cast,↓reduceIte,Nat.reduceEqDiff,Nat.reduceBEq,Nat.reduceAdd,Nat.reduceSub,Int.reduceToNat, *]<;>with_reducible exact rfl)]at hY;simp only[Rep]at hX hY;simp only[List.map_toArray,List.map_cons,List.map_nil];rw[hX,hY];refine(qb hM1.ss hl hp hk0 hk1 ((hr.tab.keep hr.fr fun t ht=>(hr.tab.apart t ht)).io fun t ht e=>(hC.tk t ht).2 (.inl e)) rfl).mono ?_;rintro e w' ⟨rfl,hf,hs⟩;refine⟨_,_,rfl,⟨rfl,rfl⟩,⟨hf.os,hf.tape,hf.output,hf.size,fun i hi hn=>hf.block i hi fun e=>hn (.inl e)⟩,fun _ _ e=>e,fun _ e=>e,fun i e=>Nat.lt_of_lt_of_le (hM1.lt e) hf.size,?_⟩;exact hM1.row.same fun i hi=>hf.block i (hM1.row.lt hi) (hM1.ap i hi)
 subst e1 e2;dsimp only[AS.put];refine ZO.pre (imm:=⟨[],[],[]⟩) 1 bL (by kernel_rfl) (by simp only[List.take_succ_cons,List.take_zero]<;>exact rfl) (by simp only[List.drop_succ_cons,List.drop_zero]<;>exact rfl) (by simp only[List.map_cons,List.map_nil]<;>exact rfl) ?_;(try dsimp only);(refine wlk ?_;intros);(try dsimp only);refine ZO.nil ?_;(try dsimp only);refine HZ.seq (HZ.each ?_);refine ZO.pre (imm:=⟨[],[],[]⟩) 3 bL (by kernel_rfl) (by simp only[List.take_succ_cons,List.take_zero]<;>exact rfl) (by simp only[List.drop_succ_cons,List.drop_zero]<;>exact rfl) (by simp only[List.map_cons,List.map_nil]<;>exact rfl) ?_;(try dsimp only);(refine wlk ?_;intros);(try dsimp only);refine ZO.wh rfl rfl ⟨_,Tryz.func34,rfl,rfl⟩ rfl (by rintro y ⟨⟩;decide) (fun v σ'=>v=.int .i64 (k0+jV p+q.length)∧σ'=axa (.slice a1 n1 c1) vs (.slice a2 n2 c2)) (fun a w1 hst=>?_) (fun v σ' ⟨e1,e2⟩=>?_)
 ·obtain⟨⟨io,w0,g,hr,hC⟩,hM1⟩:=hst
  have hM1:dZ 9 (.slice a2 n2 c2) (bY q) w1:=hM1;have hX:=hr.look (.tmp 10);have hY:=hr.look (.tmp 11);rw[show look _ (.tmp 10)=.val (.slice a2 n2 c2)from by(simp(disch:=(first|omega|(simp only[push_cast];first|done|omega))) only[push_cast,↓reduceIte,Nat.reduceEqDiff,Nat.reduceBEq,Nat.reduceAdd,Nat.reduceSub,Int.reduceToNat, *]<;>with_reducible exact rfl)]at hX;rw[show look _ (.tmp 11)=.val (.int .i64 (k0+jV p))from by(simp(disch:=(first|omega|(simp only[push_cast];first|done|omega))) only[push_cast,↓reduceIte,Nat.reduceEqDiff,Nat.reduceBEq,Nat.reduceAdd,Nat.reduceSub,Int.reduceToNat, *]<;>with_reducible exact rfl)]at hY;simp only[Rep]at hX hY;simp only[List.map_toArray,List.map_cons,List.map_nil];rw[hX,hY];refine(ac4.calls hM1 hq (by omega) (by omega) ((hr.tab.keep hr.fr fun t ht=>(hr.tab.apart t ht)).io fun t ht e=>(hC.tk t ht).2 (.inr e))).mono ?_;rintro e w' ⟨rfl,hf⟩;exact⟨_,_,rfl,⟨rfl,rfl⟩,⟨hf.os,hf.tape,hf.output,hf.size,fun i hi hn=>hf.block i hi fun e=>hn (.inr e)⟩,fun _ _ e=>e,fun _ e=>e,fun i e=>Nat.lt_of_lt_of_le (hC.hb i e) (Nat.le_trans hr.fr.size hf.size),trivial⟩
 subst e1 e2;dsimp only[AS.put];refine ZO.pre (imm:=⟨[],[],[]⟩) 1 bL (by kernel_rfl) (by simp only[List.take_succ_cons,List.take_zero]<;>exact rfl) (by simp only[List.drop_succ_cons,List.drop_zero]<;>exact rfl) (by simp only[List.map_cons,List.map_nil]<;>exact rfl) ?_;(try dsimp only);(refine wlk ?_;intros);(try dsimp only);refine ZO.nil ?_;(try dsimp only);refine HZ.eng mixed bL (by kernel_rfl) ?_;(try dsimp only);(refine wlk ?_;intros);(try dsimp only);refine⟨.inr rfl,⟨_,by(simp(disch:=(first|omega|(simp only[push_cast];first|done|omega))) only[push_cast,↓reduceIte,Nat.reduceEqDiff,Nat.reduceBEq,Nat.reduceAdd,Nat.reduceSub,Int.reduceToNat, *]<;>with_reducible exact rfl),rfl⟩,fun i hi=> .inl hi⟩
theorem iJ {α β:Type} {P:Program} {m:Sem α} {f:α→Sem β} {a:α} (h:av P m=some a):av P (m>>=f)=av P (f a):=by
 induction m with
 |pure x=>simp only[av,Option.some.injEq]at h;subst h;rfl
 |program k ih=>exact ih P h
 |_=>simp[av]at h
theorem yg {P:Program} {v:Int} {m:Nat} {k:BoundsCode} (h:0≤v) (h2:v≤m):av P (Instr.sliceBound (.int .i64 v) m k)=some v.toNat:=by have e:Instr.sliceBound (.int .i64 v) m k=(if 0≤v∧v≤m then pure v.toNat else boundsPanic .i64 v m k):=rfl;rw[e,if_pos ⟨h,h2⟩];rfl
theorem amP {P:Program} {t:Nat} {d:TypeDesc} (hu:P.underlying t=some d):av P (underlying t)=some d:=by unfold underlying;rw[iJ (a:=P) rfl];simp only[hu];rfl
theorem sps {P:Program} {t:Nat} {s:ByteArray} {lo hi:Option Int} (hu:P.underlying t=some .string) (h0:0≤lo.getD 0) (h1:lo.getD 0≤hi.getD s.size) (h2:hi.getD s.size≤s.size):
 aq2 P t (.val (.string s)) (some lo) (some hi)=some (.val (.string (s.extract (lo.getD 0).toNat (hi.getD s.size).toNat))):=by
 have hb:av P (Instr.sliceBounds false s.size s.size (lo.map (Value.int .i64)) (hi.map (Value.int .i64)) none)=some ((lo.getD 0).toNat,(hi.getD s.size).toNat,s.size):=by
  unfold Instr.sliceBounds;rw[iJ (a:=s.size) rfl];cases hi with
  |none=>
   simp only[Option.map_none,Option.getD_none]at h1⊢;rw[iJ (a:=s.size) rfl];cases lo with
   |none=>simp only[Option.map_none,Option.getD_none,Int.toNat_natCast];rw[iJ (a:=0) rfl];rfl
   |some l=>simp only[Option.map_some,Option.getD_some,Int.toNat_natCast]at h0 h1⊢;rw[iJ (yg h0 h1)];rfl
  |some h=>
   simp only[Option.map_some,Option.getD_some]at h1 h2⊢;have h3:0≤h:=by omega
   rw[iJ (yg h3 h2)];cases lo with
   |none=>simp only[Option.map_none,Option.getD_none];rw[iJ (a:=0) rfl];rfl
   |some l=>simp only[Option.map_some,Option.getD_some]at h0 h1⊢;rw[iJ (yg h0 (by omega))];rfl
 have hs:av P (Instr.sliceAt t (.string s) (lo.map (Value.int .i64)) (hi.map (Value.int .i64)) none)=some (.string (s.extract (lo.getD 0).toNat (hi.getD s.size).toNat)):=by
  unfold Instr.sliceAt;rw[iJ (amP hu)];dsimp only
  unfold Instr.slice;rw[iJ (amP hu)];dsimp only
  simp only[Option.isSome_none,Bool.false_eq_true,if_false];rw[iJ hb];rfl
 show(av P _).map _=_;rw[hs];rfl
theorem anm {s:ByteArray} {lo hi:Option Int} (h0:0≤lo.getD 0) (h1:lo.getD 0≤hi.getD s.size) (h2:hi.getD s.size≤s.size):
 aq2 Tryz.prog 9 (.val (.string s)) (some lo) (some hi)=some (.val (.string (s.extract (lo.getD 0).toNat (hi.getD s.size).toNat))):=sps Tryz.underlying9 h0 h1 h2
attribute[push_cast]
 anm
end
end Go.Proofs.YtmmafcjjlbgnkaaGreat
