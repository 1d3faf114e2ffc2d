/- What the proof rests on, part 8: contracts of functions. No condition beyond what each states. -/
import Derived.Test.YtmmafcjjlbgnkaaZBkE7
namespace Go.Proofs.Ytmmafcjjlbgnkaa
open Go.RowKit
set_option linter.all false
set_option maxHeartbeats 32000000
noncomputable section
def zo {α:Type} (m:Nat→α) (l:List α) (j:Nat):List α:=(List.range j).map m++l.drop j
section
variable {α:Type} {m:Nat→α} {l:List α} {j:Nat}
theorem qR (h:j≤l.length):(zo m l j).length=l.length:=by simp[zo];omega
theorem wL:zo m l 0=l:=by simp[zo]
theorem yP (h:l.length≤j):zo m l j=(List.range j).map m:=by simp[zo,List.drop_eq_nil_of_le h]
theorem abU (h:j<l.length):(zo m l j).set j (m j)=zo m l (j+1):=by have e:l.drop j=l[j]::l.drop (j+1):=List.drop_eq_getElem_cons h;unfold zo;rw[List.set_append_right _ _ (by simp),e,show j-((List.range j).map m).length=0 by simp,List.set_cons_zero,List.range_succ];simp
end
def j6 (k:Int) (n:Nat):List Int:=(List.range n).map fun j:Nat=>k+j
theorem gQ (k:Int) (n:Nat):(j6 k n).length=n:=by simp[j6]
theorem ael (k:Int) {n j:Nat} (h:j<n):(j6 k n)[j]?.getD 0=k+j:=by simp[j6,h]
def aos {α:Type} (T:Nat) (en:α→PV) (ps:List PV) (cs:List aJ):Prop:=
 (∃(l:List α) (k:Int),ps=[.row 0 1 0 l.length,.val (.int .i64 k)]∧cs=[(T,1,l.map en)]∧l.length≤1048576∧0<k∧k≤1099511627776)∨∃k:Int,ps=[.val (.slice none 0 0),.val (.int .i64 k)]∧cs=[]
def Marks {α:Type} (T:Nat) (en:α→PV) (mk:Int→Nat→List α) (Φ:gM):Prop:=
 (∀(l:List α) (k:Int),l.length≤1048576→0<k→k≤1099511627776→Φ [.row 0 1 0 l.length,.val (.int .i64 k)] [(T,1,l.map en)]=some (.val (.int .i64 (k+l.length)),[(T,1,(mk k l.length).map en)]))∧
 ∀k:Int,Φ [.val (.slice none 0 0),.val (.int .i64 k)] []=some (.val (.int .i64 k),[])
theorem lC:∃Φ:gM,dK Try.prog 13 Φ∧Marks 3 (fun n:Int=> .val (.int .i64 n)) j6 Φ:=by
 obtain⟨Φ,h1,h2⟩:=yu mixed bN Try.func13 rfl 19 rfl [.tmp 4] rfl (by kernel_rfl) (aos 3 fun n:Int=> .val (.int .i64 n))
  (fun ps cs r cs'=>(∀(l:List Int) (k:Int),ps=[.row 0 1 0 l.length,.val (.int .i64 k)]→cs=[(3,1,l.map fun n=> .val (.int .i64 n))]→r=.val (.int .i64 (k+l.length))∧cs'=[(3,1,(j6 k l.length).map fun n=> .val (.int .i64 n))])∧∀k:Int,ps=[.val (.slice none 0 0),.val (.int .i64 k)]→r=.val (.int .i64 k)∧cs'=[])
  (fun ps cs hd=>by rcases hd with⟨l,k,rfl,_⟩|⟨k,rfl,_⟩<;>simp) (fun ps cs hd=>by
   rcases hd with⟨l,k,rfl,rfl,hl,hk,hk2⟩|⟨k,rfl,rfl⟩
   ·rw[abZ]
    (refine wlkX ?_;intros);refine aD (α:=Nat) mixed (fun j=>[(0,.row 0 1 0 l.length),(1,iv (k+j)),(5,iv j)]) (fun j=>[(0,3,1,(zo (fun j:Nat=>k+j) l j).map fun n=> .val (.int .i64 n))]) (fun _=>1)
     (fun j=>j≤l.length) (fun j=>l.length-j) (by kernel_rfl) 0 (Nat.zero_le _) ?_ ?_ rfl ?_
    ·simp(disch:=(first|omega|(simp only[push_cast];first|done|omega))) only[push_cast,↓reduceIte,Nat.reduceEqDiff,Nat.reduceBEq,Nat.reduceAdd,Nat.reduceSub,Int.reduceToNat,Int.add_zero]
    ·simp(disch:=(first|omega|(simp only[push_cast];first|done|omega))) only[push_cast,↓reduceIte,Nat.reduceEqDiff,Nat.reduceBEq,Nat.reduceAdd,Nat.reduceSub,Int.reduceToNat,wL]
    intro j hj;have hm:(zo (fun j:Nat=>k+j) l j).length=l.length:=qR hj;by_cases h:j<l.length
    ·(refine wlk ?_;intros)
     refine⟨j+1,by omega,by dsimp only;omega,?_,?_,rfl⟩
     ·simp(disch:=(first|omega|(simp only[push_cast];first|done|omega))) only[push_cast,↓reduceIte,Nat.reduceEqDiff,Nat.reduceBEq,Nat.reduceAdd,Nat.reduceSub,Int.reduceToNat, *]
      simp only[Int.add_assoc,and_self]
     ·simp(disch:=(first|omega|(simp only[push_cast];first|done|omega))) only[push_cast,↓reduceIte,Nat.reduceEqDiff,Nat.reduceBEq,Nat.reduceAdd,Nat.reduceSub,Int.reduceToNat, *]
      rw[←abU h]
    ·(refine wlk ?_;intros)
     refine ajP (r:=.val (.int .i64 (k+j))) (c':=(3,1,(zo (fun j:Nat=>k+j) l j).map fun n=> .val (.int .i64 n))) (by first|exact .inl rfl|exact .inr rfl) (by(simp(disch:=(first|omega|(simp only[push_cast];first|done|omega))) only[push_cast,↓reduceIte,Nat.reduceEqDiff,Nat.reduceBEq,Nat.reduceAdd,Nat.reduceSub,Int.reduceToNat, *]<;>with_reducible exact rfl)) (by(simp(disch:=(first|omega|(simp only[push_cast];first|done|omega))) only[push_cast,↓reduceIte,Nat.reduceEqDiff,Nat.reduceBEq,Nat.reduceAdd,Nat.reduceSub,Int.reduceToNat, *]<;>with_reducible exact rfl)) ⟨fun l1 k1 e1 e2=>?_,fun k1 e1=>by simp at e1⟩;obtain⟨e3,e4⟩:l.length=l1.length∧k=k1:=by simpa using e1
     subst e4;rw[yP (by omega),←e3,show j=l.length by omega];exact⟨rfl,rfl⟩
   ·rw[aeW]
    (refine wlkX ?_;intros);refine aD (α:=Unit) mixed (fun j=>[(0,.val (.slice none 0 0)),(1,iv k),(5,iv 0)]) (fun j=>[]) (fun _=>0)
     (fun j=>True) (fun j=>0) (by kernel_rfl) () trivial ?_ trivial rfl ?_
    ·exact agr
    intro j hj;(refine wlk ?_;intros);refine ajD (r:=.val (.int .i64 k)) (by first|exact .inl rfl|exact .inr rfl) (by(simp(disch:=(first|omega|(simp only[push_cast];first|done|omega))) only[push_cast,↓reduceIte,Nat.reduceEqDiff,Nat.reduceBEq,Nat.reduceAdd,Nat.reduceSub,Int.reduceToNat, *]<;>with_reducible exact rfl)) ⟨fun l1 k1 e1 e2=>by simp at e1,fun k1 e1=>?_⟩;obtain rfl:k=k1:=by simpa using e1
    exact⟨rfl,rfl⟩)
 ·refine⟨Φ,h1,fun l k hl hk hk2=>?_,fun k=>?_⟩
  ·obtain⟨r,cs',e,hr,_⟩:=h2 _ _ (.inl ⟨l,k,rfl,rfl,hl,hk,hk2⟩)
   obtain⟨rfl,rfl⟩:=hr l k rfl rfl;exact e
  ·obtain⟨r,cs',e,_,hr⟩:=h2 _ _ (.inr ⟨k,rfl,rfl⟩)
   obtain⟨rfl,rfl⟩:=hr k rfl;exact e
def vZ:gM:=Classical.choose lC
theorem aip:dK Try.prog 13 vZ:=(Classical.choose_spec lC).1
theorem aa0:Marks 3 (fun n:Int=> .val (.int .i64 n)) j6 vZ:=(Classical.choose_spec lC).2
def okH (k:Int):Prop:=0<k∧k≤1099511627776
instance (k:Int):Decidable (okH k):=by unfold okH;infer_instance
def aaO:Fun:=F2 dIs dI fun l k=>if l=j6 k l.length∧l.length≤1048576∧okH k then some (iv (k+l.length))else none
theorem sS {k:Int} {n:Nat} (hn:n≤1048576) (hk:0<k) (hk2:k≤1099511627776):aaO [.lst false 1 ((j6 k n).map fun n=> .val (.int .i64 n)),.val (.int .i64 k)]=some (.val (.int .i64 (k+n))):=by refine(gD (A:=dIs) (B:=dI) (j6 k n) k).trans ((if_pos ⟨by rw[gQ],by rw[gQ];exact hn,hk,hk2⟩).trans ?_);rw[gQ]
theorem z8:Sound Try.prog 15 aaO:=by
 refine ak mixed bN Try.func15 rfl 21 rfl [.tmp 4] rfl (by kernel_rfl) fun ps r hr=>?_;obtain⟨l,k,rfl,hpre,rfl⟩:=fQ hr;refine⟨by simp,?_⟩;simp only[dIs,dUs,dSs,bQ,bU,bP,bT,aL,bS,aQ,aO,aR,aP];obtain⟨hl,hlen,hk,hk2⟩:=hpre;have hat:∀j:Nat,j<l.length→l[j]?.getD 0=k+j:=fun j hj=>by rw[hl,ael k hj]
 clear hl;(refine wlkX ?_;intros);refine aD (α:=Nat) mixed (fun j=>[(0,.lst false 1 (l.map fun n=> .val (.int .i64 n))),(1,iv (k+j)),(5,iv j)]) (fun j=>[]) (fun _=>0)
  (fun j=>j≤l.length) (fun j=>l.length-j) (by kernel_rfl) 0 (Nat.zero_le _) ?_ trivial rfl ?_
 ·simp(disch:=(first|omega|(simp only[push_cast];first|done|omega))) only[push_cast,↓reduceIte,Nat.reduceEqDiff,Nat.reduceBEq,Nat.reduceAdd,Nat.reduceSub,Int.reduceToNat,Int.add_zero]
 intro j hj;by_cases h:j<l.length
 ·have hj2:=hat j h
  clear hat;(refine wlk ?_;intros);refine⟨j+1,by omega,by dsimp only;omega,?_,trivial,rfl⟩;simp(disch:=(first|omega|(simp only[push_cast];first|done|omega))) only[push_cast,↓reduceIte,Nat.reduceEqDiff,Nat.reduceBEq,Nat.reduceAdd,Nat.reduceSub,Int.reduceToNat, *];simp only[Int.add_assoc,and_self]
 ·clear hat
  (refine wlk ?_;intros);rw[show l.length=j by omega];(exact fnF)
theorem je:∃φ:Fun,Sound Try.prog 26 φ∧∀k:Int,0<k→k≤2199023255552→∃s:ByteArray,φ [.val (.int .i64 k)]=some (.val (.string s))∧s.size≤2199023255553:=by
 obtain⟨φ,h1,h2⟩:=wS mixed bN Try.func26 rfl 20 rfl [.tmp 2] rfl (by kernel_rfl) (fun ps=>∃k:Int,ps=[.val (.int .i64 k)]∧0<k∧k≤2199023255552)
  (fun ps r=>∃s:ByteArray,r=.val (.string s)∧s.size≤2199023255553) (fun ps ⟨k,e,_⟩=>by rw[e];simp) (fun ps ⟨k,e,hk,hk2⟩=>by
   subst e;(refine wlk6 ?_ ?_ ?_ ?_ ?_ ?_<;>intros<;>try with_reducible exact trivial);refine aD (α:=ByteArray×Int×Nat) mixed (fun s=>[(0,iv s.2.1),(3,.val (.string s.1))]) (fun j=>[]) (fun s=>s.2.2)
    (fun s=>(s.1.size:Int)+s.2.1≤2199023255552∧0≤s.2.1) (fun s=>s.2.1.toNat) (by kernel_rfl) (⟨#[]⟩,k,0) ⟨by have h0:((⟨#[]⟩:ByteArray)).size=0:=rfl;dsimp only;omega,by dsimp only;omega⟩ ?_ trivial rfl ?_
   ·simp(disch:=(first|omega|(simp only[push_cast];first|done|omega))) only[push_cast,↓reduceIte,Nat.reduceEqDiff,Nat.reduceBEq,Nat.reduceAdd,Nat.reduceSub,Int.reduceToNat,List.length_append, *]
   rintro⟨s,q,y⟩ ⟨h3,h4⟩;dsimp only at h3 h4;have h5:((⟨#[109]⟩:ByteArray)).size=1:=rfl;(refine wlk6 ?_ ?_ ?_ ?_ ?_ ?_<;>intros<;>try with_reducible exact trivial)
   ·refine⟨(bytesOf [IntKind.u8.wrap (48+q % 10)]++s,q/10,y+1),⟨?_,?_⟩,?_,?_,trivial,rfl⟩
    ·simp only[ByteArray.size_append,oF,List.length_cons,List.length_nil];omega
    ·dsimp only;omega
    ·dsimp only;omega
    ·simp(disch:=(first|omega|(simp only[push_cast];first|done|omega))) only[push_cast,↓reduceIte,Nat.reduceEqDiff,Nat.reduceBEq,Nat.reduceAdd,Nat.reduceSub,Int.reduceToNat,List.length_append, *]
   ·refine⟨_,⟨⟨#[109]⟩++s,rfl,?_⟩,aaS (by(simp(disch:=(first|omega|(simp only[push_cast];first|done|omega))) only[push_cast,↓reduceIte,Nat.reduceEqDiff,Nat.reduceBEq,Nat.reduceAdd,Nat.reduceSub,Int.reduceToNat, *]<;>with_reducible exact rfl))⟩
    rw[ByteArray.size_append];omega)
 refine⟨φ,h1,fun k hk hk2=>?_⟩;obtain⟨r,e,s,rfl,hs⟩:=h2 _ ⟨k,rfl,hk,hk2⟩;exact⟨s,e,hs⟩
def og:Fun:=Classical.choose je
theorem qQ:Sound Try.prog 26 og:=(Classical.choose_spec je).1
open Classical in
noncomputable def mkT (k:Int):ByteArray:=if h:0<k∧k≤2199023255552 then Classical.choose ((Classical.choose_spec je).2 k h.1 h.2)else .empty
theorem su {k:Int} (h:0<k) (h2:k≤2199023255552):og [.val (.int .i64 k)]=some (.val (.string (mkT k))):=by unfold mkT;rw[dif_pos ⟨h,h2⟩];exact(Classical.choose_spec ((Classical.choose_spec je).2 k h h2)).1
def iN (k:Int) (n:Nat):LS:=(List.range n).map fun j:Nat=>mkT (k+j)
theorem dV (k:Int) (n:Nat):(iN k n).length=n:=by simp[iN]
theorem ag6 (k:Int) {n j:Nat} (h:j<n):(iN k n)[j]?.getD .empty=mkT (k+j):=by simp[iN,h]
def auo:Ctx:={fn:=aZ [(26,og)],io:=aZ []}
theorem al5:au Try.prog auo:=okΓ (fC Try.func26 qQ aj) aj
def akD:=ah (Γ:=auo) (f:=26) (φ:=og) rfl
theorem iK:∃Φ:gM,dK Try.prog 12 Φ∧Marks 9 (fun s:ByteArray=> .val (.string s)) iN Φ:=by
 obtain⟨Φ,h1,h2⟩:=yu mixed al5 Try.func12 rfl 20 rfl [.tmp 4] rfl (by kernel_rfl) (aos 9 fun s:ByteArray=> .val (.string s))
  (fun ps cs r cs'=>(∀(l:LS) (k:Int),ps=[.row 0 1 0 l.length,.val (.int .i64 k)]→cs=[(9,1,l.map fun s=> .val (.string s))]→r=.val (.int .i64 (k+l.length))∧cs'=[(9,1,(iN k l.length).map fun s=> .val (.string s))])∧∀k:Int,ps=[.val (.slice none 0 0),.val (.int .i64 k)]→r=.val (.int .i64 k)∧cs'=[])
  (fun ps cs hd=>by rcases hd with⟨l,k,rfl,_⟩|⟨k,rfl,_⟩<;>simp) (fun ps cs hd=>by
   rcases hd with⟨l,k,rfl,rfl,hl,hk,hk2⟩|⟨k,rfl,rfl⟩
   ·rw[abZ]
    (refine wlkX ?_;intros);refine aD (α:=Nat) mixed (fun j=>[(0,.row 0 1 0 l.length),(1,iv (k+j)),(5,iv j)]) (fun j=>[(0,9,1,(zo (fun j:Nat=>mkT (k+j)) l j).map fun s=> .val (.string s))]) (fun _=>1)
     (fun j=>j≤l.length) (fun j=>l.length-j) (by kernel_rfl) 0 (Nat.zero_le _) ?_ ?_ rfl ?_
    ·simp(disch:=(first|omega|(simp only[push_cast];first|done|omega))) only[push_cast,↓reduceIte,Nat.reduceEqDiff,Nat.reduceBEq,Nat.reduceAdd,Nat.reduceSub,Int.reduceToNat,Int.add_zero]
    ·simp(disch:=(first|omega|(simp only[push_cast];first|done|omega))) only[push_cast,↓reduceIte,Nat.reduceEqDiff,Nat.reduceBEq,Nat.reduceAdd,Nat.reduceSub,Int.reduceToNat,wL]
    intro j hj;have hm:(zo (fun j:Nat=>mkT (k+j)) l j).length=l.length:=qR hj;by_cases h:j<l.length
    ·have ap:=su (k:=k+j) (by omega) (by omega)
     have gmks_c26:=akD;(refine wlk ?_;intros);refine⟨j+1,by omega,by dsimp only;omega,?_,?_,rfl⟩
     ·simp(disch:=(first|omega|(simp only[push_cast];first|done|omega))) only[push_cast,↓reduceIte,Nat.reduceEqDiff,Nat.reduceBEq,Nat.reduceAdd,Nat.reduceSub,Int.reduceToNat, *]
      simp only[Int.add_assoc,and_self]
     ·simp(disch:=(first|omega|(simp only[push_cast];first|done|omega))) only[push_cast,↓reduceIte,Nat.reduceEqDiff,Nat.reduceBEq,Nat.reduceAdd,Nat.reduceSub,Int.reduceToNat, *]
      rw[←abU h]
    ·(refine wlk ?_;intros)
     refine ajP (r:=.val (.int .i64 (k+j))) (c':=(9,1,(zo (fun j:Nat=>mkT (k+j)) l j).map fun s=> .val (.string s))) (by first|exact .inl rfl|exact .inr rfl) (by(simp(disch:=(first|omega|(simp only[push_cast];first|done|omega))) only[push_cast,↓reduceIte,Nat.reduceEqDiff,Nat.reduceBEq,Nat.reduceAdd,Nat.reduceSub,Int.reduceToNat, *]<;>with_reducible exact rfl)) (by(simp(disch:=(first|omega|(simp only[push_cast];first|done|omega))) only[push_cast,↓reduceIte,Nat.reduceEqDiff,Nat.reduceBEq,Nat.reduceAdd,Nat.reduceSub,Int.reduceToNat, *]<;>with_reducible exact rfl)) ⟨fun l1 k1 e1 e2=>?_,fun k1 e1=>by simp at e1⟩;obtain⟨e3,e4⟩:l.length=l1.length∧k=k1:=by simpa using e1
     subst e4;rw[yP (by omega),←e3,show j=l.length by omega];exact⟨rfl,rfl⟩
   ·rw[aeW]
    (refine wlkX ?_;intros);refine aD (α:=Unit) mixed (fun j=>[(0,.val (.slice none 0 0)),(1,iv k),(5,iv 0)]) (fun j=>[]) (fun _=>0)
     (fun j=>True) (fun j=>0) (by kernel_rfl) () trivial ?_ trivial rfl ?_
    ·exact agr
    intro j hj;(refine wlk ?_;intros);refine ajD (r:=.val (.int .i64 k)) (by first|exact .inl rfl|exact .inr rfl) (by(simp(disch:=(first|omega|(simp only[push_cast];first|done|omega))) only[push_cast,↓reduceIte,Nat.reduceEqDiff,Nat.reduceBEq,Nat.reduceAdd,Nat.reduceSub,Int.reduceToNat, *]<;>with_reducible exact rfl)) ⟨fun l1 k1 e1 e2=>by simp at e1,fun k1 e1=>?_⟩;obtain rfl:k=k1:=by simpa using e1
    exact⟨rfl,rfl⟩)
 refine⟨Φ,h1,fun l k hl hk hk2=>?_,fun k=>?_⟩
 ·obtain⟨r,cs',e,hr,_⟩:=h2 _ _ (.inl ⟨l,k,rfl,rfl,hl,hk,hk2⟩)
  obtain⟨rfl,rfl⟩:=hr l k rfl rfl;exact e
 ·obtain⟨r,cs',e,_,hr⟩:=h2 _ _ (.inr ⟨k,rfl,rfl⟩)
  obtain⟨rfl,rfl⟩:=hr k rfl;exact e
def rC:gM:=Classical.choose iK
theorem abS:dK Try.prog 12 rC:=(Classical.choose_spec iK).1
theorem pI:Marks 9 (fun s:ByteArray=> .val (.string s)) iN rC:=(Classical.choose_spec iK).2
def auw:Ctx:={fn:=aZ [(26,og)],io:=aZ []}
theorem amr:au Try.prog auw:=okΓ (fC Try.func26 qQ aj) aj
def amw:=ah (Γ:=auw) (f:=26) (φ:=og) rfl
def zK:Fun:=F2 dSs dI fun l k=>if l=iN k l.length∧l.length≤1048576∧okH k then some (iv (k+l.length))else none
theorem sH {k:Int} {n:Nat} (hn:n≤1048576) (hk:0<k) (hk2:k≤1099511627776):zK [.lst false 1 ((iN k n).map fun s=> .val (.string s)),.val (.int .i64 k)]=some (.val (.int .i64 (k+n))):=by refine(gD (A:=dSs) (B:=dI) (iN k n) k).trans ((if_pos ⟨by rw[dV],by rw[dV];exact hn,hk,hk2⟩).trans ?_);rw[dV]
theorem rP:Sound Try.prog 14 zK:=by
 refine ak mixed amr Try.func14 rfl 22 rfl [.tmp 4] rfl (by kernel_rfl) fun ps r hr=>?_;obtain⟨l,k,rfl,hpre,rfl⟩:=fQ hr;refine⟨by simp,?_⟩;simp only[dIs,dUs,dSs,bQ,bU,bP,bT,aL,bS,aQ,aO,aR,aP];obtain⟨hl,hlen,hk,hk2⟩:=hpre;have hat:∀j:Nat,j<l.length→l[j]?.getD .empty=mkT (k+j):=fun j hj=>by rw[hl,ag6 k hj]
 clear hl;(refine wlkX ?_;intros);refine aD (α:=Nat) mixed (fun j=>[(0,.lst false 1 (l.map fun s=> .val (.string s))),(1,iv (k+j)),(5,iv j)]) (fun j=>[]) (fun _=>0)
  (fun j=>j≤l.length) (fun j=>l.length-j) (by kernel_rfl) 0 (Nat.zero_le _) ?_ trivial rfl ?_
 ·simp(disch:=(first|omega|(simp only[push_cast];first|done|omega))) only[push_cast,↓reduceIte,Nat.reduceEqDiff,Nat.reduceBEq,Nat.reduceAdd,Nat.reduceSub,Int.reduceToNat,Int.add_zero]
 intro j hj;by_cases h:j<l.length
 ·have hj2:=hat j h
  have ap:=su (k:=k+j) (by omega) (by omega);clear hat;have ghds_c26:=amw;(refine wlk ?_;intros);refine⟨j+1,by omega,by dsimp only;omega,?_,trivial,rfl⟩;simp(disch:=(first|omega|(simp only[push_cast];first|done|omega))) only[push_cast,↓reduceIte,Nat.reduceEqDiff,Nat.reduceBEq,Nat.reduceAdd,Nat.reduceSub,Int.reduceToNat, *];simp only[Int.add_assoc,and_self]
 ·clear hat
  (refine wlk ?_;intros);rw[show l.length=j by omega];(exact fnF)
def aep:aap:=G1 dSs fun l=>if l.length≤1048576 then some (.row 0 1 0 l.length,[(9,1,l.map fun s=> .val (.string s))])else none
theorem abR {l:LS} (h:l.length≤1048576):aep [.lst false 1 (l.map fun s=> .val (.string s))]=some (.row 0 1 0 l.length,[(9,1,l.map fun s=> .val (.string s))]):=
 (aeA (A:=dSs) l).trans (if_pos h)
theorem sG:iE Try.prog 21 aep:=by
 refine qg mixed bN Try.func21 rfl 22 rfl [.tmp 2] rfl (by kernel_rfl) fun ps r cs' hr=>?_;obtain⟨l,rfl,hq⟩:=adY hr;clear hr;split at hq
 case isFalse=>cases hq
 case isTrue hpre=>
 cases hq;refine⟨by simp,?_⟩;simp only[dIs,dUs,dSs,bQ,bU,bP,bT,aL,bS,aQ,aO,aR,aP];(refine wlkX ?_;intros);refine aD (α:=Nat) mixed (fun k=>[(0,.lst false 1 (l.map fun s=> .val (.string s))),(3,.row 0 1 0 l.length),(4,iv k)]) (fun k=>[(0,9,1,(jS l .empty k).map fun s=> .val (.string s))]) (fun _=>1)
  (fun k=>k≤l.length) (fun k=>l.length-k) (by kernel_rfl) 0 (Nat.zero_le _) ?_ ?_ rfl ?_
 ·simp only[push_cast,↓reduceIte,Nat.reduceEqDiff,Nat.reduceBEq,Nat.reduceAdd,Nat.reduceSub,Int.reduceToNat]
 ·simp only[push_cast,↓reduceIte,Nat.reduceEqDiff,Nat.reduceBEq,Nat.reduceAdd,Nat.reduceSub,Int.reduceToNat,oo,List.map_replicate]
 intro k hk;have hfl:(jS l .empty k).length=l.length:=jI;by_cases h:k<l.length
 ·(refine wlk ?_;intros)
  refine⟨k+1,by omega,by dsimp only;omega,by simp only[push_cast,↓reduceIte,Nat.reduceEqDiff,Nat.reduceBEq,Nat.reduceAdd,Nat.reduceSub,Int.reduceToNat],?_,rfl⟩;simp only[push_cast,↓reduceIte,Nat.reduceEqDiff,Nat.reduceBEq,Nat.reduceAdd,Nat.reduceSub,Int.reduceToNat];rw[←qP (y:=l[k]?.getD .empty) h (by simp[h])]
 ·(refine wlk ?_;intros)
  have e:=kH (zs:=l) (z:=ByteArray.empty) (k:=k) (by omega);rw[e];((with_reducible apply qL (0) (by first|exact .inl rfl|exact .inr rfl));(focus(simp(disch:=(first|omega|(simp only[push_cast];first|done|omega))) only[push_cast,↓reduceIte,Nat.reduceEqDiff,Nat.reduceBEq,Nat.reduceAdd,Nat.reduceSub,Int.reduceToNat, *]<;>with_reducible exact rfl));(focus(simp(disch:=(first|omega|(simp only[push_cast];first|done|omega))) only[push_cast,↓reduceIte,Nat.reduceEqDiff,Nat.reduceBEq,Nat.reduceAdd,Nat.reduceSub,Int.reduceToNat, *]<;>with_reducible exact rfl)))
theorem ajh {l:LS} (h:l.length≤1048576):vQ aep [.lst false 1 (l.map fun s=> .val (.string s))] []=some (.row 0 1 0 l.length,[(9,1,l.map fun s=> .val (.string s))]):=by refine(ajk (cs:=[]) (by rw[mapM_cons',mapM_nil',sN];exact(congrArg (fun x=>Option.bind x _) jf).trans rfl) (abR h) rfl (by rw[mapM_cons',mapM_nil',gU];rfl)).trans ?_;rfl
def amn:Fun:=F2 dIs dIs fun a b=>if a.length≤1048576∧b.length≤1048576 then some (bv (decide (a=b)))else none
theorem aa2 {a b:List Int} (h:a.length≤1048576) (h2:b.length≤1048576):amn [.lst false 1 (a.map fun n=> .val (.int .i64 n)),.lst false 1 (b.map fun n=> .val (.int .i64 n))]=some (.val (.bool (decide (a=b)))):=
 (gD (A:=dIs) (B:=dIs) a b).trans (if_pos ⟨h,h2⟩)
theorem aeO:Sound Try.prog 9 amn:=by
 refine ak mixed bN Try.func9 rfl 26 rfl [.tmp 4] rfl (by kernel_rfl) fun ps r hr=>?_;obtain⟨xs,ys,rfl,hpre,rfl⟩:=fQ hr;refine⟨by simp,?_⟩;simp only[dIs,dUs,dSs,bQ,bU,bP,bT,aL,bS,aQ,aO,aR,aP];obtain⟨hl1,hl2⟩:=hpre;(refine wlkX6 ?_ ?_ ?_ ?_ ?_ ?_<;>intros<;>try with_reducible exact trivial)
 ·(refine fnG ?_;try with_reducible exact trivial)
  have:¬xs=ys:=fun h=>by subst h;simp_all
  simp[this]
 refine aD (α:=Nat) mixed (fun k=>[(0,.lst false 1 (xs.map fun n=> .val (.int .i64 n))),(1,.lst false 1 (ys.map fun n=> .val (.int .i64 n))),(5,iv k)]) (fun k=>[]) (fun _=>0)
  (fun k=>k≤xs.length∧∀j,j<k→xs[j]?.getD 0=ys[j]?.getD 0) (fun k=>xs.length-k) (by kernel_rfl) 0 ⟨Nat.zero_le _,fun j hj=>by omega⟩ ?_ trivial rfl ?_
 ·simp only[push_cast,↓reduceIte,Nat.reduceEqDiff,Nat.reduceBEq,Nat.reduceAdd,Nat.reduceSub,Int.reduceToNat]
 ·intro k ⟨hk,hok⟩
  (refine wlkX6 ?_ ?_ ?_ ?_ ?_ ?_<;>intros<;>try with_reducible exact trivial);all_goals try(refine fnG ?_;try with_reducible exact trivial)
  ·have:¬xs=ys:=fun h=>by subst h;simp_all
   simp[this]
  ·refine⟨k+1,⟨by omega,fun j hj=>?_⟩,by dsimp only;omega,by simp only[push_cast,↓reduceIte,Nat.reduceEqDiff,Nat.reduceBEq,Nat.reduceAdd,Nat.reduceSub,Int.reduceToNat],trivial,rfl⟩
   by_cases h1:j<k
   ·exact hok j h1
   ·have:j=k:=by omega
    subst this;assumption
  ·have:xs=ys:=qM (d:=0) (by omega) fun j hj=>hok j (by omega)
   simp[this]
def fF (T:Nat) (v:Value) (vs:List Value) (w:World):Prop:=
 (v=.slice none 0 0∧vs=[])∨∃g cap arr,v=.slice (some ⟨g,0,none⟩) vs.length cap∧vs.length≤cap∧cap≤9223372036854775807∧w.heap[g]?=some (.cells arr T (0,0))∧cap≤arr.size∧∀(j:Nat) (u:Value),vs[j]?=some u→arr[j]?=some u
def ai9 (u:Value):Prop:=u.cells=#[u]∧u.oneCell'=true
theorem kR (s:ByteArray):ai9 (.string s):=⟨rfl,rfl⟩
theorem kP (a:Option Addr) (n c:Nat):ai9 (.slice a n c):=⟨rfl,rfl⟩
def dD (l:LS):List Value:=l.map Value.string
section
variable {T T1 T2:Nat} {v:Value} {vs:List Value} {ls:List LS} {w w':World}
theorem fF.same (h:fF T v vs w) (hs:∀g,v.ownBlock=some g→w'.heap[g]?=w.heap[g]?):fF T v vs w':=by
 rcases h with h|⟨g,cap,arr,rfl,h1,h2,h3,h4,h5⟩
 ·exact .inl h
 ·exact .inr ⟨g,cap,arr,rfl,h1,h2,(hs g rfl).trans h3,h4,h5⟩
theorem fF.lt (h:fF T v vs w) {g:Nat} (hg:v.ownBlock=some g):g<w.heap.size:=by
 rcases h with⟨rfl,_⟩|⟨g',cap,arr,rfl,h1,h2,h3,h4,h5⟩
 ·cases hg
 ·cases hg
  exact lt_of_heap h3
theorem fF.zQ {g0:Gh} {es:List PV} {g:Nat} {arr:Array Value} (ha:w.heap[g]?=some (.cells arr T (0,0))) (h5:∀(j:Nat) (u:Value),vs[j]?=some u→arr[j]?=some u) (hl:es.length=vs.length) (he:∀(j:Nat) (e:PV) (u:Value),es[j]?=some e→vs[j]?=some u→Rep g0 w e u∧ai9 u):bn g0 w 1 es g 0:=
 bn.of fun i e hi=>by
  have hlt:i<vs.length:=by rw[←hl];exact(List.getElem?_eq_some_iff.1 hi).1
  obtain⟨k1,k2⟩:=he i e vs[i] hi (List.getElem?_eq_getElem hlt);refine⟨vs[i],k1,⟨by rw[k2.1];simp[k2.2],fun j hj=>?_⟩,by rw[k2.1];rfl⟩;rw[k2.1]at hj⊢;have hj0:j=0:=by have:j<1:=hj;omega
  subst hj0;simp only[World.cell?,ha,Nat.zero_add,Nat.mul_one,Nat.add_zero,Option.isSome_none,Bool.false_eq_true,if_false];exact h5 i _ (List.getElem?_eq_getElem hlt)
theorem fF.rep {Jm:Nat→Prop} {es:List PV} (h:fF T v vs w) (hJ:∀g,v.ownBlock=some g→Jm g) (hl:es.length=vs.length) (he:∀(j:Nat) (e:PV) (u:Value),es[j]?=some e→vs[j]?=some u→Rep (jF Jm) w e u∧ai9 u):Rep (jF Jm) w (.lst false 1 es) v:=by
 rcases h with⟨rfl,rfl⟩|⟨g,cap,arr,rfl,h1,h2,h3,h4,h5⟩
 ·have:es=[]:=List.eq_nil_of_length_eq_zero hl
  subst this;simp only[Rep];exact⟨none,0,rfl,Nat.le_refl _,by decide,.inl (by simp)⟩
 ·simp only[Rep]
  refine⟨some ⟨g,0,none⟩,cap,by rw[hl],by omega,h2,.inr ⟨g,0,rfl,⟨rfl,hJ g rfl⟩,fF.zQ h3 h5 hl he⟩⟩
theorem fF.aue {Jm:Nat→Prop} {l:LS} (h:fF T v (dD l) w) (hJ:∀g,v.ownBlock=some g→Jm g):Rep (jF Jm) w (.lst false 1 (l.map fun s=> .val (.string s))) v:=
 h.rep hJ (by simp[dD]) fun j e u h1 h2=>by unfold dD at h2;rw[List.getElem?_map]at h1 h2;rw[Option.map_eq_some_iff]at h1 h2;obtain⟨s,q1,rfl⟩:=h1;obtain⟨s',q2,rfl⟩:=h2;rw[q1]at q2;cases q2;exact⟨by simp[Rep],kR s⟩
structure mX (T1 T2:Nat) (v:Value) (vs:List Value) (ls:List LS) (w:World):Prop where
 out:fF T1 v vs w
 len:vs.length=ls.length
 inn:∀(j:Nat) (u:Value) (l:LS),vs[j]?=some u→ls[j]?=some l→fF T2 u (dD l) w
 dis:∀(i j:Nat) (x y:Value),i≠j→vs[i]?=some x→vs[j]?=some y→x.ownBlock=none∨x.ownBlock≠y.ownBlock
 ne:∀u∈vs,u.ownBlock=none∨u.ownBlock≠v.ownBlock
def o7 (v:Value) (vs:List Value) (i:Nat):Prop:=v.ownBlock=some i∨∃u∈vs,u.ownBlock=some i
theorem mX.same (h:mX T1 T2 v vs ls w) (hs:∀i,o7 v vs i→w'.heap[i]?=w.heap[i]?):mX T1 T2 v vs ls w':=
 ⟨h.out.same fun g hg=>hs g (.inl hg),h.len,fun j u l h1 h2=>(h.inn j u l h1 h2).same fun g hg=>hs g (.inr ⟨u,List.mem_of_getElem? h1,hg⟩),h.dis,h.ne⟩
theorem mX.lt (h:mX T1 T2 v vs ls w) {i:Nat} (hi:o7 v vs i):i<w.heap.size:=by
 rcases hi with hi|⟨u,hu,hi⟩
 ·exact h.out.lt hi
 ·obtain⟨j,hj,rfl⟩:=List.getElem_of_mem hu
  have hj2:j<ls.length:=by rw[←h.len];exact hj
  exact(h.inn j _ _ (List.getElem?_eq_getElem hj) (List.getElem?_eq_getElem hj2)).lt hi
theorem mX.one (h:mX T1 T2 v vs ls w):∀u∈vs,ai9 u:=fun u hu=>by
 obtain⟨j,hj,rfl⟩:=List.getElem_of_mem hu;have hj2:j<ls.length:=by rw[←h.len];exact hj
 rcases h.inn j _ _ (List.getElem?_eq_getElem hj) (List.getElem?_eq_getElem hj2)with⟨e,_⟩|⟨g,cap,arr,e,_⟩
 ·rw[e];exact kP _ _ _
 ·rw[e];exact kP _ _ _
theorem mX.rep {Jm:Nat→Prop} (h:mX T1 T2 v vs ls w) (hJ:∀i,o7 v vs i→Jm i):Rep (jF Jm) w (.lst false 1 (ls.map fun l=> .lst false 1 (l.map fun s=> .val (.string s)))) v:=
 h.out.rep (fun g hg=>hJ g (.inl hg)) (by rw[List.length_map,h.len]) fun j e u h1 h2=>by rw[List.getElem?_map,Option.map_eq_some_iff]at h1;obtain⟨l,q1,rfl⟩:=h1;exact⟨(h.inn j u l h2 q1).aue fun g hg=>hJ g (.inr ⟨u,List.mem_of_getElem? h2,hg⟩),h.one u (List.mem_of_getElem? h2)⟩
def ssF (T1 T2:Nat) (v:Value) (vs:List Value) (ls:List LS):Fgn:=⟨o7 v vs,mX T1 T2 v vs ls,fun w w' h hM=>hM.same h⟩
end
section
variable {P:Program} {N B:Nat} {w00:World} {s:AS} {σ:Fgn} {ops:Array Oper} {J:AS→Fgn→Prop} {j:Nat} {o:Oper} {l:List Oper}
theorem ZO.aug {x y:Operand} {t d T g n c:Nat} {kk:IntKind} {i:Int} (ho:o.op=.indexAddr t x y) (hdst:o.dst=some d) (hd:d<N) (hg:o.guard=none) (hu:bR P t=some T) (hs:aW P T=some 1) (hx:look s.tm x=.val (.slice (some ⟨g,0,none⟩) n c)) (hy:look s.tm y=.val (.int kk i)) (h0:0≤i) (hi:i<(n:Int))
 (h:ZO P N B w00 ops (j+1) l J (s.put (some d) (.val (.pointer (some ⟨g,i.toNat,none⟩)))) σ):ZO P N B w00 ops j (o::l) J s σ:=by
 refine ZO.one hg fun a w hst Kn Q hK=>?_;have hst0:=hst;obtain⟨⟨io,w0,g0,hr,hC⟩,hM⟩:=hst0;have hX:=hr.look x;have hY:=hr.look y;rw[hx]at hX;rw[hy]at hY;simp only[Rep]at hX hY;have hu':P.underlying t=some (.slice T):=by
  unfold bR at hu;split at hu
  ·rename_i e he;cases hu;exact he
  ·cases hu
 have ha:(⟨g,0,none⟩:Addr).add (i.toNat*1)=⟨g,0+i.toNat*1,none⟩:=Addr.add_mid g 0 _;have hrun:(execOp a.eval o).run P w=.ok (.value (.pointer (some ⟨g,i.toNat,none⟩))) w:=by unfold execOp;simp only[ho,hX,hY];simp[Instr.indexAt,asIntOf,Sem.run_bind,run_underlying hu' w,h0,hi,bW hs w];simpa using ha
 unfold Oper.wp;rw[hrun,Oper.upon_value,hdst];exact hK _ _ _ _ (hst.put (fun x e=>by cases e;exact hd) fun g w=>by simp[Rep]) h
theorem ZO.ldF {x:Operand} {t d b f:Nat} {u:Value} (ho:o.op=.load t x) (hdst:o.dst=some d) (hd:d<N) (hg:o.guard=none) (ht:ji P t=some false) (hx:look s.tm x=.val (.pointer (some ⟨b,f,none⟩))) (hat:∀w,σ.at_ w→w.cell? ⟨b,f,none⟩=some u) (hu:ai9 u)
 (h:ZO P N B w00 ops (j+1) l J (s.put (some d) (.val u)) σ):ZO P N B w00 ops j (o::l) J s σ:=by
 refine ZO.one hg fun a w hst Kn Q hK=>?_;have hst0:=hst;obtain⟨⟨io,w0,g0,hr,hC⟩,hM⟩:=hst0;have hX:=hr.look x;rw[hx]at hX;simp only[Rep]at hX;have hc:jg w b f u:=⟨by rw[hu.1];simp[hu.2],fun j hj=>by
  rw[hu.1]at hj⊢;have hj0:j=0:=by have:j<1:=hj;omega
  subst hj0;rw[Nat.add_zero,hat w hM];rfl⟩
 have hsub:yY P t 0 (.val u)=some (.val u):=by
  have hc1:bA (.val u)=some [.val u]:=by simp[bA,kJ,hu.2]
  unfold yY;rw[hc1,ht];rfl
 obtain⟨v,k1,k2⟩:=fZ (P:=P) (g:=jF fun _=>False) (w:=w) (e:=.val u) (u:=u) (b:=b) (c:=f) (f:=0) (t:=t) (p:=.val u) (by simp[Rep]) hc hsub;simp only[Rep]at k2;subst k2;rw[Nat.add_zero]at k1;have hrun:(execOp a.eval o).run P w=.ok (.value v) w:=by simp[execOp,ho,hX,k1]
 unfold Oper.wp;rw[hrun,Oper.upon_value,hdst];exact hK _ _ _ _ (hst.put (fun x e=>by cases e;exact hd) fun g w=>by simp[Rep]) h
end
section
variable {P:Program} {N B:Nat} {w00:World} {s:AS} {σ:Fgn} {ops:Array Oper} {J:AS→Fgn→Prop} {j:Nat} {o:Oper} {l:List Oper} {c:Code} {K:X→AS→Fgn→Prop}
theorem pE {g:Gh} {w:World} {T b n:Nat} {arr:Array Value} {vs:List Value} {v:Value} (hv:∃c,v=.slice (some ⟨b,0*1,none⟩) n c∧n≤c∧c≤9223372036854775807∧(0+c)*1≤arr.size) (hn:n=vs.length) (ha:w.heap[b]?=some (.cells arr T (0,0))) (he:bn g w 1 (vs.map PV.val) b 0) (h1:∀u∈vs,ai9 u):fF T v vs w∧v.ownBlock=some b:=by subst hn;obtain⟨c,rfl,h2,h3,h4⟩:=hv;refine⟨.inr ⟨b,c,arr,by simp,h2,h3,ha,by omega,fun j u hj=>?_⟩,by simp[Value.ownBlock]⟩;obtain⟨u',m1,m2,m3⟩:=he.get (i:=j) (e:=.val u) (by rw[List.getElem?_map,hj];rfl);simp only[Rep]at m1;subst m1;have h0:=h1 u' (List.mem_of_getElem? hj);have:=m2.2 0 (by rw[h0.1];exact Nat.zero_lt_one);rw[h0.1]at this;simp only[World.cell?,ha,Nat.zero_add,Nat.mul_one,Nat.add_zero,Option.isSome_none,Bool.false_eq_true,if_false]at this;simpa using this
theorem HZ.atI {σ':Value→Fgn} {ob T t n:Nat} {vs:List Value} (ho:s.ob ob=some (T,1,vs.map PV.val)) (ht:s.tm t=.row ob 1 0 n) (hn:n=vs.length) (h1:∀u∈vs,ai9 u)
 (hσ:∀v b,v.ownBlock=some b→¬σ.bk b→∀w,fF T v vs w→σ.at_ w→(∀i,(σ' v).bk i↔σ.bk i∨i=b)∧(σ' v).at_ w)
 (h:∀v b,v.ownBlock=some b→B≤b→(∃c,v=.slice (some ⟨b,0,none⟩) vs.length c)→HZ P N B w00 c K ⟨upd s.tm t (.val v),upd s.ob ob none,s.nx⟩ (σ' v)):HZ P N B w00 c K s σ:=HZ.mk fun a w hs Q hQ=>by
 obtain⟨g,b,arr,q1,q2,q3,q4,q5,q6,q7,q8,q9⟩:=hs.give ho;have hv:=q8 (.tmp t);rw[show look s.tm (.tmp t)=s.tm t from rfl,ht]at hv;obtain⟨hrow,hblk⟩:=pE (q7 0 n _ hv) hn q4 q6 h1;obtain⟨k1,k2⟩:=hσ _ b hblk q3 w hrow hs.2;have hz:=q9 (σ' (a.eval (.tmp t))) k1 k2;refine(h (a.eval (.tmp t)) b hblk q1 ?_).go a w ?_ Q hQ
 ·obtain⟨c,hc,_⟩:=q7 0 n _ hv
  exact⟨c,by rw[hc,hn];try simp⟩
 obtain⟨⟨io,w0,g0,hr,hC⟩,hM⟩:=hz;refine⟨⟨io,w0,g0,⟨hr.nt,hr.df,fun t'=>?_,hr.ob,hr.inj,hr.nx,hr.lt,hr.new,hr.fr,hr.old,hr.fix,hr.hl,hr.tab⟩,hC⟩,hM⟩;show Rep g0 w (upd s.tm t _ t') _;unfold upd;split
 ·rename_i e
  subst e;simp only[Rep];rfl
 ·exact hr.tm t'
theorem nV {α:Type} (l:List α) (i:Nat) (x:α):(l.set i x).length=l.length:=List.length_set ..
theorem mX.put {T1 T2:Nat} {v u:Value} {vs:List Value} {ls:List LS} {x:LS} {w w':World} {g b k:Nat} {arr:Array Value} (h:mX T1 T2 v vs ls w) (hk:vs[k]?=some (.slice none 0 0)) (hv:v.ownBlock=some g) (hb:u.ownBlock=some b) (hnb:¬o7 v vs b) (hu:fF T2 u (dD x) w)
 (ha:w.heap[g]?=some (.cells arr T1 (0,0))) (hw:∀i,i≠g→w'.heap[i]?=w.heap[i]?) (hg:w'.heap[g]?=some (.cells (arr.setIfInBounds k u) T1 (0,0))):mX T1 T2 v (vs.set k u) (ls.set k x) w'∧∀i,o7 v (vs.set k u) i↔o7 v vs i∨i=b:=by
 have hkl:k<vs.length:=(List.getElem?_eq_some_iff.1 hk).1;have hbg:b≠g:=fun e=>hnb (.inl (by rw[hv,e]));have hget:∀(j:Nat) (y:Value),(vs.set k u)[j]?=some y→(j=k∧y=u)∨(j≠k∧vs[j]?=some y):=fun j y hj=>by
  rw[List.getElem?_set]at hj;by_cases e:k=j
  ·subst e
   rw[if_pos rfl,if_pos hkl]at hj;exact .inl ⟨rfl,(Option.some.inj hj).symm⟩
  ·rw[if_neg e]at hj
   exact .inr ⟨fun q=>e q.symm,hj⟩
 have hinb:∀(j:Nat) (y:Value),vs[j]?=some y→∀i,y.ownBlock=some i→i≠b∧i≠g:=fun j y hj i hi=>by
  refine⟨fun e=>hnb (.inr ⟨y,List.mem_of_getElem? hj,e▸hi⟩),fun e=>?_⟩;rcases h.ne y (List.mem_of_getElem? hj)with q|q
  ·rw[q]at hi;cases hi
  ·exact q (by rw[hi,hv,e])
 refine⟨⟨?_,by rw[nV,nV];exact h.len,fun j y z hj hz=>?_,fun i j y z hij hi hj=>?_,fun y hy=>?_⟩,fun i=>?_⟩
 ·rcases h.out with⟨rfl,_⟩|⟨g',cap,arr',rfl,h1,h2,h3,h4,h5⟩
  ·cases hv
  ·have hgg:g'=g:=by cases hv;rfl
   subst hgg;rw[ha]at h3;cases h3;refine .inr ⟨g',cap,_,by rw[nV],by rw[nV];exact h1,h2,hg,by simpa using h4,fun j y hj=>?_⟩;rw[Array.getElem?_setIfInBounds];rcases hget j y hj with⟨rfl,rfl⟩|⟨q1,q2⟩
   ·rw[if_pos rfl,if_pos (by omega)]
   ·rw[if_neg (fun e=>q1 e.symm)]
    exact h5 j y q2
 ·rw[List.getElem?_set]at hz
  rcases hget j y hj with⟨rfl,rfl⟩|⟨q1,q2⟩
  ·rw[if_pos rfl]at hz
   split at hz
   ·cases hz
    refine hu.same fun i hi=>hw i fun e=>?_;rw[hb]at hi;cases hi;exact hbg e
   ·cases hz
  ·rw[if_neg (fun e=>q1 e.symm)]at hz
   exact(h.inn j y z q2 hz).same fun i hi=>hw i (hinb j y q2 i hi).2
 ·rcases hget i y hi with⟨rfl,rfl⟩|⟨q1,q2⟩<;>rcases hget j z hj with⟨rfl,rfl⟩|⟨q3,q4⟩
  ·exact absurd rfl hij
  ·right
   intro e;exact(hinb j z q4 b (by rw[←e,hb])).1 rfl
  ·by_cases e:y.ownBlock=none
   ·exact .inl e
   ·right
    intro e2;exact(hinb i y q2 b (by rw[e2,hb])).1 rfl
  ·exact h.dis i j y z hij q2 q4
 ·obtain⟨j,hj⟩:=List.getElem?_of_mem hy
  rcases hget j y hj with⟨rfl,rfl⟩|⟨q1,q2⟩
  ·right
   rw[hb,hv];intro e;cases e;exact hbg rfl
  ·exact h.ne y (List.mem_of_getElem? q2)
 ·constructor
  ·rintro(q|⟨y,hy,q⟩)
   ·exact .inl (.inl q)
   ·obtain⟨j,hj⟩:=List.getElem?_of_mem hy
    rcases hget j y hj with⟨rfl,rfl⟩|⟨q1,q2⟩
    ·rw[hb]at q
     cases q;exact .inr rfl
    ·exact .inl (.inr ⟨y,List.mem_of_getElem? q2,q⟩)
  ·rintro((q|⟨y,hy,q⟩)|rfl)
   ·exact .inl q
   ·obtain⟨j,hj⟩:=List.getElem?_of_mem hy
    have hjk:j≠k:=fun e=>by subst e;rw[hk]at hj;cases hj;cases q
    exact .inr ⟨y,List.mem_of_getElem? (i:=j) (by rw[List.getElem?_set,if_neg (fun e=>hjk e.symm)];exact hj),q⟩
   ·exact .inr ⟨u,List.mem_of_getElem? (i:=k) (by rw[List.getElem?_set,if_pos rfl,if_pos hkl]),hb⟩
theorem aji {arr:Array Value} {i:Nat} {u:Value} (hi:i<arr.size):(dY arr.toList i [u]).toArray=arr.setIfInBounds i u:=by
 apply Array.ext_getElem?;intro j;rw[List.getElem?_toArray,mK _ _ _ (by simp;omega),Array.getElem?_setIfInBounds];by_cases h:i=j
 ·subst h
  rw[if_pos ⟨Nat.le_refl _,by simp⟩,if_pos rfl,if_pos hi];simp
 ·rw[if_neg (by simp;omega),if_neg h]
  simp
theorem ZO.auT {x y:Operand} {t T1 T2 g k n ob:Nat} {v:Value} {vs:List Value} {ls:List LS} {z:LS} (ho:o.op=.store t x y) (hdst:o.dst=none) (hg:o.guard=none) (hs:aW P t=some 1) (hx:look s.tm x=.val (.pointer (some ⟨g,k,none⟩))) (hv:v.ownBlock=some g) (hk:vs[k]?=some (.slice none 0 0))
 (hy:look s.tm y=.row ob 1 0 n) (hob:s.ob ob=some (T2,1,z.map fun s=> .val (.string s))) (hn:n=z.length)
 (h:∀u,(∀b,u.ownBlock=some b→B≤b)→ZO P N B w00 ops (j+1) l J ⟨s.tm,upd s.ob ob none,s.nx⟩ (ssF T1 T2 v (vs.set k u) (ls.set k z))):ZO P N B w00 ops j (o::l) J s (ssF T1 T2 v vs ls):=by
 refine ZO.one hg fun a w hst Kn Q hK=>?_;obtain⟨g0,b,arr,q1,q2,q3,q4,q5,q6,q7,q8,q9⟩:=hst.give hob;have hX:=q8 x;have hY:=q8 y;rw[hx]at hX;rw[hy]at hY;simp only[Rep]at hX;have hes:(z.map fun s=>PV.val (.string s))=(dD z).map PV.val:=by unfold dD;rw[List.map_map];rfl
 rw[hes]at q6;obtain⟨hrow,hblk⟩:=pE (q7 0 n _ hY) (by rw[hn];simp[dD]) q4 q6 (fun u hu=>by unfold dD at hu;obtain⟨s,_,rfl⟩:=List.mem_map.1 hu;exact kR s)
 obtain⟨cc,hcc,_⟩:=q7 0 n _ hY;have hM:mX T1 T2 v vs ls w:=hst.2;obtain⟨arr1,ha1,hk1⟩:∃arr1,w.heap[g]?=some (.cells arr1 T1 (0,0))∧k<arr1.size:=by
  have hkl:k<vs.length:=(List.getElem?_eq_some_iff.1 hk).1;rcases hM.out with⟨rfl,_⟩|⟨g',cap,arr',rfl,h1,h2,h3,h4,h5⟩
  ·cases hv
  ·cases hv
   exact⟨arr',h3,by omega⟩
 have hone:ai9 (a.eval y):=by rw[hcc];exact kP _ _ _
 have hst2:=run_storeCells_at P g k T1 (a.eval y).cells.toList 0 arr1 w ha1 (by rw[hone.1];simp;omega) (fun v hv=>by rw[hone.1]at hv;simp at hv;rw[hv];exact hone.2);have hrun:(execOp a.eval o).run P w=.ok .skip (w.setRow g (arr1.setIfInBounds k (a.eval y))):=by
  have hsv:(storeVar t ⟨g,k,none⟩ (a.eval y)).run P w=.ok () (w.setRow g (arr1.setIfInBounds k (a.eval y))):=by
   unfold storeVar;rw[Sem.run_bind,bW hs w];have hsz:(a.eval y).cells.size=1:=by rw[hone.1];rfl
   simp only[Result.andThen_ok,hsz,ne_eq,not_true_eq_false,if_false];rw[←aji hk1];rw[hone.1]at hst2⊢;simpa [dY]using hst2
  simp only[execOp,ho,hX,Instr.storeAt,Instr.sureAddr,Sem.run_bind,Sem.run_pure,Result.andThen_ok,hsv]
 unfold Oper.wp;rw[hrun,Oper.upon_skip,hdst];obtain⟨k1,k2⟩:=hM.put (u:=a.eval y) (x:=z) (w':=w.setRow g (arr1.setIfInBounds k (a.eval y))) hk hv hblk q3 hrow ha1 (fun i hi=>setRow_other _ _ _ _ hi) (setRow_heap _ _ _ _ _ _ ha1);have hz1:=q9 ⟨fun i=>o7 v vs i∨i=b,fun w=>mX T1 T2 v vs ls w∧fF T2 (a.eval y) (dD z) w,fun w w' hh hm=>⟨hm.1.same fun i hi=>hh i (.inl hi),hm.2.same fun i hi=>hh i (.inr (by rw[hblk]at hi;cases hi;rfl))⟩⟩ (fun i=>Iff.rfl) ⟨hM,hrow⟩;have hsize:(w.setRow g (arr1.setIfInBounds k (a.eval y))).heap.size=w.heap.size:=by simp[World.setRow]
 have hz2:=hz1.mR (σ':=ssF T1 T2 v (vs.set k (a.eval y)) (ls.set k z)) (w':=w.setRow g (arr1.setIfInBounds k (a.eval y))) ⟨rfl,rfl,rfl,by rw[hsize];exact Nat.le_refl _,fun i hi hn=>setRow_other _ _ _ _ fun e=>hn (.inl (by rw[hv,e]))⟩ (fun i _ e=>(k2 i).1 e) (fun i e=>(k2 i).2 e) (fun i e=>by
  rw[hsize];rcases(k2 i).1 e with e|rfl
  ·exact hM.lt e
  ·exact q2) k1
 exact hK _ _ _ _ hz2 (h _ fun b' hb'=>by rw[hblk]at hb';cases hb';exact q1)
end
def lG:List PV→List Nat
 |[]=>[]
 | .own o _ _ _::l=>o::lG l
 | .row o _ _ _::l=>o::lG l
 |_::l=>lG l
def wh:PV→List Nat
 | .own o _ _ _=>[o]
 | .row o _ _ _=>[o]
 | .agg cs=>lG cs
 |_=>[]
def yM:List PV→List Nat
 |[]=>[]
 |p::ps=>wh p++yM ps
theorem abC:∀cs:List PV,(cs.flatMap fun c=>match c with| .own o _ _ _=>[o]| .row o _ _ _=>[o]|_=>[])=lG cs
 |[]=>rfl
 |c::cs=>by rw[List.flatMap_cons,abC cs];cases c<;>rfl
theorem abX:∀ps:List PV,ps.flatMap refsOf=yM ps
 |[]=>rfl
 |p::ps=>by
  rw[List.flatMap_cons,abX ps];show _=wh p++yM ps;congr 1;cases p with
  |agg cs=>exact abC cs
  |_=>rfl
section
variable {Φ:gM} {ob:bg} {nx:Nat}
def ahT (Φ:gM) (ob:bg) (nx a b:Nat) (qs:List PV):Option aJ→Option aJ→Option (PV×bg×Nat)
 |some c,some d=>(c.2.2.mapM (dX (inn [a,b]) fuel)).bind fun es=>(d.2.2.mapM (dX (inn [a,b]) fuel)).bind fun fs=>ioR [a,b] ob nx (Φ qs [(c.1,c.2.1,es),(d.1,d.2.1,fs)])
 |_,_=>none
def ioX (Φ:gM) (ob:bg) (nx:Nat) (ps:List PV):List Nat→Option (PV×bg×Nat)
 |[]=>(ps.mapM (dX (inn []) fuel)).bind fun qs=>ioR [] ob nx (Φ qs [])
 |[o]=>(ps.mapM (dX (inn [o]) fuel)).bind fun qs=>agy Φ ob nx o qs (ob o)
 |[a,b]=>(ps.mapM (dX (inn [a,b]) fuel)).bind fun qs=>ahT Φ ob nx a b qs (ob a) (ob b)
 |_=>adT Φ ob nx ps
theorem aqd (ps:List PV):adT Φ ob nx ps=ioX Φ ob nx ps (dedup (yM ps)):=by
 generalize hos:dedup (yM ps)=os;rw[←abX]at hos
 match os with
 |[]=>
  show _=(ps.mapM (dX (inn []) fuel)).bind _;cases h2:ps.mapM (dX (inn []) fuel)with
  |some qs=>rw[rA ps [] hos,h2,mapM_nil'];rfl
  |none=>rw[rA ps [] hos,h2,mapM_nil'];rfl
 |[o]=>
  show _=(ps.mapM (dX (inn [o]) fuel)).bind _;cases h2:ps.mapM (dX (inn [o]) fuel)with
  |some qs=>rw[aiD hos h2];rfl
  |none=>rw[rA ps [o] hos,h2];cases [o].mapM ob<;>rfl
 |[a,b]=>
  show _=(ps.mapM (dX (inn [a,b]) fuel)).bind _;rw[rA ps [a,b] hos];simp only[mapM_cons',mapM_nil',ac0];cases ps.mapM (dX (inn [a,b]) fuel)with
  |none=>cases ob a<;>cases ob b<;>rfl
  |some qs=>
   simp only[Option.bind_some];cases ob a with
   |none=>rfl
   |some c=>
    cases ob b with
    |none=>rfl
    |some d=>
     obtain⟨T,sz,es0⟩:=c;obtain⟨T2,sz2,fs0⟩:=d;simp only[Option.bind_some,Option.map_some,ahT,mapM_cons',mapM_nil',ac0];cases es0.mapM (dX (inn [a,b]) fuel)with
     |none=>rfl
     |some es=>simp only[Option.bind_some,Option.map_some];cases fs0.mapM (dX (inn [a,b]) fuel)<;>rfl
 |_::_::_::_=>rfl
theorem alh {ps:List PV}:ioX Φ ob nx ps []=(ps.mapM (dX (inn []) fuel)).bind fun qs=>ioR [] ob nx (Φ qs []):=rfl
theorem alP {ps:List PV} {o:Nat}:ioX Φ ob nx ps [o]=(ps.mapM (dX (inn [o]) fuel)).bind fun qs=>agy Φ ob nx o qs (ob o):=rfl
theorem akE {ps:List PV} {a b:Nat}:ioX Φ ob nx ps [a,b]=(ps.mapM (dX (inn [a,b]) fuel)).bind fun qs=>ahT Φ ob nx a b qs (ob a) (ob b):=rfl
theorem adR {a b T T2 sz sz2:Nat} {es es2 qs:List PV}:ahT Φ ob nx a b qs (some (T,sz,es)) (some (T2,sz2,es2))=(es.mapM (dX (inn [a,b]) fuel)).bind fun es=>(es2.mapM (dX (inn [a,b]) fuel)).bind fun fs=>ioR [a,b] ob nx (Φ qs [(T,sz,es),(T2,sz2,fs)]):=rfl
theorem asX {a b:Nat}:inn [a,b] a=some 0:=by simp[inn]
theorem atU {a b:Nat} (h:¬a=b):inn [a,b] b=some 1:=by
 have h2:(a==b)=false:=by simpa using h
 simp[inn,List.idxOf_cons,h2]
theorem ajo {a b nx:Nat}:yE [a,b] nx 0=some a:=rfl
theorem aiz {a b nx:Nat}:yE [a,b] nx 1=some b:=rfl
theorem an6:dedup []=[]:=rfl
theorem ao9 {o:Nat}:dedup [o]=[o]:=rfl
theorem apV:yM []=[]:=rfl
theorem akM {p:PV} {ps:List PV}:yM (p::ps)=wh p++yM ps:=rfl
theorem aoH {v:Value}:wh (.val v)=[]:=rfl
theorem anY {k:Bool} {sz:Nat} {es:List PV}:wh (.lst k sz es)=[]:=rfl
theorem aou {k:Bool} {e:PV} {o:Nat}:wh (.ptr k e o)=[]:=rfl
theorem arC {o a b c:Nat}:wh (.own o a b c)=[o]:=rfl
theorem aoA {o a b c:Nat}:wh (.row o a b c)=[o]:=rfl
theorem aqx {cs:List PV}:wh (.agg cs)=lG cs:=rfl
theorem aqK:lG []=[]:=rfl
theorem anN {v:Value} {l:List PV}:lG (.val v::l)=lG l:=rfl
theorem arD {k:Bool} {sz:Nat} {es l:List PV}:lG (.lst k sz es::l)=lG l:=rfl
theorem apL {o a b c:Nat} {l:List PV}:lG (.own o a b c::l)=o::lG l:=rfl
theorem aqa {o a b c:Nat} {l:List PV}:lG (.row o a b c::l)=o::lG l:=rfl
end
attribute[push_cast low]
 aqd
attribute[push_cast]
 alh alP akE adR asX atU ajo aiz an6 ao9 apV akM aoH anY aou arC aoA aqx aqK anN arD apL aqa
def asQ (l:List LS):Prop:=l.length≤1048576∧∀k:Nat,(l[k]?.getD []).length≤1048576
abbrev agB:Value:=.slice none 0 0
theorem ad5 {T:Nat} {w:World}:fF T agB (dD []) w:=.inl ⟨rfl,rfl⟩
theorem mX.fresh {T1 T2 n:Nat} {v:Value} {w:World} (h:fF T1 v (List.replicate n agB) w):mX T1 T2 v (List.replicate n agB) (List.replicate n []) w:=
 ⟨h,by simp,fun j u l h1 h2=>by
  obtain⟨_,rfl⟩:=List.mem_replicate.1 (List.mem_of_getElem? h1);obtain⟨_,rfl⟩:=List.mem_replicate.1 (List.mem_of_getElem? h2);exact ad5,fun i j x y _ h1 _=>by
  obtain⟨_,rfl⟩:=List.mem_replicate.1 (List.mem_of_getElem? h1);exact .inl rfl,fun u hu=>by
  obtain⟨_,rfl⟩:=List.mem_replicate.1 hu;exact .inl rfl⟩
theorem wm {n:Nat} {v:Value} {i:Nat}:o7 v (List.replicate n agB) i↔v.ownBlock=some i:=by
 constructor
 ·rintro(h|⟨u,hu,h⟩)
  ·exact h
  ·obtain⟨_,rfl⟩:=List.mem_replicate.1 hu
   cases h
 ·exact .inl
theorem ai6 {α:Type} {l:List α} {z:α} {k:Nat} (hk:k<l.length):(l.take k++List.replicate (l.length-k) z).set k l[k]=l.take (k+1)++List.replicate (l.length-(k+1)) z:=by
 have hl:(l.take k).length=k:=by rw[List.length_take];omega
 rw[List.set_append_right (h:=by omega),hl,Nat.sub_self];obtain⟨m,hm⟩:∃m,l.length-k=m+1:=⟨l.length-k-1,by omega⟩;rw[hm,List.replicate_succ,List.set_cons_zero,show l.length-(k+1)=m by omega,List.take_succ_eq_append_getElem hk,List.append_assoc];rfl
section
variable {P:Program} {N B:Nat} {w00:World} {s:AS} {σ:Fgn} {ops:Array Oper} {J:AS→Fgn→Prop} {j:Nat} {o:Oper} {l:List Oper}
theorem mX.turn {T1 T2:Nat} {v u:Value} {vs:List Value} {ls:List LS} {x:LS} {w w':World} {k:Nat} (h:mX T1 T2 v vs ls w) (hk:vs[k]?=some u) (hw:∀i,(∀b,u.ownBlock=some b→i≠b)→i<w.heap.size→w'.heap[i]?=w.heap[i]?) (hu:fF T2 u (dD x) w'):mX T1 T2 v vs (ls.set k x) w':=by
 have hum:=List.mem_of_getElem? hk;refine⟨h.out.same fun g hg=>hw g (fun b hb e=>?_) (h.out.lt hg),by rw[nV];exact h.len,fun i y z hi hz=>?_,h.dis,h.ne⟩
 ·rcases h.ne u hum with q|q
  ·rw[q]at hb;cases hb
  ·exact q (by rw[hb,hg,e])
 ·rw[List.getElem?_set]at hz
  by_cases e:k=i
  ·subst e
   rw[hk]at hi;cases hi;rw[if_pos rfl]at hz;split at hz
   ·cases hz
    exact hu
   ·cases hz
  ·rw[if_neg e]at hz
   have hr:=h.inn i y z hi hz;refine hr.same fun g hg=>hw g (fun b hb e2=>?_) (hr.lt hg);rcases h.dis i k y u (fun q=>e q.symm) hi hk with q|q
   ·rw[q]at hg;cases hg
   ·exact q (by rw[hg,hb,e2])
structure ab9 (P:Program) (f T2:Nat) (mk:Int→Nat→LS):Prop where
 io:∃Φ,dK P f Φ∧(∀(z:LS) (k:Int),z.length≤1048576→0<k→k≤1099511627776→Φ [.row 0 1 0 z.length,.val (.int .i64 k)] [(T2,1,z.map fun s=> .val (.string s))]=some (.val (.int .i64 (k+z.length)),[(T2,1,(mk k z.length).map fun s=> .val (.string s))]))∧∀k:Int,Φ [.val (.slice none 0 0),.val (.int .i64 k)] []=some (.val (.int .i64 k),[])
 nl:∀k,mk k 0=[]
theorem ZO.atg {f:Nat} {c:Call} {x y:Operand} {T1 T2 i:Nat} {k:Int} {v u:Value} {vs:List Value} {ls:List LS} {z:LS} {mk:Int→Nat→LS} (hmk:ab9 P f T2 mk) (ho:o.op=.call c) (hc:c.callee=.value (.func f)) (ha:c.args=#[x,y]) (hf:Fnd P f) (hg:o.guard=none) (hd:∀y,o.dst=some y→y<N) (hx:look s.tm x=.val u) (hy:look s.tm y=.val (.int .i64 k)) (hu:vs[i]?=some u) (hz:ls[i]?=some z) (hlz:z.length≤1048576) (hlm:(mk k z.length).length=z.length) (hk0:0<k) (hk1:k≤1099511627776)
 (h:ZO P N B w00 ops (j+1) l J (s.put o.dst (.val (.int .i64 (k+z.length)))) (ssF T1 T2 v vs (ls.set i (mk k z.length)))):ZO P N B w00 ops j (o::l) J s (ssF T1 T2 v vs ls):=by
 obtain⟨⟨Φ,hS,h1,h2⟩,h3⟩:=hmk;refine ZO.xS ho hc hf hg hd (fun r σ'=>r=.int .i64 (k+z.length)∧σ'=ssF T1 T2 v vs (ls.set i (mk k z.length))) (fun a w hst=>?_) (fun r σ' e=>by obtain⟨rfl,rfl⟩:=e;exact h);obtain⟨⟨io,w0,g,hr,hC⟩,hM⟩:=hst;have hX:=hr.look x;have hY:=hr.look y;rw[hx]at hX;rw[hy]at hY;simp only[Rep]at hX hY;have hM':mX T1 T2 v vs ls w:=hM;rw[ha];simp only[List.map_toArray,List.map_cons,List.map_nil,hX,hY];have hrow:=hM'.inn i u z hu hz;have hum:=List.mem_of_getElem? hu;have hT0:jc w (fun b=>ssF T1 T2 v vs ls|>.bk b):=(hr.tab.keep hr.fr fun t ht=>(hr.tab.apart t ht)).io fun t ht=>(hC.tk t ht).2;rcases hrow with⟨rfl,hz0⟩|⟨gb,cap,arr,rfl,q1,q2,q3,q4,q5⟩
 ·have hz0:z=[]:=by unfold dD at hz0;simpa using hz0
  subst hz0;refine(hS w (fun _ _=>False) (fun _=>0) (fun _=>0) [.val (.slice none 0 0),.val (.int .i64 k)] [] _ _ _ (h2 k) (fun _ _ q=>False.elim q) ⟨fun o ho=>by simp at ho,fun o o' ho=>by simp at ho,fun o c hc=>by simp at hc⟩ (hT0.io fun t ht=>by rintro⟨o,ho,_⟩;simp at ho) ⟨_,_,rfl,by simp[Rep],_,_,rfl,by simp[Rep],rfl⟩).mono ?_;rintro e w' ⟨v',β',κ',M,rfl,hfr,-,-,-,-,-,hrep⟩;simp only[Rep]at hrep;subst hrep;have hkeep:∀i,i<w.heap.size→w'.heap[i]?=w.heap[i]?:=fun i hi=>hfr.block i hi fun⟨o,ho,_⟩=>by simp at ho
  refine⟨_,_,rfl,⟨by simp,rfl⟩,⟨hfr.os,hfr.tape,hfr.output,hfr.size,fun i hi _=>hkeep i hi⟩,fun _ _ q=>q,fun _ q=>q,fun b' q=>Nat.lt_of_lt_of_le (hM'.lt q) hfr.size,?_⟩;refine hM'.turn hu (fun i _ hi=>hkeep i hi) ?_;rw[List.length_nil,h3];exact ad5
 ·have hzl:(dD z).length=z.length:=by simp[dD]
  rw[hzl]at q1 hum hu⊢;have hbk:(ssF T1 T2 v vs ls).bk gb:=.inr ⟨_,hum,rfl⟩;have hes:bn (dG (fun _ _=>False) (fun _=>gb) (fun _=>arr.size) 1) w 1 (z.map fun s=>PV.val (.string s)) gb 0:=fF.zQ (vs:=dD z) q3 q5 (by simp[dD]) fun j e u h1 h2=>by unfold dD at h2;rw[List.getElem?_map]at h1 h2;rw[Option.map_eq_some_iff]at h1 h2;obtain⟨s,p1,rfl⟩:=h1;obtain⟨s',p2,rfl⟩:=h2;rw[p1]at p2;cases p2;exact⟨by simp[Rep],kR s⟩
  refine(hS w (fun _ _=>False) (fun _=>gb) (fun _=>arr.size) [.row 0 1 0 z.length,.val (.int .i64 k)] [(T2,1,z.map fun s=> .val (.string s))] _ _ _ (h1 z k hlz hk0 hk1) (fun _ _ q=>False.elim q) ⟨fun o ho=>⟨lt_of_heap q3,fun _ q=>q⟩,fun o o' ho ho' _=>by simp at ho ho';omega,fun o c hc=>?_⟩ (hT0.io fun t ht=>?_) ?_).mono ?_
  ·have ho:o=0:=by have:=(List.getElem?_eq_some_iff.1 hc).1;simpa using this
   subst ho;cases hc;exact⟨⟨arr,q3,rfl⟩,by show(z.map _).length*1≤arr.size;rw[List.length_map];omega,hes⟩
  ·rintro⟨o,ho,rfl⟩
   exact(hC.tk _ ht).2 hbk
  ·refine⟨_,_,rfl,?_,_,_,rfl,by simp[Rep],rfl⟩
   simp only[Rep];exact⟨cap,by simp[dG],q1,q2,by show(0+cap)*1≤arr.size;omega,by exact Nat.zero_lt_one,fun q=>q⟩
  ·rintro e w' ⟨v',β',κ',M,rfl,hfr,-,hβ,-,-,hO',hrep⟩
   simp only[Rep]at hrep;subst hrep;obtain⟨hβ0,hκ0⟩:=hβ 0 (by simp);obtain⟨⟨arr2,p1,p2⟩,p3,p4⟩:=hO'.at_ 0 _ rfl;have p1:w'.heap[gb]?=some (.cells arr2 T2 (0,0)):=by have:(dG (addN (fun _ _=>False) M) β' κ' 1).β 0=gb:=hβ0;rw[←this];exact p1
   have p2:arr2.size=arr.size:=p2.trans hκ0;have p4:bn (dG (addN (fun _ _=>False) M) β' κ' 1) w' 1 ((dD (mk k z.length)).map PV.val) gb 0:=by
    have e1:(dG (addN (fun _ _=>False) M) β' κ' 1).β 0=gb:=hβ0;have e2:(dD (mk k z.length)).map PV.val=(mk k z.length).map fun s=>PV.val (.string s):=by unfold dD;rw[List.map_map];rfl
    rw[e2,←e1];exact p4
   have hkeep:∀i,i≠gb→i<w.heap.size→w'.heap[i]?=w.heap[i]?:=fun i hne hi=>hfr.block i hi fun⟨o,ho,q⟩=>hne q;refine⟨_,_,rfl,⟨rfl,rfl⟩,⟨hfr.os,hfr.tape,hfr.output,hfr.size,fun i hi hn=>hkeep i (fun q=>hn (q▸hbk)) hi⟩,fun _ _ q=>q,fun _ q=>q,fun b' q=>Nat.lt_of_lt_of_le (hM'.lt q) hfr.size,?_⟩;refine hM'.turn hu (fun i hne hi=>hkeep i (hne gb rfl) hi) ?_;exact(pE (n:=z.length) ⟨cap,by simp,q1,q2,by omega⟩ (by simp[dD,hlm]) p1 p4 fun u hu=>by unfold dD at hu;obtain⟨s,_,rfl⟩:=List.mem_map.1 hu;exact kR s).1
end
abbrev anD (l:List LS):PV:=.lst false 1 (l.map fun p=> .lst false 1 (p.map fun s=> .val (.string s)))
theorem atK {n k:Nat} (h:k<n):(List.replicate n agB)[k]?=some agB:=by simp[h]
def auk:Ctx:={fn:=aZ [],io:=aZ [(21,(vQ aep))]}
theorem jN:au Try.prog auk:=okΓ aj (fD Try.func21 sG.lift aj)
theorem amq:auk.io 21=some (vQ aep):=rfl
theorem adG {l:List LS} {w:World} {Jm:Nat→Prop} {args:Array Value} (hl:asQ l) (hJ:∀b,Jm b→b<w.heap.size) (hT:jc w fun _=>False) (hargs:bF (jF Jm) w [anD l] args.toList):
 Calls Try.prog 20 args w fun e w'=>∃v vs,e=.returned v∧Fr (fun _=>False) w w'∧mX 23 9 v vs l w'∧∀i,o7 v vs i→w.heap.size≤i:=by
 have hc:=HZ.calls (σ:=Fgn.no) (N:=23) (rs:=[.tmp 2]) (ps:=[anD l]) Try.func20 rfl rfl rfl (fun b e=>False.elim e) trivial hT hJ (fun b _ e=>e) hargs (by show 1≤_;decide) (fun p σ'=>∃v vs,p=.val v∧σ'=ssF 23 9 v vs l) ?_
 ·refine hc.mono ?_
  rintro e w' ⟨v0,σ',p,g,rfl,⟨v,vs,rfl,rfl⟩,hr,hf,hb,ha⟩;simp only[Rep]at hr;subst hr;exact⟨v0,vs,rfl,hf,ha,fun i hi=>((hb i hi).2).elim (fun e=>False.elim e) id⟩
 obtain⟨hlen,hin⟩:=hl;refine HZ.start ?_;show HZ _ _ _ _ _ _ ⟨(bM [anD l]).tm,fun _=>none,0⟩ _;refine HZ.seq (HZ.eng mixed jN (by kernel_rfl) ?_);(try dsimp only);(refine wlk ?_;intros);refine HZ.seq (HZ.eng mixed jN (by kernel_rfl) ?_);(try dsimp only);(refine wlk ?_;intros);refine HZ.cut (Lf:=[(0,anD l),(3,.row 0 1 0 l.length)]) (O:=[(0,23,1,(List.replicate l.length agB).map PV.val)]) (x:=1) ?_ ?_ rfl ?_
 ·exact agr
 ·simp only[List.map_replicate]
  exact agr
 refine HZ.atI (t:=3) (n:=l.length) (ob:=0) (vs:=List.replicate l.length agB) (σ':=fun v=>ssF 23 9 v (List.replicate l.length agB) (List.replicate l.length [])) (by rfl) (by rfl) (by simp) (fun u hu=>by obtain⟨_,rfl⟩:=List.mem_replicate.1 hu;exact kP _ _ _) (fun v b hv _ w hw _=>⟨fun i=>wm.trans ⟨fun e=> .inr (by rw[hv]at e;cases e;rfl),fun e=>e.elim (fun e=>False.elim e) fun e=>by rw[hv,e]⟩,mX.fresh hw⟩) fun v b hvb hB ⟨cc,hcc⟩=>?_;rw[List.length_replicate]at hcc;refine HZ.seq (HZ.seq (HZ.eng mixed jN (by kernel_rfl) ?_));(try dsimp only);(refine wlk ?_;intros);(try dsimp only);refine HZ.block (HZ.acC (α:=Nat×Nat) (fun i=>[(0,anD l),(3,.val v),(4,iv i.1)]) (fun _=>[]) (fun i=>i.2)
  (fun i σ=>i.1≤l.length∧∃vs,σ=ssF 23 9 v vs (l.take i.1++List.replicate (l.length-i.1) [])∧vs.length=l.length∧(∀j,i.1≤j→j<l.length→vs[j]?=some agB)∧∀i,o7 v vs i→w.heap.size≤i) (fun i=>l.length-i.1) (0,1) ⟨Nat.zero_le _,_,rfl,by simp,fun j _ hj=>atK hj,fun i hi=>by rw[wm,hvb]at hi;cases hi;exact hB⟩ ?_ trivial rfl ?_)
 ·exact agr
 rintro⟨k,y⟩ σ ⟨hk,vs,rfl,hvl,hnil,hblk⟩;dsimp only at hk hnil;by_cases hkl:k<l.length
 ·refine HZ.seq (HZ.eng mixed jN (by kernel_rfl) ?_)
  (try dsimp only);(refine wlk ?_;intros);(try dsimp only);have ap:=ajh (hin k);refine HZ.seq (HZ.block ?_);refine HZ.each ?_;refine ZO.pre (imm:=⟨[],[],[]⟩) 7 jN (by kernel_rfl) (by simp only[List.take_succ_cons,List.take_zero]<;>exact rfl) (by simp only[List.drop_succ_cons,List.drop_zero]<;>exact rfl) (by simp only[List.map_cons,List.map_nil]<;>exact rfl) ?_;(try dsimp only);have gtss_c21:=amq;(refine wlk ?_;intros);(try dsimp only);refine ZO.aug (d:=21) (T:=23) (g:=b) (n:=l.length) (c:=cc) (kk:=.i64) (i:=k) rfl rfl (by decide) rfl (by kernel_rfl) (by kernel_rfl) ?_ ?_ (by omega) (by omega) ?_
  ·rw[←hcc]
   (simp(disch:=(first|omega|(simp only[push_cast];first|done|omega))) only[push_cast,↓reduceIte,Nat.reduceEqDiff,Nat.reduceBEq,Nat.reduceAdd,Nat.reduceSub,Int.reduceToNat, *]<;>with_reducible exact rfl)
  ·(simp(disch:=(first|omega|(simp only[push_cast];first|done|omega))) only[push_cast,↓reduceIte,Nat.reduceEqDiff,Nat.reduceBEq,Nat.reduceAdd,Nat.reduceSub,Int.reduceToNat, *]<;>with_reducible exact rfl)
  dsimp only[AS.put];refine ZO.auT (g:=b) (k:=k) (n:=(l[k]?.getD []).length) (ob:=y) (z:=l[k]?.getD []) rfl rfl rfl (by kernel_rfl) ?_ hvb (hnil k (Nat.le_refl _) hkl) ?_ ?_ rfl fun u hub=>?_
  ·(simp(disch:=(first|omega|(simp only[push_cast];first|done|omega))) only[push_cast,↓reduceIte,Nat.reduceEqDiff,Nat.reduceBEq,Nat.reduceAdd,Nat.reduceSub,Int.reduceToNat, *]<;>with_reducible exact rfl)
  ·(simp(disch:=(first|omega|(simp only[push_cast];first|done|omega))) only[push_cast,↓reduceIte,Nat.reduceEqDiff,Nat.reduceBEq,Nat.reduceAdd,Nat.reduceSub,Int.reduceToNat, *]<;>with_reducible exact rfl)
  ·(simp(disch:=(first|omega|(simp only[push_cast];first|done|omega))) only[push_cast,↓reduceIte,Nat.reduceEqDiff,Nat.reduceBEq,Nat.reduceAdd,Nat.reduceSub,Int.reduceToNat, *]<;>with_reducible exact rfl)
  refine ZO.nil ?_;(try dsimp only[X.out]);refine HZ.eng mixed jN (by kernel_rfl) ?_;(try dsimp only);(refine wlk ?_;intros);(try dsimp only);refine⟨(k+1,y+1),⟨by dsimp only;omega,vs.set k u,?_,?_,?_,?_⟩,by dsimp only;omega,?_,?_,rfl⟩
  ·rw[show l[k]?.getD []=l[k] by rw[List.getElem?_eq_getElem hkl,Option.getD_some],ai6 hkl]
  ·rw[nV];exact hvl
  ·intro j h1 h2
   dsimp only at h1;rw[List.getElem?_set,if_neg (by omega)];exact hnil j (by omega) h2
  ·rintro i (q|⟨y',hy,q⟩)
   ·exact hblk i (.inl q)
   ·rcases List.mem_or_eq_of_mem_set hy with hy|rfl
    ·exact hblk i (.inr ⟨y',hy,q⟩)
    ·exact hub i q
  ·(try dsimp only)
   exact agr
  ·(try dsimp only)
   exact agr
 ·refine HZ.seq (HZ.eng mixed jN (by kernel_rfl) ?_)
  (try dsimp only);(refine wlk ?_;intros);(try dsimp only[X.out]);obtain rfl:k=l.length:=by omega
  refine HZ.seq (HZ.eng mixed jN (by kernel_rfl) ?_);(try dsimp only);(refine wlk ?_;intros);(try dsimp only);refine HZ.ret ⟨.inr rfl,⟨_,by(simp(disch:=(first|omega|(simp only[push_cast];first|done|omega))) only[push_cast,↓reduceIte,Nat.reduceEqDiff,Nat.reduceBEq,Nat.reduceAdd,Nat.reduceSub,Int.reduceToNat, *]<;>with_reducible exact rfl),_,vs,rfl,?_⟩,fun i hi=> .inr (hblk i hi)⟩;rw[List.take_length,Nat.sub_self,←hcc];simp
theorem ajU {P:Program} {t e ty:Nat} {a:Option Addr} {n c:Nat} (h0:bR P t=some e):qB P t ty (.val (.slice a n c))=some (.val (.int .i64 n)):=by have h:=jQ h0;simp[qB,xW,toVal,Builtin.len_,underlying,Go.program,bind,Sem.bind,pure,av,h,goInt]
def mkK (l:List LS) (k:Int):Nat→Int
 |0=>k
 |j+1=>mkK l k j+(l[j]?.getD []).length
def mkL (l:List LS) (k:Int):Nat→List LS
 |0=>l
 |j+1=>(mkL l k j).set j (iN (mkK l k j) (l[j]?.getD []).length)
theorem aj9 {l:List LS} {k:Int}:∀{j i:Nat},j≤i→(mkL l k j)[i]?=l[i]?
 |0,i,_=>rfl
 |j+1,i,h=>by rw[mkL,List.getElem?_set,if_neg (by omega)];exact aj9 (by omega)
def oN (l:List LS):Nat:=(l.map List.length).sum
theorem aj3 (l:List LS) (k:Int):∀j,j≤l.length→mkK l k j=k+(oN (l.take j):Nat)
 |0,_=>by simp[mkK,oN]
 |j+1,h=>by have ih:=aj3 l k j (by omega);unfold oN at ih⊢;rw[mkK,ih,List.take_succ_eq_append_getElem (show j<l.length by omega),List.map_append,List.sum_append,List.getElem?_eq_getElem (show j<l.length by omega),Option.getD_some];simp;omega
theorem wT (l:List LS) (j:Nat):oN (l.take j)≤oN l:=by
 unfold oN
 conv=>rhs;rw[←List.take_append_drop j l,List.map_append,List.sum_append]
 omega
theorem ami {l:List LS} {j:Nat} (h:j<l.length):(l[j]?.getD []).length≤oN l:=by have h1:=wT l (j+1);unfold oN at h1⊢;rw[List.take_succ_eq_append_getElem h,List.map_append,List.sum_append]at h1;rw[List.getElem?_eq_getElem h,Option.getD_some];simp at h1;omega
theorem abG:ab9 Try.prog 12 9 iN:=⟨⟨rC,abS,fun z k h1 h2 h3=>pI.1 z k h1 h2 h3,fun k=>pI.2 k⟩,fun k=>List.eq_nil_of_length_eq_zero (dV k 0)⟩
theorem wu {l:List LS} {k0:Int} {v:Value} {vs:List Value} {w:World} {args:Array Value} (hM:mX 23 9 v vs l w) (hl:oN l≤1048576) (hl2:l.length≤1048576) (hk0:0<k0) (hk1:k0≤1048577) (hT:jc w (o7 v vs)) (hargs:args=#[v,.int .i64 k0]):
 Calls Try.prog 25 args w fun e w'=>e=.returned (.int .i64 (k0+oN l))∧Fr (o7 v vs) w w'∧mX 23 9 v vs (mkL l k0 l.length) w':=by
 have hargs2:bF (jF fun _=>False) w [.val v,.val (.int .i64 k0)] args.toList:=by rw[hargs];exact⟨_,_,rfl,by simp[Rep],_,_,rfl,by simp[Rep],rfl⟩
 have hc:=HZ.calls (σ:=ssF 23 9 v vs l) (N:=19) (rs:=[.tmp 4]) (ps:=[.val v,.val (.int .i64 k0)]) Try.func25 rfl rfl rfl (fun b e=>hM.lt e) hM hT (fun b e=>False.elim e) (fun b e=>False.elim e) hargs2 (by show 2≤_;decide) (fun p σ'=>p=.val (.int .i64 (k0+oN l))∧σ'=ssF 23 9 v vs (mkL l k0 l.length)) ?_
 ·refine hc.mono ?_
  rintro e w' ⟨v0,σ',p,g,rfl,⟨rfl,rfl⟩,hr,hf,hb,ha⟩;simp only[Rep]at hr;subst hr;exact⟨rfl,hf,ha⟩
 have hvs:∃g c,(v=agB∧l.length=0)∨v=.slice (some ⟨g,0,none⟩) l.length c:=by
  rcases hM.out with⟨h1,h2⟩|⟨g,cap,arr,h1,_⟩
  ·exact⟨0,0,.inl ⟨h1,by rw[←hM.len,h2];rfl⟩⟩
  ·exact⟨g,cap,.inr (by rw[h1,hM.len])⟩
 refine HZ.start ?_;show HZ _ _ _ _ _ _ ⟨(bM [.val v,.val (.int .i64 k0)]).tm,fun _=>none,0⟩ _;refine HZ.seq (HZ.eng mixed bN (by kernel_rfl) ?_);(try dsimp only);(refine wlk ?_;intros);refine HZ.seq (HZ.seq (HZ.eng mixed bN (by kernel_rfl) ?_));(try dsimp only);(refine wlk ?_;intros);(try dsimp only);refine HZ.block (HZ.acC (α:=Nat) (fun j=>[(0,.val v),(1,.val (.int .i64 (mkK l k0 j))),(5,iv j)]) (fun _=>[]) (fun _=>0)
  (fun j σ=>j≤l.length∧σ=ssF 23 9 v vs (mkL l k0 j)) (fun j=>l.length-j) 0 ⟨Nat.zero_le _,rfl⟩ ?_ trivial rfl ?_)
 ·(try dsimp only)
  simp(disch:=(first|omega|(simp only[push_cast];first|done|omega))) only[push_cast,↓reduceIte,Nat.reduceEqDiff,Nat.reduceBEq,Nat.reduceAdd,Nat.reduceSub,Int.reduceToNat,List.length_append, *];try rfl
 rintro j σ ⟨hj,rfl⟩;have hkj:=aj3 l k0 j hj;have hlt:=wT l j;obtain⟨g,c,hv⟩:=hvs;by_cases hjl:j<l.length
 ·rcases hv with⟨_,hv⟩|hv
  ·omega
  have hla:=ami hjl;subst hv;have hl8:=fun ty=>ajU (P:=Try.prog) (t:=22) (e:=23) (ty:=ty) (a:=some ⟨g,0,none⟩) (n:=l.length) (c:=c) (by kernel_rfl);refine HZ.seq (HZ.eng mixed bN (by kernel_rfl) ?_);(try dsimp only);(refine wlk ?_;intros);(try dsimp only);have hjv:j<vs.length:=by rw[hM.len];exact hjl
  have hcell:∀w',mX 23 9 (.slice (some ⟨g,0,none⟩) l.length c) vs (mkL l k0 j) w'→w'.cell? ⟨g,j,none⟩=some vs[j]:=fun w' h'=>by
   rcases h'.out with⟨e,_⟩|⟨g',cap,arr,e,p1,p2,p3,p4,p5⟩
   ·cases e
   ·rw[hM.len]at e
    cases e;simp only[World.cell?,p3,Option.isSome_none,Bool.false_eq_true,if_false];exact p5 j _ (List.getElem?_eq_getElem hjv)
  refine HZ.seq (HZ.block (HZ.each ?_));refine ZO.pre (imm:=⟨[],[],[]⟩) 2 bN (by kernel_rfl) (by simp only[List.take_succ_cons,List.take_zero]<;>exact rfl) (by simp only[List.drop_succ_cons,List.drop_zero]<;>exact rfl) (by simp only[List.map_cons,List.map_nil]<;>exact rfl) ?_;(try dsimp only);(refine wlk ?_;intros);(try dsimp only);refine ZO.aug (d:=14) (T:=23) (g:=g) (n:=l.length) (c:=c) (kk:=.i64) (i:=j) rfl rfl (by decide) rfl (by kernel_rfl) (by kernel_rfl) ?_ ?_ (by omega) (by omega) ?_
  ·(simp(disch:=(first|omega|(simp only[push_cast];first|done|omega))) only[push_cast,↓reduceIte,Nat.reduceEqDiff,Nat.reduceBEq,Nat.reduceAdd,Nat.reduceSub,Int.reduceToNat, *]<;>with_reducible exact rfl)
  ·(simp(disch:=(first|omega|(simp only[push_cast];first|done|omega))) only[push_cast,↓reduceIte,Nat.reduceEqDiff,Nat.reduceBEq,Nat.reduceAdd,Nat.reduceSub,Int.reduceToNat, *]<;>with_reducible exact rfl)
  dsimp only[AS.put];refine ZO.ldF (d:=15) (b:=g) (f:=j) (u:=vs[j]) rfl rfl (by decide) rfl (by kernel_rfl) ?_ (fun w' h'=>hcell w' h') (hM.one _ (List.getElem_mem hjv)) ?_
  ·(simp(disch:=(first|omega|(simp only[push_cast];first|done|omega))) only[push_cast,↓reduceIte,Nat.reduceEqDiff,Nat.reduceBEq,Nat.reduceAdd,Nat.reduceSub,Int.reduceToNat, *]<;>with_reducible exact rfl)
  dsimp only[AS.put];refine ZO.pre (imm:=⟨[],[],[]⟩) 1 bN (by kernel_rfl) (by simp only[List.take_succ_cons,List.take_zero]<;>exact rfl) (by simp only[List.drop_succ_cons,List.drop_zero]<;>exact rfl) (by simp only[List.map_cons,List.map_nil]<;>exact rfl) ?_;(try dsimp only);(refine wlk ?_;intros);(try dsimp only);refine ZO.atg (x:=.tmp 15) (y:=.tmp 16) (i:=j) (k:=mkK l k0 j) (u:=vs[j]) (z:=l[j]?.getD []) abG rfl rfl rfl ⟨_,Try.func12,rfl,rfl⟩ rfl (by rintro y ⟨⟩;decide) ?_ ?_ (List.getElem?_eq_getElem hjv) ?_ (by omega) (dV _ _) (by omega) (by omega) ?_
  ·(simp(disch:=(first|omega|(simp only[push_cast];first|done|omega))) only[push_cast,↓reduceIte,Nat.reduceEqDiff,Nat.reduceBEq,Nat.reduceAdd,Nat.reduceSub,Int.reduceToNat, *]<;>with_reducible exact rfl)
  ·(simp(disch:=(first|omega|(simp only[push_cast];first|done|omega))) only[push_cast,↓reduceIte,Nat.reduceEqDiff,Nat.reduceBEq,Nat.reduceAdd,Nat.reduceSub,Int.reduceToNat, *]<;>with_reducible exact rfl)
  ·rw[aj9 (Nat.le_refl _),List.getElem?_eq_getElem hjl,Option.getD_some]
  dsimp only[AS.put];refine ZO.pre (imm:=⟨[],[],[]⟩) 1 bN (by kernel_rfl) (by simp only[List.take_succ_cons,List.take_zero]<;>exact rfl) (by simp only[List.drop_succ_cons,List.drop_zero]<;>exact rfl) (by simp only[List.map_cons,List.map_nil]<;>exact rfl) ?_;(try dsimp only);(refine wlk ?_;intros);(try dsimp only);refine ZO.nil ?_;(try dsimp only[X.out]);refine HZ.eng mixed bN (by kernel_rfl) ?_;(try dsimp only);(refine wlk ?_;intros);(try dsimp only);refine⟨j+1,⟨by omega,rfl⟩,by omega,?_,trivial,rfl⟩;(try dsimp only);rw[show mkK l k0 (j+1)=mkK l k0 j+(l[j]?.getD []).length from rfl];exact agr
 ·obtain rfl:j=l.length:=by omega
  have hkk:mkK l k0 l.length=k0+oN l:=by rw[hkj,List.take_length]
  replace hkk:=Lib.hid hkk;clear hkj hlt;rcases hv with⟨hv,hl0⟩|hv
  ·subst hv
   have hkk0:mkK l k0 0=k0+oN l:=by have:=hkk.out;rwa[hl0]at this
   replace hkk0:=Lib.hid hkk0;clear hkk;rw[hl0]at*;refine HZ.seq (HZ.eng mixed bN (by kernel_rfl) ?_);(try dsimp only);(refine wlk ?_;intros);(try simp only[X.out,↓reduceIte]);refine HZ.seq (HZ.eng mixed bN (by kernel_rfl) ?_);(try dsimp only);(refine wlk ?_;intros);(try dsimp only);exact HZ.ret ⟨.inr rfl,⟨_,by(simp(disch:=(first|omega|(simp only[push_cast];first|done|omega))) only[push_cast,↓reduceIte,Nat.reduceEqDiff,Nat.reduceBEq,Nat.reduceAdd,Nat.reduceSub,Int.reduceToNat, *]<;>with_reducible exact rfl),by rw[←hkk0.out];rfl,by first|rfl|(rw[hl0];rfl)⟩,fun i hi=> .inl hi⟩
  ·subst hv
   have hl8:=fun ty=>ajU (P:=Try.prog) (t:=22) (e:=23) (ty:=ty) (a:=some ⟨g,0,none⟩) (n:=l.length) (c:=c) (by kernel_rfl);refine HZ.seq (HZ.eng mixed bN (by kernel_rfl) ?_);(try dsimp only);(refine wlk ?_;intros);(try simp only[X.out,↓reduceIte]);refine HZ.seq (HZ.eng mixed bN (by kernel_rfl) ?_);(try dsimp only);(refine wlk ?_;intros);(try dsimp only);exact HZ.ret ⟨.inr rfl,⟨_,by(simp(disch:=(first|omega|(simp only[push_cast];first|done|omega))) only[push_cast,↓reduceIte,Nat.reduceEqDiff,Nat.reduceBEq,Nat.reduceAdd,Nat.reduceSub,Int.reduceToNat, *]<;>with_reducible exact rfl),by rw[←hkk.out];rfl,rfl⟩,fun i hi=> .inl hi⟩
structure acn (T1 T2:Nat) (vo:Value) (vs:List Value) (vp:Value) (p:List LS) (q:LS) (w:World):Prop where
 ss:mX T1 T2 vo vs p w
 row:fF T2 vp (dD q) w
 ap:∀i,vp.ownBlock=some i→¬o7 vo vs i
def acR (T1 T2:Nat) (vo:Value) (vs:List Value) (vp:Value) (p:List LS) (q:LS):Fgn:=⟨fun i=>o7 vo vs i∨vp.ownBlock=some i,acn T1 T2 vo vs vp p q,fun w w' h hM=>⟨hM.ss.same fun i hi=>h i (.inl hi),hM.row.same fun i hi=>h i (.inr hi),hM.ap⟩⟩
def auF (T2:Nat) (vo:Value) (vs:List Value) (vp:Value) (q:LS):Fgn:=⟨fun i=>o7 vo vs i∨vp.ownBlock=some i,fun w=>fF T2 vp (dD q) w,fun w w' h hM=>hM.same fun i hi=>h i (.inr hi)⟩
def asL (vo:Value) (vs:List Value) (vp:Value):Fgn:=⟨fun i=>o7 vo vs i∨vp.ownBlock=some i,fun _=>True,fun _ _ _ _=>trivial⟩
theorem acn.lt {T1 T2:Nat} {vo vp:Value} {vs:List Value} {p:List LS} {q:LS} {w:World} (h:acn T1 T2 vo vs vp p q w) {i:Nat} (hi:o7 vo vs i∨vp.ownBlock=some i):i<w.heap.size:=hi.elim h.ss.lt h.row.lt
section
variable {P:Program}
theorem ab9.calls {f T2:Nat} {mk:Int→Nat→LS} (hmk:ab9 P f T2 mk) {u:Value} {z:LS} {k:Int} {w:World} (hrow:fF T2 u (dD z) w) (hlz:z.length≤1048576) (hk0:0<k) (hk1:k≤1099511627776) (hT:jc w fun b=>u.ownBlock=some b):
 Calls P f #[u,.int .i64 k] w fun e w'=>e=.returned (.int .i64 (k+z.length))∧Fr (fun b=>u.ownBlock=some b) w w':=by
 obtain⟨⟨Φ,hS,h1,h2⟩,h3⟩:=hmk;rcases hrow with⟨rfl,hz0⟩|⟨gb,cap,arr,rfl,q1,q2,q3,q4,q5⟩
 ·have hz0:z=[]:=by unfold dD at hz0;simpa using hz0
  subst hz0;refine(hS w (fun _ _=>False) (fun _=>0) (fun _=>0) [.val (.slice none 0 0),.val (.int .i64 k)] [] _ _ _ (h2 k) (fun _ _ q=>False.elim q) ⟨fun o ho=>by simp at ho,fun o o' ho=>by simp at ho,fun o c hc=>by simp at hc⟩ (hT.io fun t ht=>by rintro⟨o,ho,_⟩;simp at ho) ⟨_,_,rfl,by simp[Rep],_,_,rfl,by simp[Rep],rfl⟩).mono ?_;rintro e w' ⟨v',β',κ',M,rfl,hfr,-,-,-,-,-,hrep⟩;simp only[Rep]at hrep;subst hrep;exact⟨by simp,hfr.os,hfr.tape,hfr.output,hfr.size,fun i hi _=>hfr.block i hi fun⟨o,ho,_⟩=>by simp at ho⟩
 ·have hzl:(dD z).length=z.length:=by simp[dD]
  rw[hzl]at q1⊢;have hes:bn (dG (fun _ _=>False) (fun _=>gb) (fun _=>arr.size) 1) w 1 (z.map fun s=>PV.val (.string s)) gb 0:=fF.zQ (vs:=dD z) q3 q5 (by simp[dD]) fun j e u h1 h2=>by unfold dD at h2;rw[List.getElem?_map]at h1 h2;rw[Option.map_eq_some_iff]at h1 h2;obtain⟨s,p1,rfl⟩:=h1;obtain⟨s',p2,rfl⟩:=h2;rw[p1]at p2;cases p2;exact⟨by simp[Rep],kR s⟩
  refine(hS w (fun _ _=>False) (fun _=>gb) (fun _=>arr.size) [.row 0 1 0 z.length,.val (.int .i64 k)] [(T2,1,z.map fun s=> .val (.string s))] _ _ _ (h1 z k hlz hk0 hk1) (fun _ _ q=>False.elim q) ⟨fun o ho=>⟨lt_of_heap q3,fun _ q=>q⟩,fun o o' ho ho' _=>by simp at ho ho';omega,fun o c hc=>?_⟩ (hT.io fun t ht=>?_) ?_).mono ?_
  ·have ho:o=0:=by have:=(List.getElem?_eq_some_iff.1 hc).1;simpa using this
   subst ho;cases hc;exact⟨⟨arr,q3,rfl⟩,by show(z.map _).length*1≤arr.size;rw[List.length_map];omega,hes⟩
  ·rintro⟨o,ho,rfl⟩
   exact hT.apart _ ht rfl
  ·refine⟨_,_,rfl,?_,_,_,rfl,by simp[Rep],rfl⟩
   simp only[Rep];exact⟨cap,by simp[dG],q1,q2,by show(0+cap)*1≤arr.size;omega,by exact Nat.zero_lt_one,fun q=>q⟩
  ·rintro e w' ⟨v',β',κ',M,rfl,hfr,-,hβ,-,-,hO',hrep⟩
   simp only[Rep]at hrep;subst hrep;exact⟨rfl,hfr.os,hfr.tape,hfr.output,hfr.size,fun i hi hn=>hfr.block i hi fun⟨o,ho,q⟩=>hn (by rw[q];rfl)⟩
theorem iE.row {f T:Nat} {Ψ:aap} (hs:iE P f Ψ) {ps:List PV} {l:LS} (hΨ:Ψ ps=some (.row 0 1 0 l.length,[(T,1,l.map fun s=> .val (.string s))])) {w:World} {Jm:Nat→Prop} {args:Array Value} (hJ:∀i,Jm i→i<w.heap.size) (hT:jc w fun _=>False) (hargs:bF (jF Jm) w ps args.toList):
 Calls P f args w fun e w'=>∃v,e=.returned v∧Fr (fun _=>False) w w'∧fF T v (dD l) w'∧∃b,v.ownBlock=some b∧w.heap.size≤b:=by
 refine(hs w (fun k b=>k=false∧Jm b) (fun _=>0) (fun _=>0) ps [] args _ _ (by simpa using hΨ) (fun k b hb=>hJ b hb.2) ⟨fun o ho=>by simp at ho,fun o o' ho=>by simp at ho,fun o c ho=>by simp at ho⟩ (hT.io fun t ht=>by rintro⟨o,ho,_⟩;simp at ho) hargs).mono ?_;rintro e w' ⟨v,β',κ',M,rfl,hfr,-,-,hnew,hM,hO',hrep⟩;obtain⟨⟨arr2,p1,p2⟩,p3,p4⟩:=hO'.at_ 0 _ rfl;have hb:w.heap.size≤β' 0:=hnew 0 (Nat.zero_le _) (by simp);simp only[Rep]at hrep;obtain⟨c,e1,e2,e3,e4,e5⟩:=hrep;have e6:(dD l).map PV.val=l.map fun s=>PV.val (.string s):=by unfold dD;rw[List.map_map];rfl
 dsimp only at p1 p4;rw[←e6]at p4;have hr:=pE (n:=l.length) ⟨c,e1,e2,e3,by rw[p2];exact e4⟩ (by simp[dD]) p1 p4 fun u hu=>by unfold dD at hu;obtain⟨s,_,rfl⟩:=List.mem_map.1 hu;exact kR s
 exact⟨v,rfl,⟨hfr.os,hfr.tape,hfr.output,hfr.size,fun i hi _=>hfr.block i hi fun⟨o,ho,_⟩=>by simp at ho⟩,hr.1,_,hr.2,hb⟩
end
end
end Go.Proofs.Ytmmafcjjlbgnkaa
