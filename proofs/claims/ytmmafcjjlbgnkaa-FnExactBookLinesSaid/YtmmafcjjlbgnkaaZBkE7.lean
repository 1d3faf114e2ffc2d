/- What the proof rests on, part 7: contracts of functions. No condition beyond what each states. -/
import Derived.Test.YtmmafcjjlbgnkaaZBkE6
namespace Go.Proofs.Ytmmafcjjlbgnkaa
open Go.RowKit
set_option linter.all false
set_option maxHeartbeats 32000000
noncomputable section
section
variable {P:Program} {N B:Nat} {w00:World}
theorem Rel.anew {io:IoS} {w0 w:World} {bk bk':Nat→Prop} {g g':Gh} {s s':AS} {a:Act} (hr:Rel io w0 N g s a w) (hC:HzC io w00 w0 B bk) (hg:g.le g') (hnx:g'.nx=s'.nx)
 (htm:∀t,Rep g' w (s'.tm t) (a.tmps.getD t undef)) (hob:∀o c,s'.ob o=some c→(s.ob o).isSome∧mO g' w o c)
 (hI:∀k i,g'.I k i→(∀o,(s'.ob o).isSome→i≠g.β o)∧i<w.heap.size∧¬bk' i) (hIt:∀i,g'.I true i→B≤i) (hO:∀o,(s'.ob o).isSome→¬bk' (g.β o))
 (h2:∀i,bk i→bk' i) (hbl:∀i,bk' i→i<w.heap.size) (hbB:∀i,bk' i→bk i∨B≤i):∃io',Rel io' w N g' s' a w∧HzC io' w00 w B bk':=by
 have hsz:B≤w.heap.size:=Nat.le_trans hC.sz hr.fr.size;have hoD:∀o,(s.ob o).isSome→g.D o:=fun o ho=>by obtain⟨c,hc⟩:=Option.isSome_iff_exists.1 ho;exact(hr.ob o c hc).1
 have hs:∀o,(s'.ob o).isSome→(s.ob o).isSome:=fun o ho=>by obtain⟨c,hc⟩:=Option.isSome_iff_exists.1 ho;exact(hob o c hc).1
 have hβ:∀o,(s'.ob o).isSome→g'.β o=g.β o:=fun o ho=>hg.β o (hoD o (hs o ho));have hap:∀o,(s'.ob o).isSome→g.β o<w.heap.size∧B≤g.β o:=fun o ho=>by obtain⟨c,hc⟩:=Option.isSome_iff_exists.1 (hs o ho);have:=hC.eT hr hc;exact⟨this.1,this.2.2⟩
 have htk:∀t∈tks,¬bk' t:=fun t ht e=>by
  rcases hbB t e with e|e
  ·exact(hC.tk t ht).2 e
  ·have:=(hC.tk t ht).1
   omega
 refine⟨{wr:=fun i=>∃o,(s'.ob o).isSome∧i=g.β o,im:=g'.I false,m:=0,β0:=fun _=>0,κ0:=fun _=>0,it:=g'.I true},⟨hr.nt,hr.df,htm,fun o c ho=>?_,fun o o' ho ho' he=>?_,hnx,fun kk i hi=>(hI kk i hi).2.1,fun i hi=> .inr hi,Fr.refl _ _,fun i hi=>hi,⟨fun o ho=>(Nat.not_lt_zero o ho).elim,fun o ho=>(Nat.not_lt_zero o ho).elim⟩,fun o ho=>False.elim ho,?_⟩,⟨fun i hi=>?_,fun i hi=>?_,fun i hi=>?_,hbl,hsz,?_,fun t ht=>⟨(hC.tk t ht).1,htk t ht⟩⟩⟩
 ·have hso:(s'.ob o).isSome:=by rw[ho];rfl
  refine⟨hg.D o (hoD o (hs o hso)),.inr ⟨o,hso,hβ o hso⟩,fun k hk=>(hI k _ hk).1 o hso (hβ o hso),(hob o c ho).2⟩
 ·rw[hβ o ho,hβ o' ho']at he
  exact hr.inj o o' (hs o ho) (hs o' ho') he
 ·refine hr.tab.keep hr.fr ?_
  rintro t ht ⟨o,ho,rfl⟩;have:=(hap o ho).2;have:=(hC.tk _ ht).1;omega
 ·rcases hi with⟨o,ho,rfl⟩|hi|hi
  ·exact hO o ho
  ·exact(hI _ i hi).2.2
  ·exact(hI _ i hi).2.2
 ·rcases hi with⟨o,ho,rfl⟩|hi
  ·exact(hap o ho).2
  ·exact hIt i hi
 ·obtain⟨o,ho,rfl⟩:=hi
  exact(hap o ho).1
 ·have hf1:Fr (fun i=>bk' i∨B≤i) w0 w:=⟨hr.fr.os,hr.fr.tape,hr.fr.output,hr.fr.size,fun i hi hn=>hr.fr.block i hi fun q=>hn (.inr (hC.lo i (.inl q)))⟩
  refine⟨hf1.os.trans hC.fr.os,hf1.tape.trans hC.fr.tape,hf1.output.trans hC.fr.output,Nat.le_trans hC.fr.size hf1.size,fun i hi hn=>?_⟩;exact(hf1.block i (Nat.lt_of_lt_of_le hi hC.fr.size) hn).trans (hC.fr.block i hi fun q=>hn (q.imp (h2 i) id))
theorem HzC.auz {io:IoS} {w0:World} {bk:Nat→Prop} (h:HzC io w00 w0 B bk) {g:Gh} {s:AS} {a:Act} {w:World} (hr:Rel io w0 N g s a w) {i:Nat} (hi:g.I true i):B≤i:=by
 rcases hr.new i hi with⟨q,_⟩|q
 ·exact Nat.le_trans h.sz q
 ·exact h.lo i (.inr q)
theorem Zt.give {s:AS} {σ:Fgn} {a:Act} {w:World} (h:Zt P N B w00 s σ a w) {o T sz:Nat} {es:List PV} (ho:s.ob o=some (T,sz,es)):
 ∃g b arr,B≤b∧b<w.heap.size∧¬σ.bk b∧w.heap[b]?=some (.cells arr T (0,0))∧es.length*sz≤arr.size∧bn g w sz es b 0∧
  (∀i n v,Rep g w (.row o sz i n) v→∃c,v=.slice (some ⟨b,i*sz,none⟩) n c∧n≤c∧c≤9223372036854775807∧(i+c)*sz≤arr.size)∧(∀x:Operand,Rep g w (look s.tm x) (a.eval x))∧
  ∀σ':Fgn,(∀i,σ'.bk i↔σ.bk i∨i=b)→σ'.at_ w→Zt P N B w00 ⟨s.tm,upd s.ob o none,s.nx⟩ σ' a w:=by
 obtain⟨⟨io,w0,g,hr,hC⟩,hM⟩:=h;obtain⟨k1,k2,k3,⟨arr,k4,k5⟩,k6,k7⟩:=hr.ob o _ ho;obtain⟨q1,q2,q3⟩:=hC.eT hr ho;dsimp only at k4 k6 k7;refine⟨g,g.β o,arr,q3,q1,q2,k4,by rw[k5];exact k6,k7,fun i n v hv=>?_,fun x=>hr.look x,fun σ' hb hat=>?_⟩
 ·simp only[Rep]at hv
  obtain⟨c,h1,h2,h3,h4,_⟩:=hv;exact⟨c,h1,h2,h3,by rw[k5];exact h4⟩
 ·have hsub:∀o' c,upd s.ob o none o'=some c→o'≠o∧s.ob o'=some c:=fun o' c hc=>by
   unfold upd at hc;split at hc
   ·cases hc
   ·rename_i hne;exact⟨hne,hc⟩
  have hsubS:∀o',(upd s.ob o none o').isSome→o'≠o∧(s.ob o').isSome:=fun o' hc=>by obtain⟨c,hc⟩:=Option.isSome_iff_exists.1 hc;exact⟨(hsub o' c hc).1,by rw[(hsub o' c hc).2];rfl⟩
  have hlt:∀i,σ'.bk i→i<w.heap.size:=fun i hi=>by
   rcases(hb i).1 hi with hi|rfl
   ·exact Nat.lt_of_lt_of_le (hC.hb i hi) hr.fr.size
   ·exact q1
  have key:∃io',Rel io' w N g ⟨s.tm,upd s.ob o none,s.nx⟩ a w∧HzC io' w00 w B σ'.bk:=by
   refine hr.anew (s':=⟨s.tm,upd s.ob o none,s.nx⟩) (g':=g) (bk':=σ'.bk) hC (Gh.le_refl g) hr.nx hr.tm (fun o' c hc=>⟨by rw[(hsub o' c hc).2];rfl,(hr.ob o' c (hsub o' c hc).2).2.2.2⟩) (fun k i hi=>⟨fun o' ho' e=>?_,(hC.kZ hr hi).1,fun e=>?_⟩) (fun i hi=>hC.auz hr hi) (fun o' ho' e=>?_) (fun i hi=>(hb i).2 (.inl hi)) hlt (fun i hi=>((hb i).1 hi).imp id fun e=>by rw[e];exact q3)
   ·obtain⟨c,hc⟩:=Option.isSome_iff_exists.1 (hsubS o' ho').2
    exact(hr.ob o' c hc).2.2.1 k (e▸hi)
   ·rcases(hb i).1 e with e|rfl
    ·exact(hC.kZ hr hi).2 e
    ·exact k3 k hi
   ·obtain⟨c,hc⟩:=Option.isSome_iff_exists.1 (hsubS o' ho').2
    rcases(hb _).1 e with e|e
    ·exact(hC.eT hr hc).2.1 e
    ·exact(hsubS o' ho').1 (hr.inj o' o (by rw[hc];rfl) (by rw[ho];rfl) e)
  obtain⟨io',h1,h2⟩:=key;exact⟨⟨io',w,g,h1,h2⟩,hat⟩
end
section
set_option linter.unusedVariables false
def inB (n a b:Int):Bool:=decide (a≤n)&&decide (n≤b)
theorem aB {n a b:Int}:inB n a b=true↔a≤n∧n≤b:=by simp[inB]
end
def GE:Ctx:={fn:=aZ [],io:=aZ []}
theorem bN:au Try.prog GE:=okΓ aj aj
def φIn:Fun:=F3 dI dI dI fun n a b=>some (bv (inB n a b))
theorem bO (n a b:Int):φIn [.val (.int .i64 n),.val (.int .i64 a),.val (.int .i64 b)]=some (.val (.bool (inB n a b))):=rfl
theorem iJ:Sound Try.prog 29 φIn:=by
 refine ak mixed bN Try.func29 rfl 15 rfl [.tmp 6] rfl (by kernel_rfl) fun ps r hr=>?_;obtain⟨n,a,b,rfl,hr⟩:=zN hr;cases hr;refine⟨by simp,?_⟩;simp only[dIs,dUs,dSs,bQ,bU,bP,bT,aL,bS,aQ,aO,aR,aP];(refine wlkX6 ?_ ?_ ?_ ?_ ?_ ?_<;>intros<;>try with_reducible exact trivial);all_goals(refine fnG ?_;try with_reducible exact trivial)
 all_goals(first|(simp_all [inB];done)|(simp_all [inB];omega))
theorem vY:Sound Try.prog 35 φIn:=by
 refine ak mixed bN Try.func35 rfl 15 rfl [.tmp 6] rfl (by kernel_rfl) fun ps r hr=>?_;obtain⟨n,a,b,rfl,hr⟩:=zN hr;cases hr;refine⟨by simp,?_⟩;simp only[dIs,dUs,dSs,bQ,bU,bP,bT,aL,bS,aQ,aO,aR,aP];(refine wlkX6 ?_ ?_ ?_ ?_ ?_ ?_<;>intros<;>try with_reducible exact trivial);all_goals(refine fnG ?_;try with_reducible exact trivial)
 all_goals(first|(simp_all [inB];done)|(simp_all [inB];omega))
def cu (s:ByteArray):Bool:=(List.range s.size).all (fun k=>inB (at8 s k) 97 122)&&inB s.size 1 20
theorem ab4 {s:ByteArray} {k:Nat} (h:k<s.size) (hb:¬(97≤at8 s k∧at8 s k≤122)):cu s=false:=by
 unfold cu;have:(List.range s.size).all (fun k=>inB (at8 s k) 97 122)=false:=by rw[List.all_eq_false];exact⟨k,List.mem_range.2 h,by rw[aB];exact hb⟩
 rw[this];rfl
theorem qd {s:ByteArray} (h:∀j,j<s.size→97≤at8 s j∧at8 s j≤122):cu s=inB s.size 1 20:=by
 unfold cu;have:(List.range s.size).all (fun k=>inB (at8 s k) 97 122)=true:=by rw[List.all_eq_true];intro k hk;exact aB.2 (h k (List.mem_range.1 hk))
 rw[this];rfl
def fG:Fun:=F1 dS fun s=>if s.size≤1099511627776 then some (bv (cu s))else none
theorem gH {s:ByteArray} (h:s.size≤1099511627776):fG [.val (.string s)]=some (.val (.bool (cu s))):=
 (iy (A:=dS) s).trans (if_pos h)
def jR:Fun:=F1 dU fun n=>some (bv (inB n 97 122))
theorem om (n:Int):jR [.val (.int .u8 n)]=some (.val (.bool (inB n 97 122))):=rfl
theorem nQ:Sound Try.prog 65 jR:=by
 refine ak mixed bN Try.func65 rfl 9 rfl [.tmp 2] rfl (by kernel_rfl) fun ps r hr=>?_;obtain⟨n,rfl,hr⟩:=bJ hr;cases hr;refine⟨by simp,?_⟩;simp only[dIs,dUs,dSs,bQ,bU,bP,bT,aL,bS,aQ,aO,aR,aP];(refine wlkX6 ?_ ?_ ?_ ?_ ?_ ?_<;>intros<;>try with_reducible exact trivial);all_goals(refine fnG ?_;try with_reducible exact trivial)
 all_goals(first|(simp_all [inB];done)|(simp_all [inB];omega))
def GWv:Ctx:={fn:=aZ [(65,jR),(35,φIn)],io:=aZ []}
theorem aqC:au Try.prog GWv:=okΓ (fC Try.func65 nQ (fC Try.func35 vY aj)) aj
def apJ:=ah (Γ:=GWv) (f:=65) (φ:=jR) rfl
def aqJ:=ah (Γ:=GWv) (f:=35) (φ:=φIn) rfl
theorem eG:Sound Try.prog 51 fG:=by
 refine ak mixed aqC Try.func51 rfl 18 rfl [.tmp 2] rfl (by kernel_rfl) fun ps r hr=>?_;obtain⟨s,rfl,hq⟩:=bJ hr;clear hr;split at hq
 case isFalse=>cases hq
 case isTrue hlen=>
 cases hq;refine⟨by simp,?_⟩;simp only[dIs,dUs,dSs,bQ,bU,bP,bT,aL,bS,aQ,aO,aR,aP];have gwv_c65:=apJ;have gwv_c35:=aqJ;have ap:=om;have ap2:=bO;(refine wlkX6 ?_ ?_ ?_ ?_ ?_ ?_<;>intros<;>try with_reducible exact trivial);refine aD (α:=Nat) mixed (fun k=>[(0,sv s),(5,iv s.size),(6,iv k)]) (fun _=>[]) (fun _=>0)
  (fun k=>k≤s.size∧∀j,j<k→97≤at8 s j∧at8 s j≤122) (fun k=>s.size-k) (by kernel_rfl) 0 ⟨Nat.zero_le _,fun j hj=>by omega⟩ ?_ trivial rfl ?_
 ·simp only[push_cast,↓reduceIte,Nat.reduceEqDiff,Nat.reduceBEq,Nat.reduceAdd,Nat.reduceSub,Int.reduceToNat]
 ·intro k ⟨hk,hok⟩
  have hrk:=gK s k;(refine wlkX6 ?_ ?_ ?_ ?_ ?_ ?_<;>intros<;>try with_reducible exact trivial);all_goals try(refine fnG ?_;try with_reducible exact trivial)
  ·rw[ab4 (s:=s) (k:=k) (by omega) (by(simp_all [inB];try omega))]
  ·refine⟨k+1,⟨by omega,fun j hj=>?_⟩,by dsimp only;omega,by simp only[push_cast,↓reduceIte,Nat.reduceEqDiff,Nat.reduceBEq,Nat.reduceAdd,Nat.reduceSub,Int.reduceToNat],trivial,rfl⟩
   by_cases h1:j<k
   ·exact hok j h1
   ·have:j=k:=by omega
    subst this;simp_all [inB]
  ·rw[qd fun j hj=>hok j (by omega)]
def GWs:Ctx:={fn:=aZ [(29,φIn)],io:=aZ []}
theorem apI:au Try.prog GWs:=okΓ (fC Try.func29 iJ aj) aj
def aoU:=ah (Γ:=GWs) (f:=29) (φ:=φIn) rfl
theorem eF:Sound Try.prog 40 fG:=by
 refine ak mixed apI Try.func40 rfl 23 rfl [.tmp 2] rfl (by kernel_rfl) fun ps r hr=>?_;obtain⟨s,rfl,hq⟩:=bJ hr;clear hr;split at hq
 case isFalse=>cases hq
 case isTrue hlen=>
 cases hq;refine⟨by simp,?_⟩;simp only[dIs,dUs,dSs,bQ,bU,bP,bT,aL,bS,aQ,aO,aR,aP];have gws_c29:=aoU;have ap2:=bO;(refine wlkX ?_;intros);refine aD (α:=Nat) mixed (fun k=>[(0,sv s),(3,iv k)]) (fun _=>[]) (fun _=>0)
  (fun k=>k≤s.size∧∀j,j<k→97≤at8 s j∧at8 s j≤122) (fun k=>s.size-k) (by kernel_rfl) 0 ⟨Nat.zero_le _,fun j hj=>by omega⟩ ?_ trivial rfl ?_
 ·simp only[push_cast,↓reduceIte,Nat.reduceEqDiff,Nat.reduceBEq,Nat.reduceAdd,Nat.reduceSub,Int.reduceToNat]
 ·intro k ⟨hk,hok⟩
  have hrk:=gK s k;(refine wlkX6 ?_ ?_ ?_ ?_ ?_ ?_<;>intros<;>try with_reducible exact trivial);all_goals try(refine fnG ?_;try with_reducible exact trivial)
  all_goals try(rw[ab4 (s:=s) (k:=k) (by omega) (by omega)];done)
  all_goals try(rw[qd fun j hj=>hok j (by omega)];done)
  all_goals
   refine⟨k+1,⟨by omega,fun j hj=>?_⟩,by dsimp only;omega,by simp only[push_cast,↓reduceIte,Nat.reduceEqDiff,Nat.reduceBEq,Nat.reduceAdd,Nat.reduceSub,Int.reduceToNat],trivial,rfl⟩;by_cases h1:j<k
   ·exact hok j h1
   ·have:j=k:=by omega
    subst this;simp_all;try omega
def iH:Int→List Nat→Int
 |left,[]=>left
 |left,n::l=>if left-n<0 then-1 else iH (left-n) l
theorem rH:∀{l:List Nat} {left:Int},0≤iH left l→0≤left→∀n∈l,(n:Int)≤left
 |[],left,h,h0,n,hn=>by simp at hn
 |m::l,left,h,h0,n,hn=>by
  unfold iH at h;split at h
  ·omega
  ·rename_i h1
   rcases List.mem_cons.1 hn with rfl|h2
   ·omega
   ·have:=rH h (by omega) n h2
    omega
abbrev LS:=List ByteArray
abbrev dSS:Dec (List LS):=dL 1 dSs
section
variable {α β:Type} {n sz sz' f i:Nat} {ob:bg} {k k' fr:Bool} {l:List LS}
theorem aoj {g:LS→β} (h:i<l.length):Option.map g l[i]?=some (g ((l[i]?).getD [])):=by simp[h]
theorem kr {F:PV→Option PV} {g g':α→PV} (h:∀x,F (g x)=some (g' x)):∀{l:List α},(l.map g).mapM F=some (l.map g')
 |[]=>rfl
 |x::l=>by rw[List.map_cons,List.mapM_cons,h x,kr h];rfl
theorem adO {m:Nat} {p:LS}:reify false m ob (f+2) (.lst k sz (p.map fun s=> .val (.string s)))=some (.lst false sz (p.map fun s=> .val (.string s))):=jf
theorem lF {m:Nat} {p:LS}:reify fr m ob (f+2) (.lst true sz (p.map fun s=> .val (.string s)))=some (.lst fr sz (p.map fun s=> .val (.string s))):=by
 cases fr
 ·exact jf
 ·exact rO
theorem aaN:reify false n ob (f+3) (.lst k sz (l.map fun p=> .lst k' sz' (p.map fun s=> .val (.string s))))=some (.lst false sz (l.map fun p=> .lst false sz' (p.map fun s=> .val (.string s)))):=by show(if false=true∧k=false∧(l.map fun p=>PV.lst k' sz' (p.map fun s=>PV.val (.string s)))≠[]then none else((l.map fun p=>PV.lst k' sz' (p.map fun s=>PV.val (.string s))).mapM (reify false n ob (f+2))).map (PV.lst false sz))=_;rw[kr (g':=fun p=>PV.lst false sz' (p.map fun s=>PV.val (.string s))) fun p=>adO];simp
theorem aaT:reify true n ob (f+3) (.lst true sz (l.map fun p=> .lst true sz' (p.map fun s=> .val (.string s))))=some (.lst true sz (l.map fun p=> .lst true sz' (p.map fun s=> .val (.string s)))):=by show(if true=true∧true=false∧(l.map fun p=>PV.lst true sz' (p.map fun s=>PV.val (.string s)))≠[]then none else((l.map fun p=>PV.lst true sz' (p.map fun s=>PV.val (.string s))).mapM (reify true n ob (f+2))).map (PV.lst true sz))=_;rw[kr (g':=fun p=>PV.lst true sz' (p.map fun s=>PV.val (.string s))) fun p=>lF];simp
theorem sP {m T:Nat} (hm:m=l.length):oU fr (f+2) ob sz 0 m (some (T,sz,l.map fun p=> .lst true sz' (p.map fun s=> .val (.string s))))=some (.lst fr sz (l.map fun p=> .lst fr sz' (p.map fun s=> .val (.string s)))):=by
 subst hm;have e:((l.map fun p=>PV.lst true sz' (p.map fun s=>PV.val (.string s))).drop 0).take l.length=l.map fun p=>PV.lst true sz' (p.map fun s=>PV.val (.string s)):=by rw[List.drop_zero,List.take_of_length_le (by simp)]
 have e2:=kr (l:=l) (F:=reify fr 0 ob (f+2)) (g:=fun p=>PV.lst true sz' (p.map fun s=>PV.val (.string s))) (g':=fun p=>PV.lst fr sz' (p.map fun s=>PV.val (.string s))) fun p=>lF;simp only[oU,e,e2,Nat.zero_add,List.length_map,Nat.le_refl,and_self,if_true,Option.map_some]
theorem af6 {xs:List α} {z:α} {j:Nat} (h:j<xs.length):(jS xs z j)[j]?=some z:=by
 unfold jS;have hl:(xs.take j).length=j:=by simp;omega
 rw[List.getElem?_append_right (by omega),hl,Nat.sub_self,List.getElem?_replicate,if_pos (by omega)]
end
attribute[push_cast]
 aoj aaN aaT sP af6
theorem qM {α:Type} {d:α} {xs ys:List α} (hl:xs.length=ys.length) (h:∀j,j<xs.length→xs[j]?.getD d=ys[j]?.getD d):xs=ys:=by apply List.ext_getElem hl;intro i h1 h2;have:=h i h1;simpa [h1,h2]using this
abbrev lU (l:LS):Prop:=l.length≤1048576∧∀i:Nat,(l[i]?.getD .empty).size≤1048576
instance (l:LS):Decidable (lU l):=Classical.propDecidable _
theorem iI {α:Type} {d:α} {p:α→Bool} {l:List α} {k:Nat} (h:k<l.length) (hb:p (l[k]?.getD d)=false):l.all p=false:=by rw[List.all_eq_false];exact⟨l[k],List.getElem_mem h,by simp[h]at hb;simp[hb]⟩
theorem eH {α:Type} {d:α} {p:α→Bool} {l:List α} (h:∀j,j<l.length→p (l[j]?.getD d)=true):l.all p=true:=by rw[List.all_eq_true];intro x hx;obtain⟨j,hj,rfl⟩:=List.getElem_of_mem hx;simpa [hj]using h j hj
def qy (c:Int):Bool:=inB c 97 122
def zX (c:Int):Bool:=inB c 48 57
def zB (s:ByteArray) (k:Nat):Bool:=decide (0<k)&&zX (at8 s (k-1))
def rR (s:ByteArray) (k:Nat):Bool:=qy (at8 s k)||(zX (at8 s k)&& !zB s k)||(decide (at8 s k=46)&&(decide (k=0)||decide (k+1=s.size)))
def anyS (s:ByteArray) (k:Nat):Bool:=(List.range k).any fun j=>qy (at8 s j)
theorem wH (s:ByteArray) (k:Nat):anyS s (k+1)=(anyS s k||qy (at8 s k)):=by simp[anyS,List.range_succ,List.any_append]
def xO (s:ByteArray):Bool:=(List.range s.size).all (rR s)&&(anyS s s.size&&decide (s.size≤12))
theorem aeN {s:ByteArray} {k:Nat} (h:k<s.size) (hb:rR s k=false):xO s=false:=by
 have:(List.range s.size).all (rR s)=false:=by rw[List.all_eq_false];exact⟨k,List.mem_range.2 h,by simp[hb]⟩
 simp[xO,this]
theorem ah7 {s:ByteArray} (h:∀j,j<s.size→rR s j=true):xO s=(anyS s s.size&&decide (s.size≤12)):=by
 have:(List.range s.size).all (rR s)=true:=by rw[List.all_eq_true];exact fun k hk=>h k (List.mem_range.1 hk)
 simp[xO,this]
def uj:Fun:=F1 dS fun s=>if s.size≤1099511627776 then some (bv (xO s))else none
theorem pR {s:ByteArray} (h:s.size≤1099511627776):uj [.val (.string s)]=some (.val (.bool (xO s))):=
 (iy (A:=dS) s).trans (if_pos h)
theorem iP {s:ByteArray} {k:Nat}:rR s k=true↔(97≤at8 s k∧at8 s k≤122)∨(48≤at8 s k∧at8 s k≤57∧zB s k=false)∨(at8 s k=46∧(k=0∨k+1=s.size)):=by simp[rR,qy,zX,inB,or_assoc,and_assoc]
theorem abP {c:Int} (h:c<97∨122<c):qy c=false:=Bool.eq_false_iff.2 fun h2=>by have:=aB.1 h2;omega
theorem akb {c:Int} (h:c<48∨57<c):zX c=false:=Bool.eq_false_iff.2 fun h2=>by have:=aB.1 h2;omega
structure abN (s:ByteArray) (k:Nat) (n:Int):Prop where
 kk:k≤s.size
 n0:0≤n
 n1:n≤k
 all:∀j,j<k→rR s j=true
 any:decide (0<n)=anyS s k
theorem abN.zero (s:ByteArray):abN s 0 0:=⟨Nat.zero_le _,by omega,by omega,fun j hj=>by omega,rfl⟩
theorem abN.letter {s:ByteArray} {k:Nat} {n:Int} (h:abN s k n) (hk:k<s.size) (hs:qy (at8 s k)=true):abN s (k+1) (n+1):=
 ⟨by omega,by have:=h.n0;omega,by have:=h.n1;omega,fun j hj=>by
  by_cases h1:j<k
  ·exact h.all j h1
  ·have:j=k:=by omega
   subst this;simp[rR,hs],by
  rw[wH,hs,Bool.or_true];have:=h.n0;simp;omega⟩
theorem abN.other {s:ByteArray} {k:Nat} {n:Int} (h:abN s k n) (hk:k<s.size) (hp:rR s k=true) (hs:qy (at8 s k)=false):abN s (k+1) n:=
 ⟨by omega,h.n0,by have:=h.n1;omega,fun j hj=>by
  by_cases h1:j<k
  ·exact h.all j h1
  ·have:j=k:=by omega
   subst this;exact hp,by rw[wH,hs,Bool.or_false];exact h.any⟩
theorem abN.done {s:ByteArray} {k:Nat} {n:Int} (h:abN s k n) (hk:¬k<s.size):xO s=(decide (0<n)&&decide (s.size≤12)):=by
 have hk2:=h.kk;have:k=s.size:=by omega
 subst this;rw[ah7 h.all,h.any]
theorem oh (s:ByteArray) (k:Nat):zB s (k+1)=zX (at8 s k):=by simp[zB]
theorem iw:Sound Try.prog 41 uj:=by
 refine ak mixed bN Try.func41 rfl 57 rfl [.tmp 2] rfl (by kernel_rfl) fun ps r hr=>?_;obtain⟨s,rfl,hq⟩:=bJ hr;clear hr;split at hq
 case isFalse=>cases hq
 case isTrue hlen=>
 cases hq;refine⟨by simp,?_⟩;simp only[dIs,dUs,dSs,bQ,bU,bP,bT,aL,bS,aQ,aO,aR,aP];(refine wlkX ?_;intros);refine aD (α:=Nat×Int) mixed (fun k=>[(0,sv s),(3,iv k.2),(4,bv (zB s k.1)),(5,iv k.1)]) (fun _=>[]) (fun _=>0)
  (fun k=>abN s k.1 k.2) (fun k=>s.size-k.1) (by kernel_rfl) (0,0) (abN.zero s) ?_ trivial rfl ?_
 ·simp only[push_cast,↓reduceIte,Nat.reduceEqDiff,Nat.reduceBEq,Nat.reduceAdd,Nat.reduceSub,Int.reduceToNat]
  rfl
 ·rintro⟨k,n⟩ hi
  dsimp only at hi;have hk:=hi.kk;have hn0:=hi.n0;have hn1:=hi.n1;have hrk:=gK s k;generalize hd:zB s k=d
  repeat' (first|(with_reducible first|apply nK|apply fH|apply iC|apply iF|apply mJ|apply aci|apply l9|apply ni|apply abp|apply nD|apply nG|apply abY|apply mY|apply mG|apply l7)|((with_reducible apply dM);(simp only[List.map_cons,List.map_nil]<;>exact rfl))|((with_reducible apply iD);(simp only[List.map_cons,List.map_nil]<;>exact rfl);decide+kernel)|((with_reducible apply ng);rfl)|((first|((with_reducible apply i_V);rfl;rfl;rfl)|((first|((with_reducible apply i_E);rfl)|((with_reducible apply i_S);rfl));first|rfl|(simp only[push_cast,↓reduceIte]))|((with_reducible apply aa9);rfl;rfl)|((with_reducible apply acr);rfl;rfl;rfl)|(with_reducible first|apply ab2|apply iG));(simp(disch:=(first|omega|(simp only[push_cast];first|done|omega))) only[push_cast,↓reduceIte,Nat.reduceEqDiff,Nat.reduceBEq,Nat.reduceAdd,Nat.reduceSub,Int.reduceToNat, *]<;>with_reducible exact rfl);all_goals try(first|(with_reducible first|refine hyT ?_|refine hyF ?_|exact hyA|exact hyB)|(intro hX;first|(cases hX;done)|((try simp only[decide_eq_true_eq,decide_eq_false_iff_not,Bool.not_eq_true',Bool.not_eq_false']at hX);(try have hXb:=aB.1 hX))))))
  all_goals try(refine fnG ?_;try with_reducible exact trivial)
  all_goals try(exfalso;omega)
  all_goals(first
   |(rw[aeN (k:=k) (by omega) (Bool.eq_false_iff.2 fun h=>by rcases iP.1 h with h|h|h<;>(first|omega|(simp_all;done)|(simp_all;omega)))];done)
   |exact⟨(k+1,n+1),hi.letter (by omega) (aB.2 ⟨by omega,by omega⟩),by dsimp only;omega,by(have hdg:=@akb (at8 s k) (by omega);simp only[push_cast,↓reduceIte,Nat.reduceEqDiff,Nat.reduceBEq,Nat.reduceAdd,Nat.reduceSub,Int.reduceToNat,oh,hdg]),trivial,rfl⟩
   |exact⟨(k+1,n),hi.other (by omega) (iP.2 (.inr (.inr ⟨by omega,by omega⟩))) (abP (by omega)),by dsimp only;omega,by(have hdg:=@akb (at8 s k) (by omega);simp only[push_cast,↓reduceIte,Nat.reduceEqDiff,Nat.reduceBEq,Nat.reduceAdd,Nat.reduceSub,Int.reduceToNat,oh,hdg];try exact congrArg (fun z=>PV.val (Value.int .i64 z)) (by omega)),trivial,rfl⟩
   |exact⟨(k+1,n),hi.other (by omega) (iP.2 (.inr (.inl ⟨by omega,by omega,by simp_all⟩))) (abP (by omega)),by dsimp only;omega,by(have hdg:zX (at8 s k)=true:=aB.2 ⟨by omega,by omega⟩;simp only[push_cast,↓reduceIte,Nat.reduceEqDiff,Nat.reduceBEq,Nat.reduceAdd,Nat.reduceSub,Int.reduceToNat,oh,hdg]),trivial,rfl⟩
   |(rw[hi.done (by omega)];simp_all;done)
   |(rw[hi.done (by omega)];simp_all;omega))
def adi:Fun:=F1 dU fun n=>some (bv (inB n 48 57))
theorem abQ (n:Int):adi [.val (.int .u8 n)]=some (.val (.bool (inB n 48 57))):=rfl
theorem sj:Sound Try.prog 66 adi:=by
 refine ak mixed bN Try.func66 rfl 9 rfl [.tmp 2] rfl (by kernel_rfl) fun ps r hr=>?_;obtain⟨n,rfl,hr⟩:=bJ hr;cases hr;refine⟨by simp,?_⟩;simp only[dIs,dUs,dSs,bQ,bU,bP,bT,aL,bS,aQ,aO,aR,aP];(refine wlkX6 ?_ ?_ ?_ ?_ ?_ ?_<;>intros<;>try with_reducible exact trivial);all_goals(refine fnG ?_;try with_reducible exact trivial)
 all_goals(first|(simp_all [inB];done)|(simp_all [inB];omega))
def GPt:Ctx:={fn:=aZ [(65,jR),(66,adi)],io:=aZ []}
theorem aoX:au Try.prog GPt:=okΓ (fC Try.func65 nQ (fC Try.func66 sj aj)) aj
def aoP:=ah (Γ:=GPt) (f:=65) (φ:=jR) rfl
def aq9:=ah (Γ:=GPt) (f:=66) (φ:=adi) rfl
theorem lN:Sound Try.prog 52 uj:=by
 refine ak mixed aoX Try.func52 rfl 51 rfl [.tmp 2] rfl (by kernel_rfl) fun ps r hr=>?_;obtain⟨s,rfl,hq⟩:=bJ hr;clear hr;split at hq
 case isFalse=>cases hq
 case isTrue hlen=>
 cases hq;refine⟨by simp,?_⟩;simp only[dIs,dUs,dSs,bQ,bU,bP,bT,aL,bS,aQ,aO,aR,aP];have gpt_c65:=aoP;have gpt_c66:=aq9;have ap:=om;have ap2:=abQ;(refine wlkX ?_;intros);refine aD (α:=Nat×Int) mixed (fun k=>[(0,sv s),(3,iv k.2),(7,iv s.size),(8,iv k.1)]) (fun _=>[]) (fun _=>0)
  (fun k=>abN s k.1 k.2) (fun k=>s.size-k.1) (by kernel_rfl) (0,0) (abN.zero s) ?_ trivial rfl ?_
 ·simp only[push_cast,↓reduceIte,Nat.reduceEqDiff,Nat.reduceBEq,Nat.reduceAdd,Nat.reduceSub,Int.reduceToNat]
 ·rintro⟨k,n⟩ hi
  dsimp only at hi;have hk:=hi.kk;have hn0:=hi.n0;have hn1:=hi.n1;have hrk:=gK s k;have hpd:zB s k=(decide (0<k)&&inB (at8 s (k-1)) 48 57):=rfl;have hsm:inB (at8 s k) 97 122=false→(at8 s k<97∨122<at8 s k):=fun h=>by
   by_cases hh:97≤at8 s k∧at8 s k≤122
   ·rw[aB.2 hh]at h;cases h
   ·omega
  have hdgk:inB (at8 s k) 48 57=false→(at8 s k<48∨57<at8 s k):=fun h=>by
   by_cases hh:48≤at8 s k∧at8 s k≤57
   ·rw[aB.2 hh]at h;cases h
   ·omega
  have hpd:=Lib.hid hpd;have hsm:=Lib.hid hsm;have hdgk:=Lib.hid hdgk
  repeat' (first|(with_reducible first|apply nK|apply fH|apply iC|apply iF|apply mJ|apply aci|apply l9|apply ni|apply abp|apply nD|apply nG|apply abY|apply mY|apply mG|apply l7)|((with_reducible apply dM);(simp only[List.map_cons,List.map_nil]<;>exact rfl))|((with_reducible apply iD);(simp only[List.map_cons,List.map_nil]<;>exact rfl);decide+kernel)|((with_reducible apply ng);rfl)|((first|((with_reducible apply i_V);rfl;rfl;rfl)|((first|((with_reducible apply i_E);rfl)|((with_reducible apply i_S);rfl));first|rfl|(simp only[push_cast,↓reduceIte]))|((with_reducible apply aa9);rfl;rfl)|((with_reducible apply acr);rfl;rfl;rfl)|(with_reducible first|apply ab2|apply iG));(simp(disch:=(first|omega|(simp only[push_cast];first|done|omega))) only[push_cast,↓reduceIte,Nat.reduceEqDiff,Nat.reduceBEq,Nat.reduceAdd,Nat.reduceSub,Int.reduceToNat, *]<;>with_reducible exact rfl);all_goals try(first|(with_reducible first|refine hyT ?_|refine hyF ?_|exact hyA|exact hyB)|(intro hX;first|(cases hX;done)|((try simp only[decide_eq_true_eq,decide_eq_false_iff_not,Bool.not_eq_true',Bool.not_eq_false']at hX);(try have hXb:=aB.1 hX))))))
  all_goals try(refine fnG ?_;try with_reducible exact trivial)
  all_goals try(exfalso;omega)
  all_goals(have hpd1:=hpd.out;have hsm1:=hsm.out;have hdgk1:=hdgk.out)
  all_goals(first
   |(rw[aeN (k:=k) (by omega) (Bool.eq_false_iff.2 fun h=>by rcases iP.1 h with h|h|h<;>(first|omega|(simp_all;done)|(simp_all;omega)))];done)
   |exact⟨(k+1,n+1),hi.letter (by omega) (by assumption),by dsimp only;omega,by simp only[push_cast,↓reduceIte,Nat.reduceEqDiff,Nat.reduceBEq,Nat.reduceAdd,Nat.reduceSub,Int.reduceToNat],trivial,rfl⟩
   |exact⟨(k+1,n),hi.other (by omega) (iP.2 (.inr (.inr ⟨by omega,by omega⟩))) (by assumption),by dsimp only;omega,by(simp only[push_cast,↓reduceIte,Nat.reduceEqDiff,Nat.reduceBEq,Nat.reduceAdd,Nat.reduceSub,Int.reduceToNat];try exact congrArg (fun z=>PV.val (Value.int .i64 z)) (by omega)),trivial,rfl⟩
   |exact⟨(k+1,n),hi.other (by omega) (iP.2 (.inr (.inl ⟨by omega,by omega,by simp_all⟩))) (by assumption),by dsimp only;omega,by simp only[push_cast,↓reduceIte,Nat.reduceEqDiff,Nat.reduceBEq,Nat.reduceAdd,Nat.reduceSub,Int.reduceToNat],trivial,rfl⟩
   |(rw[hi.done (by omega)];simp_all;done)
   |(rw[hi.done (by omega)];simp_all;omega))
def bD (l:LS):Bool:=decide (l.length≤12)&&l.all cu
def gV:Fun:=F1 dSs fun l=>if lU l then some (bv (bD l))else none
theorem kN {l:LS} (h:lU l):gV [.lst false 1 (l.map fun s=> .val (.string s))]=some (.val (.bool (bD l))):=
 (iy (A:=dSs) l).trans (if_pos h)
def ae0:Ctx:={fn:=aZ [(40,fG)],io:=aZ []}
theorem adq:au Try.prog ae0:=okΓ (fC Try.func40 eF aj) aj
def acW:=ah (Γ:=ae0) (f:=40) (φ:=fG) rfl
theorem iV:Sound Try.prog 27 gV:=by
 refine ak mixed adq Try.func27 rfl 19 rfl [.tmp 2] rfl (by kernel_rfl) fun ps r hr=>?_;obtain⟨l,rfl,hq⟩:=bJ hr;clear hr;split at hq
 case isFalse=>cases hq
 case isTrue hok=>
 cases hq;obtain⟨hlen,hsz⟩:=hok;refine⟨by simp,?_⟩;simp only[dIs,dUs,dSs,bQ,bU,bP,bT,aL,bS,aQ,aO,aR,aP];have gswords_c40:=acW;(refine wlkX6 ?_ ?_ ?_ ?_ ?_ ?_<;>intros<;>try with_reducible exact trivial);refine aD (α:=Nat) mixed (fun k=>[(0,.lst false 1 (l.map fun s=> .val (.string s))),(3,iv k)]) (fun _=>[]) (fun _=>0)
  (fun k=>k≤l.length∧∀j,j<k→cu (l[j]?.getD .empty)=true) (fun k=>l.length-k) (by kernel_rfl) 0 ⟨Nat.zero_le _,fun j hj=>by omega⟩ ?_ trivial rfl ?_
 ·simp only[push_cast,↓reduceIte,Nat.reduceEqDiff,Nat.reduceBEq,Nat.reduceAdd,Nat.reduceSub,Int.reduceToNat]
 ·intro k ⟨hk,hok⟩
  have ap:=@gH (l[k]?.getD .empty) (by have:=hsz k;omega);clear hsz;(refine wlkX6 ?_ ?_ ?_ ?_ ?_ ?_<;>intros<;>try with_reducible exact trivial);all_goals try(refine fnG ?_;try with_reducible exact trivial)
  ·rw[show bD l=false from by(unfold bD;rw[iI (d:=.empty) (k:=k) (by omega) (by simp_all),Bool.and_false])]
  ·refine⟨k+1,⟨by omega,fun j hj=>?_⟩,by dsimp only;omega,by simp only[push_cast,↓reduceIte,Nat.reduceEqDiff,Nat.reduceBEq,Nat.reduceAdd,Nat.reduceSub,Int.reduceToNat],trivial,rfl⟩
   by_cases h1:j<k
   ·exact hok j h1
   ·have:j=k:=by omega
    subst this;simp_all
  ·rw[show bD l=decide (l.length≤12)from by(unfold bD;rw[eH (d:=.empty) fun j hj=>hok j (by omega),Bool.and_true])]
   simp;omega
def agp:Ctx:={fn:=aZ [(51,fG)],io:=aZ []}
theorem adK:au Try.prog agp:=okΓ (fC Try.func51 eG aj) aj
def ac2:=ah (Γ:=agp) (f:=51) (φ:=fG) rfl
theorem iX:Sound Try.prog 33 gV:=by
 refine ak mixed adK Try.func33 rfl 18 rfl [.tmp 2] rfl (by kernel_rfl) fun ps r hr=>?_;obtain⟨l,rfl,hq⟩:=bJ hr;clear hr;split at hq
 case isFalse=>cases hq
 case isTrue hok=>
 cases hq;obtain⟨hlen,hsz⟩:=hok;refine⟨by simp,?_⟩;simp only[dIs,dUs,dSs,bQ,bU,bP,bT,aL,bS,aQ,aO,aR,aP];have giwords_c51:=ac2;(refine wlkX6 ?_ ?_ ?_ ?_ ?_ ?_<;>intros<;>try with_reducible exact trivial);refine aD (α:=Nat) mixed (fun k=>[(0,.lst false 1 (l.map fun s=> .val (.string s))),(5,.lst false 1 (l.map fun s=> .val (.string s))),(6,iv l.length),(7,iv k)]) (fun _=>[]) (fun _=>0)
  (fun k=>k≤l.length∧∀j,j<k→cu (l[j]?.getD .empty)=true) (fun k=>l.length-k) (by kernel_rfl) 0 ⟨Nat.zero_le _,fun j hj=>by omega⟩ ?_ trivial rfl ?_
 ·simp only[push_cast,↓reduceIte,Nat.reduceEqDiff,Nat.reduceBEq,Nat.reduceAdd,Nat.reduceSub,Int.reduceToNat]
 ·intro k ⟨hk,hok⟩
  have ap:=@gH (l[k]?.getD .empty) (by have:=hsz k;omega);clear hsz;(refine wlkX6 ?_ ?_ ?_ ?_ ?_ ?_<;>intros<;>try with_reducible exact trivial);all_goals try(refine fnG ?_;try with_reducible exact trivial)
  ·rw[show bD l=false from by(unfold bD;rw[iI (d:=.empty) (k:=k) (by omega) (by simp_all),Bool.and_false])]
  ·refine⟨k+1,⟨by omega,fun j hj=>?_⟩,by dsimp only;omega,by simp only[push_cast,↓reduceIte,Nat.reduceEqDiff,Nat.reduceBEq,Nat.reduceAdd,Nat.reduceSub,Int.reduceToNat],trivial,rfl⟩
   by_cases h1:j<k
   ·exact hok j h1
   ·have:j=k:=by omega
    subst this;simp_all
  ·rw[show bD l=decide (l.length≤12)from by(unfold bD;rw[eH (d:=.empty) fun j hj=>hok j (by omega),Bool.and_true])]
   simp;omega
def bq (l:LS):Bool:=decide (l.length≤20)&&l.all xO
def eZ:Fun:=F1 dSs fun l=>if lU l then some (bv (bq l))else none
theorem gu {l:LS} (h:lU l):eZ [.lst false 1 (l.map fun s=> .val (.string s))]=some (.val (.bool (bq l))):=
 (iy (A:=dSs) l).trans (if_pos h)
def ajt:Ctx:={fn:=aZ [(41,uj)],io:=aZ []}
theorem ae8:au Try.prog ajt:=okΓ (fC Try.func41 iw aj) aj
def aeI:=ah (Γ:=ajt) (f:=41) (φ:=uj) rfl
theorem cO:Sound Try.prog 28 eZ:=by
 refine ak mixed ae8 Try.func28 rfl 19 rfl [.tmp 2] rfl (by kernel_rfl) fun ps r hr=>?_;obtain⟨l,rfl,hq⟩:=bJ hr;clear hr;split at hq
 case isFalse=>cases hq
 case isTrue hok=>
 cases hq;obtain⟨hlen,hsz⟩:=hok;refine⟨by simp,?_⟩;simp only[dIs,dUs,dSs,bQ,bU,bP,bT,aL,bS,aQ,aO,aR,aP];have gspats_c41:=aeI;(refine wlkX6 ?_ ?_ ?_ ?_ ?_ ?_<;>intros<;>try with_reducible exact trivial);refine aD (α:=Nat) mixed (fun k=>[(0,.lst false 1 (l.map fun s=> .val (.string s))),(3,iv k)]) (fun _=>[]) (fun _=>0)
  (fun k=>k≤l.length∧∀j,j<k→xO (l[j]?.getD .empty)=true) (fun k=>l.length-k) (by kernel_rfl) 0 ⟨Nat.zero_le _,fun j hj=>by omega⟩ ?_ trivial rfl ?_
 ·simp only[push_cast,↓reduceIte,Nat.reduceEqDiff,Nat.reduceBEq,Nat.reduceAdd,Nat.reduceSub,Int.reduceToNat]
 ·intro k ⟨hk,hok⟩
  have ap:=@pR (l[k]?.getD .empty) (by have:=hsz k;omega);clear hsz;(refine wlkX6 ?_ ?_ ?_ ?_ ?_ ?_<;>intros<;>try with_reducible exact trivial);all_goals try(refine fnG ?_;try with_reducible exact trivial)
  ·rw[show bq l=false from by(unfold bq;rw[iI (d:=.empty) (k:=k) (by omega) (by simp_all),Bool.and_false])]
  ·refine⟨k+1,⟨by omega,fun j hj=>?_⟩,by dsimp only;omega,by simp only[push_cast,↓reduceIte,Nat.reduceEqDiff,Nat.reduceBEq,Nat.reduceAdd,Nat.reduceSub,Int.reduceToNat],trivial,rfl⟩
   by_cases h1:j<k
   ·exact hok j h1
   ·have:j=k:=by omega
    subst this;simp_all
  ·rw[show bq l=decide (l.length≤20)from by(unfold bq;rw[eH (d:=.empty) fun j hj=>hok j (by omega),Bool.and_true])]
   simp;omega
def ajs:Ctx:={fn:=aZ [(52,uj)],io:=aZ []}
theorem afH:au Try.prog ajs:=okΓ (fC Try.func52 lN aj) aj
def agd:=ah (Γ:=ajs) (f:=52) (φ:=uj) rfl
theorem cK:Sound Try.prog 34 eZ:=by
 refine ak mixed afH Try.func34 rfl 18 rfl [.tmp 2] rfl (by kernel_rfl) fun ps r hr=>?_;obtain⟨l,rfl,hq⟩:=bJ hr;clear hr;split at hq
 case isFalse=>cases hq
 case isTrue hok=>
 cases hq;obtain⟨hlen,hsz⟩:=hok;refine⟨by simp,?_⟩;simp only[dIs,dUs,dSs,bQ,bU,bP,bT,aL,bS,aQ,aO,aR,aP];have gipats_c52:=agd;(refine wlkX6 ?_ ?_ ?_ ?_ ?_ ?_<;>intros<;>try with_reducible exact trivial);refine aD (α:=Nat) mixed (fun k=>[(0,.lst false 1 (l.map fun s=> .val (.string s))),(5,.lst false 1 (l.map fun s=> .val (.string s))),(6,iv l.length),(7,iv k)]) (fun _=>[]) (fun _=>0)
  (fun k=>k≤l.length∧∀j,j<k→xO (l[j]?.getD .empty)=true) (fun k=>l.length-k) (by kernel_rfl) 0 ⟨Nat.zero_le _,fun j hj=>by omega⟩ ?_ trivial rfl ?_
 ·simp only[push_cast,↓reduceIte,Nat.reduceEqDiff,Nat.reduceBEq,Nat.reduceAdd,Nat.reduceSub,Int.reduceToNat]
 ·intro k ⟨hk,hok⟩
  have ap:=@pR (l[k]?.getD .empty) (by have:=hsz k;omega);clear hsz;(refine wlkX6 ?_ ?_ ?_ ?_ ?_ ?_<;>intros<;>try with_reducible exact trivial);all_goals try(refine fnG ?_;try with_reducible exact trivial)
  ·rw[show bq l=false from by(unfold bq;rw[iI (d:=.empty) (k:=k) (by omega) (by simp_all),Bool.and_false])]
  ·refine⟨k+1,⟨by omega,fun j hj=>?_⟩,by dsimp only;omega,by simp only[push_cast,↓reduceIte,Nat.reduceEqDiff,Nat.reduceBEq,Nat.reduceAdd,Nat.reduceSub,Int.reduceToNat],trivial,rfl⟩
   by_cases h1:j<k
   ·exact hok j h1
   ·have:j=k:=by omega
    subst this;simp_all
  ·rw[show bq l=decide (l.length≤20)from by(unfold bq;rw[eH (d:=.empty) fun j hj=>hok j (by omega),Bool.and_true])]
   simp;omega
def szS (left:Int) (l:LS):Int:=if left-l.length<0 then-1 else iH (left-l.length) (l.map (·.size))
theorem ou:∀{l:List Nat} {left:Int},0≤left→iH left l≤left
 |[],left,h=>by simp[iH]
 |n::l,left,h=>by
  unfold iH;split
  ·omega
  ·rename_i h1
   have:=ou (l:=l) (left:=left-n) (by omega);omega
theorem aec {l:LS} {left:Int} (h:0≤left):szS left l≤left:=by
 unfold szS;split
 ·omega
 ·rename_i h1
  have:=ou (l:=l.map (·.size)) (left:=left-l.length) (by omega);omega
theorem aki {l:LS} {left:Int} (h:0≤szS left l) (h0:0≤left) (h1:left≤1048576):lU l:=by
 unfold szS at h;split at h
 ·omega
 ·rename_i h2
  have h3:=rH h (by omega);refine⟨by omega,fun i=>?_⟩;by_cases hi:i<l.length
  ·have:=h3 (l[i].size) (List.mem_map.2 ⟨l[i],List.getElem_mem hi,rfl⟩)
   simp only[hi,List.getElem?_eq_getElem,Option.getD_some];omega
  ·rw[List.getElem?_eq_none (by omega)]
   simp
abbrev ajX (l:LS):Prop:=l.length≤9223372036854775807∧∀i:Nat,(l[i]?.getD .empty).size≤9223372036854775807
instance (l:LS):Decidable (ajX l):=Classical.propDecidable _
def adI:Fun:=F2 dSs dI fun l left=>if ajX l∧0≤left∧left≤1048576 then some (iv (szS left l))else none
theorem ab3 {l:LS} {left:Int} (h:ajX l) (h0:0≤left) (h1:left≤1048576):adI [.lst false 1 (l.map fun s=> .val (.string s)),.val (.int .i64 left)]=some (.val (.int .i64 (szS left l))):=
 (gD (A:=dSs) (B:=dI) l left).trans (if_pos ⟨h,h0,h1⟩)
theorem oH:Sound Try.prog 17 adI:=by
 refine ak mixed bN Try.func17 rfl 28 rfl [.tmp 4] rfl (by kernel_rfl) fun ps r hr=>?_;obtain⟨l,left0,rfl,hq⟩:=iL hr;clear hr;split at hq
 case isFalse=>cases hq
 case isTrue hok=>
 cases hq;obtain⟨⟨hlen,hsz⟩,hl0,hl1⟩:=hok;refine⟨by simp,?_⟩;simp only[dIs,dUs,dSs,bQ,bU,bP,bT,aL,bS,aQ,aO,aR,aP];(refine wlkX6 ?_ ?_ ?_ ?_ ?_ ?_<;>intros<;>try with_reducible exact trivial)
 ·(refine fnG ?_;try with_reducible exact trivial)
  simp[szS, *]
 generalize hR:szS left0 l=R;refine aD (α:=Nat×Int) mixed (fun k=>[(0,.lst false 1 (l.map fun s=> .val (.string s))),(1,iv k.2),(5,iv k.1)]) (fun k=>[]) (fun _=>0)
  (fun k=>k.1≤l.length∧0≤k.2∧k.2≤1048576∧R=iH k.2 ((l.drop k.1).map (·.size))) (fun k=>l.length-k.1) (by kernel_rfl) (0,left0-l.length) ⟨Nat.zero_le _,by dsimp only;omega,by dsimp only;omega,?_⟩ ?_ trivial rfl ?_
 ·subst hR
  simp[szS, *]
 ·simp only[push_cast,↓reduceIte,Nat.reduceEqDiff,Nat.reduceBEq,Nat.reduceAdd,Nat.reduceSub,Int.reduceToNat]
 ·rintro⟨k,left⟩ ⟨hk,hp0,hp1,hok⟩
  dsimp only at hk hp0 hp1 hok;have hs:=hsz k;have h1:k<l.length→R=if left-((l[k]?.getD .empty).size:Int)<0 then-1 else iH (left-(l[k]?.getD .empty).size) ((l.drop (k+1)).map (·.size)):=by
   intro hkn;have hd:l.drop k=l[k]?.getD .empty::l.drop (k+1):=by rw[List.drop_eq_getElem_cons hkn];simp[hkn]
   rw[hd,List.map_cons]at hok;exact hok
  have h2:¬k<l.length→R=left:=by intro hkn;rw[List.drop_eq_nil_of_le (by omega)]at hok;simpa [iH]using hok
  clear hsz hok hR;have hh1:=Lib.hid h1;have hh2:=Lib.hid h2;clear h1 h2;(refine wlkX6 ?_ ?_ ?_ ?_ ?_ ?_<;>intros<;>try with_reducible exact trivial);all_goals try(refine fnG ?_;try with_reducible exact trivial)
  ·rw[hh1.out (by omega),if_pos (by assumption)]
  ·have:=hh1.out (by omega)
   rw[if_neg (by assumption)]at this;exact⟨(k+1,left-(l[k]?.getD .empty).size),⟨by dsimp only;omega,by dsimp only;omega,by dsimp only;omega,this⟩,by dsimp only;omega,by simp only[push_cast,↓reduceIte,Nat.reduceEqDiff,Nat.reduceBEq,Nat.reduceAdd,Nat.reduceSub,Int.reduceToNat],trivial,rfl⟩
  ·rw[hh2.out (by omega)]
def adQ:Fun:=F1 dSs fun l=>if l.length≤1048576 then some (.lst true 1 (l.map fun s=> .val (.string s)))else none
theorem aa8 {l:LS} (h:l.length≤1048576):adQ [.lst false 1 (l.map fun s=> .val (.string s))]=some (.lst true 1 (l.map fun s=> .val (.string s))):=
 (iy (A:=dSs) l).trans (if_pos h)
theorem oz:Sound Try.prog 21 adQ:=by
 refine ak mixed bN Try.func21 rfl 22 rfl [.tmp 2] rfl (by kernel_rfl) fun ps r hr=>?_;obtain⟨l,rfl,hq⟩:=bJ hr;clear hr;split at hq
 case isFalse=>cases hq
 case isTrue hlen=>
 cases hq;refine⟨by simp,?_⟩;simp only[dIs,dUs,dSs,bQ,bU,bP,bT,aL,bS,aQ,aO,aR,aP];(refine wlkX ?_;intros);refine aD (α:=Nat) mixed (fun k=>[(0,.lst false 1 (l.map fun s=> .val (.string s))),(3,.row 0 1 0 l.length),(4,iv k)]) (fun k=>[(0,9,1,(jS l .empty k).map fun s=> .val (.string s))]) (fun _=>1)
  (fun k=>k≤l.length) (fun k=>l.length-k) (by kernel_rfl) 0 (Nat.zero_le _) ?_ ?_ ?_ ?_
 ·simp only[push_cast,↓reduceIte,Nat.reduceEqDiff,Nat.reduceBEq,Nat.reduceAdd,Nat.reduceSub,Int.reduceToNat]
 ·simp only[push_cast,↓reduceIte,Nat.reduceEqDiff,Nat.reduceBEq,Nat.reduceAdd,Nat.reduceSub,Int.reduceToNat,oo,List.map_replicate]
 ·simp only[push_cast,↓reduceIte,Nat.reduceEqDiff,Nat.reduceBEq,Nat.reduceAdd,Nat.reduceSub,Int.reduceToNat]
 ·intro k hk
  have hfl:(jS l .empty k).length=l.length:=jI;(refine wlkX6 ?_ ?_ ?_ ?_ ?_ ?_<;>intros<;>try with_reducible exact trivial);all_goals try(refine fnG ?_;try with_reducible exact trivial)
  ·refine⟨k+1,by omega,by dsimp only;omega,by simp only[push_cast,↓reduceIte,Nat.reduceEqDiff,Nat.reduceBEq,Nat.reduceAdd,Nat.reduceSub,Int.reduceToNat],?_,rfl⟩
   simp only[push_cast,↓reduceIte,Nat.reduceEqDiff,Nat.reduceBEq,Nat.reduceAdd,Nat.reduceSub,Int.reduceToNat];have h:k<l.length:=by omega
   rw[←qP (y:=l[k]?.getD .empty) h (by simp[h])]
  ·rw[kH (by omega)]
def abe:Fun:=F1 dSS fun l=>if l.length≤1048576∧l.all (fun p=>decide (p.length≤1048576))=true then some (.lst true 1 (l.map fun p=> .lst true 1 (p.map fun s=> .val (.string s))))else none
theorem af5 {l:List LS} (h:l.length≤1048576) (h2:l.all (fun p=>decide (p.length≤1048576))=true):abe [.lst false 1 (l.map fun p=> .lst false 1 (p.map fun s=> .val (.string s)))]=some (.lst true 1 (l.map fun p=> .lst true 1 (p.map fun s=> .val (.string s)))):=
 (iy (A:=dSS) l).trans (if_pos ⟨h,h2⟩)
def GTs:Ctx:={fn:=aZ [(21,adQ)],io:=aZ []}
theorem arj:au Try.prog GTs:=okΓ (fC Try.func21 oz aj) aj
def aol:=ah (Γ:=GTs) (f:=21) (φ:=adQ) rfl
theorem uf:Sound Try.prog 20 abe:=by
 refine ak mixed arj Try.func20 rfl 23 rfl [.tmp 2] rfl (by kernel_rfl) fun ps r hr=>?_;obtain⟨l,rfl,hq⟩:=bJ hr;clear hr;split at hq
 case isFalse=>cases hq
 case isTrue hlen=>
 cases hq;obtain⟨hlen,hall⟩:=hlen;have hat:∀k,(l[k]?.getD []).length≤1048576:=fun k=>by
  by_cases h:k<l.length
  ·have:=List.all_eq_true.1 hall _ (List.getElem_mem h)
   rw[List.getElem?_eq_getElem h,Option.getD_some];exact of_decide_eq_true this
  ·rw[List.getElem?_eq_none (by omega)]
   exact Nat.zero_le _
 clear hall;refine⟨by simp,?_⟩;simp only[dIs,dUs,dSs,bQ,bU,bP,bT,aL,bS,aQ,aO,aR,aP];have gts_c21:=aol;(refine wlkX ?_;intros);refine aD (α:=Nat) mixed (fun k=>[(0,.lst false 1 (l.map fun p=> .lst false 1 (p.map fun s=> .val (.string s)))),(3,.row 0 1 0 l.length),(4,iv k)]) (fun k=>[(0,23,1,jS (l.map fun p=> .lst true 1 (p.map fun s=> .val (.string s))) (.val (.slice none 0 0)) k)]) (fun _=>1)
  (fun k=>k≤l.length) (fun k=>l.length-k) (by kernel_rfl) 0 (Nat.zero_le _) ?_ ?_ ?_ ?_
 ·simp only[push_cast,↓reduceIte,Nat.reduceEqDiff,Nat.reduceBEq,Nat.reduceAdd,Nat.reduceSub,Int.reduceToNat]
 ·simp only[push_cast,↓reduceIte,Nat.reduceEqDiff,Nat.reduceBEq,Nat.reduceAdd,Nat.reduceSub,Int.reduceToNat,oo]
 ·simp only[push_cast,↓reduceIte,Nat.reduceEqDiff,Nat.reduceBEq,Nat.reduceAdd,Nat.reduceSub,Int.reduceToNat]
 ·intro k hk
  have ap:=aa8 (hat k);clear hat;have hfl:(jS (l.map fun p=>PV.lst true 1 (p.map fun s=> .val (.string s))) (.val (.slice none 0 0)) k).length=l.length:=by rw[jI,List.length_map]
  (refine wlkX6 ?_ ?_ ?_ ?_ ?_ ?_<;>intros<;>try with_reducible exact trivial);all_goals try(refine fnG ?_;try with_reducible exact trivial)
  ·refine⟨k+1,by omega,by dsimp only;omega,by simp only[push_cast,↓reduceIte,Nat.reduceEqDiff,Nat.reduceBEq,Nat.reduceAdd,Nat.reduceSub,Int.reduceToNat],?_,rfl⟩
   simp only[push_cast,↓reduceIte,Nat.reduceEqDiff,Nat.reduceBEq,Nat.reduceAdd,Nat.reduceSub,Int.reduceToNat];have h:k<l.length:=by omega
   rw[←qP (y:=PV.lst true 1 ((l[k]?.getD []).map fun s=> .val (.string s))) (by simpa using h) (by simp[h])]
  ·first|(rw[kH (by simp;omega),sP rfl];done)|(rw[kH (by simp;omega),kr (g':=fun p=>PV.lst true 1 (p.map fun s=> .val (.string s))) fun p=>lF];rfl)
def aaZ:Fun:=F2 dSs dSs fun a b=>if a.length≤1048576∧b.length≤1048576 then some (bv (decide (a=b)))else none
theorem pV {a b:LS} (h:a.length≤1048576) (h2:b.length≤1048576):aaZ [.lst false 1 (a.map fun s=> .val (.string s)),.lst false 1 (b.map fun s=> .val (.string s))]=some (.val (.bool (decide (a=b)))):=
 (gD (A:=dSs) (B:=dSs) a b).trans (if_pos ⟨h,h2⟩)
theorem jZ:Sound Try.prog 8 aaZ:=by
 refine ak mixed bN Try.func8 rfl 26 rfl [.tmp 4] rfl (by kernel_rfl) fun ps r hr=>?_;obtain⟨xs,ys,rfl,hq⟩:=iL hr;clear hr;split at hq
 case isFalse=>cases hq
 case isTrue hlen=>
 cases hq;obtain⟨hl1,hl2⟩:=hlen;refine⟨by simp,?_⟩;simp only[dIs,dUs,dSs,bQ,bU,bP,bT,aL,bS,aQ,aO,aR,aP];(refine wlkX6 ?_ ?_ ?_ ?_ ?_ ?_<;>intros<;>try with_reducible exact trivial)
 ·(refine fnG ?_;try with_reducible exact trivial)
  have:¬xs=ys:=fun h=>by subst h;simp_all
  simp[this]
 refine aD (α:=Nat) mixed (fun k=>[(0,.lst false 1 (xs.map fun s=> .val (.string s))),(1,.lst false 1 (ys.map fun s=> .val (.string s))),(5,iv k)]) (fun k=>[]) (fun _=>0)
  (fun k=>k≤xs.length∧∀j,j<k→xs[j]?.getD .empty=ys[j]?.getD .empty) (fun k=>xs.length-k) (by kernel_rfl) 0 ⟨Nat.zero_le _,fun j hj=>by omega⟩ ?_ trivial rfl ?_
 ·simp only[push_cast,↓reduceIte,Nat.reduceEqDiff,Nat.reduceBEq,Nat.reduceAdd,Nat.reduceSub,Int.reduceToNat]
 ·intro k ⟨hk,hok⟩
  (refine wlkX6 ?_ ?_ ?_ ?_ ?_ ?_<;>intros<;>try with_reducible exact trivial);all_goals try(refine fnG ?_;try with_reducible exact trivial)
  ·have:¬xs=ys:=fun h=>by subst h;simp_all
   simp[this]
  ·refine⟨k+1,⟨by omega,fun j hj=>?_⟩,by dsimp only;omega,by simp only[push_cast,↓reduceIte,Nat.reduceEqDiff,Nat.reduceBEq,Nat.reduceAdd,Nat.reduceSub,Int.reduceToNat],trivial,rfl⟩
   by_cases h1:j<k
   ·exact hok j h1
   ·have:j=k:=by omega
    subst this;assumption
  ·have:xs=ys:=qM (d:=.empty) (by omega) fun j hj=>hok j (by omega)
   simp[this]
def ab1:Fun:=F2 dSS dSS fun a b=>if a=b∧a.length≤1048576∧a.all (fun p=>decide (p.length≤1048576))=true then some (bv true)else none
theorem aes {a:List LS} (h:a.length≤1048576) (h2:a.all (fun p=>decide (p.length≤1048576))=true):ab1 [(.lst false 1 (a.map fun p=> .lst false 1 (p.map fun s=> .val (.string s)))),(.lst false 1 (a.map fun p=> .lst false 1 (p.map fun s=> .val (.string s))))]=some (.val (.bool true)):=
 (gD (A:=dSS) (B:=dSS) a a).trans (if_pos ⟨rfl,h,h2⟩)
def GEs:Ctx:={fn:=aZ [(8,aaZ)],io:=aZ []}
theorem aqb:au Try.prog GEs:=okΓ (fC Try.func8 jZ aj) aj
def att:=ah (Γ:=GEs) (f:=8) (φ:=aaZ) rfl
theorem vI:Sound Try.prog 24 ab1:=by
 refine ak mixed aqb Try.func24 rfl 27 rfl [.tmp 4] rfl (by kernel_rfl) fun ps r hr=>?_;obtain⟨l,ys,rfl,hq⟩:=iL hr;clear hr;split at hq
 case isFalse=>cases hq
 case isTrue hlen=>
 cases hq;obtain⟨rfl,hlen,hall⟩:=hlen;have hat:∀k,(l[k]?.getD []).length≤1048576:=fun k=>by
  by_cases h:k<l.length
  ·have:=List.all_eq_true.1 hall _ (List.getElem_mem h)
   rw[List.getElem?_eq_getElem h,Option.getD_some];exact of_decide_eq_true this
  ·rw[List.getElem?_eq_none (by omega)]
   exact Nat.zero_le _
 clear hall;refine⟨by simp,?_⟩;simp only[dIs,dUs,dSs,bQ,bU,bP,bT,aL,bS,aQ,aO,aR,aP];have ges_c8:=att;(refine wlkX ?_;intros);refine aD (α:=Nat) mixed (fun k=>[(0,.lst false 1 (l.map fun p=> .lst false 1 (p.map fun s=> .val (.string s)))),(1,.lst false 1 (l.map fun p=> .lst false 1 (p.map fun s=> .val (.string s)))),(5,iv k)]) (fun k=>[]) (fun _=>0)
  (fun k=>k≤l.length) (fun k=>l.length-k) (by kernel_rfl) 0 (Nat.zero_le _) ?_ trivial rfl ?_
 ·simp only[push_cast,↓reduceIte,Nat.reduceEqDiff,Nat.reduceBEq,Nat.reduceAdd,Nat.reduceSub,Int.reduceToNat]
 ·intro k hk
  have ap:=pV (hat k) (hat k);rw[decide_eq_true rfl]at ap;clear hat;(refine wlkX6 ?_ ?_ ?_ ?_ ?_ ?_<;>intros<;>try with_reducible exact trivial);all_goals try(exact fnF)
  all_goals try(exfalso;omega)
  all_goals exact⟨k+1,by omega,by dsimp only;omega,by simp only[push_cast,↓reduceIte,Nat.reduceEqDiff,Nat.reduceBEq,Nat.reduceAdd,Nat.reduceSub,Int.reduceToNat],trivial,rfl⟩
abbrev BK:=List LS×LS×Int×Int×Int
abbrev jm:Dec BK:=dA5 dSS dSs dI dI dI
abbrev qc (l:List LS):Prop:=l.length≤1048576∧l.all (fun p=>decide (p.length≤1048576))=true
def pG:Fun:=F1 jm fun b=>if qc b.1∧b.2.1.length≤1048576 then some (.agg [.lst true 1 (b.1.map fun p=> .lst true 1 (p.map fun s=> .val (.string s))),.lst true 1 (b.2.1.map fun s=> .val (.string s)),.val (.int .i64 b.2.2.1),.val (.int .i64 b.2.2.2.1),.val (.int .i64 b.2.2.2.2)])else none
theorem aav {p:List LS} {q:LS} {x y z:Int} (h:qc p) (h2:q.length≤1048576):pG [.agg [.lst false 1 (p.map fun p=> .lst false 1 (p.map fun s=> .val (.string s))),.lst false 1 (q.map fun s=> .val (.string s)),.val (.int .i64 x),.val (.int .i64 y),.val (.int .i64 z)]]=some (.agg [.lst true 1 (p.map fun p=> .lst true 1 (p.map fun s=> .val (.string s))),.lst true 1 (q.map fun s=> .val (.string s)),.val (.int .i64 x),.val (.int .i64 y),.val (.int .i64 z)]):=
 (iy (A:=jm) (p,q,x,y,z)).trans (if_pos ⟨h,h2⟩)
def GTk:Ctx:={fn:=aZ [(20,abe),(21,adQ)],io:=aZ []}
theorem arK:au Try.prog GTk:=okΓ (fC Try.func20 uf (fC Try.func21 oz aj)) aj
def apF:=ah (Γ:=GTk) (f:=20) (φ:=abe) rfl
def aqB:=ah (Γ:=GTk) (f:=21) (φ:=adQ) rfl
theorem aeX:Sound Try.prog 6 pG:=by
 refine ak mixed arK Try.func6 rfl 22 rfl [.cell 2 30] rfl (by kernel_rfl) fun ps r hr=>?_;obtain⟨⟨p,q,x,y,z⟩,rfl,hq⟩:=bJ hr;clear hr;split at hq
 case isFalse=>cases hq
 case isTrue hlen=>
 cases hq;dsimp only at hlen;have ap:=af5 hlen.1.1 hlen.1.2;have ap2:=aa8 hlen.2;clear hlen;refine⟨by simp,?_⟩;simp only[dIs,dUs,dSs,bQ,bU,bP,bT,aL,bS,aQ,aO,aR,aP];have gtk_c20:=apF;have gtk_c21:=aqB;(refine wlkX ?_;intros);all_goals(exact fnF)
def abw:Fun:=F2 jm jm fun a b=>if a=b∧qc a.1∧a.2.1.length≤1048576 then some (bv true)else none
theorem rz {p:List LS} {q:LS} {x y z:Int} (h:qc p) (h2:q.length≤1048576):abw [.agg [.lst false 1 (p.map fun p=> .lst false 1 (p.map fun s=> .val (.string s))),.lst false 1 (q.map fun s=> .val (.string s)),.val (.int .i64 x),.val (.int .i64 y),.val (.int .i64 z)],.agg [.lst false 1 (p.map fun p=> .lst false 1 (p.map fun s=> .val (.string s))),.lst false 1 (q.map fun s=> .val (.string s)),.val (.int .i64 x),.val (.int .i64 y),.val (.int .i64 z)]]=some (.val (.bool true)):=
 (gD (A:=jm) (B:=jm) (p,q,x,y,z) (p,q,x,y,z)).trans (if_pos ⟨rfl,h,h2⟩)
def GEk:Ctx:={fn:=aZ [(24,ab1),(8,aaZ)],io:=aZ []}
theorem aru:au Try.prog GEk:=okΓ (fC Try.func24 vI (fC Try.func8 jZ aj)) aj
def aqu:=ah (Γ:=GEk) (f:=24) (φ:=ab1) rfl
def atn:=ah (Γ:=GEk) (f:=8) (φ:=aaZ) rfl
theorem xQ:Sound Try.prog 10 abw:=by
 refine ak mixed aru Try.func10 rfl 32 rfl [.tmp 4] rfl (by kernel_rfl) fun ps r hr=>?_;obtain⟨⟨p,q,x,y,z⟩,b,rfl,hq⟩:=iL hr;clear hr;split at hq
 case isFalse=>cases hq
 case isTrue hlen=>
 cases hq;obtain⟨rfl,hlen⟩:=hlen;dsimp only at hlen;have ap:=aes hlen.1.1 hlen.1.2;have ap2:=pV hlen.2 hlen.2;rw[decide_eq_true rfl]at ap2;clear hlen;refine⟨by simp,?_⟩;simp only[dIs,dUs,dSs,bQ,bU,bP,bT,aL,bS,aQ,aO,aR,aP];have gek_c24:=aqu;have gek_c8:=atn;(refine wlkX ?_;intros);all_goals(exact fnF)
def nY:Int→List LS→Int
 |left,[]=>left
 |left,p::t=>if szS left p<0 then-1 else nY (szS left p) t
def acA (left:Int) (l:List LS):Int:=if left-l.length<0 then-1 else nY (left-l.length) l
theorem acs:∀{l:List LS} {left:Int},0≤left→nY left l≤left
 |[],left,h=>by simp[nY]
 |p::l,left,h=>by
  unfold nY;split
  ·omega
  ·rename_i h1
   have:=acs (l:=l) (left:=szS left p) (by omega);have:=aec (l:=p) h;omega
theorem ach:∀{l:List LS} {left:Int},0≤nY left l→0≤left→left≤1048576→∀p∈l,lU p
 |[],left,h,h0,h1,p,hp=>by simp at hp
 |q::l,left,h,h0,h1,p,hp=>by
  unfold nY at h;split at h
  ·omega
  ·rename_i h2
   rcases List.mem_cons.1 hp with rfl|h3
   ·exact aki (by omega) h0 h1
   ·have:=aec (l:=q) h0
    exact ach h (by omega) (by omega) p h3
abbrev zl (l:List LS):Prop:=l.length≤9223372036854775807∧∀i:Nat,ajX (l[i]?.getD [])
instance (l:List LS):Decidable (zl l):=Classical.propDecidable _
def abz:Fun:=F2 dSS dI fun l left=>if zl l∧left=1048576 then some (iv (acA left l))else none
theorem aeZ {l:List LS} (h:zl l):abz [.lst false 1 (l.map fun p=> .lst false 1 (p.map fun s=> .val (.string s))),.val (.int .i64 1048576)]=some (.val (.int .i64 (acA 1048576 l))):=
 (gD (A:=dSS) (B:=dI) l 1048576).trans (if_pos ⟨h,rfl⟩)
def GSs:Ctx:={fn:=aZ [(17,adI)],io:=aZ []}
theorem arJ:au Try.prog GSs:=okΓ (fC Try.func17 oH aj) aj
def aq2:=ah (Γ:=GSs) (f:=17) (φ:=adI) rfl
theorem tZ:Sound Try.prog 16 abz:=by
 refine ak mixed arJ Try.func16 rfl 27 rfl [.tmp 4] rfl (by kernel_rfl) fun ps r hr=>?_;obtain⟨l,left0,rfl,hq⟩:=iL hr;clear hr;split at hq
 case isFalse=>cases hq
 case isTrue hok=>
 cases hq;obtain⟨⟨hlen,hsz⟩,rfl⟩:=hok;refine⟨by simp,?_⟩;simp only[dIs,dUs,dSs,bQ,bU,bP,bT,aL,bS,aQ,aO,aR,aP];have gss_c17:=aq2;(refine wlkX6 ?_ ?_ ?_ ?_ ?_ ?_<;>intros<;>try with_reducible exact trivial)
 ·(refine fnG ?_;try with_reducible exact trivial)
  simp[acA, *]
 generalize hR:acA 1048576 l=R;refine aD (α:=Nat×Int) mixed (fun k=>[(0,.lst false 1 (l.map fun p=> .lst false 1 (p.map fun s=> .val (.string s)))),(1,iv k.2),(5,iv k.1)]) (fun k=>[]) (fun _=>0)
  (fun k=>k.1≤l.length∧0≤k.2∧k.2≤1048576∧R=nY k.2 (l.drop k.1)) (fun k=>l.length-k.1) (by kernel_rfl) (0,1048576-l.length) ⟨Nat.zero_le _,by dsimp only;omega,by dsimp only;omega,?_⟩ ?_ trivial rfl ?_
 ·subst hR
  simp[acA, *]
 ·simp only[push_cast,↓reduceIte,Nat.reduceEqDiff,Nat.reduceBEq,Nat.reduceAdd,Nat.reduceSub,Int.reduceToNat]
 ·rintro⟨k,left⟩ ⟨hk,hp0,hp1,hok⟩
  dsimp only at hk hp0 hp1 hok;have ap:=ab3 (hsz k) hp0 hp1;have hle:=aec (l:=l[k]?.getD []) hp0;have h1:k<l.length→R=if szS left (l[k]?.getD [])<0 then-1 else nY (szS left (l[k]?.getD [])) (l.drop (k+1)):=by
   intro hkn;have hd:l.drop k=l[k]?.getD []::l.drop (k+1):=by rw[List.drop_eq_getElem_cons hkn];simp[hkn]
   rw[hd]at hok;exact hok
  have h2:¬k<l.length→R=left:=by intro hkn;rw[List.drop_eq_nil_of_le (by omega)]at hok;simpa [nY]using hok
  clear hsz hok hR;have hh1:=Lib.hid h1;have hh2:=Lib.hid h2;clear h1 h2;(refine wlkX6 ?_ ?_ ?_ ?_ ?_ ?_<;>intros<;>try with_reducible exact trivial);all_goals try(refine fnG ?_;try with_reducible exact trivial)
  ·rw[hh1.out (by omega),if_pos (by assumption)]
  ·have:=hh1.out (by omega)
   rw[if_neg (by assumption)]at this;exact⟨(k+1,szS left (l[k]?.getD [])),⟨by dsimp only;omega,by dsimp only;omega,by dsimp only;omega,this⟩,by dsimp only;omega,by simp only[push_cast,↓reduceIte,Nat.reduceEqDiff,Nat.reduceBEq,Nat.reduceAdd,Nat.reduceSub,Int.reduceToNat],trivial,rfl⟩
  ·rw[hh2.out (by omega)]
def ajQ (p:List LS) (q:LS):Int:=if acA 1048576 p<0 then-1 else if szS (acA 1048576 p) q<0 then-1 else szS (acA 1048576 p) q
theorem ad7 {l:List LS}:acA 1048576 l≤1048576:=by
 unfold acA;split
 ·omega
 ·have:=acs (l:=l) (left:=1048576-l.length) (by omega)
  omega
def o9:Fun:=F2 jm dI fun b left=>if zl b.1∧ajX b.2.1∧left=1048576 then some (iv (ajQ b.1 b.2.1))else none
theorem zV {p:List LS} {q:LS} {x y z:Int} (h:zl p) (h2:ajX q):o9 [.agg [.lst false 1 (p.map fun p=> .lst false 1 (p.map fun s=> .val (.string s))),.lst false 1 (q.map fun s=> .val (.string s)),.val (.int .i64 x),.val (.int .i64 y),.val (.int .i64 z)],.val (.int .i64 1048576)]=some (.val (.int .i64 (ajQ p q))):=
 (gD (A:=jm) (B:=dI) (p,q,x,y,z) 1048576).trans (if_pos ⟨h,h2,rfl⟩)
def GSk:Ctx:={fn:=aZ [(17,adI),(16,abz)],io:=aZ []}
theorem ap0:au Try.prog GSk:=okΓ (fC Try.func17 oH (fC Try.func16 tZ aj)) aj
def aj1:=ah (Γ:=GSk) (f:=17) (φ:=adI) rfl
def ajp:=ah (Γ:=GSk) (f:=16) (φ:=abz) rfl
theorem afB:Sound Try.prog 4 o9:=by
 refine ak mixed ap0 Try.func4 rfl 18 rfl [.tmp 4] rfl (by kernel_rfl) fun ps r hr=>?_;obtain⟨⟨p,q,x,y,z⟩,left,rfl,hq⟩:=iL hr;clear hr;split at hq
 case isFalse=>cases hq
 case isTrue hok=>
 cases hq;obtain⟨hok1,hok2,rfl⟩:=hok;dsimp only at hok1 hok2;have ap:=aeZ hok1;have hle:=ad7 (l:=p);have ap2:0≤acA 1048576 p→_:=fun h=>ab3 hok2 h hle;clear hok1 hok2;refine⟨by simp,?_⟩;simp only[dIs,dUs,dSs,bQ,bU,bP,bT,aL,bS,aQ,aO,aR,aP];by_cases hn:acA 1048576 p<0
 ·clear ap2
  have gsk_c17:=aj1;have gsk_c16:=ajp;(refine wlkX ?_;intros);all_goals(refine fnG ?_;try with_reducible exact trivial)
  all_goals simp[ajQ,hn]
 ·have ap3:=ap2 (by omega)
  clear ap2;have gsk_c17:=aj1;have gsk_c16:=ajp;(refine wlkX6 ?_ ?_ ?_ ?_ ?_ ?_<;>intros<;>try with_reducible exact trivial);all_goals(refine fnG ?_;try with_reducible exact trivial)
  all_goals simp[ajQ, *]
def aqM (w:LS):Bool:=bD w&& !decide (w.length=0)
def iM (p:List LS) (q:LS) (x y z:Int):Bool:=p.all aqM&&(decide (p.length≤6)&&(bq q&&(inB x 0 1000&&(inB y 0 10000&&inB z 1 30))))
abbrev alF (p:List LS) (q:LS):Prop:=p.length≤1048576∧(∀i:Nat,lU (p[i]?.getD []))∧lU q
instance (p:List LS) (q:LS):Decidable (alF p q):=Classical.propDecidable _
def lu:Fun:=F1 jm fun b=>if alF b.1 b.2.1 then some (bv (iM b.1 b.2.1 b.2.2.1 b.2.2.2.1 b.2.2.2.2))else none
theorem tu {p:List LS} {q:LS} {x y z:Int} (h:alF p q):lu [.agg [.lst false 1 (p.map fun p=> .lst false 1 (p.map fun s=> .val (.string s))),.lst false 1 (q.map fun s=> .val (.string s)),.val (.int .i64 x),.val (.int .i64 y),.val (.int .i64 z)]]=some (.val (.bool (iM p q x y z))):=
 (iy (A:=jm) (p,q,x,y,z)).trans (if_pos h)
def nA:Fun:=F1 dI fun n=>some (bv (inB n 0 10000))
theorem ku (n:Int):nA [.val (.int .i64 n)]=some (.val (.bool (inB n 0 10000))):=rfl
def GBd:Ctx:={fn:=aZ [(35,φIn)],io:=aZ []}
theorem arN:au Try.prog GBd:=okΓ (fC Try.func35 vY aj) aj
def anU:=ah (Γ:=GBd) (f:=35) (φ:=φIn) rfl
theorem mE:Sound Try.prog 36 nA:=by refine ak mixed arN Try.func36 rfl 5 rfl [.tmp 2] rfl (by kernel_rfl) fun ps r hr=>?_;obtain⟨n,rfl,hr⟩:=bJ hr;cases hr;refine⟨by simp,?_⟩;simp only[dIs,dUs,dSs,bQ,bU,bP,bT,aL,bS,aQ,aO,aR,aP];have gbd_c35:=anU;have ap:=bO;(refine wlkX ?_;intros);all_goals(exact fnF)
def GKs:Ctx:={fn:=aZ [(27,gV),(28,eZ),(29,φIn)],io:=aZ []}
theorem ard:au Try.prog GKs:=okΓ (fC Try.func27 iV (fC Try.func28 cO (fC Try.func29 iJ aj))) aj
def apM:=ah (Γ:=GKs) (f:=27) (φ:=gV) rfl
def aoa:=ah (Γ:=GKs) (f:=28) (φ:=eZ) rfl
def aqy:=ah (Γ:=GKs) (f:=29) (φ:=φIn) rfl
theorem oO:Sound Try.prog 18 lu:=by
 refine ak mixed ard Try.func18 rfl 51 rfl [.tmp 2] rfl (by kernel_rfl) fun ps r hr=>?_;obtain⟨⟨p,q,x,y,z⟩,rfl,hq⟩:=bJ hr;clear hr;split at hq
 case isFalse=>cases hq
 case isTrue hok=>
 cases hq;dsimp only at hok;obtain⟨hlen,hall,hoq⟩:=hok;have ap2:=gu hoq;clear hoq;refine⟨by simp,?_⟩;simp only[dIs,dUs,dSs,bQ,bU,bP,bT,aL,bS,aQ,aO,aR,aP];have gks_c27:=apM;have gks_c28:=aoa;have gks_c29:=aqy;have ap3:=bO;have ap4:=ku;(refine wlkX6 ?_ ?_ ?_ ?_ ?_ ?_<;>intros<;>try with_reducible exact trivial);refine aD (α:=Nat) mixed (fun k=>[(1,.own 0 5 0 0),(3,iv k)]) (fun _=>[(0,30,5,[.agg [.lst false 1 (p.map fun p=> .lst false 1 (p.map fun s=> .val (.string s))),.lst false 1 (q.map fun s=> .val (.string s)),.val (.int .i64 x),.val (.int .i64 y),.val (.int .i64 z)]])]) (fun _=>1)
  (fun k=>k≤p.length∧∀j,j<k→aqM (p[j]?.getD [])=true) (fun k=>p.length-k) (by kernel_rfl) 0 ⟨Nat.zero_le _,fun j hj=>by omega⟩ ?_ ?_ ?_ ?_
 ·simp only[push_cast,↓reduceIte,Nat.reduceEqDiff,Nat.reduceBEq,Nat.reduceAdd,Nat.reduceSub,Int.reduceToNat]
 ·simp only[push_cast,↓reduceIte,Nat.reduceEqDiff,Nat.reduceBEq,Nat.reduceAdd,Nat.reduceSub,Int.reduceToNat]
 ·simp only[push_cast,↓reduceIte,Nat.reduceEqDiff,Nat.reduceBEq,Nat.reduceAdd,Nat.reduceSub,Int.reduceToNat]
 ·intro k ⟨hk,hok⟩
  have ap:=kN (hall k);have hpl:=(hall k).1;clear hall;have hpb:aqM (p[k]?.getD [])=(bD (p[k]?.getD [])&& !decide ((p[k]?.getD []).length=0)):=rfl;have hpb:=Lib.hid hpb;have hok:=Lib.hid hok
  repeat' (first|(with_reducible first|apply nK|apply fH|apply iC|apply iF|apply mJ|apply aci|apply l9|apply ni|apply abp|apply nD|apply nG|apply abY|apply mY|apply mG|apply l7)|((with_reducible apply dM);(simp only[List.map_cons,List.map_nil]<;>exact rfl))|((with_reducible apply iD);(simp only[List.map_cons,List.map_nil]<;>exact rfl);decide+kernel)|((with_reducible apply ng);rfl)|((first|((with_reducible apply i_V);rfl;rfl;rfl)|((first|((with_reducible apply i_E);rfl)|((with_reducible apply i_S);rfl));first|rfl|(simp only[push_cast,↓reduceIte]))|((with_reducible apply aa9);rfl;rfl)|((with_reducible apply acr);rfl;rfl;rfl)|(with_reducible first|apply ab2|apply iG));(simp(disch:=(first|omega|(simp only[push_cast];first|done|omega))) only[push_cast,↓reduceIte,Nat.reduceEqDiff,Nat.reduceBEq,Nat.reduceAdd,Nat.reduceSub,Int.reduceToNat, *]<;>with_reducible exact rfl);all_goals try(first|(with_reducible first|refine hyT ?_|refine hyF ?_|exact hyA|exact hyB)|(intro hX;first|(cases hX;done)|((try simp only[decide_eq_true_eq,decide_eq_false_iff_not,Bool.not_eq_true',Bool.not_eq_false']at hX);(try have hXb:=aB.1 hX))))))
  all_goals try(refine fnG ?_;try with_reducible exact trivial)
  all_goals try(exfalso;omega)
  all_goals have hpb1:=hpb.out
  all_goals(first
   |(rw[show iM p q x y z=false from by(unfold iM;rw[iI (d:=[]) (k:=k) (by omega) (by simp_all),Bool.false_and])];done)
   |(rw[show iM p q x y z=(decide (p.length≤6)&&(bq q&&(inB x 0 1000&&(inB y 0 10000&&inB z 1 30))))from by(unfold iM;rw[eH (d:=[]) fun j hj=>hok.out j (by omega),Bool.true_and])];simp_all;done)
   |(rw[show iM p q x y z=(decide (p.length≤6)&&(bq q&&(inB x 0 1000&&(inB y 0 10000&&inB z 1 30))))from by(unfold iM;rw[eH (d:=[]) fun j hj=>hok.out j (by omega),Bool.true_and])];simp_all;omega)
   |(refine⟨k+1,⟨by omega,fun j hj=>?_⟩,by dsimp only;omega,by simp only[push_cast,↓reduceIte,Nat.reduceEqDiff,Nat.reduceBEq,Nat.reduceAdd,Nat.reduceSub,Int.reduceToNat],by simp only[push_cast,↓reduceIte,Nat.reduceEqDiff,Nat.reduceBEq,Nat.reduceAdd,Nat.reduceSub,Int.reduceToNat],rfl⟩
     by_cases h1:j<k
     ·exact hok.out j h1
     ·have:j=k:=by omega
      subst this;simp_all;try omega))
def GKi:Ctx:={fn:=aZ [(33,gV),(34,eZ),(35,φIn),(36,nA)],io:=aZ []}
theorem ap9:au Try.prog GKi:=okΓ (fC Try.func33 iX (fC Try.func34 cK (fC Try.func35 vY (fC Try.func36 mE aj)))) aj
def aoW:=ah (Γ:=GKi) (f:=33) (φ:=gV) rfl
def ao8:=ah (Γ:=GKi) (f:=34) (φ:=eZ) rfl
def arH:=ah (Γ:=GKi) (f:=35) (φ:=φIn) rfl
def ao1:=ah (Γ:=GKi) (f:=36) (φ:=nA) rfl
theorem oV:Sound Try.prog 22 lu:=by
 refine ak mixed ap9 Try.func22 rfl 45 rfl [.tmp 2] rfl (by kernel_rfl) fun ps r hr=>?_;obtain⟨⟨p,q,x,y,z⟩,rfl,hq⟩:=bJ hr;clear hr;split at hq
 case isFalse=>cases hq
 case isTrue hok=>
 cases hq;dsimp only at hok;obtain⟨hlen,hall,hoq⟩:=hok;have ap2:=gu hoq;clear hoq;refine⟨by simp,?_⟩;simp only[dIs,dUs,dSs,bQ,bU,bP,bT,aL,bS,aQ,aO,aR,aP];have gki_c33:=aoW;have gki_c34:=ao8;have gki_c35:=arH;have gki_c36:=ao1;have ap3:=bO;have ap4:=ku;(refine wlkX6 ?_ ?_ ?_ ?_ ?_ ?_<;>intros<;>try with_reducible exact trivial);refine aD (α:=Nat) mixed (fun k=>[(1,.own 0 5 0 0),(6,.lst false 1 (p.map fun p=> .lst false 1 (p.map fun s=> .val (.string s)))),(7,iv p.length),(8,iv k)]) (fun _=>[(0,30,5,[.agg [.lst false 1 (p.map fun p=> .lst false 1 (p.map fun s=> .val (.string s))),.lst false 1 (q.map fun s=> .val (.string s)),.val (.int .i64 x),.val (.int .i64 y),.val (.int .i64 z)]])]) (fun _=>1)
  (fun k=>k≤p.length∧∀j,j<k→aqM (p[j]?.getD [])=true) (fun k=>p.length-k) (by kernel_rfl) 0 ⟨Nat.zero_le _,fun j hj=>by omega⟩ ?_ ?_ ?_ ?_
 ·simp only[push_cast,↓reduceIte,Nat.reduceEqDiff,Nat.reduceBEq,Nat.reduceAdd,Nat.reduceSub,Int.reduceToNat]
 ·simp only[push_cast,↓reduceIte,Nat.reduceEqDiff,Nat.reduceBEq,Nat.reduceAdd,Nat.reduceSub,Int.reduceToNat]
 ·simp only[push_cast,↓reduceIte,Nat.reduceEqDiff,Nat.reduceBEq,Nat.reduceAdd,Nat.reduceSub,Int.reduceToNat]
 ·intro k ⟨hk,hok⟩
  have ap:=kN (hall k);have hpl:=(hall k).1;clear hall;have hpb:aqM (p[k]?.getD [])=(bD (p[k]?.getD [])&& !decide ((p[k]?.getD []).length=0)):=rfl;have hpb:=Lib.hid hpb;have hok:=Lib.hid hok
  repeat' (first|(with_reducible first|apply nK|apply fH|apply iC|apply iF|apply mJ|apply aci|apply l9|apply ni|apply abp|apply nD|apply nG|apply abY|apply mY|apply mG|apply l7)|((with_reducible apply dM);(simp only[List.map_cons,List.map_nil]<;>exact rfl))|((with_reducible apply iD);(simp only[List.map_cons,List.map_nil]<;>exact rfl);decide+kernel)|((with_reducible apply ng);rfl)|((first|((with_reducible apply i_V);rfl;rfl;rfl)|((first|((with_reducible apply i_E);rfl)|((with_reducible apply i_S);rfl));first|rfl|(simp only[push_cast,↓reduceIte]))|((with_reducible apply aa9);rfl;rfl)|((with_reducible apply acr);rfl;rfl;rfl)|(with_reducible first|apply ab2|apply iG));(simp(disch:=(first|omega|(simp only[push_cast];first|done|omega))) only[push_cast,↓reduceIte,Nat.reduceEqDiff,Nat.reduceBEq,Nat.reduceAdd,Nat.reduceSub,Int.reduceToNat, *]<;>with_reducible exact rfl);all_goals try(first|(with_reducible first|refine hyT ?_|refine hyF ?_|exact hyA|exact hyB)|(intro hX;first|(cases hX;done)|((try simp only[decide_eq_true_eq,decide_eq_false_iff_not,Bool.not_eq_true',Bool.not_eq_false']at hX);(try have hXb:=aB.1 hX))))))
  all_goals try(refine fnG ?_;try with_reducible exact trivial)
  all_goals try(exfalso;omega)
  all_goals have hpb1:=hpb.out
  all_goals(first
   |(rw[show iM p q x y z=false from by(unfold iM;rw[iI (d:=[]) (k:=k) (by omega) (by simp_all),Bool.false_and])];done)
   |(rw[show iM p q x y z=(decide (p.length≤6)&&(bq q&&(inB x 0 1000&&(inB y 0 10000&&inB z 1 30))))from by(unfold iM;rw[eH (d:=[]) fun j hj=>hok.out j (by omega),Bool.true_and])];simp_all;done)
   |(rw[show iM p q x y z=(decide (p.length≤6)&&(bq q&&(inB x 0 1000&&(inB y 0 10000&&inB z 1 30))))from by(unfold iM;rw[eH (d:=[]) fun j hj=>hok.out j (by omega),Bool.true_and])];simp_all;omega)
   |(refine⟨k+1,⟨by omega,fun j hj=>?_⟩,by dsimp only;omega,by simp only[push_cast,↓reduceIte,Nat.reduceEqDiff,Nat.reduceBEq,Nat.reduceAdd,Nat.reduceSub,Int.reduceToNat],by simp only[push_cast,↓reduceIte,Nat.reduceEqDiff,Nat.reduceBEq,Nat.reduceAdd,Nat.reduceSub,Int.reduceToNat],rfl⟩
     by_cases h1:j<k
     ·exact hok.out j h1
     ·have:j=k:=by omega
      subst this;simp_all;try omega))
end
end Go.Proofs.Ytmmafcjjlbgnkaa
