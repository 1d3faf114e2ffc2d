/- What the proof rests on, part 7: contracts of functions. No condition beyond what each states. -/
import Derived.Test.YtmmafcjjlbgnkaaGreatZBpE6
namespace Go.Proofs.YtmmafcjjlbgnkaaGreat
open Go.RowKit
set_option linter.all false
set_option maxHeartbeats 32000000
noncomputable section
section
variable {P:Program} {N B:Nat} {w00:World}
theorem Rel.anew {io:IoS} {w0 w:World} {bk bk':Nat→Prop} {g g':Gh} {s s':AS} {a:Act} (hr:Rel io w0 N g s a w) (hC:HzC io w00 w0 B bk) (hg:g.le g') (hnx:g'.nx=s'.nx)
 (htm:∀t,Rep g' w (s'.tm t) (a.tmps.getD t undef)) (hob:∀o c,s'.ob o=some c→(s.ob o).isSome∧nI g' w o c)
 (hI:∀k i,g'.I k i→(∀o,(s'.ob o).isSome→i≠g.β o)∧i<w.heap.size∧¬bk' i) (hIt:∀i,g'.I true i→B≤i) (hO:∀o,(s'.ob o).isSome→¬bk' (g.β o))
 (h2:∀i,bk i→bk' i) (hbl:∀i,bk' i→i<w.heap.size) (hbB:∀i,bk' i→bk i∨B≤i):∃io',Rel io' w N g' s' a w∧HzC io' w00 w B bk':=by
 have hsz:B≤w.heap.size:=Nat.le_trans hC.sz hr.fr.size;have hoD:∀o,(s.ob o).isSome→g.D o:=fun o ho=>by obtain⟨c,hc⟩:=Option.isSome_iff_exists.1 ho;exact(hr.ob o c hc).1
 have hs:∀o,(s'.ob o).isSome→(s.ob o).isSome:=fun o ho=>by obtain⟨c,hc⟩:=Option.isSome_iff_exists.1 ho;exact(hob o c hc).1
 have hβ:∀o,(s'.ob o).isSome→g'.β o=g.β o:=fun o ho=>hg.β o (hoD o (hs o ho));have hap:∀o,(s'.ob o).isSome→g.β o<w.heap.size∧B≤g.β o:=fun o ho=>by obtain⟨c,hc⟩:=Option.isSome_iff_exists.1 (hs o ho);have:=hC.dQ hr hc;exact⟨this.1,this.2.2⟩
 have htk:∀t∈tks,¬bk' t:=fun t ht e=>by
  rcases hbB t e with e|e
  ·exact(hC.tk t ht).2 e
  ·have:=(hC.tk t ht).1
   omega
 refine⟨{wr:=fun i=>∃o,(s'.ob o).isSome∧i=g.β o,im:=g'.I false,m:=0,β0:=fun _=>0,κ0:=fun _=>0,it:=g'.I true},⟨hr.nt,hr.df,htm,fun o c ho=>?_,fun o o' ho ho' he=>?_,hnx,fun kk i hi=>(hI kk i hi).2.1,fun i hi=> .inr hi,Fr.refl _ _,fun i hi=>hi,⟨fun o ho=>(Nat.not_lt_zero o ho).elim,fun o ho=>(Nat.not_lt_zero o ho).elim⟩,fun o ho=>False.elim ho,?_⟩,⟨fun i hi=>?_,fun i hi=>?_,fun i hi=>?_,hbl,hsz,?_,fun t ht=>⟨(hC.tk t ht).1,htk t ht⟩⟩⟩
 ·have hso:(s'.ob o).isSome:=by rw[ho];rfl
  refine⟨hg.D o (hoD o (hs o hso)),.inr ⟨o,hso,hβ o hso⟩,fun k hk=>(hI k _ hk).1 o hso (hβ o hso),(hob o c ho).2⟩
 ·rw[hβ o ho,hβ o' ho']at he
  exact hr.inj o o' (hs o ho) (hs o' ho') he
 ·refine hr.tab.keep hr.fr ?_
  rintro t ht ⟨o,ho,rfl⟩;have:=(hap o ho).2;have:=(hC.tk _ ht).1;omega
 ·rcases hi with⟨o,ho,rfl⟩|hi|hi
  ·exact hO o ho
  ·exact(hI _ i hi).2.2
  ·exact(hI _ i hi).2.2
 ·rcases hi with⟨o,ho,rfl⟩|hi
  ·exact(hap o ho).2
  ·exact hIt i hi
 ·obtain⟨o,ho,rfl⟩:=hi
  exact(hap o ho).1
 ·have hf1:Fr (fun i=>bk' i∨B≤i) w0 w:=⟨hr.fr.os,hr.fr.tape,hr.fr.output,hr.fr.size,fun i hi hn=>hr.fr.block i hi fun q=>hn (.inr (hC.lo i (.inl q)))⟩
  refine⟨hf1.os.trans hC.fr.os,hf1.tape.trans hC.fr.tape,hf1.output.trans hC.fr.output,Nat.le_trans hC.fr.size hf1.size,fun i hi hn=>?_⟩;exact(hf1.block i (Nat.lt_of_lt_of_le hi hC.fr.size) hn).trans (hC.fr.block i hi fun q=>hn (q.imp (h2 i) id))
theorem HzC.awG {io:IoS} {w0:World} {bk:Nat→Prop} (h:HzC io w00 w0 B bk) {g:Gh} {s:AS} {a:Act} {w:World} (hr:Rel io w0 N g s a w) {i:Nat} (hi:g.I true i):B≤i:=by
 rcases hr.new i hi with⟨q,_⟩|q
 ·exact Nat.le_trans h.sz q
 ·exact h.lo i (.inr q)
theorem Zt.give {s:AS} {σ:Fgn} {a:Act} {w:World} (h:Zt P N B w00 s σ a w) {o T sz:Nat} {es:List PV} (ho:s.ob o=some (T,sz,es)):
 ∃g b arr,B≤b∧b<w.heap.size∧¬σ.bk b∧w.heap[b]?=some (.cells arr T (0,0))∧es.length*sz≤arr.size∧bf g w sz es b 0∧
  (∀i n v,Rep g w (.row o sz i n) v→∃c,v=.slice (some ⟨b,i*sz,none⟩) n c∧n≤c∧c≤9223372036854775807∧(i+c)*sz≤arr.size)∧(∀x:Operand,Rep g w (look s.tm x) (a.eval x))∧
  ∀σ':Fgn,(∀i,σ'.bk i↔σ.bk i∨i=b)→σ'.at_ w→Zt P N B w00 ⟨s.tm,upd s.ob o none,s.nx⟩ σ' a w:=by
 obtain⟨⟨io,w0,g,hr,hC⟩,hM⟩:=h;obtain⟨k1,k2,k3,⟨arr,k4,k5⟩,k6,k7⟩:=hr.ob o _ ho;obtain⟨q1,q2,q3⟩:=hC.dQ hr ho;dsimp only at k4 k6 k7;refine⟨g,g.β o,arr,q3,q1,q2,k4,by rw[k5];exact k6,k7,fun i n v hv=>?_,fun x=>hr.look x,fun σ' hb hat=>?_⟩
 ·simp only[Rep]at hv
  obtain⟨c,h1,h2,h3,h4,_⟩:=hv;exact⟨c,h1,h2,h3,by rw[k5];exact h4⟩
 ·have hsub:∀o' c,upd s.ob o none o'=some c→o'≠o∧s.ob o'=some c:=fun o' c hc=>by
   unfold upd at hc;split at hc
   ·cases hc
   ·rename_i hne;exact⟨hne,hc⟩
  have hsubS:∀o',(upd s.ob o none o').isSome→o'≠o∧(s.ob o').isSome:=fun o' hc=>by obtain⟨c,hc⟩:=Option.isSome_iff_exists.1 hc;exact⟨(hsub o' c hc).1,by rw[(hsub o' c hc).2];rfl⟩
  have hlt:∀i,σ'.bk i→i<w.heap.size:=fun i hi=>by
   rcases(hb i).1 hi with hi|rfl
   ·exact Nat.lt_of_lt_of_le (hC.hb i hi) hr.fr.size
   ·exact q1
  have key:∃io',Rel io' w N g ⟨s.tm,upd s.ob o none,s.nx⟩ a w∧HzC io' w00 w B σ'.bk:=by
   refine hr.anew (s':=⟨s.tm,upd s.ob o none,s.nx⟩) (g':=g) (bk':=σ'.bk) hC (Gh.le_refl g) hr.nx hr.tm (fun o' c hc=>⟨by rw[(hsub o' c hc).2];rfl,(hr.ob o' c (hsub o' c hc).2).2.2.2⟩) (fun k i hi=>⟨fun o' ho' e=>?_,(hC.iO hr hi).1,fun e=>?_⟩) (fun i hi=>hC.awG hr hi) (fun o' ho' e=>?_) (fun i hi=>(hb i).2 (.inl hi)) hlt (fun i hi=>((hb i).1 hi).imp id fun e=>by rw[e];exact q3)
   ·obtain⟨c,hc⟩:=Option.isSome_iff_exists.1 (hsubS o' ho').2
    exact(hr.ob o' c hc).2.2.1 k (e▸hi)
   ·rcases(hb i).1 e with e|rfl
    ·exact(hC.iO hr hi).2 e
    ·exact k3 k hi
   ·obtain⟨c,hc⟩:=Option.isSome_iff_exists.1 (hsubS o' ho').2
    rcases(hb _).1 e with e|e
    ·exact(hC.dQ hr hc).2.1 e
    ·exact(hsubS o' ho').1 (hr.inj o' o (by rw[hc];rfl) (by rw[ho];rfl) e)
  obtain⟨io',h1,h2⟩:=key;exact⟨⟨io',w,g,h1,h2⟩,hat⟩
theorem Zt.vP {s:AS} {σ:Fgn} {a:Act} {w:World} (h:Zt P N B w00 s σ a w) {o x T sz T2 sz2 n:Nat} {es l:List PV} (ho:s.ob o=some (T,sz,es)) (hx:s.ob x=some (T2,sz2,l++[.row o sz 0 n])) (hn:n=es.length) (hne:x≠o):
 Zt P N B w00 ⟨s.tm,upd (upd s.ob o none) x (some (T2,sz2,l++[.lst true sz es])),s.nx⟩ σ a w:=by
 subst hn;obtain⟨⟨io,w0,g,hr,hC⟩,hM⟩:=h;obtain⟨k1,k2,k3,⟨arr,k4,k5⟩,k6,k7⟩:=hr.ob o _ ho;obtain⟨q1,q2,q3⟩:=hC.dQ hr ho;dsimp only at k4 k6 k7
 let g':Gh:={g with I:=fun k b=>g.I k b∨(k=true∧b=g.β o)}
 have hle:g.le g':=⟨fun _ _ h=> .inl h,fun _ h=>h,fun _ _=>rfl,fun _ _=>rfl⟩;have hsub:∀o' c,upd (upd s.ob o none) x (some (T2,sz2,l++[PV.lst true sz es])) o'=some c→o'≠o∧((o'=x∧c=(T2,sz2,l++[PV.lst true sz es]))∨s.ob o'=some c):=fun o' c hc=>by
  unfold upd at hc;split at hc
  ·rename_i e
   cases hc;exact⟨e▸hne,.inl ⟨e,rfl⟩⟩
  ·split at hc
   ·cases hc
   ·rename_i e;exact⟨e,.inr hc⟩
 have hsubS:∀o',(upd (upd s.ob o none) x (some (T2,sz2,l++[PV.lst true sz es])) o').isSome→o'≠o∧(s.ob o').isSome:=fun o' hc=>by
  obtain⟨c,hc⟩:=Option.isSome_iff_exists.1 hc;obtain⟨e,e2⟩:=hsub o' c hc;refine⟨e,?_⟩;rcases e2 with⟨rfl,_⟩|e2
  ·rw[hx];rfl
  ·rw[e2];rfl
 have key:∃io',Rel io' w N g' ⟨s.tm,upd (upd s.ob o none) x (some (T2,sz2,l++[PV.lst true sz es])),s.nx⟩ a w∧HzC io' w00 w B σ.bk:=by
  refine hr.anew (s':=⟨s.tm,upd (upd s.ob o none) x (some (T2,sz2,l++[PV.lst true sz es])),s.nx⟩) (g':=g') (bk':=σ.bk) hC hle hr.nx (fun t=>(hr.tm t).mono hle fun _ _ _=>rfl) (fun o' c hc=>?_) (fun k i hi=>⟨fun o' ho' e=>?_,?_,fun e=>?_⟩) (fun i hi=>?_) (fun o' ho' e=>?_) (fun i hi=>hi) (fun i hi=>Nat.lt_of_lt_of_le (hC.hb i hi) hr.fr.size) (fun i hi=> .inl hi)
  ·refine⟨(hsubS o' (Option.isSome_iff_exists.2 ⟨c,hc⟩)).2,?_⟩
   rcases(hsub o' c hc).2 with⟨rfl,rfl⟩|e
   ·obtain⟨p1,p2,p3,p4,p5,p6⟩:=hr.ob o' _ hx
    refine⟨p4,by simpa using p5,?_⟩;refine bf.of fun i e he=>?_;dsimp only at p6 he;rcases Nat.lt_trichotomy i l.length with hi|hi|hi
    ·rw[List.getElem?_append_left hi]at he
     obtain⟨u,m1,m2,m3⟩:=p6.get (i:=i) (e:=e) (by rw[List.getElem?_append_left hi];exact he);exact⟨u,m1.mono hle (fun _ _ _=>rfl),m2,m3⟩
    ·subst hi
     obtain⟨u,m1,m2,m3⟩:=p6.get (i:=l.length) (e:=.row o sz 0 es.length) (by simp);have he:e=.lst true sz es:=by simpa using he.symm
     subst he;refine⟨u,?_,m2,m3⟩;simp only[Rep]at m1⊢;obtain⟨c,c1,c2,c3,c4,c5⟩:=m1;refine⟨_,c,c1,c2,c3,.inr ⟨g.β o,0,by simp,.inr ⟨rfl,rfl⟩,bf.mono hle (fun _ _ _=>rfl) _ _ _ _ rfl k7⟩⟩
    ·rw[List.getElem?_eq_none (by simp;omega)]at he
     cases he
   ·exact(hr.ob o' c e).2.2.2.mono hle (hr.ob o' c e).1 (fun _ _ _=>rfl) rfl
  ·obtain⟨c,hc⟩:=Option.isSome_iff_exists.1 (hsubS o' ho').2
   rcases hi with hi|⟨_,hi⟩
   ·exact(hr.ob o' c hc).2.2.1 k (e▸hi)
   ·exact(hsubS o' ho').1 (hr.inj o' o (by rw[hc];rfl) (by rw[ho];rfl) (e.symm.trans hi))
  ·rcases hi with hi|⟨_,hi⟩
   ·exact(hC.iO hr hi).1
   ·rw[hi];exact q1
  ·rcases hi with hi|⟨_,hi⟩
   ·exact(hC.iO hr hi).2 e
   ·rw[hi]at e;exact q2 e
  ·rcases hi with hi|⟨_,hi⟩
   ·exact hC.awG hr hi
   ·rw[hi];exact q3
  ·obtain⟨c,hc⟩:=Option.isSome_iff_exists.1 (hsubS o' ho').2
   exact(hC.dQ hr hc).2.1 e
 obtain⟨io',h1,h2⟩:=key;exact⟨⟨io',w,g',h1,h2⟩,hM⟩
theorem HZ.vP {c:Code} {K:X→AS→Fgn→Prop} {s:AS} {σ:Fgn} {o x T sz T2 sz2 n:Nat} {es l:List PV} (ho:s.ob o=some (T,sz,es)) (hx:s.ob x=some (T2,sz2,l++[.row o sz 0 n])) (hn:n=es.length) (hne:x≠o)
 (h:HZ P N B w00 c K ⟨s.tm,upd (upd s.ob o none) x (some (T2,sz2,l++[.lst true sz es])),s.nx⟩ σ):HZ P N B w00 c K s σ:=HZ.mk fun a w hs Q hQ=>h.go a w (hs.vP ho hx hn hne) Q hQ
end
section
set_option linter.unusedVariables false
def inB (n a b:Int):Bool:=decide (a≤n)&&decide (n≤b)
theorem ay {n a b:Int}:inB n a b=true↔a≤n∧n≤b:=by simp[inB]
end
def GE:Ctx:={fn:=aT [],io:=aT []}
theorem bL:au Tryz.prog GE:=okΓ aj aj
def φIn:Fun:=F3 dI dI dI fun n a b=>some (bv (inB n a b))
theorem bJ (n a b:Int):φIn [.val (.int .i64 n),.val (.int .i64 a),.val (.int .i64 b)]=some (.val (.bool (inB n a b))):=rfl
theorem gB:Sound Tryz.prog 48 φIn:=by
 refine ak mixed bL Tryz.func48 rfl 15 rfl [.tmp 6] rfl (by kernel_rfl) fun ps r hr=>?_;obtain⟨n,a,b,rfl,hr⟩:=aaJ hr;cases hr;refine⟨by simp,?_⟩;simp only[dIs,dUs,dSs,bR,bV,bT,bU,aI,bW,aL,aO,aH,aJ];(refine wlkX6 ?_ ?_ ?_ ?_ ?_ ?_<;>intros<;>try with_reducible exact trivial);all_goals(refine fnG ?_;try with_reducible exact trivial)
 all_goals(first|(simp_all [inB];done)|(simp_all [inB];omega))
theorem qd:Sound Tryz.prog 43 φIn:=by
 refine ak mixed bL Tryz.func43 rfl 15 rfl [.tmp 6] rfl (by kernel_rfl) fun ps r hr=>?_;obtain⟨n,a,b,rfl,hr⟩:=aaJ hr;cases hr;refine⟨by simp,?_⟩;simp only[dIs,dUs,dSs,bR,bV,bT,bU,aI,bW,aL,aO,aH,aJ];(refine wlkX6 ?_ ?_ ?_ ?_ ?_ ?_<;>intros<;>try with_reducible exact trivial);all_goals(refine fnG ?_;try with_reducible exact trivial)
 all_goals(first|(simp_all [inB];done)|(simp_all [inB];omega))
def dw (s:ByteArray):Bool:=(List.range s.size).all (fun k=>inB (at8 s k) 97 122)&&inB s.size 1 20
theorem acw {s:ByteArray} {k:Nat} (h:k<s.size) (hb:¬(97≤at8 s k∧at8 s k≤122)):dw s=false:=by
 unfold dw;have:(List.range s.size).all (fun k=>inB (at8 s k) 97 122)=false:=by rw[List.all_eq_false];exact⟨k,List.mem_range.2 h,by rw[ay];exact hb⟩
 rw[this];rfl
theorem tC {s:ByteArray} (h:∀j,j<s.size→97≤at8 s j∧at8 s j≤122):dw s=inB s.size 1 20:=by
 unfold dw;have:(List.range s.size).all (fun k=>inB (at8 s k) 97 122)=true:=by rw[List.all_eq_true];intro k hk;exact ay.2 (h k (List.mem_range.1 hk))
 rw[this];rfl
def fQ:Fun:=F1 dS fun s=>if s.size≤1099511627776 then some (bv (dw s))else none
theorem gP {s:ByteArray} (h:s.size≤1099511627776):fQ [.val (.string s)]=some (.val (.bool (dw s))):=
 (fM (A:=dS) s).trans (if_pos h)
def kI:Fun:=F1 dU fun n=>some (bv (inB n 97 122))
theorem pJ (n:Int):kI [.val (.int .u8 n)]=some (.val (.bool (inB n 97 122))):=rfl
theorem oZ:Sound Tryz.prog 85 kI:=by
 refine ak mixed bL Tryz.func85 rfl 9 rfl [.tmp 2] rfl (by kernel_rfl) fun ps r hr=>?_;obtain⟨n,rfl,hr⟩:=bG hr;cases hr;refine⟨by simp,?_⟩;simp only[dIs,dUs,dSs,bR,bV,bT,bU,aI,bW,aL,aO,aH,aJ];(refine wlkX6 ?_ ?_ ?_ ?_ ?_ ?_<;>intros<;>try with_reducible exact trivial);all_goals(refine fnG ?_;try with_reducible exact trivial)
 all_goals(first|(simp_all [inB];done)|(simp_all [inB];omega))
def GWv:Ctx:={fn:=aT [(85,kI),(43,φIn)],io:=aT []}
theorem asD:au Tryz.prog GWv:=okΓ (fC Tryz.func85 oZ (fC Tryz.func43 qd aj)) aj
def arL:=ah (Γ:=GWv) (f:=85) (φ:=kI) rfl
def atq:=ah (Γ:=GWv) (f:=43) (φ:=φIn) rfl
theorem fu:Sound Tryz.prog 66 fQ:=by
 refine ak mixed asD Tryz.func66 rfl 18 rfl [.tmp 2] rfl (by kernel_rfl) fun ps r hr=>?_;obtain⟨s,rfl,hq⟩:=bG hr;clear hr;split at hq
 case isFalse=>cases hq
 case isTrue hlen=>
 cases hq;refine⟨by simp,?_⟩;simp only[dIs,dUs,dSs,bR,bV,bT,bU,aI,bW,aL,aO,aH,aJ];have gwv_c85:=arL;have gwv_c43:=atq;have ap:=pJ;have ap2:=bJ;(refine wlkX6 ?_ ?_ ?_ ?_ ?_ ?_<;>intros<;>try with_reducible exact trivial);refine aF (α:=Nat) mixed (fun k=>[(0,sv s),(5,iv s.size),(6,iv k)]) (fun _=>[]) (fun _=>0)
  (fun k=>k≤s.size∧∀j,j<k→97≤at8 s j∧at8 s j≤122) (fun k=>s.size-k) (by kernel_rfl) 0 ⟨Nat.zero_le _,fun j hj=>by omega⟩ ?_ trivial rfl ?_
 ·simp only[push_cast,↓reduceIte,Nat.reduceEqDiff,Nat.reduceBEq,Nat.reduceAdd,Nat.reduceSub,Int.reduceToNat]
 ·intro k ⟨hk,hok⟩
  have hrk:=ig s k;(refine wlkX6 ?_ ?_ ?_ ?_ ?_ ?_<;>intros<;>try with_reducible exact trivial);all_goals try(refine fnG ?_;try with_reducible exact trivial)
  ·rw[acw (s:=s) (k:=k) (by omega) (by(simp_all [inB];try omega))]
  ·refine⟨k+1,⟨by omega,fun j hj=>?_⟩,by dsimp only;omega,by simp only[push_cast,↓reduceIte,Nat.reduceEqDiff,Nat.reduceBEq,Nat.reduceAdd,Nat.reduceSub,Int.reduceToNat],trivial,rfl⟩
   by_cases h1:j<k
   ·exact hok j h1
   ·have:j=k:=by omega
    subst this;simp_all [inB]
  ·rw[tC fun j hj=>hok j (by omega)]
def GWs:Ctx:={fn:=aT [(48,φIn)],io:=aT []}
theorem ave:au Tryz.prog GWs:=okΓ (fC Tryz.func48 gB aj) aj
def auw:=ah (Γ:=GWs) (f:=48) (φ:=φIn) rfl
theorem fq:Sound Tryz.prog 74 fQ:=by
 refine ak mixed ave Tryz.func74 rfl 23 rfl [.tmp 2] rfl (by kernel_rfl) fun ps r hr=>?_;obtain⟨s,rfl,hq⟩:=bG hr;clear hr;split at hq
 case isFalse=>cases hq
 case isTrue hlen=>
 cases hq;refine⟨by simp,?_⟩;simp only[dIs,dUs,dSs,bR,bV,bT,bU,aI,bW,aL,aO,aH,aJ];have gws_c48:=auw;have ap2:=bJ;(refine wlkX ?_;intros);refine aF (α:=Nat) mixed (fun k=>[(0,sv s),(3,iv k)]) (fun _=>[]) (fun _=>0)
  (fun k=>k≤s.size∧∀j,j<k→97≤at8 s j∧at8 s j≤122) (fun k=>s.size-k) (by kernel_rfl) 0 ⟨Nat.zero_le _,fun j hj=>by omega⟩ ?_ trivial rfl ?_
 ·simp only[push_cast,↓reduceIte,Nat.reduceEqDiff,Nat.reduceBEq,Nat.reduceAdd,Nat.reduceSub,Int.reduceToNat]
 ·intro k ⟨hk,hok⟩
  have hrk:=ig s k;(refine wlkX6 ?_ ?_ ?_ ?_ ?_ ?_<;>intros<;>try with_reducible exact trivial);all_goals try(refine fnG ?_;try with_reducible exact trivial)
  all_goals try(rw[acw (s:=s) (k:=k) (by omega) (by omega)];done)
  all_goals try(rw[tC fun j hj=>hok j (by omega)];done)
  all_goals
   refine⟨k+1,⟨by omega,fun j hj=>?_⟩,by dsimp only;omega,by simp only[push_cast,↓reduceIte,Nat.reduceEqDiff,Nat.reduceBEq,Nat.reduceAdd,Nat.reduceSub,Int.reduceToNat],trivial,rfl⟩;by_cases h1:j<k
   ·exact hok j h1
   ·have:j=k:=by omega
    subst this;simp_all;try omega
def jc:Int→List Nat→Int
 |left,[]=>left
 |left,n::l=>if left-n<0 then-1 else jc (left-n) l
theorem tL:∀{l:List Nat} {left:Int},0≤jc left l→0≤left→∀n∈l,(n:Int)≤left
 |[],left,h,h0,n,hn=>by simp at hn
 |m::l,left,h,h0,n,hn=>by
  unfold jc at h;split at h
  ·omega
  ·rename_i h1
   rcases List.mem_cons.1 hn with rfl|h2
   ·omega
   ·have:=tL h (by omega) n h2
    omega
abbrev LS:=List ByteArray
abbrev dSS:Dec (List LS):=dL 1 dSs
section
variable {α β:Type} {n sz sz' f i:Nat} {ob:bn} {k k' fr:Bool} {l:List LS}
theorem asw {g:LS→β} (h:i<l.length):Option.map g l[i]?=some (g ((l[i]?).getD [])):=by simp[h]
theorem kP {F:PV→Option PV} {g g':α→PV} (h:∀x,F (g x)=some (g' x)):∀{l:List α},(l.map g).mapM F=some (l.map g')
 |[]=>rfl
 |x::l=>by rw[List.map_cons,List.mapM_cons,h x,kP h];rfl
theorem afa {m:Nat} {p:LS}:reify false m ob (f+2) (.lst k sz (p.map fun s=> .val (.string s)))=some (.lst false sz (p.map fun s=> .val (.string s))):=jP
theorem mF {m:Nat} {p:LS}:reify fr m ob (f+2) (.lst true sz (p.map fun s=> .val (.string s)))=some (.lst fr sz (p.map fun s=> .val (.string s))):=by
 cases fr
 ·exact jP
 ·exact rY
theorem abC:reify false n ob (f+3) (.lst k sz (l.map fun p=> .lst k' sz' (p.map fun s=> .val (.string s))))=some (.lst false sz (l.map fun p=> .lst false sz' (p.map fun s=> .val (.string s)))):=by show(if false=true∧k=false∧(l.map fun p=>PV.lst k' sz' (p.map fun s=>PV.val (.string s)))≠[]then none else((l.map fun p=>PV.lst k' sz' (p.map fun s=>PV.val (.string s))).mapM (reify false n ob (f+2))).map (PV.lst false sz))=_;rw[kP (g':=fun p=>PV.lst false sz' (p.map fun s=>PV.val (.string s))) fun p=>afa];simp
theorem aaP:reify true n ob (f+3) (.lst true sz (l.map fun p=> .lst true sz' (p.map fun s=> .val (.string s))))=some (.lst true sz (l.map fun p=> .lst true sz' (p.map fun s=> .val (.string s)))):=by show(if true=true∧true=false∧(l.map fun p=>PV.lst true sz' (p.map fun s=>PV.val (.string s)))≠[]then none else((l.map fun p=>PV.lst true sz' (p.map fun s=>PV.val (.string s))).mapM (reify true n ob (f+2))).map (PV.lst true sz))=_;rw[kP (g':=fun p=>PV.lst true sz' (p.map fun s=>PV.val (.string s))) fun p=>mF];simp
theorem uM {m T:Nat} (hm:m=l.length):qp fr (f+2) ob sz 0 m (some (T,sz,l.map fun p=> .lst true sz' (p.map fun s=> .val (.string s))))=some (.lst fr sz (l.map fun p=> .lst fr sz' (p.map fun s=> .val (.string s)))):=by
 subst hm;have e:((l.map fun p=>PV.lst true sz' (p.map fun s=>PV.val (.string s))).drop 0).take l.length=l.map fun p=>PV.lst true sz' (p.map fun s=>PV.val (.string s)):=by rw[List.drop_zero,List.take_of_length_le (by simp)]
 have e2:=kP (l:=l) (F:=reify fr 0 ob (f+2)) (g:=fun p=>PV.lst true sz' (p.map fun s=>PV.val (.string s))) (g':=fun p=>PV.lst fr sz' (p.map fun s=>PV.val (.string s))) fun p=>mF;simp only[qp,e,e2,Nat.zero_add,List.length_map,Nat.le_refl,and_self,if_true,Option.map_some]
theorem afG {xs:List α} {z:α} {j:Nat} (h:j<xs.length):(kH xs z j)[j]?=some z:=by
 unfold kH;have hl:(xs.take j).length=j:=by simp;omega
 rw[List.getElem?_append_right (by omega),hl,Nat.sub_self,List.getElem?_replicate,if_pos (by omega)]
end
attribute[push_cast]
 asw abC aaP uM afG
theorem aa7 {α:Type} {d:α} {xs ys:List α} (hl:xs.length=ys.length) (h:∀j,j<xs.length→xs[j]?.getD d=ys[j]?.getD d):xs=ys:=by apply List.ext_getElem hl;intro i h1 h2;have:=h i h1;simpa [h1,h2]using this
abbrev lX (l:LS):Prop:=l.length≤1048576∧∀i:Nat,(l[i]?.getD .empty).size≤1048576
instance (l:LS):Decidable (lX l):=Classical.propDecidable _
theorem iZ {α:Type} {d:α} {p:α→Bool} {l:List α} {k:Nat} (h:k<l.length) (hb:p (l[k]?.getD d)=false):l.all p=false:=by rw[List.all_eq_false];exact⟨l[k],List.getElem_mem h,by simp[h]at hb;simp[hb]⟩
theorem fA {α:Type} {d:α} {p:α→Bool} {l:List α} (h:∀j,j<l.length→p (l[j]?.getD d)=true):l.all p=true:=by rw[List.all_eq_true];intro x hx;obtain⟨j,hj,rfl⟩:=List.getElem_of_mem hx;simpa [hj]using h j hj
def rz (c:Int):Bool:=inB c 97 122
def abZ (c:Int):Bool:=inB c 48 57
def abk (s:ByteArray) (k:Nat):Bool:=decide (0<k)&&abZ (at8 s (k-1))
def uh (s:ByteArray) (k:Nat):Bool:=rz (at8 s k)||(abZ (at8 s k)&& !abk s k)||(decide (at8 s k=46)&&(decide (k=0)||decide (k+1=s.size)))
def anyS (s:ByteArray) (k:Nat):Bool:=(List.range k).any fun j=>rz (at8 s j)
theorem aag (s:ByteArray) (k:Nat):anyS s (k+1)=(anyS s k||rz (at8 s k)):=by simp[anyS,List.range_succ,List.any_append]
def zQ (s:ByteArray):Bool:=(List.range s.size).all (uh s)&&(anyS s s.size&&decide (s.size≤12))
theorem ai9 {s:ByteArray} {k:Nat} (h:k<s.size) (hb:uh s k=false):zQ s=false:=by
 have:(List.range s.size).all (uh s)=false:=by rw[List.all_eq_false];exact⟨k,List.mem_range.2 h,by simp[hb]⟩
 simp[zQ,this]
theorem akV {s:ByteArray} (h:∀j,j<s.size→uh s j=true):zQ s=(anyS s s.size&&decide (s.size≤12)):=by
 have:(List.range s.size).all (uh s)=true:=by rw[List.all_eq_true];exact fun k hk=>h k (List.mem_range.1 hk)
 simp[zQ,this]
def vC:Fun:=F1 dS fun s=>if s.size≤1099511627776 then some (bv (zQ s))else none
theorem qF {s:ByteArray} (h:s.size≤1099511627776):vC [.val (.string s)]=some (.val (.bool (zQ s))):=
 (fM (A:=dS) s).trans (if_pos h)
theorem jA {s:ByteArray} {k:Nat}:uh s k=true↔(97≤at8 s k∧at8 s k≤122)∨(48≤at8 s k∧at8 s k≤57∧abk s k=false)∨(at8 s k=46∧(k=0∨k+1=s.size)):=by simp[uh,rz,abZ,inB,or_assoc,and_assoc]
theorem acX {c:Int} (h:c<97∨122<c):rz c=false:=Bool.eq_false_iff.2 fun h2=>by have:=ay.1 h2;omega
theorem amq {c:Int} (h:c<48∨57<c):abZ c=false:=Bool.eq_false_iff.2 fun h2=>by have:=ay.1 h2;omega
structure acG (s:ByteArray) (k:Nat) (n:Int):Prop where
 kk:k≤s.size
 n0:0≤n
 n1:n≤k
 all:∀j,j<k→uh s j=true
 any:decide (0<n)=anyS s k
theorem acG.zero (s:ByteArray):acG s 0 0:=⟨Nat.zero_le _,by omega,by omega,fun j hj=>by omega,rfl⟩
theorem acG.letter {s:ByteArray} {k:Nat} {n:Int} (h:acG s k n) (hk:k<s.size) (hs:rz (at8 s k)=true):acG s (k+1) (n+1):=
 ⟨by omega,by have:=h.n0;omega,by have:=h.n1;omega,fun j hj=>by
   by_cases h1:j<k
   ·exact h.all j h1
   ·have:j=k:=by omega
    subst this;simp[uh,hs],by
   rw[aag,hs,Bool.or_true];have:=h.n0;simp;omega⟩
theorem acG.other {s:ByteArray} {k:Nat} {n:Int} (h:acG s k n) (hk:k<s.size) (hp:uh s k=true) (hs:rz (at8 s k)=false):acG s (k+1) n:=
 ⟨by omega,h.n0,by have:=h.n1;omega,fun j hj=>by
   by_cases h1:j<k
   ·exact h.all j h1
   ·have:j=k:=by omega
    subst this;exact hp,by rw[aag,hs,Bool.or_false];exact h.any⟩
theorem acG.done {s:ByteArray} {k:Nat} {n:Int} (h:acG s k n) (hk:¬k<s.size):zQ s=(decide (0<n)&&decide (s.size≤12)):=by
 have hk2:=h.kk;have:k=s.size:=by omega
 subst this;rw[akV h.all,h.any]
theorem oW (s:ByteArray) (k:Nat):abk s (k+1)=abZ (at8 s k):=by simp[abk]
theorem iK:Sound Tryz.prog 75 vC:=by
 refine ak mixed bL Tryz.func75 rfl 57 rfl [.tmp 2] rfl (by kernel_rfl) fun ps r hr=>?_;obtain⟨s,rfl,hq⟩:=bG hr;clear hr;split at hq
 case isFalse=>cases hq
 case isTrue hlen=>
 cases hq;refine⟨by simp,?_⟩;simp only[dIs,dUs,dSs,bR,bV,bT,bU,aI,bW,aL,aO,aH,aJ];(refine wlkX ?_;intros);refine aF (α:=Nat×Int) mixed (fun k=>[(0,sv s),(3,iv k.2),(4,bv (abk s k.1)),(5,iv k.1)]) (fun _=>[]) (fun _=>0)
  (fun k=>acG s k.1 k.2) (fun k=>s.size-k.1) (by kernel_rfl) (0,0) (acG.zero s) ?_ trivial rfl ?_
 ·simp only[push_cast,↓reduceIte,Nat.reduceEqDiff,Nat.reduceBEq,Nat.reduceAdd,Nat.reduceSub,Int.reduceToNat]
  rfl
 ·rintro⟨k,n⟩ hi
  dsimp only at hi;have hk:=hi.kk;have hn0:=hi.n0;have hn1:=hi.n1;have hrk:=ig s k;generalize hd:abk s k=d
  repeat' (first|(with_reducible first|apply nk|apply fV|apply iW|apply iR|apply nZ|apply acQ|apply ny|apply nR|apply adH|apply ou|apply nL|apply adj|apply mX|apply nK|apply nN)|((with_reducible apply dR);(simp only[List.map_cons,List.map_nil]<;>exact rfl))|((with_reducible apply iP);(simp only[List.map_cons,List.map_nil]<;>exact rfl);decide+kernel)|((with_reducible apply mY);rfl)|((first|((with_reducible apply i_V);rfl;rfl;rfl)|((first|((with_reducible apply i_E);rfl)|((with_reducible apply i_S);rfl));first|rfl|(simp only[push_cast,↓reduceIte]))|((with_reducible apply acF);rfl;rfl)|((with_reducible apply adM);rfl;rfl;rfl)|(with_reducible first|apply adg|apply iT));(simp(disch:=(first|omega|(simp only[push_cast];first|done|omega))) only[push_cast,↓reduceIte,Nat.reduceEqDiff,Nat.reduceBEq,Nat.reduceAdd,Nat.reduceSub,Int.reduceToNat, *]<;>with_reducible exact rfl);all_goals try(first|(with_reducible first|refine hyT ?_|refine hyF ?_|exact hyA|exact hyB)|(intro hX;first|(cases hX;done)|((try simp only[decide_eq_true_eq,decide_eq_false_iff_not,Bool.not_eq_true',Bool.not_eq_false']at hX);(try have hXb:=ay.1 hX))))))
  all_goals try(refine fnG ?_;try with_reducible exact trivial)
  all_goals try(exfalso;omega)
  all_goals(first
   |(rw[ai9 (k:=k) (by omega) (Bool.eq_false_iff.2 fun h=>by rcases jA.1 h with h|h|h<;>(first|omega|(simp_all;done)|(simp_all;omega)))];done)
   |exact⟨(k+1,n+1),hi.letter (by omega) (ay.2 ⟨by omega,by omega⟩),by dsimp only;omega,by(have hdg:=@amq (at8 s k) (by omega);simp only[push_cast,↓reduceIte,Nat.reduceEqDiff,Nat.reduceBEq,Nat.reduceAdd,Nat.reduceSub,Int.reduceToNat,oW,hdg]),trivial,rfl⟩
   |exact⟨(k+1,n),hi.other (by omega) (jA.2 (.inr (.inr ⟨by omega,by omega⟩))) (acX (by omega)),by dsimp only;omega,by(have hdg:=@amq (at8 s k) (by omega);simp only[push_cast,↓reduceIte,Nat.reduceEqDiff,Nat.reduceBEq,Nat.reduceAdd,Nat.reduceSub,Int.reduceToNat,oW,hdg];try exact congrArg (fun z=>PV.val (Value.int .i64 z)) (by omega)),trivial,rfl⟩
   |exact⟨(k+1,n),hi.other (by omega) (jA.2 (.inr (.inl ⟨by omega,by omega,by simp_all⟩))) (acX (by omega)),by dsimp only;omega,by(have hdg:abZ (at8 s k)=true:=ay.2 ⟨by omega,by omega⟩;simp only[push_cast,↓reduceIte,Nat.reduceEqDiff,Nat.reduceBEq,Nat.reduceAdd,Nat.reduceSub,Int.reduceToNat,oW,hdg]),trivial,rfl⟩
   |(rw[hi.done (by omega)];simp_all;done)
   |(rw[hi.done (by omega)];simp_all;omega))
def aeM:Fun:=F1 dU fun n=>some (bv (inB n 48 57))
theorem adf (n:Int):aeM [.val (.int .u8 n)]=some (.val (.bool (inB n 48 57))):=rfl
theorem uS:Sound Tryz.prog 86 aeM:=by
 refine ak mixed bL Tryz.func86 rfl 9 rfl [.tmp 2] rfl (by kernel_rfl) fun ps r hr=>?_;obtain⟨n,rfl,hr⟩:=bG hr;cases hr;refine⟨by simp,?_⟩;simp only[dIs,dUs,dSs,bR,bV,bT,bU,aI,bW,aL,aO,aH,aJ];(refine wlkX6 ?_ ?_ ?_ ?_ ?_ ?_<;>intros<;>try with_reducible exact trivial);all_goals(refine fnG ?_;try with_reducible exact trivial)
 all_goals(first|(simp_all [inB];done)|(simp_all [inB];omega))
def GPt:Ctx:={fn:=aT [(85,kI),(86,aeM)],io:=aT []}
theorem au4:au Tryz.prog GPt:=okΓ (fC Tryz.func85 oZ (fC Tryz.func86 uS aj)) aj
def aug:=ah (Γ:=GPt) (f:=85) (φ:=kI) rfl
def avk:=ah (Γ:=GPt) (f:=86) (φ:=aeM) rfl
theorem lY:Sound Tryz.prog 67 vC:=by
 refine ak mixed au4 Tryz.func67 rfl 51 rfl [.tmp 2] rfl (by kernel_rfl) fun ps r hr=>?_;obtain⟨s,rfl,hq⟩:=bG hr;clear hr;split at hq
 case isFalse=>cases hq
 case isTrue hlen=>
 cases hq;refine⟨by simp,?_⟩;simp only[dIs,dUs,dSs,bR,bV,bT,bU,aI,bW,aL,aO,aH,aJ];have gpt_c85:=aug;have gpt_c86:=avk;have ap:=pJ;have ap2:=adf;(refine wlkX ?_;intros);refine aF (α:=Nat×Int) mixed (fun k=>[(0,sv s),(3,iv k.2),(7,iv s.size),(8,iv k.1)]) (fun _=>[]) (fun _=>0)
  (fun k=>acG s k.1 k.2) (fun k=>s.size-k.1) (by kernel_rfl) (0,0) (acG.zero s) ?_ trivial rfl ?_
 ·simp only[push_cast,↓reduceIte,Nat.reduceEqDiff,Nat.reduceBEq,Nat.reduceAdd,Nat.reduceSub,Int.reduceToNat]
 ·rintro⟨k,n⟩ hi
  dsimp only at hi;have hk:=hi.kk;have hn0:=hi.n0;have hn1:=hi.n1;have hrk:=ig s k;have hpd:abk s k=(decide (0<k)&&inB (at8 s (k-1)) 48 57):=rfl;have hsm:inB (at8 s k) 97 122=false→(at8 s k<97∨122<at8 s k):=fun h=>by
   by_cases hh:97≤at8 s k∧at8 s k≤122
   ·rw[ay.2 hh]at h;cases h
   ·omega
  have hdgk:inB (at8 s k) 48 57=false→(at8 s k<48∨57<at8 s k):=fun h=>by
   by_cases hh:48≤at8 s k∧at8 s k≤57
   ·rw[ay.2 hh]at h;cases h
   ·omega
  have hpd:=Lib.hid hpd;have hsm:=Lib.hid hsm;have hdgk:=Lib.hid hdgk
  repeat' (first|(with_reducible first|apply nk|apply fV|apply iW|apply iR|apply nZ|apply acQ|apply ny|apply nR|apply adH|apply ou|apply nL|apply adj|apply mX|apply nK|apply nN)|((with_reducible apply dR);(simp only[List.map_cons,List.map_nil]<;>exact rfl))|((with_reducible apply iP);(simp only[List.map_cons,List.map_nil]<;>exact rfl);decide+kernel)|((with_reducible apply mY);rfl)|((first|((with_reducible apply i_V);rfl;rfl;rfl)|((first|((with_reducible apply i_E);rfl)|((with_reducible apply i_S);rfl));first|rfl|(simp only[push_cast,↓reduceIte]))|((with_reducible apply acF);rfl;rfl)|((with_reducible apply adM);rfl;rfl;rfl)|(with_reducible first|apply adg|apply iT));(simp(disch:=(first|omega|(simp only[push_cast];first|done|omega))) only[push_cast,↓reduceIte,Nat.reduceEqDiff,Nat.reduceBEq,Nat.reduceAdd,Nat.reduceSub,Int.reduceToNat, *]<;>with_reducible exact rfl);all_goals try(first|(with_reducible first|refine hyT ?_|refine hyF ?_|exact hyA|exact hyB)|(intro hX;first|(cases hX;done)|((try simp only[decide_eq_true_eq,decide_eq_false_iff_not,Bool.not_eq_true',Bool.not_eq_false']at hX);(try have hXb:=ay.1 hX))))))
  all_goals try(refine fnG ?_;try with_reducible exact trivial)
  all_goals try(exfalso;omega)
  all_goals(have hpd1:=hpd.out;have hsm1:=hsm.out;have hdgk1:=hdgk.out)
  all_goals(first
   |(rw[ai9 (k:=k) (by omega) (Bool.eq_false_iff.2 fun h=>by rcases jA.1 h with h|h|h<;>(first|omega|(simp_all;done)|(simp_all;omega)))];done)
   |exact⟨(k+1,n+1),hi.letter (by omega) (by assumption),by dsimp only;omega,by simp only[push_cast,↓reduceIte,Nat.reduceEqDiff,Nat.reduceBEq,Nat.reduceAdd,Nat.reduceSub,Int.reduceToNat],trivial,rfl⟩
   |exact⟨(k+1,n),hi.other (by omega) (jA.2 (.inr (.inr ⟨by omega,by omega⟩))) (by assumption),by dsimp only;omega,by(simp only[push_cast,↓reduceIte,Nat.reduceEqDiff,Nat.reduceBEq,Nat.reduceAdd,Nat.reduceSub,Int.reduceToNat];try exact congrArg (fun z=>PV.val (Value.int .i64 z)) (by omega)),trivial,rfl⟩
   |exact⟨(k+1,n),hi.other (by omega) (jA.2 (.inr (.inl ⟨by omega,by omega,by simp_all⟩))) (by assumption),by dsimp only;omega,by simp only[push_cast,↓reduceIte,Nat.reduceEqDiff,Nat.reduceBEq,Nat.reduceAdd,Nat.reduceSub,Int.reduceToNat],trivial,rfl⟩
   |(rw[hi.done (by omega)];simp_all;done)
   |(rw[hi.done (by omega)];simp_all;omega))
def bF (l:LS):Bool:=decide (l.length≤12)&&l.all dw
def iF:Fun:=F1 dSs fun l=>if lX l then some (bv (bF l))else none
theorem lH {l:LS} (h:lX l):iF [.lst false 1 (l.map fun s=> .val (.string s))]=some (.val (.bool (bF l))):=
 (fM (A:=dSs) l).trans (if_pos h)
def agC:Ctx:={fn:=aT [(74,fQ)],io:=aT []}
theorem aeG:au Tryz.prog agC:=okΓ (fC Tryz.func74 fq aj) aj
def adT:=ah (Γ:=agC) (f:=74) (φ:=fQ) rfl
theorem jE:Sound Tryz.prog 60 iF:=by
 refine ak mixed aeG Tryz.func60 rfl 19 rfl [.tmp 2] rfl (by kernel_rfl) fun ps r hr=>?_;obtain⟨l,rfl,hq⟩:=bG hr;clear hr;split at hq
 case isFalse=>cases hq
 case isTrue hok=>
 cases hq;obtain⟨hlen,hsz⟩:=hok;refine⟨by simp,?_⟩;simp only[dIs,dUs,dSs,bR,bV,bT,bU,aI,bW,aL,aO,aH,aJ];have gswords_c74:=adT;(refine wlkX6 ?_ ?_ ?_ ?_ ?_ ?_<;>intros<;>try with_reducible exact trivial);refine aF (α:=Nat) mixed (fun k=>[(0,.lst false 1 (l.map fun s=> .val (.string s))),(3,iv k)]) (fun _=>[]) (fun _=>0)
  (fun k=>k≤l.length∧∀j,j<k→dw (l[j]?.getD .empty)=true) (fun k=>l.length-k) (by kernel_rfl) 0 ⟨Nat.zero_le _,fun j hj=>by omega⟩ ?_ trivial rfl ?_
 ·simp only[push_cast,↓reduceIte,Nat.reduceEqDiff,Nat.reduceBEq,Nat.reduceAdd,Nat.reduceSub,Int.reduceToNat]
 ·intro k ⟨hk,hok⟩
  have ap:=@gP (l[k]?.getD .empty) (by have:=hsz k;omega);clear hsz;(refine wlkX6 ?_ ?_ ?_ ?_ ?_ ?_<;>intros<;>try with_reducible exact trivial);all_goals try(refine fnG ?_;try with_reducible exact trivial)
  ·rw[show bF l=false from by(unfold bF;rw[iZ (d:=.empty) (k:=k) (by omega) (by simp_all),Bool.and_false])]
  ·refine⟨k+1,⟨by omega,fun j hj=>?_⟩,by dsimp only;omega,by simp only[push_cast,↓reduceIte,Nat.reduceEqDiff,Nat.reduceBEq,Nat.reduceAdd,Nat.reduceSub,Int.reduceToNat],trivial,rfl⟩
   by_cases h1:j<k
   ·exact hok j h1
   ·have:j=k:=by omega
    subst this;simp_all
  ·rw[show bF l=decide (l.length≤12)from by(unfold bF;rw[fA (d:=.empty) fun j hj=>hok j (by omega),Bool.and_true])]
   simp;omega
def aiL:Ctx:={fn:=aT [(66,fQ)],io:=aT []}
theorem adP:au Tryz.prog aiL:=okΓ (fC Tryz.func66 fu aj) aj
def aew:=ah (Γ:=aiL) (f:=66) (φ:=fQ) rfl
theorem ji:Sound Tryz.prog 49 iF:=by
 refine ak mixed adP Tryz.func49 rfl 18 rfl [.tmp 2] rfl (by kernel_rfl) fun ps r hr=>?_;obtain⟨l,rfl,hq⟩:=bG hr;clear hr;split at hq
 case isFalse=>cases hq
 case isTrue hok=>
 cases hq;obtain⟨hlen,hsz⟩:=hok;refine⟨by simp,?_⟩;simp only[dIs,dUs,dSs,bR,bV,bT,bU,aI,bW,aL,aO,aH,aJ];have giwords_c66:=aew;(refine wlkX6 ?_ ?_ ?_ ?_ ?_ ?_<;>intros<;>try with_reducible exact trivial);refine aF (α:=Nat) mixed (fun k=>[(0,.lst false 1 (l.map fun s=> .val (.string s))),(5,.lst false 1 (l.map fun s=> .val (.string s))),(6,iv l.length),(7,iv k)]) (fun _=>[]) (fun _=>0)
  (fun k=>k≤l.length∧∀j,j<k→dw (l[j]?.getD .empty)=true) (fun k=>l.length-k) (by kernel_rfl) 0 ⟨Nat.zero_le _,fun j hj=>by omega⟩ ?_ trivial rfl ?_
 ·simp only[push_cast,↓reduceIte,Nat.reduceEqDiff,Nat.reduceBEq,Nat.reduceAdd,Nat.reduceSub,Int.reduceToNat]
 ·intro k ⟨hk,hok⟩
  have ap:=@gP (l[k]?.getD .empty) (by have:=hsz k;omega);clear hsz;(refine wlkX6 ?_ ?_ ?_ ?_ ?_ ?_<;>intros<;>try with_reducible exact trivial);all_goals try(refine fnG ?_;try with_reducible exact trivial)
  ·rw[show bF l=false from by(unfold bF;rw[iZ (d:=.empty) (k:=k) (by omega) (by simp_all),Bool.and_false])]
  ·refine⟨k+1,⟨by omega,fun j hj=>?_⟩,by dsimp only;omega,by simp only[push_cast,↓reduceIte,Nat.reduceEqDiff,Nat.reduceBEq,Nat.reduceAdd,Nat.reduceSub,Int.reduceToNat],trivial,rfl⟩
   by_cases h1:j<k
   ·exact hok j h1
   ·have:j=k:=by omega
    subst this;simp_all
  ·rw[show bF l=decide (l.length≤12)from by(unfold bF;rw[fA (d:=.empty) fun j hj=>hok j (by omega),Bool.and_true])]
   simp;omega
def bg (l:LS):Bool:=decide (l.length≤20)&&l.all zQ
def fO:Fun:=F1 dSs fun l=>if lX l then some (bv (bg l))else none
theorem gT {l:LS} (h:lX l):fO [.lst false 1 (l.map fun s=> .val (.string s))]=some (.val (.bool (bg l))):=
 (fM (A:=dSs) l).trans (if_pos h)
def alX:Ctx:={fn:=aT [(75,vC)],io:=aT []}
theorem ahk:au Tryz.prog alX:=okΓ (fC Tryz.func75 iK aj) aj
def aik:=ah (Γ:=alX) (f:=75) (φ:=vC) rfl
theorem dx:Sound Tryz.prog 61 fO:=by
 refine ak mixed ahk Tryz.func61 rfl 19 rfl [.tmp 2] rfl (by kernel_rfl) fun ps r hr=>?_;obtain⟨l,rfl,hq⟩:=bG hr;clear hr;split at hq
 case isFalse=>cases hq
 case isTrue hok=>
 cases hq;obtain⟨hlen,hsz⟩:=hok;refine⟨by simp,?_⟩;simp only[dIs,dUs,dSs,bR,bV,bT,bU,aI,bW,aL,aO,aH,aJ];have gspats_c75:=aik;(refine wlkX6 ?_ ?_ ?_ ?_ ?_ ?_<;>intros<;>try with_reducible exact trivial);refine aF (α:=Nat) mixed (fun k=>[(0,.lst false 1 (l.map fun s=> .val (.string s))),(3,iv k)]) (fun _=>[]) (fun _=>0)
  (fun k=>k≤l.length∧∀j,j<k→zQ (l[j]?.getD .empty)=true) (fun k=>l.length-k) (by kernel_rfl) 0 ⟨Nat.zero_le _,fun j hj=>by omega⟩ ?_ trivial rfl ?_
 ·simp only[push_cast,↓reduceIte,Nat.reduceEqDiff,Nat.reduceBEq,Nat.reduceAdd,Nat.reduceSub,Int.reduceToNat]
 ·intro k ⟨hk,hok⟩
  have ap:=@qF (l[k]?.getD .empty) (by have:=hsz k;omega);clear hsz;(refine wlkX6 ?_ ?_ ?_ ?_ ?_ ?_<;>intros<;>try with_reducible exact trivial);all_goals try(refine fnG ?_;try with_reducible exact trivial)
  ·rw[show bg l=false from by(unfold bg;rw[iZ (d:=.empty) (k:=k) (by omega) (by simp_all),Bool.and_false])]
  ·refine⟨k+1,⟨by omega,fun j hj=>?_⟩,by dsimp only;omega,by simp only[push_cast,↓reduceIte,Nat.reduceEqDiff,Nat.reduceBEq,Nat.reduceAdd,Nat.reduceSub,Int.reduceToNat],trivial,rfl⟩
   by_cases h1:j<k
   ·exact hok j h1
   ·have:j=k:=by omega
    subst this;simp_all
  ·rw[show bg l=decide (l.length≤20)from by(unfold bg;rw[fA (d:=.empty) fun j hj=>hok j (by omega),Bool.and_true])]
   simp;omega
def amS:Ctx:={fn:=aT [(67,vC)],io:=aT []}
theorem aiO:au Tryz.prog amS:=okΓ (fC Tryz.func67 lY aj) aj
def ahs:=ah (Γ:=amS) (f:=67) (φ:=vC) rfl
theorem dz:Sound Tryz.prog 50 fO:=by
 refine ak mixed aiO Tryz.func50 rfl 18 rfl [.tmp 2] rfl (by kernel_rfl) fun ps r hr=>?_;obtain⟨l,rfl,hq⟩:=bG hr;clear hr;split at hq
 case isFalse=>cases hq
 case isTrue hok=>
 cases hq;obtain⟨hlen,hsz⟩:=hok;refine⟨by simp,?_⟩;simp only[dIs,dUs,dSs,bR,bV,bT,bU,aI,bW,aL,aO,aH,aJ];have gipats_c67:=ahs;(refine wlkX6 ?_ ?_ ?_ ?_ ?_ ?_<;>intros<;>try with_reducible exact trivial);refine aF (α:=Nat) mixed (fun k=>[(0,.lst false 1 (l.map fun s=> .val (.string s))),(5,.lst false 1 (l.map fun s=> .val (.string s))),(6,iv l.length),(7,iv k)]) (fun _=>[]) (fun _=>0)
  (fun k=>k≤l.length∧∀j,j<k→zQ (l[j]?.getD .empty)=true) (fun k=>l.length-k) (by kernel_rfl) 0 ⟨Nat.zero_le _,fun j hj=>by omega⟩ ?_ trivial rfl ?_
 ·simp only[push_cast,↓reduceIte,Nat.reduceEqDiff,Nat.reduceBEq,Nat.reduceAdd,Nat.reduceSub,Int.reduceToNat]
 ·intro k ⟨hk,hok⟩
  have ap:=@qF (l[k]?.getD .empty) (by have:=hsz k;omega);clear hsz;(refine wlkX6 ?_ ?_ ?_ ?_ ?_ ?_<;>intros<;>try with_reducible exact trivial);all_goals try(refine fnG ?_;try with_reducible exact trivial)
  ·rw[show bg l=false from by(unfold bg;rw[iZ (d:=.empty) (k:=k) (by omega) (by simp_all),Bool.and_false])]
  ·refine⟨k+1,⟨by omega,fun j hj=>?_⟩,by dsimp only;omega,by simp only[push_cast,↓reduceIte,Nat.reduceEqDiff,Nat.reduceBEq,Nat.reduceAdd,Nat.reduceSub,Int.reduceToNat],trivial,rfl⟩
   by_cases h1:j<k
   ·exact hok j h1
   ·have:j=k:=by omega
    subst this;simp_all
  ·rw[show bg l=decide (l.length≤20)from by(unfold bg;rw[fA (d:=.empty) fun j hj=>hok j (by omega),Bool.and_true])]
   simp;omega
def szS (left:Int) (l:LS):Int:=if left-l.length<0 then-1 else jc (left-l.length) (l.map (·.size))
theorem pE:∀{l:List Nat} {left:Int},0≤left→jc left l≤left
 |[],left,h=>by simp[jc]
 |n::l,left,h=>by
  unfold jc;split
  ·omega
  ·rename_i h1
   have:=pE (l:=l) (left:=left-n) (by omega);omega
theorem agB {l:LS} {left:Int} (h:0≤left):szS left l≤left:=by
 unfold szS;split
 ·omega
 ·rename_i h1
  have:=pE (l:=l.map (·.size)) (left:=left-l.length) (by omega);omega
theorem amz {l:LS} {left:Int} (h:0≤szS left l) (h0:0≤left) (h1:left≤1048576):lX l:=by
 unfold szS at h;split at h
 ·omega
 ·rename_i h2
  have h3:=tL h (by omega);refine⟨by omega,fun i=>?_⟩;by_cases hi:i<l.length
  ·have:=h3 (l[i].size) (List.mem_map.2 ⟨l[i],List.getElem_mem hi,rfl⟩)
   simp only[hi,List.getElem?_eq_getElem,Option.getD_some];omega
  ·rw[List.getElem?_eq_none (by omega)]
   simp
abbrev al4 (l:LS):Prop:=l.length≤9223372036854775807∧∀i:Nat,(l[i]?.getD .empty).size≤9223372036854775807
instance (l:LS):Decidable (al4 l):=Classical.propDecidable _
def aej:Fun:=F2 dSs dI fun l left=>if al4 l∧0≤left∧left≤1048576 then some (iv (szS left l))else none
theorem adb {l:LS} {left:Int} (h:al4 l) (h0:0≤left) (h1:left≤1048576):aej [.lst false 1 (l.map fun s=> .val (.string s)),.val (.int .i64 left)]=some (.val (.int .i64 (szS left l))):=
 (gY (A:=dSs) (B:=dI) l left).trans (if_pos ⟨h,h0,h1⟩)
theorem pQ:Sound Tryz.prog 30 aej:=by
 refine ak mixed bL Tryz.func30 rfl 28 rfl [.tmp 4] rfl (by kernel_rfl) fun ps r hr=>?_;obtain⟨l,left0,rfl,hq⟩:=jg hr;clear hr;split at hq
 case isFalse=>cases hq
 case isTrue hok=>
 cases hq;obtain⟨⟨hlen,hsz⟩,hl0,hl1⟩:=hok;refine⟨by simp,?_⟩;simp only[dIs,dUs,dSs,bR,bV,bT,bU,aI,bW,aL,aO,aH,aJ];(refine wlkX6 ?_ ?_ ?_ ?_ ?_ ?_<;>intros<;>try with_reducible exact trivial)
 ·(refine fnG ?_;try with_reducible exact trivial)
  simp[szS, *]
 generalize hR:szS left0 l=R;refine aF (α:=Nat×Int) mixed (fun k=>[(0,.lst false 1 (l.map fun s=> .val (.string s))),(1,iv k.2),(5,iv k.1)]) (fun k=>[]) (fun _=>0)
  (fun k=>k.1≤l.length∧0≤k.2∧k.2≤1048576∧R=jc k.2 ((l.drop k.1).map (·.size))) (fun k=>l.length-k.1) (by kernel_rfl) (0,left0-l.length) ⟨Nat.zero_le _,by dsimp only;omega,by dsimp only;omega,?_⟩ ?_ trivial rfl ?_
 ·subst hR
  simp[szS, *]
 ·simp only[push_cast,↓reduceIte,Nat.reduceEqDiff,Nat.reduceBEq,Nat.reduceAdd,Nat.reduceSub,Int.reduceToNat]
 ·rintro⟨k,left⟩ ⟨hk,hp0,hp1,hok⟩
  dsimp only at hk hp0 hp1 hok;have hs:=hsz k;have h1:k<l.length→R=if left-((l[k]?.getD .empty).size:Int)<0 then-1 else jc (left-(l[k]?.getD .empty).size) ((l.drop (k+1)).map (·.size)):=by
   intro hkn;have hd:l.drop k=l[k]?.getD .empty::l.drop (k+1):=by rw[List.drop_eq_getElem_cons hkn];simp[hkn]
   rw[hd,List.map_cons]at hok;exact hok
  have h2:¬k<l.length→R=left:=by intro hkn;rw[List.drop_eq_nil_of_le (by omega)]at hok;simpa [jc]using hok
  clear hsz hok hR;have hh1:=Lib.hid h1;have hh2:=Lib.hid h2;clear h1 h2;(refine wlkX6 ?_ ?_ ?_ ?_ ?_ ?_<;>intros<;>try with_reducible exact trivial);all_goals try(refine fnG ?_;try with_reducible exact trivial)
  ·rw[hh1.out (by omega),if_pos (by assumption)]
  ·have:=hh1.out (by omega)
   rw[if_neg (by assumption)]at this;exact⟨(k+1,left-(l[k]?.getD .empty).size),⟨by dsimp only;omega,by dsimp only;omega,by dsimp only;omega,this⟩,by dsimp only;omega,by simp only[push_cast,↓reduceIte,Nat.reduceEqDiff,Nat.reduceBEq,Nat.reduceAdd,Nat.reduceSub,Int.reduceToNat],trivial,rfl⟩
  ·rw[hh2.out (by omega)]
def ad9:Fun:=F1 dSs fun l=>if l.length≤1048576 then some (.lst true 1 (l.map fun s=> .val (.string s)))else none
theorem ab5 {l:LS} (h:l.length≤1048576):ad9 [.lst false 1 (l.map fun s=> .val (.string s))]=some (.lst true 1 (l.map fun s=> .val (.string s))):=
 (fM (A:=dSs) l).trans (if_pos h)
theorem pU:Sound Tryz.prog 32 ad9:=by
 refine ak mixed bL Tryz.func32 rfl 22 rfl [.tmp 2] rfl (by kernel_rfl) fun ps r hr=>?_;obtain⟨l,rfl,hq⟩:=bG hr;clear hr;split at hq
 case isFalse=>cases hq
 case isTrue hlen=>
 cases hq;refine⟨by simp,?_⟩;simp only[dIs,dUs,dSs,bR,bV,bT,bU,aI,bW,aL,aO,aH,aJ];(refine wlkX ?_;intros);refine aF (α:=Nat) mixed (fun k=>[(0,.lst false 1 (l.map fun s=> .val (.string s))),(3,.row 0 1 0 l.length),(4,iv k)]) (fun k=>[(0,9,1,(kH l .empty k).map fun s=> .val (.string s))]) (fun _=>1)
  (fun k=>k≤l.length) (fun k=>l.length-k) (by kernel_rfl) 0 (Nat.zero_le _) ?_ ?_ ?_ ?_
 ·simp only[push_cast,↓reduceIte,Nat.reduceEqDiff,Nat.reduceBEq,Nat.reduceAdd,Nat.reduceSub,Int.reduceToNat]
 ·simp only[push_cast,↓reduceIte,Nat.reduceEqDiff,Nat.reduceBEq,Nat.reduceAdd,Nat.reduceSub,Int.reduceToNat,oH,List.map_replicate]
 ·simp only[push_cast,↓reduceIte,Nat.reduceEqDiff,Nat.reduceBEq,Nat.reduceAdd,Nat.reduceSub,Int.reduceToNat]
 ·intro k hk
  have hfl:(kH l .empty k).length=l.length:=j4;(refine wlkX6 ?_ ?_ ?_ ?_ ?_ ?_<;>intros<;>try with_reducible exact trivial);all_goals try(refine fnG ?_;try with_reducible exact trivial)
  ·refine⟨k+1,by omega,by dsimp only;omega,by simp only[push_cast,↓reduceIte,Nat.reduceEqDiff,Nat.reduceBEq,Nat.reduceAdd,Nat.reduceSub,Int.reduceToNat],?_,rfl⟩
   simp only[push_cast,↓reduceIte,Nat.reduceEqDiff,Nat.reduceBEq,Nat.reduceAdd,Nat.reduceSub,Int.reduceToNat];have h:k<l.length:=by omega
   rw[←tF (y:=l[k]?.getD .empty) h (by simp[h])]
  ·rw[lq (by omega)]
def acI:Fun:=F1 dSS fun l=>if l.length≤1048576∧l.all (fun p=>decide (p.length≤1048576))=true then some (.lst true 1 (l.map fun p=> .lst true 1 (p.map fun s=> .val (.string s))))else none
theorem aiN {l:List LS} (h:l.length≤1048576) (h2:l.all (fun p=>decide (p.length≤1048576))=true):acI [.lst false 1 (l.map fun p=> .lst false 1 (p.map fun s=> .val (.string s)))]=some (.lst true 1 (l.map fun p=> .lst true 1 (p.map fun s=> .val (.string s)))):=
 (fM (A:=dSS) l).trans (if_pos ⟨h,h2⟩)
def GTs:Ctx:={fn:=aT [(32,ad9)],io:=aT []}
theorem atK:au Tryz.prog GTs:=okΓ (fC Tryz.func32 pU aj) aj
def arK:=ah (Γ:=GTs) (f:=32) (φ:=ad9) rfl
theorem vU:Sound Tryz.prog 31 acI:=by
 refine ak mixed atK Tryz.func31 rfl 23 rfl [.tmp 2] rfl (by kernel_rfl) fun ps r hr=>?_;obtain⟨l,rfl,hq⟩:=bG hr;clear hr;split at hq
 case isFalse=>cases hq
 case isTrue hlen=>
 cases hq;obtain⟨hlen,hall⟩:=hlen;have hat:∀k,(l[k]?.getD []).length≤1048576:=fun k=>by
  by_cases h:k<l.length
  ·have:=List.all_eq_true.1 hall _ (List.getElem_mem h)
   rw[List.getElem?_eq_getElem h,Option.getD_some];exact of_decide_eq_true this
  ·rw[List.getElem?_eq_none (by omega)]
   exact Nat.zero_le _
 clear hall;refine⟨by simp,?_⟩;simp only[dIs,dUs,dSs,bR,bV,bT,bU,aI,bW,aL,aO,aH,aJ];have gts_c32:=arK;(refine wlkX ?_;intros);refine aF (α:=Nat) mixed (fun k=>[(0,.lst false 1 (l.map fun p=> .lst false 1 (p.map fun s=> .val (.string s)))),(3,.row 0 1 0 l.length),(4,iv k)]) (fun k=>[(0,24,1,kH (l.map fun p=> .lst true 1 (p.map fun s=> .val (.string s))) (.val (.slice none 0 0)) k)]) (fun _=>1)
  (fun k=>k≤l.length) (fun k=>l.length-k) (by kernel_rfl) 0 (Nat.zero_le _) ?_ ?_ ?_ ?_
 ·simp only[push_cast,↓reduceIte,Nat.reduceEqDiff,Nat.reduceBEq,Nat.reduceAdd,Nat.reduceSub,Int.reduceToNat]
 ·simp only[push_cast,↓reduceIte,Nat.reduceEqDiff,Nat.reduceBEq,Nat.reduceAdd,Nat.reduceSub,Int.reduceToNat,oH]
 ·simp only[push_cast,↓reduceIte,Nat.reduceEqDiff,Nat.reduceBEq,Nat.reduceAdd,Nat.reduceSub,Int.reduceToNat]
 ·intro k hk
  have ap:=ab5 (hat k);clear hat;have hfl:(kH (l.map fun p=>PV.lst true 1 (p.map fun s=> .val (.string s))) (.val (.slice none 0 0)) k).length=l.length:=by rw[j4,List.length_map]
  (refine wlkX6 ?_ ?_ ?_ ?_ ?_ ?_<;>intros<;>try with_reducible exact trivial);all_goals try(refine fnG ?_;try with_reducible exact trivial)
  ·refine⟨k+1,by omega,by dsimp only;omega,by simp only[push_cast,↓reduceIte,Nat.reduceEqDiff,Nat.reduceBEq,Nat.reduceAdd,Nat.reduceSub,Int.reduceToNat],?_,rfl⟩
   simp only[push_cast,↓reduceIte,Nat.reduceEqDiff,Nat.reduceBEq,Nat.reduceAdd,Nat.reduceSub,Int.reduceToNat];have h:k<l.length:=by omega
   rw[←tF (y:=PV.lst true 1 ((l[k]?.getD []).map fun s=> .val (.string s))) (by simpa using h) (by simp[h])]
  ·first|(rw[lq (by simp;omega),uM rfl];done)|(rw[lq (by simp;omega),kP (g':=fun p=>PV.lst true 1 (p.map fun s=> .val (.string s))) fun p=>mF];rfl)
def aeK:Fun:=F2 dSs dSs fun a b=>if a.length≤1048576∧b.length≤1048576 then some (bv (decide (a=b)))else none
theorem ac8 {a b:LS} (h:a.length≤1048576) (h2:b.length≤1048576):aeK [.lst false 1 (a.map fun s=> .val (.string s)),.lst false 1 (b.map fun s=> .val (.string s))]=some (.val (.bool (decide (a=b)))):=
 (gY (A:=dSs) (B:=dSs) a b).trans (if_pos ⟨h,h2⟩)
theorem pW:Sound Tryz.prog 33 aeK:=by
 refine ak mixed bL Tryz.func33 rfl 26 rfl [.tmp 4] rfl (by kernel_rfl) fun ps r hr=>?_;obtain⟨xs,ys,rfl,hq⟩:=jg hr;clear hr;split at hq
 case isFalse=>cases hq
 case isTrue hlen=>
 cases hq;obtain⟨hl1,hl2⟩:=hlen;refine⟨by simp,?_⟩;simp only[dIs,dUs,dSs,bR,bV,bT,bU,aI,bW,aL,aO,aH,aJ];(refine wlkX6 ?_ ?_ ?_ ?_ ?_ ?_<;>intros<;>try with_reducible exact trivial)
 ·(refine fnG ?_;try with_reducible exact trivial)
  have:¬xs=ys:=fun h=>by subst h;simp_all
  simp[this]
 refine aF (α:=Nat) mixed (fun k=>[(0,.lst false 1 (xs.map fun s=> .val (.string s))),(1,.lst false 1 (ys.map fun s=> .val (.string s))),(5,iv k)]) (fun k=>[]) (fun _=>0)
  (fun k=>k≤xs.length∧∀j,j<k→xs[j]?.getD .empty=ys[j]?.getD .empty) (fun k=>xs.length-k) (by kernel_rfl) 0 ⟨Nat.zero_le _,fun j hj=>by omega⟩ ?_ trivial rfl ?_
 ·simp only[push_cast,↓reduceIte,Nat.reduceEqDiff,Nat.reduceBEq,Nat.reduceAdd,Nat.reduceSub,Int.reduceToNat]
 ·intro k ⟨hk,hok⟩
  (refine wlkX6 ?_ ?_ ?_ ?_ ?_ ?_<;>intros<;>try with_reducible exact trivial);all_goals try(refine fnG ?_;try with_reducible exact trivial)
  ·have:¬xs=ys:=fun h=>by subst h;simp_all
   simp[this]
  ·refine⟨k+1,⟨by omega,fun j hj=>?_⟩,by dsimp only;omega,by simp only[push_cast,↓reduceIte,Nat.reduceEqDiff,Nat.reduceBEq,Nat.reduceAdd,Nat.reduceSub,Int.reduceToNat],trivial,rfl⟩
   by_cases h1:j<k
   ·exact hok j h1
   ·have:j=k:=by omega
    subst this;assumption
  ·have:xs=ys:=aa7 (d:=.empty) (by omega) fun j hj=>hok j (by omega)
   simp[this]
def uF:Fun:=F2 dSS dSS fun a b=>if a=b∧a.length≤1048576∧a.all (fun p=>decide (p.length≤1048576))=true then some (bv true)else none
theorem zn {a:List LS} (h:a.length≤1048576) (h2:a.all (fun p=>decide (p.length≤1048576))=true):uF [(.lst false 1 (a.map fun p=> .lst false 1 (p.map fun s=> .val (.string s)))),(.lst false 1 (a.map fun p=> .lst false 1 (p.map fun s=> .val (.string s))))]=some (.val (.bool true)):=
 (gY (A:=dSS) (B:=dSS) a a).trans (if_pos ⟨rfl,h,h2⟩)
def GEs:Ctx:={fn:=aT [(33,aeK)],io:=aT []}
theorem aro:au Tryz.prog GEs:=okΓ (fC Tryz.func33 pW aj) aj
def auA:=ah (Γ:=GEs) (f:=33) (φ:=aeK) rfl
theorem iB:Sound Tryz.prog 13 uF:=by
 refine ak mixed aro Tryz.func13 rfl 27 rfl [.tmp 4] rfl (by kernel_rfl) fun ps r hr=>?_;obtain⟨l,ys,rfl,hq⟩:=jg hr;clear hr;split at hq
 case isFalse=>cases hq
 case isTrue hlen=>
 cases hq;obtain⟨rfl,hlen,hall⟩:=hlen;have hat:∀k,(l[k]?.getD []).length≤1048576:=fun k=>by
  by_cases h:k<l.length
  ·have:=List.all_eq_true.1 hall _ (List.getElem_mem h)
   rw[List.getElem?_eq_getElem h,Option.getD_some];exact of_decide_eq_true this
  ·rw[List.getElem?_eq_none (by omega)]
   exact Nat.zero_le _
 clear hall;refine⟨by simp,?_⟩;simp only[dIs,dUs,dSs,bR,bV,bT,bU,aI,bW,aL,aO,aH,aJ];have ges_c33:=auA;(refine wlkX ?_;intros);refine aF (α:=Nat) mixed (fun k=>[(0,.lst false 1 (l.map fun p=> .lst false 1 (p.map fun s=> .val (.string s)))),(1,.lst false 1 (l.map fun p=> .lst false 1 (p.map fun s=> .val (.string s)))),(5,iv k)]) (fun k=>[]) (fun _=>0)
  (fun k=>k≤l.length) (fun k=>l.length-k) (by kernel_rfl) 0 (Nat.zero_le _) ?_ trivial rfl ?_
 ·simp only[push_cast,↓reduceIte,Nat.reduceEqDiff,Nat.reduceBEq,Nat.reduceAdd,Nat.reduceSub,Int.reduceToNat]
 ·intro k hk
  have ap:=ac8 (hat k) (hat k);rw[decide_eq_true rfl]at ap;clear hat;(refine wlkX6 ?_ ?_ ?_ ?_ ?_ ?_<;>intros<;>try with_reducible exact trivial);all_goals try(exact fnF)
  all_goals try(exfalso;omega)
  all_goals exact⟨k+1,by omega,by dsimp only;omega,by simp only[push_cast,↓reduceIte,Nat.reduceEqDiff,Nat.reduceBEq,Nat.reduceAdd,Nat.reduceSub,Int.reduceToNat],trivial,rfl⟩
abbrev BK:=List LS×LS×Int×Int×Int
abbrev iY:Dec BK:=dA5 dSS dSs dI dI dI
abbrev o7 (l:List LS):Prop:=l.length≤1048576∧l.all (fun p=>decide (p.length≤1048576))=true
def qx:Fun:=F1 iY fun b=>if o7 b.1∧b.2.1.length≤1048576 then some (.agg [.lst true 1 (b.1.map fun p=> .lst true 1 (p.map fun s=> .val (.string s))),.lst true 1 (b.2.1.map fun s=> .val (.string s)),.val (.int .i64 b.2.2.1),.val (.int .i64 b.2.2.2.1),.val (.int .i64 b.2.2.2.2)])else none
theorem aa2 {p:List LS} {q:LS} {x y z:Int} (h:o7 p) (h2:q.length≤1048576):qx [.agg [.lst false 1 (p.map fun p=> .lst false 1 (p.map fun s=> .val (.string s))),.lst false 1 (q.map fun s=> .val (.string s)),.val (.int .i64 x),.val (.int .i64 y),.val (.int .i64 z)]]=some (.agg [.lst true 1 (p.map fun p=> .lst true 1 (p.map fun s=> .val (.string s))),.lst true 1 (q.map fun s=> .val (.string s)),.val (.int .i64 x),.val (.int .i64 y),.val (.int .i64 z)]):=
 (fM (A:=iY) (p,q,x,y,z)).trans (if_pos ⟨h,h2⟩)
def GTk:Ctx:={fn:=aT [(31,acI),(32,ad9)],io:=aT []}
theorem au3:au Tryz.prog GTk:=okΓ (fC Tryz.func31 vU (fC Tryz.func32 pU aj)) aj
def arV:=ah (Γ:=GTk) (f:=31) (φ:=acI) rfl
def ar9:=ah (Γ:=GTk) (f:=32) (φ:=ad9) rfl
theorem ahh:Sound Tryz.prog 12 qx:=by
 refine ak mixed au3 Tryz.func12 rfl 22 rfl [.cell 2 26] rfl (by kernel_rfl) fun ps r hr=>?_;obtain⟨⟨p,q,x,y,z⟩,rfl,hq⟩:=bG hr;clear hr;split at hq
 case isFalse=>cases hq
 case isTrue hlen=>
 cases hq;dsimp only at hlen;have ap:=aiN hlen.1.1 hlen.1.2;have ap2:=ab5 hlen.2;clear hlen;refine⟨by simp,?_⟩;simp only[dIs,dUs,dSs,bR,bV,bT,bU,aI,bW,aL,aO,aH,aJ];have gtk_c31:=arV;have gtk_c32:=ar9;(refine wlkX ?_;intros);all_goals(exact fnF)
def adG:Fun:=F2 iY iY fun a b=>if a=b∧o7 a.1∧a.2.1.length≤1048576 then some (bv true)else none
theorem aaZ {p:List LS} {q:LS} {x y z:Int} (h:o7 p) (h2:q.length≤1048576):adG [.agg [.lst false 1 (p.map fun p=> .lst false 1 (p.map fun s=> .val (.string s))),.lst false 1 (q.map fun s=> .val (.string s)),.val (.int .i64 x),.val (.int .i64 y),.val (.int .i64 z)],.agg [.lst false 1 (p.map fun p=> .lst false 1 (p.map fun s=> .val (.string s))),.lst false 1 (q.map fun s=> .val (.string s)),.val (.int .i64 x),.val (.int .i64 y),.val (.int .i64 z)]]=some (.val (.bool true)):=
 (gY (A:=iY) (B:=iY) (p,q,x,y,z) (p,q,x,y,z)).trans (if_pos ⟨rfl,h,h2⟩)
def GEk:Ctx:={fn:=aT [(13,uF),(33,aeK)],io:=aT []}
theorem atn:au Tryz.prog GEk:=okΓ (fC Tryz.func13 iB (fC Tryz.func33 pW aj)) aj
def avb:=ah (Γ:=GEk) (f:=13) (φ:=uF) rfl
def asO:=ah (Γ:=GEk) (f:=33) (φ:=aeK) rfl
theorem afP:Sound Tryz.prog 14 adG:=by
 refine ak mixed atn Tryz.func14 rfl 32 rfl [.tmp 4] rfl (by kernel_rfl) fun ps r hr=>?_;obtain⟨⟨p,q,x,y,z⟩,b,rfl,hq⟩:=jg hr;clear hr;split at hq
 case isFalse=>cases hq
 case isTrue hlen=>
 cases hq;obtain⟨rfl,hlen⟩:=hlen;dsimp only at hlen;have ap:=zn hlen.1.1 hlen.1.2;have ap2:=ac8 hlen.2 hlen.2;rw[decide_eq_true rfl]at ap2;clear hlen;refine⟨by simp,?_⟩;simp only[dIs,dUs,dSs,bR,bV,bT,bU,aI,bW,aL,aO,aH,aJ];have gek_c13:=avb;have gek_c33:=asO;(refine wlkX ?_;intros);all_goals(exact fnF)
def oO:Int→List LS→Int
 |left,[]=>left
 |left,p::t=>if szS left p<0 then-1 else oO (szS left p) t
def aex (left:Int) (l:List LS):Int:=if left-l.length<0 then-1 else oO (left-l.length) l
theorem aco:∀{l:List LS} {left:Int},0≤left→oO left l≤left
 |[],left,h=>by simp[oO]
 |p::l,left,h=>by
  unfold oO;split
  ·omega
  ·rename_i h1
   have:=aco (l:=l) (left:=szS left p) (by omega);have:=agB (l:=p) h;omega
theorem aci:∀{l:List LS} {left:Int},0≤oO left l→0≤left→left≤1048576→∀p∈l,lX p
 |[],left,h,h0,h1,p,hp=>by simp at hp
 |q::l,left,h,h0,h1,p,hp=>by
  unfold oO at h;split at h
  ·omega
  ·rename_i h2
   rcases List.mem_cons.1 hp with rfl|h3
   ·exact amz (by omega) h0 h1
   ·have:=agB (l:=q) h0
    exact aci h (by omega) (by omega) p h3
abbrev abg (l:List LS):Prop:=l.length≤9223372036854775807∧∀i:Nat,al4 (l[i]?.getD [])
instance (l:List LS):Decidable (abg l):=Classical.propDecidable _
def acB:Fun:=F2 dSS dI fun l left=>if abg l∧left=1048576 then some (iv (aex left l))else none
theorem agE {l:List LS} (h:abg l):acB [.lst false 1 (l.map fun p=> .lst false 1 (p.map fun s=> .val (.string s))),.val (.int .i64 1048576)]=some (.val (.int .i64 (aex 1048576 l))):=
 (gY (A:=dSS) (B:=dI) l 1048576).trans (if_pos ⟨h,rfl⟩)
def GSs:Ctx:={fn:=aT [(30,aej)],io:=aT []}
theorem asY:au Tryz.prog GSs:=okΓ (fC Tryz.func30 pQ aj) aj
def auD:=ah (Γ:=GSs) (f:=30) (φ:=aej) rfl
theorem wW:Sound Tryz.prog 29 acB:=by
 refine ak mixed asY Tryz.func29 rfl 27 rfl [.tmp 4] rfl (by kernel_rfl) fun ps r hr=>?_;obtain⟨l,left0,rfl,hq⟩:=jg hr;clear hr;split at hq
 case isFalse=>cases hq
 case isTrue hok=>
 cases hq;obtain⟨⟨hlen,hsz⟩,rfl⟩:=hok;refine⟨by simp,?_⟩;simp only[dIs,dUs,dSs,bR,bV,bT,bU,aI,bW,aL,aO,aH,aJ];have gss_c30:=auD;(refine wlkX6 ?_ ?_ ?_ ?_ ?_ ?_<;>intros<;>try with_reducible exact trivial)
 ·(refine fnG ?_;try with_reducible exact trivial)
  simp[aex, *]
 generalize hR:aex 1048576 l=R;refine aF (α:=Nat×Int) mixed (fun k=>[(0,.lst false 1 (l.map fun p=> .lst false 1 (p.map fun s=> .val (.string s)))),(1,iv k.2),(5,iv k.1)]) (fun k=>[]) (fun _=>0)
  (fun k=>k.1≤l.length∧0≤k.2∧k.2≤1048576∧R=oO k.2 (l.drop k.1)) (fun k=>l.length-k.1) (by kernel_rfl) (0,1048576-l.length) ⟨Nat.zero_le _,by dsimp only;omega,by dsimp only;omega,?_⟩ ?_ trivial rfl ?_
 ·subst hR
  simp[aex, *]
 ·simp only[push_cast,↓reduceIte,Nat.reduceEqDiff,Nat.reduceBEq,Nat.reduceAdd,Nat.reduceSub,Int.reduceToNat]
 ·rintro⟨k,left⟩ ⟨hk,hp0,hp1,hok⟩
  dsimp only at hk hp0 hp1 hok;have ap:=adb (hsz k) hp0 hp1;have hle:=agB (l:=l[k]?.getD []) hp0;have h1:k<l.length→R=if szS left (l[k]?.getD [])<0 then-1 else oO (szS left (l[k]?.getD [])) (l.drop (k+1)):=by
   intro hkn;have hd:l.drop k=l[k]?.getD []::l.drop (k+1):=by rw[List.drop_eq_getElem_cons hkn];simp[hkn]
   rw[hd]at hok;exact hok
  have h2:¬k<l.length→R=left:=by intro hkn;rw[List.drop_eq_nil_of_le (by omega)]at hok;simpa [oO]using hok
  clear hsz hok hR;have hh1:=Lib.hid h1;have hh2:=Lib.hid h2;clear h1 h2;(refine wlkX6 ?_ ?_ ?_ ?_ ?_ ?_<;>intros<;>try with_reducible exact trivial);all_goals try(refine fnG ?_;try with_reducible exact trivial)
  ·rw[hh1.out (by omega),if_pos (by assumption)]
  ·have:=hh1.out (by omega)
   rw[if_neg (by assumption)]at this;exact⟨(k+1,szS left (l[k]?.getD [])),⟨by dsimp only;omega,by dsimp only;omega,by dsimp only;omega,this⟩,by dsimp only;omega,by simp only[push_cast,↓reduceIte,Nat.reduceEqDiff,Nat.reduceBEq,Nat.reduceAdd,Nat.reduceSub,Int.reduceToNat],trivial,rfl⟩
  ·rw[hh2.out (by omega)]
def alT (p:List LS) (q:LS):Int:=if aex 1048576 p<0 then-1 else if szS (aex 1048576 p) q<0 then-1 else szS (aex 1048576 p) q
theorem ag1 {l:List LS}:aex 1048576 l≤1048576:=by
 unfold aex;split
 ·omega
 ·have:=aco (l:=l) (left:=1048576-l.length) (by omega)
  omega
def qN:Fun:=F2 iY dI fun b left=>if abg b.1∧al4 b.2.1∧left=1048576 then some (iv (alT b.1 b.2.1))else none
theorem abH {p:List LS} {q:LS} {x y z:Int} (h:abg p) (h2:al4 q):qN [.agg [.lst false 1 (p.map fun p=> .lst false 1 (p.map fun s=> .val (.string s))),.lst false 1 (q.map fun s=> .val (.string s)),.val (.int .i64 x),.val (.int .i64 y),.val (.int .i64 z)],.val (.int .i64 1048576)]=some (.val (.int .i64 (alT p q))):=
 (gY (A:=iY) (B:=dI) (p,q,x,y,z) 1048576).trans (if_pos ⟨h,h2,rfl⟩)
def GSk:Ctx:={fn:=aT [(30,aej),(29,acB)],io:=aT []}
theorem as1:au Tryz.prog GSk:=okΓ (fC Tryz.func30 pQ (fC Tryz.func29 wW aj)) aj
def amN:=ah (Γ:=GSk) (f:=30) (φ:=aej) rfl
def alY:=ah (Γ:=GSk) (f:=29) (φ:=acB) rfl
theorem aiK:Sound Tryz.prog 11 qN:=by
 refine ak mixed as1 Tryz.func11 rfl 18 rfl [.tmp 4] rfl (by kernel_rfl) fun ps r hr=>?_;obtain⟨⟨p,q,x,y,z⟩,left,rfl,hq⟩:=jg hr;clear hr;split at hq
 case isFalse=>cases hq
 case isTrue hok=>
 cases hq;obtain⟨hok1,hok2,rfl⟩:=hok;dsimp only at hok1 hok2;have ap:=agE hok1;have hle:=ag1 (l:=p);have ap2:0≤aex 1048576 p→_:=fun h=>adb hok2 h hle;clear hok1 hok2;refine⟨by simp,?_⟩;simp only[dIs,dUs,dSs,bR,bV,bT,bU,aI,bW,aL,aO,aH,aJ];by_cases hn:aex 1048576 p<0
 ·clear ap2
  have gsk_c30:=amN;have gsk_c29:=alY;(refine wlkX ?_;intros);all_goals(refine fnG ?_;try with_reducible exact trivial)
  all_goals simp[alT,hn]
 ·have ap3:=ap2 (by omega)
  clear ap2;have gsk_c30:=amN;have gsk_c29:=alY;(refine wlkX6 ?_ ?_ ?_ ?_ ?_ ?_<;>intros<;>try with_reducible exact trivial);all_goals(refine fnG ?_;try with_reducible exact trivial)
  all_goals simp[alT, *]
def at0 (w:LS):Bool:=bF w&& !decide (w.length=0)
def iE (p:List LS) (q:LS) (x y z:Int):Bool:=p.all at0&&(decide (p.length≤6)&&(bg q&&(inB x 0 1000&&(inB y 0 10000&&inB z 1 30))))
abbrev acP (p:List LS) (q:LS):Prop:=p.length≤1048576∧(∀i:Nat,lX (p[i]?.getD []))∧lX q
instance (p:List LS) (q:LS):Decidable (acP p q):=Classical.propDecidable _
def mo:Fun:=F1 iY fun b=>if acP b.1 b.2.1 then some (bv (iE b.1 b.2.1 b.2.2.1 b.2.2.2.1 b.2.2.2.2))else none
theorem u6 {p:List LS} {q:LS} {x y z:Int} (h:acP p q):mo [.agg [.lst false 1 (p.map fun p=> .lst false 1 (p.map fun s=> .val (.string s))),.lst false 1 (q.map fun s=> .val (.string s)),.val (.int .i64 x),.val (.int .i64 y),.val (.int .i64 z)]]=some (.val (.bool (iE p q x y z))):=
 (fM (A:=iY) (p,q,x,y,z)).trans (if_pos h)
def nU:Fun:=F1 dI fun n=>some (bv (inB n 0 10000))
theorem lD (n:Int):nU [.val (.int .i64 n)]=some (.val (.bool (inB n 0 10000))):=rfl
def GBd:Ctx:={fn:=aT [(43,φIn)],io:=aT []}
theorem arT:au Tryz.prog GBd:=okΓ (fC Tryz.func43 qd aj) aj
def auV:=ah (Γ:=GBd) (f:=43) (φ:=φIn) rfl
theorem mU:Sound Tryz.prog 51 nU:=by refine ak mixed arT Tryz.func51 rfl 5 rfl [.tmp 2] rfl (by kernel_rfl) fun ps r hr=>?_;obtain⟨n,rfl,hr⟩:=bG hr;cases hr;refine⟨by simp,?_⟩;simp only[dIs,dUs,dSs,bR,bV,bT,bU,aI,bW,aL,aO,aH,aJ];have gbd_c43:=auV;have ap:=bJ;(refine wlkX ?_;intros);all_goals(exact fnF)
def GKs:Ctx:={fn:=aT [(60,iF),(61,fO),(48,φIn)],io:=aT []}
theorem auE:au Tryz.prog GKs:=okΓ (fC Tryz.func60 jE (fC Tryz.func61 dx (fC Tryz.func48 gB aj))) aj
def auz:=ah (Γ:=GKs) (f:=60) (φ:=iF) rfl
def auf:=ah (Γ:=GKs) (f:=61) (φ:=fO) rfl
def aus:=ah (Γ:=GKs) (f:=48) (φ:=φIn) rfl
theorem qh:Sound Tryz.prog 45 mo:=by
 refine ak mixed auE Tryz.func45 rfl 51 rfl [.tmp 2] rfl (by kernel_rfl) fun ps r hr=>?_;obtain⟨⟨p,q,x,y,z⟩,rfl,hq⟩:=bG hr;clear hr;split at hq
 case isFalse=>cases hq
 case isTrue hok=>
 cases hq;dsimp only at hok;obtain⟨hlen,hall,hoq⟩:=hok;have ap2:=gT hoq;clear hoq;refine⟨by simp,?_⟩;simp only[dIs,dUs,dSs,bR,bV,bT,bU,aI,bW,aL,aO,aH,aJ];have gks_c60:=auz;have gks_c61:=auf;have gks_c48:=aus;have ap3:=bJ;have ap4:=lD;(refine wlkX6 ?_ ?_ ?_ ?_ ?_ ?_<;>intros<;>try with_reducible exact trivial);refine aF (α:=Nat) mixed (fun k=>[(1,.own 0 5 0 0),(3,iv k)]) (fun _=>[(0,26,5,[.agg [.lst false 1 (p.map fun p=> .lst false 1 (p.map fun s=> .val (.string s))),.lst false 1 (q.map fun s=> .val (.string s)),.val (.int .i64 x),.val (.int .i64 y),.val (.int .i64 z)]])]) (fun _=>1)
  (fun k=>k≤p.length∧∀j,j<k→at0 (p[j]?.getD [])=true) (fun k=>p.length-k) (by kernel_rfl) 0 ⟨Nat.zero_le _,fun j hj=>by omega⟩ ?_ ?_ ?_ ?_
 ·simp only[push_cast,↓reduceIte,Nat.reduceEqDiff,Nat.reduceBEq,Nat.reduceAdd,Nat.reduceSub,Int.reduceToNat]
 ·simp only[push_cast,↓reduceIte,Nat.reduceEqDiff,Nat.reduceBEq,Nat.reduceAdd,Nat.reduceSub,Int.reduceToNat]
 ·simp only[push_cast,↓reduceIte,Nat.reduceEqDiff,Nat.reduceBEq,Nat.reduceAdd,Nat.reduceSub,Int.reduceToNat]
 ·intro k ⟨hk,hok⟩
  have ap:=lH (hall k);have hpl:=(hall k).1;clear hall;have hpb:at0 (p[k]?.getD [])=(bF (p[k]?.getD [])&& !decide ((p[k]?.getD []).length=0)):=rfl;have hpb:=Lib.hid hpb;have hok:=Lib.hid hok
  repeat' (first|(with_reducible first|apply nk|apply fV|apply iW|apply iR|apply nZ|apply acQ|apply ny|apply nR|apply adH|apply ou|apply nL|apply adj|apply mX|apply nK|apply nN)|((with_reducible apply dR);(simp only[List.map_cons,List.map_nil]<;>exact rfl))|((with_reducible apply iP);(simp only[List.map_cons,List.map_nil]<;>exact rfl);decide+kernel)|((with_reducible apply mY);rfl)|((first|((with_reducible apply i_V);rfl;rfl;rfl)|((first|((with_reducible apply i_E);rfl)|((with_reducible apply i_S);rfl));first|rfl|(simp only[push_cast,↓reduceIte]))|((with_reducible apply acF);rfl;rfl)|((with_reducible apply adM);rfl;rfl;rfl)|(with_reducible first|apply adg|apply iT));(simp(disch:=(first|omega|(simp only[push_cast];first|done|omega))) only[push_cast,↓reduceIte,Nat.reduceEqDiff,Nat.reduceBEq,Nat.reduceAdd,Nat.reduceSub,Int.reduceToNat, *]<;>with_reducible exact rfl);all_goals try(first|(with_reducible first|refine hyT ?_|refine hyF ?_|exact hyA|exact hyB)|(intro hX;first|(cases hX;done)|((try simp only[decide_eq_true_eq,decide_eq_false_iff_not,Bool.not_eq_true',Bool.not_eq_false']at hX);(try have hXb:=ay.1 hX))))))
  all_goals try(refine fnG ?_;try with_reducible exact trivial)
  all_goals try(exfalso;omega)
  all_goals have hpb1:=hpb.out
  all_goals(first
   |(rw[show iE p q x y z=false from by(unfold iE;rw[iZ (d:=[]) (k:=k) (by omega) (by simp_all),Bool.false_and])];done)
   |(rw[show iE p q x y z=(decide (p.length≤6)&&(bg q&&(inB x 0 1000&&(inB y 0 10000&&inB z 1 30))))from by(unfold iE;rw[fA (d:=[]) fun j hj=>hok.out j (by omega),Bool.true_and])];simp_all;done)
   |(rw[show iE p q x y z=(decide (p.length≤6)&&(bg q&&(inB x 0 1000&&(inB y 0 10000&&inB z 1 30))))from by(unfold iE;rw[fA (d:=[]) fun j hj=>hok.out j (by omega),Bool.true_and])];simp_all;omega)
   |(refine⟨k+1,⟨by omega,fun j hj=>?_⟩,by dsimp only;omega,by simp only[push_cast,↓reduceIte,Nat.reduceEqDiff,Nat.reduceBEq,Nat.reduceAdd,Nat.reduceSub,Int.reduceToNat],by simp only[push_cast,↓reduceIte,Nat.reduceEqDiff,Nat.reduceBEq,Nat.reduceAdd,Nat.reduceSub,Int.reduceToNat],rfl⟩
     by_cases h1:j<k
     ·exact hok.out j h1
     ·have:j=k:=by omega
      subst this;simp_all;try omega))
def GKi:Ctx:={fn:=aT [(49,iF),(50,fO),(43,φIn),(51,nU)],io:=aT []}
theorem asA:au Tryz.prog GKi:=okΓ (fC Tryz.func49 ji (fC Tryz.func50 dz (fC Tryz.func43 qd (fC Tryz.func51 mU aj)))) aj
def as7:=ah (Γ:=GKi) (f:=49) (φ:=iF) rfl
def ash:=ah (Γ:=GKi) (f:=50) (φ:=fO) rfl
def ar5:=ah (Γ:=GKi) (f:=43) (φ:=φIn) rfl
def auu:=ah (Γ:=GKi) (f:=51) (φ:=nU) rfl
theorem qc:Sound Tryz.prog 27 mo:=by
 refine ak mixed asA Tryz.func27 rfl 45 rfl [.tmp 2] rfl (by kernel_rfl) fun ps r hr=>?_;obtain⟨⟨p,q,x,y,z⟩,rfl,hq⟩:=bG hr;clear hr;split at hq
 case isFalse=>cases hq
 case isTrue hok=>
 cases hq;dsimp only at hok;obtain⟨hlen,hall,hoq⟩:=hok;have ap2:=gT hoq;clear hoq;refine⟨by simp,?_⟩;simp only[dIs,dUs,dSs,bR,bV,bT,bU,aI,bW,aL,aO,aH,aJ];have gki_c49:=as7;have gki_c50:=ash;have gki_c43:=ar5;have gki_c51:=auu;have ap3:=bJ;have ap4:=lD;(refine wlkX6 ?_ ?_ ?_ ?_ ?_ ?_<;>intros<;>try with_reducible exact trivial);refine aF (α:=Nat) mixed (fun k=>[(1,.own 0 5 0 0),(6,.lst false 1 (p.map fun p=> .lst false 1 (p.map fun s=> .val (.string s)))),(7,iv p.length),(8,iv k)]) (fun _=>[(0,26,5,[.agg [.lst false 1 (p.map fun p=> .lst false 1 (p.map fun s=> .val (.string s))),.lst false 1 (q.map fun s=> .val (.string s)),.val (.int .i64 x),.val (.int .i64 y),.val (.int .i64 z)]])]) (fun _=>1)
  (fun k=>k≤p.length∧∀j,j<k→at0 (p[j]?.getD [])=true) (fun k=>p.length-k) (by kernel_rfl) 0 ⟨Nat.zero_le _,fun j hj=>by omega⟩ ?_ ?_ ?_ ?_
 ·simp only[push_cast,↓reduceIte,Nat.reduceEqDiff,Nat.reduceBEq,Nat.reduceAdd,Nat.reduceSub,Int.reduceToNat]
 ·simp only[push_cast,↓reduceIte,Nat.reduceEqDiff,Nat.reduceBEq,Nat.reduceAdd,Nat.reduceSub,Int.reduceToNat]
 ·simp only[push_cast,↓reduceIte,Nat.reduceEqDiff,Nat.reduceBEq,Nat.reduceAdd,Nat.reduceSub,Int.reduceToNat]
 ·intro k ⟨hk,hok⟩
  have ap:=lH (hall k);have hpl:=(hall k).1;clear hall;have hpb:at0 (p[k]?.getD [])=(bF (p[k]?.getD [])&& !decide ((p[k]?.getD []).length=0)):=rfl;have hpb:=Lib.hid hpb;have hok:=Lib.hid hok
  repeat' (first|(with_reducible first|apply nk|apply fV|apply iW|apply iR|apply nZ|apply acQ|apply ny|apply nR|apply adH|apply ou|apply nL|apply adj|apply mX|apply nK|apply nN)|((with_reducible apply dR);(simp only[List.map_cons,List.map_nil]<;>exact rfl))|((with_reducible apply iP);(simp only[List.map_cons,List.map_nil]<;>exact rfl);decide+kernel)|((with_reducible apply mY);rfl)|((first|((with_reducible apply i_V);rfl;rfl;rfl)|((first|((with_reducible apply i_E);rfl)|((with_reducible apply i_S);rfl));first|rfl|(simp only[push_cast,↓reduceIte]))|((with_reducible apply acF);rfl;rfl)|((with_reducible apply adM);rfl;rfl;rfl)|(with_reducible first|apply adg|apply iT));(simp(disch:=(first|omega|(simp only[push_cast];first|done|omega))) only[push_cast,↓reduceIte,Nat.reduceEqDiff,Nat.reduceBEq,Nat.reduceAdd,Nat.reduceSub,Int.reduceToNat, *]<;>with_reducible exact rfl);all_goals try(first|(with_reducible first|refine hyT ?_|refine hyF ?_|exact hyA|exact hyB)|(intro hX;first|(cases hX;done)|((try simp only[decide_eq_true_eq,decide_eq_false_iff_not,Bool.not_eq_true',Bool.not_eq_false']at hX);(try have hXb:=ay.1 hX))))))
  all_goals try(refine fnG ?_;try with_reducible exact trivial)
  all_goals try(exfalso;omega)
  all_goals have hpb1:=hpb.out
  all_goals(first
   |(rw[show iE p q x y z=false from by(unfold iE;rw[iZ (d:=[]) (k:=k) (by omega) (by simp_all),Bool.false_and])];done)
   |(rw[show iE p q x y z=(decide (p.length≤6)&&(bg q&&(inB x 0 1000&&(inB y 0 10000&&inB z 1 30))))from by(unfold iE;rw[fA (d:=[]) fun j hj=>hok.out j (by omega),Bool.true_and])];simp_all;done)
   |(rw[show iE p q x y z=(decide (p.length≤6)&&(bg q&&(inB x 0 1000&&(inB y 0 10000&&inB z 1 30))))from by(unfold iE;rw[fA (d:=[]) fun j hj=>hok.out j (by omega),Bool.true_and])];simp_all;omega)
   |(refine⟨k+1,⟨by omega,fun j hj=>?_⟩,by dsimp only;omega,by simp only[push_cast,↓reduceIte,Nat.reduceEqDiff,Nat.reduceBEq,Nat.reduceAdd,Nat.reduceSub,Int.reduceToNat],by simp only[push_cast,↓reduceIte,Nat.reduceEqDiff,Nat.reduceBEq,Nat.reduceAdd,Nat.reduceSub,Int.reduceToNat],rfl⟩
     by_cases h1:j<k
     ·exact hok.out j h1
     ·have:j=k:=by omega
      subst this;simp_all;try omega))
end
end Go.Proofs.YtmmafcjjlbgnkaaGreat
