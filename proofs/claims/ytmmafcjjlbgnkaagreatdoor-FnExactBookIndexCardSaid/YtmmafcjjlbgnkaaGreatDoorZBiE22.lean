/- What the proof rests on, part 22: contracts of functions. No condition beyond what each states. -/
import Derived.Test.YtmmafcjjlbgnkaaGreatDoorZBiE21
namespace Go.Proofs.YtmmafcjjlbgnkaaGreatDoor
open Go.RowKit
open Nat renaming reduceEqDiff→Rq,reduceBEq→Rb,reduceAdd→Ra,reduceSub→Rs
open Int renaming reduceToNat→Rt
set_option linter.all false
set_option maxHeartbeats 32000000
noncomputable section
def iq (T:Nat) (v:Value) (vs:List Value) (w:World):Prop:=
 (v=.slice none 0 0∧vs=[])∨∃g cap arr,v=.slice (some ⟨g,0,none⟩) vs.length cap∧vs.length≤cap∧cap≤9223372036854775807∧w.heap[g]?=some (.cells arr T (0,0))∧cap≤arr.size∧∀(j:Nat) (u:Value),vs[j]?=some u→arr[j]?=some u
def asy (u:Value):Prop:=u.cells=#[u]∧u.oneCell'=true
theorem nW (s:ByteArray):asy (.string s):=⟨rfl,rfl⟩
theorem og (a:Option Addr) (n c:Nat):asy (.slice a n c):=⟨rfl,rfl⟩
def eD (l:LS):List Value:=l.map Value.string
section
variable {T T1 T2:Nat} {v:Value} {vs:List Value} {ls:List LS} {w w':World}
theorem iq.same (h:iq T v vs w) (hs:∀g,v.ownBlock=some g→w'.heap[g]?=w.heap[g]?):iq T v vs w':=by
 rcases h with h|⟨g,cap,arr,rfl,h1,h2,h3,h4,h5⟩
 ·exact .inl h
 ·exact .inr ⟨g,cap,arr,rfl,h1,h2,(hs g rfl).trans h3,h4,h5⟩
theorem iq.lt (h:iq T v vs w) {g:Nat} (hg:v.ownBlock=some g):g<w.heap.size:=by
 rcases h with⟨rfl,_⟩|⟨g',cap,arr,rfl,h1,h2,h3,h4,h5⟩
 ·cases hg
 ·cases hg
  exact lt_of_heap h3
theorem iq.aen {g0:Gh} {es:List PV} {g:Nat} {arr:Array Value} (ha:w.heap[g]?=some (.cells arr T (0,0))) (h5:∀(j:Nat) (u:Value),vs[j]?=some u→arr[j]?=some u) (hl:es.length=vs.length) (he:∀(j:Nat) (e:PV) (u:Value),es[j]?=some e→vs[j]?=some u→Rep g0 w e u∧asy u):bB g0 w 1 es g 0:=
 bB.of fun i e hi=>by
  have hlt:i<vs.length:=by rw[←hl];exact(List.getElem?_eq_some_iff.1 hi).1
  obtain⟨k1,k2⟩:=he i e vs[i] hi (List.getElem?_eq_getElem hlt);refine⟨vs[i],k1,⟨by rw[k2.1];simp[k2.2],fun j hj=>?_⟩,by rw[k2.1];rfl⟩;rw[k2.1]at hj⊢;have hj0:j=0:=by have:j<1:=hj;omega
  subst hj0;simp only[World.cell?,ha,Nat.zero_add,Nat.mul_one,Nat.add_zero,Option.isSome_none,Bool.false_eq_true,if_false];exact h5 i _ (List.getElem?_eq_getElem hlt)
theorem iq.rep {Jm:Nat→Prop} {es:List PV} (h:iq T v vs w) (hJ:∀g,v.ownBlock=some g→Jm g) (hl:es.length=vs.length) (he:∀(j:Nat) (e:PV) (u:Value),es[j]?=some e→vs[j]?=some u→Rep (lG Jm) w e u∧asy u):Rep (lG Jm) w (.lst false 1 es) v:=by
 rcases h with⟨rfl,rfl⟩|⟨g,cap,arr,rfl,h1,h2,h3,h4,h5⟩
 ·have:es=[]:=List.eq_nil_of_length_eq_zero hl
  subst this;simp only[Rep];exact⟨none,0,rfl,Nat.le_refl _,by decide,.inl (by simp)⟩
 ·simp only[Rep]
  refine⟨some ⟨g,0,none⟩,cap,by rw[hl],by omega,h2,.inr ⟨g,0,rfl,⟨rfl,hJ g rfl⟩,iq.aen h3 h5 hl he⟩⟩
theorem iq.aGF {Jm:Nat→Prop} {l:LS} (h:iq T v (eD l) w) (hJ:∀g,v.ownBlock=some g→Jm g):Rep (lG Jm) w (.lst false 1 (l.map fun s=> .val (.string s))) v:=
 h.rep hJ (by simp[eD]) fun j e u h1 h2=>by unfold eD at h2;rw[List.getElem?_map]at h1 h2;rw[Option.map_eq_some_iff]at h1 h2;obtain⟨s,q1,rfl⟩:=h1;obtain⟨s',q2,rfl⟩:=h2;rw[q1]at q2;cases q2;exact⟨by simp[Rep],nW s⟩
structure qc (T1 T2:Nat) (v:Value) (vs:List Value) (ls:List LS) (w:World):Prop where
 out:iq T1 v vs w
 len:vs.length=ls.length
 inn:∀(j:Nat) (u:Value) (l:LS),vs[j]?=some u→ls[j]?=some l→iq T2 u (eD l) w
 dis:∀(i j:Nat) (x y:Value),i≠j→vs[i]?=some x→vs[j]?=some y→x.ownBlock=none∨x.ownBlock≠y.ownBlock
 ne:∀u∈vs,u.ownBlock=none∨u.ownBlock≠v.ownBlock
def uJ (v:Value) (vs:List Value) (i:Nat):Prop:=v.ownBlock=some i∨∃u∈vs,u.ownBlock=some i
theorem qc.same (h:qc T1 T2 v vs ls w) (hs:∀i,uJ v vs i→w'.heap[i]?=w.heap[i]?):qc T1 T2 v vs ls w':=
 ⟨h.out.same fun g hg=>hs g (.inl hg),h.len,fun j u l h1 h2=>(h.inn j u l h1 h2).same fun g hg=>hs g (.inr ⟨u,List.mem_of_getElem? h1,hg⟩),h.dis,h.ne⟩
theorem qc.lt (h:qc T1 T2 v vs ls w) {i:Nat} (hi:uJ v vs i):i<w.heap.size:=by
 rcases hi with hi|⟨u,hu,hi⟩
 ·exact h.out.lt hi
 ·obtain⟨j,hj,rfl⟩:=List.getElem_of_mem hu
  have hj2:j<ls.length:=by rw[←h.len];exact hj
  exact(h.inn j _ _ (List.getElem?_eq_getElem hj) (List.getElem?_eq_getElem hj2)).lt hi
theorem qc.one (h:qc T1 T2 v vs ls w):∀u∈vs,asy u:=fun u hu=>by
 obtain⟨j,hj,rfl⟩:=List.getElem_of_mem hu;have hj2:j<ls.length:=by rw[←h.len];exact hj
 rcases h.inn j _ _ (List.getElem?_eq_getElem hj) (List.getElem?_eq_getElem hj2)with⟨e,_⟩|⟨g,cap,arr,e,_⟩
 ·rw[e];exact og _ _ _
 ·rw[e];exact og _ _ _
theorem qc.rep {Jm:Nat→Prop} (h:qc T1 T2 v vs ls w) (hJ:∀i,uJ v vs i→Jm i):Rep (lG Jm) w (.lst false 1 (ls.map fun l=> .lst false 1 (l.map fun s=> .val (.string s)))) v:=
 h.out.rep (fun g hg=>hJ g (.inl hg)) (by rw[List.length_map,h.len]) fun j e u h1 h2=>by rw[List.getElem?_map,Option.map_eq_some_iff]at h1;obtain⟨l,q1,rfl⟩:=h1;exact⟨(h.inn j u l h2 q1).aGF fun g hg=>hJ g (.inr ⟨u,List.mem_of_getElem? h2,hg⟩),h.one u (List.mem_of_getElem? h2)⟩
def ssF (T1 T2:Nat) (v:Value) (vs:List Value) (ls:List LS):Fgn:=⟨uJ v vs,qc T1 T2 v vs ls,fun w w' h hM=>hM.same h⟩
end
section
variable {P:Program} {N B:Nat} {w00:World} {s:AS} {σ:Fgn} {ops:Array Oper} {J:AS→Fgn→Prop} {j:Nat} {o:Oper} {l:List Oper}
theorem ZO.aGx {x y:Operand} {t d T g n c:Nat} {kk:IntKind} {i:Int} (ho:o.op=.indexAddr t x y) (hdst:o.dst=some d) (hd:d<N) (hg:o.guard=none) (hu:cZ P t=some T) (hs:aY P T=some 1) (hx:look s.tm x=.val (.slice (some ⟨g,0,none⟩) n c)) (hy:look s.tm y=.val (.int kk i)) (h0:0≤i) (hi:i<(n:Int))
 (h:ZO P N B w00 ops (j+1) l J (s.put (some d) (.val (.pointer (some ⟨g,i.toNat,none⟩)))) σ):ZO P N B w00 ops j (o::l) J s σ:=by
 refine ZO.one hg fun a w hst Kn Q hK=>?_;have hst0:=hst;obtain⟨⟨io,w0,g0,hr,hC⟩,hM⟩:=hst0;have hX:=hr.look x;have hY:=hr.look y;rw[hx]at hX;rw[hy]at hY;simp only[Rep]at hX hY;have hu':P.underlying t=some (.slice T):=by
  unfold cZ at hu;split at hu
  ·rename_i e he;cases hu;exact he
  ·cases hu
 have ha:(⟨g,0,none⟩:Addr).add (i.toNat*1)=⟨g,0+i.toNat*1,none⟩:=Addr.add_mid g 0 _;have hrun:(execOp a.eval o).run P w=.ok (.value (.pointer (some ⟨g,i.toNat,none⟩))) w:=by unfold execOp;simp only[ho,hX,hY];simp[Instr.indexAt,asIntOf,Sem.run_bind,run_underlying hu' w,h0,hi,dF hs w];simpa using ha
 unfold Oper.wp;rw[hrun,Oper.upon_value,hdst];exact hK _ _ _ _ (hst.put (fun x e=>by cases e;exact hd) fun g w=>by simp[Rep]) h
theorem ZO.ldF {x:Operand} {t d b f:Nat} {u:Value} (ho:o.op=.load t x) (hdst:o.dst=some d) (hd:d<N) (hg:o.guard=none) (ht:jH P t=some false) (hx:look s.tm x=.val (.pointer (some ⟨b,f,none⟩))) (hat:∀w,σ.at_ w→w.cell? ⟨b,f,none⟩=some u) (hu:asy u)
 (h:ZO P N B w00 ops (j+1) l J (s.put (some d) (.val u)) σ):ZO P N B w00 ops j (o::l) J s σ:=by
 refine ZO.one hg fun a w hst Kn Q hK=>?_;have hst0:=hst;obtain⟨⟨io,w0,g0,hr,hC⟩,hM⟩:=hst0;have hX:=hr.look x;rw[hx]at hX;simp only[Rep]at hX;have hc:lI w b f u:=⟨by rw[hu.1];simp[hu.2],fun j hj=>by
  rw[hu.1]at hj⊢;have hj0:j=0:=by have:j<1:=hj;omega
  subst hj0;rw[Nat.add_zero,hat w hM];rfl⟩
 have hsub:adT P t 0 (.val u)=some (.val u):=by
  have hc1:bJ (.val u)=some [.val u]:=by simp[bJ,nX,hu.2]
  unfold adT;rw[hc1,ht];rfl
 obtain⟨v,k1,k2⟩:=iO (P:=P) (g:=lG fun _=>False) (w:=w) (e:=.val u) (u:=u) (b:=b) (c:=f) (f:=0) (t:=t) (p:=.val u) (by simp[Rep]) hc hsub;simp only[Rep]at k2;subst k2;rw[Nat.add_zero]at k1;have hrun:(execOp a.eval o).run P w=.ok (.value v) w:=by simp[execOp,ho,hX,k1]
 unfold Oper.wp;rw[hrun,Oper.upon_value,hdst];exact hK _ _ _ _ (hst.put (fun x e=>by cases e;exact hd) fun g w=>by simp[Rep]) h
end
section
variable {P:Program} {N B:Nat} {w00:World} {s:AS} {σ:Fgn} {ops:Array Oper} {J:AS→Fgn→Prop} {j:Nat} {o:Oper} {l:List Oper} {c:Code} {K:X→AS→Fgn→Prop}
theorem uY {g:Gh} {w:World} {T b n:Nat} {arr:Array Value} {vs:List Value} {v:Value} (hv:∃c,v=.slice (some ⟨b,0*1,none⟩) n c∧n≤c∧c≤9223372036854775807∧(0+c)*1≤arr.size) (hn:n=vs.length) (ha:w.heap[b]?=some (.cells arr T (0,0))) (he:bB g w 1 (vs.map PV.val) b 0) (h1:∀u∈vs,asy u):iq T v vs w∧v.ownBlock=some b:=by subst hn;obtain⟨c,rfl,h2,h3,h4⟩:=hv;refine⟨.inr ⟨b,c,arr,by simp,h2,h3,ha,by omega,fun j u hj=>?_⟩,by simp[Value.ownBlock]⟩;obtain⟨u',m1,m2,m3⟩:=he.get (i:=j) (e:=.val u) (by rw[List.getElem?_map,hj];rfl);simp only[Rep]at m1;subst m1;have h0:=h1 u' (List.mem_of_getElem? hj);have:=m2.2 0 (by rw[h0.1];exact Nat.zero_lt_one);rw[h0.1]at this;simp only[World.cell?,ha,Nat.zero_add,Nat.mul_one,Nat.add_zero,Option.isSome_none,Bool.false_eq_true,if_false]at this;simpa using this
theorem HZ.aFN {σ':Value→Fgn} {ob T t n:Nat} {vs:List Value} (ho:s.ob ob=some (T,1,vs.map PV.val)) (ht:s.tm t=.row ob 1 0 n) (hn:n=vs.length) (h1:∀u∈vs,asy u)
 (hσ:∀v b,v.ownBlock=some b→¬σ.bk b→∀w,iq T v vs w→σ.at_ w→(∀i,(σ' v).bk i↔σ.bk i∨i=b)∧(σ' v).at_ w)
 (h:∀v b,v.ownBlock=some b→B≤b→(∃c,v=.slice (some ⟨b,0,none⟩) vs.length c)→HZ P N B w00 c K ⟨upd s.tm t (.val v),upd s.ob ob none,s.nx⟩ (σ' v)):HZ P N B w00 c K s σ:=HZ.mk fun a w hs Q hQ=>by
 obtain⟨g,b,arr,q1,q2,q3,q4,q5,q6,q7,q8,q9⟩:=hs.give ho;have hv:=q8 (.tmp t);rw[show look s.tm (.tmp t)=s.tm t from rfl,ht]at hv;obtain⟨hrow,hblk⟩:=uY (q7 0 n _ hv) hn q4 q6 h1;obtain⟨k1,k2⟩:=hσ _ b hblk q3 w hrow hs.2;have hz:=q9 (σ' (a.eval (.tmp t))) k1 k2;refine(h (a.eval (.tmp t)) b hblk q1 ?_).go a w ?_ Q hQ
 ·obtain⟨c,hc,_⟩:=q7 0 n _ hv
  exact⟨c,by rw[hc,hn];try simp⟩
 obtain⟨⟨io,w0,g0,hr,hC⟩,hM⟩:=hz;refine⟨⟨io,w0,g0,⟨hr.nt,hr.df,fun t'=>?_,hr.ob,hr.inj,hr.nx,hr.lt,hr.new,hr.fr,hr.old,hr.fix,hr.hl,hr.tab⟩,hC⟩,hM⟩;show Rep g0 w (upd s.tm t _ t') _;unfold upd;split
 ·rename_i e
  subst e;simp only[Rep];rfl
 ·exact hr.tm t'
theorem sO {α:Type} (l:List α) (i:Nat) (x:α):(l.set i x).length=l.length:=List.length_set ..
theorem qc.put {T1 T2:Nat} {v u:Value} {vs:List Value} {ls:List LS} {x:LS} {w w':World} {g b k:Nat} {arr:Array Value} (h:qc T1 T2 v vs ls w) (hk:vs[k]?=some (.slice none 0 0)) (hv:v.ownBlock=some g) (hb:u.ownBlock=some b) (hnb:¬uJ v vs b) (hu:iq T2 u (eD x) w)
 (ha:w.heap[g]?=some (.cells arr T1 (0,0))) (hw:∀i,i≠g→w'.heap[i]?=w.heap[i]?) (hg:w'.heap[g]?=some (.cells (arr.setIfInBounds k u) T1 (0,0))):qc T1 T2 v (vs.set k u) (ls.set k x) w'∧∀i,uJ v (vs.set k u) i↔uJ v vs i∨i=b:=by
 have hkl:k<vs.length:=(List.getElem?_eq_some_iff.1 hk).1;have hbg:b≠g:=fun e=>hnb (.inl (by rw[hv,e]));have hget:∀(j:Nat) (y:Value),(vs.set k u)[j]?=some y→(j=k∧y=u)∨(j≠k∧vs[j]?=some y):=fun j y hj=>by
  rw[List.getElem?_set]at hj;by_cases e:k=j
  ·subst e
   rw[if_pos rfl,if_pos hkl]at hj;exact .inl ⟨rfl,(Option.some.inj hj).symm⟩
  ·rw[if_neg e]at hj
   exact .inr ⟨fun q=>e q.symm,hj⟩
 have hinb:∀(j:Nat) (y:Value),vs[j]?=some y→∀i,y.ownBlock=some i→i≠b∧i≠g:=fun j y hj i hi=>by
  refine⟨fun e=>hnb (.inr ⟨y,List.mem_of_getElem? hj,e▸hi⟩),fun e=>?_⟩;rcases h.ne y (List.mem_of_getElem? hj)with q|q
  ·rw[q]at hi;cases hi
  ·exact q (by rw[hi,hv,e])
 refine⟨⟨?_,by rw[sO,sO];exact h.len,fun j y z hj hz=>?_,fun i j y z hij hi hj=>?_,fun y hy=>?_⟩,fun i=>?_⟩
 ·rcases h.out with⟨rfl,_⟩|⟨g',cap,arr',rfl,h1,h2,h3,h4,h5⟩
  ·cases hv
  ·have hgg:g'=g:=by cases hv;rfl
   subst hgg;rw[ha]at h3;cases h3;refine .inr ⟨g',cap,_,by rw[sO],by rw[sO];exact h1,h2,hg,by simpa using h4,fun j y hj=>?_⟩;rw[Array.getElem?_setIfInBounds];rcases hget j y hj with⟨rfl,rfl⟩|⟨q1,q2⟩
   ·rw[if_pos rfl,if_pos (by omega)]
   ·rw[if_neg (fun e=>q1 e.symm)]
    exact h5 j y q2
 ·rw[List.getElem?_set]at hz
  rcases hget j y hj with⟨rfl,rfl⟩|⟨q1,q2⟩
  ·rw[if_pos rfl]at hz
   split at hz
   ·cases hz
    refine hu.same fun i hi=>hw i fun e=>?_;rw[hb]at hi;cases hi;exact hbg e
   ·cases hz
  ·rw[if_neg (fun e=>q1 e.symm)]at hz
   exact(h.inn j y z q2 hz).same fun i hi=>hw i (hinb j y q2 i hi).2
 ·rcases hget i y hi with⟨rfl,rfl⟩|⟨q1,q2⟩<;>rcases hget j z hj with⟨rfl,rfl⟩|⟨q3,q4⟩
  ·exact absurd rfl hij
  ·right
   intro e;exact(hinb j z q4 b (by rw[←e,hb])).1 rfl
  ·by_cases e:y.ownBlock=none
   ·exact .inl e
   ·right
    intro e2;exact(hinb i y q2 b (by rw[e2,hb])).1 rfl
  ·exact h.dis i j y z hij q2 q4
 ·obtain⟨j,hj⟩:=List.getElem?_of_mem hy
  rcases hget j y hj with⟨rfl,rfl⟩|⟨q1,q2⟩
  ·right
   rw[hb,hv];intro e;cases e;exact hbg rfl
  ·exact h.ne y (List.mem_of_getElem? q2)
 ·constructor
  ·rintro(q|⟨y,hy,q⟩)
   ·exact .inl (.inl q)
   ·obtain⟨j,hj⟩:=List.getElem?_of_mem hy
    rcases hget j y hj with⟨rfl,rfl⟩|⟨q1,q2⟩
    ·rw[hb]at q
     cases q;exact .inr rfl
    ·exact .inl (.inr ⟨y,List.mem_of_getElem? q2,q⟩)
  ·rintro((q|⟨y,hy,q⟩)|rfl)
   ·exact .inl q
   ·obtain⟨j,hj⟩:=List.getElem?_of_mem hy
    have hjk:j≠k:=fun e=>by subst e;rw[hk]at hj;cases hj;cases q
    exact .inr ⟨y,List.mem_of_getElem? (i:=j) (by rw[List.getElem?_set,if_neg (fun e=>hjk e.symm)];exact hj),q⟩
   ·exact .inr ⟨u,List.mem_of_getElem? (i:=k) (by rw[List.getElem?_set,if_pos rfl,if_pos hkl]),hb⟩
theorem aqd {arr:Array Value} {i:Nat} {u:Value} (hi:i<arr.size):(fM arr.toList i [u]).toArray=arr.setIfInBounds i u:=by
 apply Array.ext_getElem?;intro j;rw[List.getElem?_toArray,qG _ _ _ (by simp;omega),Array.getElem?_setIfInBounds];by_cases h:i=j
 ·subst h
  rw[if_pos ⟨Nat.le_refl _,by simp⟩,if_pos rfl,if_pos hi];simp
 ·rw[if_neg (by simp;omega),if_neg h]
  simp
theorem ZO.aG9 {x y:Operand} {t T1 T2 g k n ob:Nat} {v:Value} {vs:List Value} {ls:List LS} {z:LS} (ho:o.op=.store t x y) (hdst:o.dst=none) (hg:o.guard=none) (hs:aY P t=some 1) (hx:look s.tm x=.val (.pointer (some ⟨g,k,none⟩))) (hv:v.ownBlock=some g) (hk:vs[k]?=some (.slice none 0 0))
 (hy:look s.tm y=.row ob 1 0 n) (hob:s.ob ob=some (T2,1,z.map fun s=> .val (.string s))) (hn:n=z.length)
 (h:∀u,(∀b,u.ownBlock=some b→B≤b)→ZO P N B w00 ops (j+1) l J ⟨s.tm,upd s.ob ob none,s.nx⟩ (ssF T1 T2 v (vs.set k u) (ls.set k z))):ZO P N B w00 ops j (o::l) J s (ssF T1 T2 v vs ls):=by
 refine ZO.one hg fun a w hst Kn Q hK=>?_;obtain⟨g0,b,arr,q1,q2,q3,q4,q5,q6,q7,q8,q9⟩:=hst.give hob;have hX:=q8 x;have hY:=q8 y;rw[hx]at hX;rw[hy]at hY;simp only[Rep]at hX;have hes:(z.map fun s=>PV.val (.string s))=(eD z).map PV.val:=by unfold eD;rw[List.map_map];rfl
 rw[hes]at q6;obtain⟨hrow,hblk⟩:=uY (q7 0 n _ hY) (by rw[hn];simp[eD]) q4 q6 (fun u hu=>by unfold eD at hu;obtain⟨s,_,rfl⟩:=List.mem_map.1 hu;exact nW s)
 obtain⟨cc,hcc,_⟩:=q7 0 n _ hY;have hM:qc T1 T2 v vs ls w:=hst.2;obtain⟨arr1,ha1,hk1⟩:∃arr1,w.heap[g]?=some (.cells arr1 T1 (0,0))∧k<arr1.size:=by
  have hkl:k<vs.length:=(List.getElem?_eq_some_iff.1 hk).1;rcases hM.out with⟨rfl,_⟩|⟨g',cap,arr',rfl,h1,h2,h3,h4,h5⟩
  ·cases hv
  ·cases hv
   exact⟨arr',h3,by omega⟩
 have hone:asy (a.eval y):=by rw[hcc];exact og _ _ _
 have hst2:=run_storeCells_at P g k T1 (a.eval y).cells.toList 0 arr1 w ha1 (by rw[hone.1];simp;omega) (fun v hv=>by rw[hone.1]at hv;simp at hv;rw[hv];exact hone.2);have hrun:(execOp a.eval o).run P w=.ok .skip (w.setRow g (arr1.setIfInBounds k (a.eval y))):=by
  have hsv:(storeVar t ⟨g,k,none⟩ (a.eval y)).run P w=.ok () (w.setRow g (arr1.setIfInBounds k (a.eval y))):=by
   unfold storeVar;rw[Sem.run_bind,dF hs w];have hsz:(a.eval y).cells.size=1:=by rw[hone.1];rfl
   simp only[Result.andThen_ok,hsz,ne_eq,not_true_eq_false,if_false];rw[←aqd hk1];rw[hone.1]at hst2⊢;simpa [fM]using hst2
  simp only[execOp,ho,hX,Instr.storeAt,Instr.sureAddr,Sem.run_bind,Sem.run_pure,Result.andThen_ok,hsv]
 unfold Oper.wp;rw[hrun,Oper.upon_skip,hdst];obtain⟨k1,k2⟩:=hM.put (u:=a.eval y) (x:=z) (w':=w.setRow g (arr1.setIfInBounds k (a.eval y))) hk hv hblk q3 hrow ha1 (fun i hi=>setRow_other _ _ _ _ hi) (setRow_heap _ _ _ _ _ _ ha1);have hz1:=q9 ⟨fun i=>uJ v vs i∨i=b,fun w=>qc T1 T2 v vs ls w∧iq T2 (a.eval y) (eD z) w,fun w w' hh hm=>⟨hm.1.same fun i hi=>hh i (.inl hi),hm.2.same fun i hi=>hh i (.inr (by rw[hblk]at hi;cases hi;rfl))⟩⟩ (fun i=>Iff.rfl) ⟨hM,hrow⟩;have hsize:(w.setRow g (arr1.setIfInBounds k (a.eval y))).heap.size=w.heap.size:=by simp[World.setRow]
 have hz2:=hz1.jE (σ':=ssF T1 T2 v (vs.set k (a.eval y)) (ls.set k z)) (w':=w.setRow g (arr1.setIfInBounds k (a.eval y))) ⟨rfl,rfl,rfl,by rw[hsize];exact Nat.le_refl _,fun i hi hn=>setRow_other _ _ _ _ fun e=>hn (.inl (by rw[hv,e]))⟩ (fun i _ e=>(k2 i).1 e) (fun i e=>(k2 i).2 e) (fun i e=>by
  rw[hsize];rcases(k2 i).1 e with e|rfl
  ·exact hM.lt e
  ·exact q2) k1
 exact hK _ _ _ _ hz2 (h _ fun b' hb'=>by rw[hblk]at hb';cases hb';exact q1)
end
def aFC (l:List LS):Prop:=l.length≤1048576∧∀k:Nat,(l[k]?.getD []).length≤1048576
abbrev akH:Value:=.slice none 0 0
theorem aou {T:Nat} {w:World}:iq T akH (eD []) w:=.inl ⟨rfl,rfl⟩
theorem qc.fresh {T1 T2 n:Nat} {v:Value} {w:World} (h:iq T1 v (List.replicate n akH) w):qc T1 T2 v (List.replicate n akH) (List.replicate n []) w:=
 ⟨h,by simp,fun j u l h1 h2=>by
   obtain⟨_,rfl⟩:=List.mem_replicate.1 (List.mem_of_getElem? h1);obtain⟨_,rfl⟩:=List.mem_replicate.1 (List.mem_of_getElem? h2);exact aou,fun i j x y _ h1 _=>by
   obtain⟨_,rfl⟩:=List.mem_replicate.1 (List.mem_of_getElem? h1);exact .inl rfl,fun u hu=>by
   obtain⟨_,rfl⟩:=List.mem_replicate.1 hu;exact .inl rfl⟩
theorem ac7 {n:Nat} {v:Value} {i:Nat}:uJ v (List.replicate n akH) i↔v.ownBlock=some i:=by
 constructor
 ·rintro(h|⟨u,hu,h⟩)
  ·exact h
  ·obtain⟨_,rfl⟩:=List.mem_replicate.1 hu
   cases h
 ·exact .inl
theorem aqL {α:Type} {l:List α} {z:α} {k:Nat} (hk:k<l.length):(l.take k++List.replicate (l.length-k) z).set k l[k]=l.take (k+1)++List.replicate (l.length-(k+1)) z:=by
 have hl:(l.take k).length=k:=by rw[List.length_take];omega
 rw[List.set_append_right (h:=by omega),hl,Nat.sub_self];obtain⟨m,hm⟩:∃m,l.length-k=m+1:=⟨l.length-k-1,by omega⟩;rw[hm,List.replicate_succ,List.set_cons_zero,show l.length-(k+1)=m by omega,List.take_succ_eq_append_getElem hk,List.append_assoc];rfl
section
variable {P:Program} {N B:Nat} {w00:World} {s:AS} {σ:Fgn} {ops:Array Oper} {J:AS→Fgn→Prop} {j:Nat} {o:Oper} {l:List Oper}
theorem qc.turn {T1 T2:Nat} {v u:Value} {vs:List Value} {ls:List LS} {x:LS} {w w':World} {k:Nat} (h:qc T1 T2 v vs ls w) (hk:vs[k]?=some u) (hw:∀i,(∀b,u.ownBlock=some b→i≠b)→i<w.heap.size→w'.heap[i]?=w.heap[i]?) (hu:iq T2 u (eD x) w'):qc T1 T2 v vs (ls.set k x) w':=by
 have hum:=List.mem_of_getElem? hk;refine⟨h.out.same fun g hg=>hw g (fun b hb e=>?_) (h.out.lt hg),by rw[sO];exact h.len,fun i y z hi hz=>?_,h.dis,h.ne⟩
 ·rcases h.ne u hum with q|q
  ·rw[q]at hb;cases hb
  ·exact q (by rw[hb,hg,e])
 ·rw[List.getElem?_set]at hz
  by_cases e:k=i
  ·subst e
   rw[hk]at hi;cases hi;rw[if_pos rfl]at hz;split at hz
   ·cases hz
    exact hu
   ·cases hz
  ·rw[if_neg e]at hz
   have hr:=h.inn i y z hi hz;refine hr.same fun g hg=>hw g (fun b hb e2=>?_) (hr.lt hg);rcases h.dis i k y u (fun q=>e q.symm) hi hk with q|q
   ·rw[q]at hg;cases hg
   ·exact q (by rw[hg,hb,e2])
structure ahR (P:Program) (f T2:Nat) (mk:Int→Nat→LS):Prop where
 io:∃Φ,eT P f Φ∧(∀(z:LS) (k:Int),z.length≤1048576→0<k→k≤1099511627776→Φ [.row 0 1 0 z.length,.val (.int .i64 k)] [(T2,1,z.map fun s=> .val (.string s))]=some (.val (.int .i64 (k+z.length)),[(T2,1,(mk k z.length).map fun s=> .val (.string s))]))∧∀k:Int,Φ [.val (.slice none 0 0),.val (.int .i64 k)] []=some (.val (.int .i64 k),[])
 nl:∀k,mk k 0=[]
theorem ZO.aEJ {f:Nat} {c:Call} {x y:Operand} {T1 T2 i:Nat} {k:Int} {v u:Value} {vs:List Value} {ls:List LS} {z:LS} {mk:Int→Nat→LS} (hmk:ahR P f T2 mk) (ho:o.op=.call c) (hc:c.callee=.value (.func f)) (ha:c.args=#[x,y]) (hf:Fnd P f) (hg:o.guard=none) (hd:∀y,o.dst=some y→y<N) (hx:look s.tm x=.val u) (hy:look s.tm y=.val (.int .i64 k)) (hu:vs[i]?=some u) (hz:ls[i]?=some z) (hlz:z.length≤1048576) (hlm:(mk k z.length).length=z.length) (hk0:0<k) (hk1:k≤1099511627776)
 (h:ZO P N B w00 ops (j+1) l J (s.put o.dst (.val (.int .i64 (k+z.length)))) (ssF T1 T2 v vs (ls.set i (mk k z.length)))):ZO P N B w00 ops j (o::l) J s (ssF T1 T2 v vs ls):=by
 obtain⟨⟨Φ,hS,h1,h2⟩,h3⟩:=hmk;refine ZO.wV ho hc hf hg hd (fun r σ'=>r=.int .i64 (k+z.length)∧σ'=ssF T1 T2 v vs (ls.set i (mk k z.length))) (fun a w hst=>?_) (fun r σ' e=>by obtain⟨rfl,rfl⟩:=e;exact h);obtain⟨⟨io,w0,g,hr,hC⟩,hM⟩:=hst;have hX:=hr.look x;have hY:=hr.look y;rw[hx]at hX;rw[hy]at hY;simp only[Rep]at hX hY;have hM':qc T1 T2 v vs ls w:=hM;rw[ha];simp only[List.map_toArray,List.map_cons,List.map_nil,hX,hY];have hrow:=hM'.inn i u z hu hz;have hum:=List.mem_of_getElem? hu;have hT0:kr w (fun b=>ssF T1 T2 v vs ls|>.bk b):=(hr.tab.keep hr.fr fun t ht=>(hr.tab.apart t ht)).io fun t ht=>(hC.tk t ht).2;rcases hrow with⟨rfl,hz0⟩|⟨gb,cap,arr,rfl,q1,q2,q3,q4,q5⟩
 ·have hz0:z=[]:=by unfold eD at hz0;simpa using hz0
  subst hz0;refine(hS w (fun _ _=>False) (fun _=>0) (fun _=>0) [.val (.slice none 0 0),.val (.int .i64 k)] [] _ _ _ (h2 k) (fun _ _ q=>False.elim q) ⟨fun o ho=>by simp at ho,fun o o' ho=>by simp at ho,fun o c hc=>by simp at hc⟩ (hT0.io fun t ht=>by rintro⟨o,ho,_⟩;simp at ho) ⟨_,_,rfl,by simp[Rep],_,_,rfl,by simp[Rep],rfl⟩).mono ?_;rintro e w' ⟨v',β',κ',M,rfl,hfr,-,-,-,-,-,hrep⟩;simp only[Rep]at hrep;subst hrep;have hkeep:∀i,i<w.heap.size→w'.heap[i]?=w.heap[i]?:=fun i hi=>hfr.block i hi fun⟨o,ho,_⟩=>by simp at ho
  refine⟨_,_,rfl,⟨by simp,rfl⟩,⟨hfr.os,hfr.tape,hfr.output,hfr.size,fun i hi _=>hkeep i hi⟩,fun _ _ q=>q,fun _ q=>q,fun b' q=>Nat.lt_of_lt_of_le (hM'.lt q) hfr.size,?_⟩;refine hM'.turn hu (fun i _ hi=>hkeep i hi) ?_;rw[List.length_nil,h3];exact aou
 ·have hzl:(eD z).length=z.length:=by simp[eD]
  rw[hzl]at q1 hum hu⊢;have hbk:(ssF T1 T2 v vs ls).bk gb:=.inr ⟨_,hum,rfl⟩;have hes:bB (dH (fun _ _=>False) (fun _=>gb) (fun _=>arr.size) 1) w 1 (z.map fun s=>PV.val (.string s)) gb 0:=iq.aen (vs:=eD z) q3 q5 (by simp[eD]) fun j e u h1 h2=>by unfold eD at h2;rw[List.getElem?_map]at h1 h2;rw[Option.map_eq_some_iff]at h1 h2;obtain⟨s,p1,rfl⟩:=h1;obtain⟨s',p2,rfl⟩:=h2;rw[p1]at p2;cases p2;exact⟨by simp[Rep],nW s⟩
  refine(hS w (fun _ _=>False) (fun _=>gb) (fun _=>arr.size) [.row 0 1 0 z.length,.val (.int .i64 k)] [(T2,1,z.map fun s=> .val (.string s))] _ _ _ (h1 z k hlz hk0 hk1) (fun _ _ q=>False.elim q) ⟨fun o ho=>⟨lt_of_heap q3,fun _ q=>q⟩,fun o o' ho ho' _=>by simp at ho ho';omega,fun o c hc=>?_⟩ (hT0.io fun t ht=>?_) ?_).mono ?_
  ·have ho:o=0:=by have:=(List.getElem?_eq_some_iff.1 hc).1;simpa using this
   subst ho;cases hc;exact⟨⟨arr,q3,rfl⟩,by show(z.map _).length*1≤arr.size;rw[List.length_map];omega,hes⟩
  ·rintro⟨o,ho,rfl⟩
   exact(hC.tk _ ht).2 hbk
  ·refine⟨_,_,rfl,?_,_,_,rfl,by simp[Rep],rfl⟩
   simp only[Rep];exact⟨cap,by simp[dH],q1,q2,by show(0+cap)*1≤arr.size;omega,by exact Nat.zero_lt_one,fun q=>q⟩
  ·rintro e w' ⟨v',β',κ',M,rfl,hfr,-,hβ,-,-,hO',hrep⟩
   simp only[Rep]at hrep;subst hrep;obtain⟨hβ0,hκ0⟩:=hβ 0 (by simp);obtain⟨⟨arr2,p1,p2⟩,p3,p4⟩:=hO'.at_ 0 _ rfl;have p1:w'.heap[gb]?=some (.cells arr2 T2 (0,0)):=by have:(dH (addN (fun _ _=>False) M) β' κ' 1).β 0=gb:=hβ0;rw[←this];exact p1
   have p2:arr2.size=arr.size:=p2.trans hκ0;have p4:bB (dH (addN (fun _ _=>False) M) β' κ' 1) w' 1 ((eD (mk k z.length)).map PV.val) gb 0:=by
    have e1:(dH (addN (fun _ _=>False) M) β' κ' 1).β 0=gb:=hβ0;have e2:(eD (mk k z.length)).map PV.val=(mk k z.length).map fun s=>PV.val (.string s):=by unfold eD;rw[List.map_map];rfl
    rw[e2,←e1];exact p4
   have hkeep:∀i,i≠gb→i<w.heap.size→w'.heap[i]?=w.heap[i]?:=fun i hne hi=>hfr.block i hi fun⟨o,ho,q⟩=>hne q;refine⟨_,_,rfl,⟨rfl,rfl⟩,⟨hfr.os,hfr.tape,hfr.output,hfr.size,fun i hi hn=>hkeep i (fun q=>hn (q▸hbk)) hi⟩,fun _ _ q=>q,fun _ q=>q,fun b' q=>Nat.lt_of_lt_of_le (hM'.lt q) hfr.size,?_⟩;refine hM'.turn hu (fun i hne hi=>hkeep i (hne gb rfl) hi) ?_;exact(uY (n:=z.length) ⟨cap,by simp,q1,q2,by omega⟩ (by simp[eD,hlm]) p1 p4 fun u hu=>by unfold eD at hu;obtain⟨s,_,rfl⟩:=List.mem_map.1 hu;exact nW s).1
end
abbrev aze (l:List LS):PV:=.lst false 1 (l.map fun p=> .lst false 1 (p.map fun s=> .val (.string s)))
theorem aGe {n k:Nat} (h:k<n):(List.replicate n akH)[k]?=some akH:=by simp[h]
def aGO:Ctx:={fn:=aT [],io:=aT [(52,(qQ akx))]}
theorem nG:au Tryz.prog aGO:=okΓ aj (fD Tryz.func52 zG.lift aj)
theorem ava:aGO.io 52=some (qQ akx):=rfl
theorem ajJ {l:List LS} {w:World} {Jm:Nat→Prop} {args:Array Value} (hl:aFC l) (hJ:∀b,Jm b→b<w.heap.size) (hT:kr w fun _=>False) (hargs:bL (lG Jm) w [aze l] args.toList):
 Calls Tryz.prog 51 args w fun e w'=>∃v vs,e=.returned v∧Fr (fun _=>False) w w'∧qc 24 9 v vs l w'∧∀i,uJ v vs i→w.heap.size≤i:=by
 have hc:=HZ.calls (σ:=Fgn.no) (N:=23) (rs:=[.tmp 2]) (ps:=[aze l]) Tryz.func51 rfl rfl rfl (fun b e=>False.elim e) trivial hT hJ (fun b _ e=>e) hargs (by show 1≤_;decide) (fun p σ'=>∃v vs,p=.val v∧σ'=ssF 24 9 v vs l) ?_
 ·refine hc.mono ?_
  rintro e w' ⟨v0,σ',p,g,rfl,⟨v,vs,rfl,rfl⟩,hr,hf,hb,ha⟩;simp only[Rep]at hr;subst hr;exact⟨v0,vs,rfl,hf,ha,fun i hi=>((hb i hi).2).elim (fun e=>False.elim e) id⟩
 obtain⟨hlen,hin⟩:=hl;refine HZ.start ?_;show HZ _ _ _ _ _ _ ⟨(bX [aze l]).tm,fun _=>none,0⟩ _;refine HZ.seq (HZ.eng mixed nG (by kernel_rfl) ?_);(try dsimp only);(refine wlk ?_;intros);refine HZ.seq (HZ.eng mixed nG (by kernel_rfl) ?_);(try dsimp only);(refine wlk ?_;intros);refine HZ.cut (Lf:=[(0,aze l),(3,.row 0 1 0 l.length)]) (O:=[(0,24,1,(List.replicate l.length akH).map PV.val)]) (x:=1) ?_ ?_ rfl ?_
 ·exact agr
 ·simp only[List.map_replicate]
  exact agr
 refine HZ.aFN (t:=3) (n:=l.length) (ob:=0) (vs:=List.replicate l.length akH) (σ':=fun v=>ssF 24 9 v (List.replicate l.length akH) (List.replicate l.length [])) (by rfl) (by rfl) (by simp) (fun u hu=>by obtain⟨_,rfl⟩:=List.mem_replicate.1 hu;exact og _ _ _) (fun v b hv _ w hw _=>⟨fun i=>ac7.trans ⟨fun e=> .inr (by rw[hv]at e;cases e;rfl),fun e=>e.elim (fun e=>False.elim e) fun e=>by rw[hv,e]⟩,qc.fresh hw⟩) fun v b hvb hB ⟨cc,hcc⟩=>?_;rw[List.length_replicate]at hcc;refine HZ.seq (HZ.seq (HZ.eng mixed nG (by kernel_rfl) ?_));(try dsimp only);(refine wlk ?_;intros);(try dsimp only);refine HZ.block (HZ.uR (α:=Nat×Nat) (fun i=>[(0,aze l),(3,.val v),(4,iv i.1)]) (fun _=>[]) (fun i=>i.2)
  (fun i σ=>i.1≤l.length∧∃vs,σ=ssF 24 9 v vs (l.take i.1++List.replicate (l.length-i.1) [])∧vs.length=l.length∧(∀j,i.1≤j→j<l.length→vs[j]?=some akH)∧∀i,uJ v vs i→w.heap.size≤i) (fun i=>l.length-i.1) (0,1) ⟨Nat.zero_le _,_,rfl,by simp,fun j _ hj=>aGe hj,fun i hi=>by rw[ac7,hvb]at hi;cases hi;exact hB⟩ ?_ trivial rfl ?_)
 ·exact agr
 rintro⟨k,y⟩ σ ⟨hk,vs,rfl,hvl,hnil,hblk⟩;dsimp only at hk hnil;by_cases hkl:k<l.length
 ·refine HZ.seq (HZ.eng mixed nG (by kernel_rfl) ?_)
  (try dsimp only);(refine wlk ?_;intros);(try dsimp only);have ap:=asW (hin k);refine HZ.seq (HZ.block ?_);refine HZ.each ?_;refine ZO.pre (imm:=⟨[],[],[]⟩) 7 nG (by kernel_rfl) (by simp only[List.take_succ_cons,List.take_zero]<;>exact rfl) (by simp only[List.drop_succ_cons,List.drop_zero]<;>exact rfl) (by simp only[List.map_cons,List.map_nil]<;>exact rfl) ?_;(try dsimp only);have gtss_c52:=ava;(refine wlk ?_;intros);(try dsimp only);refine ZO.aGx (d:=21) (T:=24) (g:=b) (n:=l.length) (c:=cc) (kk:=.i64) (i:=k) rfl rfl (by decide) rfl (by kernel_rfl) (by kernel_rfl) ?_ ?_ (by omega) (by omega) ?_
  ·rw[←hcc]
   (exact sr)
  ·(exact sr)
  dsimp only[AS.put];refine ZO.aG9 (g:=b) (k:=k) (n:=(l[k]?.getD []).length) (ob:=y) (z:=l[k]?.getD []) rfl rfl rfl (by kernel_rfl) ?_ hvb (hnil k (Nat.le_refl _) hkl) ?_ ?_ rfl fun u hub=>?_
  ·(exact sr)
  ·(exact sr)
  ·(exact sr)
  refine ZO.nil ?_;(try dsimp only[X.out]);refine HZ.eng mixed nG (by kernel_rfl) ?_;(try dsimp only);(refine wlk ?_;intros);(try dsimp only);refine⟨(k+1,y+1),⟨by dsimp only;omega,vs.set k u,?_,?_,?_,?_⟩,by dsimp only;omega,?_,?_,rfl⟩
  ·rw[show l[k]?.getD []=l[k] by rw[List.getElem?_eq_getElem hkl,Option.getD_some],aqL hkl]
  ·rw[sO];exact hvl
  ·intro j h1 h2
   dsimp only at h1;rw[List.getElem?_set,if_neg (by omega)];exact hnil j (by omega) h2
  ·rintro i (q|⟨y',hy,q⟩)
   ·exact hblk i (.inl q)
   ·rcases List.mem_or_eq_of_mem_set hy with hy|rfl
    ·exact hblk i (.inr ⟨y',hy,q⟩)
    ·exact hub i q
  ·(try dsimp only)
   exact agr
  ·(try dsimp only)
   exact agr
 ·refine HZ.seq (HZ.eng mixed nG (by kernel_rfl) ?_)
  (try dsimp only);(refine wlk ?_;intros);(try dsimp only[X.out]);obtain rfl:k=l.length:=by omega
  refine HZ.seq (HZ.eng mixed nG (by kernel_rfl) ?_);(try dsimp only);(refine wlk ?_;intros);(try dsimp only);refine HZ.ret ⟨.inr rfl,⟨_,by(exact sr),_,vs,rfl,?_⟩,fun i hi=> .inr (hblk i hi)⟩;rw[List.take_length,Nat.sub_self,←hcc];simp
theorem auu {P:Program} {t e ty:Nat} {a:Option Addr} {n c:Nat} (h0:cZ P t=some e):p8 P t ty (.val (.slice a n c))=some (.val (.int .i64 n)):=by have h:=kR h0;simp[p8,ady,toVal,Builtin.len_,underlying,Go.program,bind,Sem.bind,pure,aA,h,goInt]
def mkK (l:List LS) (k:Int):Nat→Int
 |0=>k
 |j+1=>mkK l k j+(l[j]?.getD []).length
def mkL (l:List LS) (k:Int):Nat→List LS
 |0=>l
 |j+1=>(mkL l k j).set j (kZ (mkK l k j) (l[j]?.getD []).length)
theorem auh {l:List LS} {k:Int}:∀{j i:Nat},j≤i→(mkL l k j)[i]?=l[i]?
 |0,i,_=>rfl
 |j+1,i,h=>by rw[mkL,List.getElem?_set,if_neg (by omega)];exact auh (by omega)
def uN (l:List LS):Nat:=(l.map List.length).sum
theorem atN (l:List LS) (k:Int):∀j,j≤l.length→mkK l k j=k+(uN (l.take j):Nat)
 |0,_=>by simp[mkK,uN]
 |j+1,h=>by have ih:=atN l k j (by omega);unfold uN at ih⊢;rw[mkK,ih,List.take_succ_eq_append_getElem (show j<l.length by omega),List.map_append,List.sum_append,List.getElem?_eq_getElem (show j<l.length by omega),Option.getD_some];simp;omega
theorem acO (l:List LS) (j:Nat):uN (l.take j)≤uN l:=by
 unfold uN
 conv=>rhs;rw[←List.take_append_drop j l,List.map_append,List.sum_append]
 omega
theorem avU {l:List LS} {j:Nat} (h:j<l.length):(l[j]?.getD []).length≤uN l:=by have h1:=acO l (j+1);unfold uN at h1⊢;rw[List.take_succ_eq_append_getElem h,List.map_append,List.sum_append]at h1;rw[List.getElem?_eq_getElem h,Option.getD_some];simp at h1;omega
theorem aif:ahR Tryz.prog 21 9 kZ:=⟨⟨wG,ahZ,fun z k h1 h2 h3=>vB.1 z k h1 h2 h3,fun k=>vB.2 k⟩,fun k=>List.eq_nil_of_length_eq_zero (fH k 0)⟩
theorem acr {l:List LS} {k0:Int} {v:Value} {vs:List Value} {w:World} {args:Array Value} (hM:qc 24 9 v vs l w) (hl:uN l≤1048576) (hl2:l.length≤1048576) (hk0:0<k0) (hk1:k0≤1048577) (hT:kr w (uJ v vs)) (hargs:args=#[v,.int .i64 k0]):
 Calls Tryz.prog 54 args w fun e w'=>e=.returned (.int .i64 (k0+uN l))∧Fr (uJ v vs) w w'∧qc 24 9 v vs (mkL l k0 l.length) w':=by
 have hargs2:bL (lG fun _=>False) w [.val v,.val (.int .i64 k0)] args.toList:=by rw[hargs];exact⟨_,_,rfl,by simp[Rep],_,_,rfl,by simp[Rep],rfl⟩
 have hc:=HZ.calls (σ:=ssF 24 9 v vs l) (N:=19) (rs:=[.tmp 4]) (ps:=[.val v,.val (.int .i64 k0)]) Tryz.func54 rfl rfl rfl (fun b e=>hM.lt e) hM hT (fun b e=>False.elim e) (fun b e=>False.elim e) hargs2 (by show 2≤_;decide) (fun p σ'=>p=.val (.int .i64 (k0+uN l))∧σ'=ssF 24 9 v vs (mkL l k0 l.length)) ?_
 ·refine hc.mono ?_
  rintro e w' ⟨v0,σ',p,g,rfl,⟨rfl,rfl⟩,hr,hf,hb,ha⟩;simp only[Rep]at hr;subst hr;exact⟨rfl,hf,ha⟩
 have hvs:∃g c,(v=akH∧l.length=0)∨v=.slice (some ⟨g,0,none⟩) l.length c:=by
  rcases hM.out with⟨h1,h2⟩|⟨g,cap,arr,h1,_⟩
  ·exact⟨0,0,.inl ⟨h1,by rw[←hM.len,h2];rfl⟩⟩
  ·exact⟨g,cap,.inr (by rw[h1,hM.len])⟩
 refine HZ.start ?_;show HZ _ _ _ _ _ _ ⟨(bX [.val v,.val (.int .i64 k0)]).tm,fun _=>none,0⟩ _;refine HZ.seq (HZ.eng mixed bV (by kernel_rfl) ?_);(try dsimp only);(refine wlk ?_;intros);refine HZ.seq (HZ.seq (HZ.eng mixed bV (by kernel_rfl) ?_));(try dsimp only);(refine wlk ?_;intros);(try dsimp only);refine HZ.block (HZ.uR (α:=Nat) (fun j=>[(0,.val v),(1,.val (.int .i64 (mkK l k0 j))),(5,iv j)]) (fun _=>[]) (fun _=>0)
  (fun j σ=>j≤l.length∧σ=ssF 24 9 v vs (mkL l k0 j)) (fun j=>l.length-j) 0 ⟨Nat.zero_le _,rfl⟩ ?_ trivial rfl ?_)
 ·(try dsimp only)
  simp(disch:=(first|omega|(simp only[push_cast];first|done|omega))) only[push_cast,↓reduceIte,Rq,Rb,Ra,Rs,Rt,List.length_append, *];try rfl
 rintro j σ ⟨hj,rfl⟩;have hkj:=atN l k0 j hj;have hlt:=acO l j;obtain⟨g,c,hv⟩:=hvs;by_cases hjl:j<l.length
 ·rcases hv with⟨_,hv⟩|hv
  ·omega
  have hla:=avU hjl;subst hv;have hl8:=fun ty=>auu (P:=Tryz.prog) (t:=23) (e:=24) (ty:=ty) (a:=some ⟨g,0,none⟩) (n:=l.length) (c:=c) (by kernel_rfl);refine HZ.seq (HZ.eng mixed bV (by kernel_rfl) ?_);(try dsimp only);(refine wlk ?_;intros);(try dsimp only);have hjv:j<vs.length:=by rw[hM.len];exact hjl
  have hcell:∀w',qc 24 9 (.slice (some ⟨g,0,none⟩) l.length c) vs (mkL l k0 j) w'→w'.cell? ⟨g,j,none⟩=some vs[j]:=fun w' h'=>by
   rcases h'.out with⟨e,_⟩|⟨g',cap,arr,e,p1,p2,p3,p4,p5⟩
   ·cases e
   ·rw[hM.len]at e
    cases e;simp only[World.cell?,p3,Option.isSome_none,Bool.false_eq_true,if_false];exact p5 j _ (List.getElem?_eq_getElem hjv)
  refine HZ.seq (HZ.block (HZ.each ?_));refine ZO.pre (imm:=⟨[],[],[]⟩) 2 bV (by kernel_rfl) (by simp only[List.take_succ_cons,List.take_zero]<;>exact rfl) (by simp only[List.drop_succ_cons,List.drop_zero]<;>exact rfl) (by simp only[List.map_cons,List.map_nil]<;>exact rfl) ?_;(try dsimp only);(refine wlk ?_;intros);(try dsimp only);refine ZO.aGx (d:=14) (T:=24) (g:=g) (n:=l.length) (c:=c) (kk:=.i64) (i:=j) rfl rfl (by decide) rfl (by kernel_rfl) (by kernel_rfl) ?_ ?_ (by omega) (by omega) ?_
  ·(exact sr)
  ·(exact sr)
  dsimp only[AS.put];refine ZO.ldF (d:=15) (b:=g) (f:=j) (u:=vs[j]) rfl rfl (by decide) rfl (by kernel_rfl) ?_ (fun w' h'=>hcell w' h') (hM.one _ (List.getElem_mem hjv)) ?_
  ·(exact sr)
  dsimp only[AS.put];refine ZO.pre (imm:=⟨[],[],[]⟩) 1 bV (by kernel_rfl) (by simp only[List.take_succ_cons,List.take_zero]<;>exact rfl) (by simp only[List.drop_succ_cons,List.drop_zero]<;>exact rfl) (by simp only[List.map_cons,List.map_nil]<;>exact rfl) ?_;(try dsimp only);(refine wlk ?_;intros);(try dsimp only);refine ZO.aEJ (x:=.tmp 15) (y:=.tmp 16) (i:=j) (k:=mkK l k0 j) (u:=vs[j]) (z:=l[j]?.getD []) aif rfl rfl rfl ⟨_,Tryz.func21,rfl,rfl⟩ rfl (by rintro y ⟨⟩;decide) ?_ ?_ (List.getElem?_eq_getElem hjv) ?_ (by omega) (fH _ _) (by omega) (by omega) ?_
  ·(exact sr)
  ·(exact sr)
  ·rw[auh (Nat.le_refl _),List.getElem?_eq_getElem hjl,Option.getD_some]
  dsimp only[AS.put];refine ZO.pre (imm:=⟨[],[],[]⟩) 1 bV (by kernel_rfl) (by simp only[List.take_succ_cons,List.take_zero]<;>exact rfl) (by simp only[List.drop_succ_cons,List.drop_zero]<;>exact rfl) (by simp only[List.map_cons,List.map_nil]<;>exact rfl) ?_;(try dsimp only);(refine wlk ?_;intros);(try dsimp only);refine ZO.nil ?_;(try dsimp only[X.out]);refine HZ.eng mixed bV (by kernel_rfl) ?_;(try dsimp only);(refine wlk ?_;intros);(try dsimp only);refine⟨j+1,⟨by omega,rfl⟩,by omega,?_,trivial,rfl⟩;(try dsimp only);rw[show mkK l k0 (j+1)=mkK l k0 j+(l[j]?.getD []).length from rfl];exact agr
 ·obtain rfl:j=l.length:=by omega
  have hkk:mkK l k0 l.length=k0+uN l:=by rw[hkj,List.take_length]
  replace hkk:=Lib.hid hkk;clear hkj hlt;rcases hv with⟨hv,hl0⟩|hv
  ·subst hv
   have hkk0:mkK l k0 0=k0+uN l:=by have:=hkk.out;rwa[hl0]at this
   replace hkk0:=Lib.hid hkk0;clear hkk;rw[hl0]at*;refine HZ.seq (HZ.eng mixed bV (by kernel_rfl) ?_);(try dsimp only);(refine wlk ?_;intros);(try simp only[X.out,↓reduceIte]);refine HZ.seq (HZ.eng mixed bV (by kernel_rfl) ?_);(try dsimp only);(refine wlk ?_;intros);(try dsimp only);exact HZ.ret ⟨.inr rfl,⟨_,by(exact sr),by rw[←hkk0.out];rfl,by first|rfl|(rw[hl0];rfl)⟩,fun i hi=> .inl hi⟩
  ·subst hv
   have hl8:=fun ty=>auu (P:=Tryz.prog) (t:=23) (e:=24) (ty:=ty) (a:=some ⟨g,0,none⟩) (n:=l.length) (c:=c) (by kernel_rfl);refine HZ.seq (HZ.eng mixed bV (by kernel_rfl) ?_);(try dsimp only);(refine wlk ?_;intros);(try simp only[X.out,↓reduceIte]);refine HZ.seq (HZ.eng mixed bV (by kernel_rfl) ?_);(try dsimp only);(refine wlk ?_;intros);(try dsimp only);exact HZ.ret ⟨.inr rfl,⟨_,by(exact sr),by rw[←hkk.out];rfl,rfl⟩,fun i hi=> .inl hi⟩
structure ahr (T1 T2:Nat) (vo:Value) (vs:List Value) (vp:Value) (p:List LS) (q:LS) (w:World):Prop where
 ss:qc T1 T2 vo vs p w
 row:iq T2 vp (eD q) w
 ap:∀i,vp.ownBlock=some i→¬uJ vo vs i
def aiF (T1 T2:Nat) (vo:Value) (vs:List Value) (vp:Value) (p:List LS) (q:LS):Fgn:=⟨fun i=>uJ vo vs i∨vp.ownBlock=some i,ahr T1 T2 vo vs vp p q,fun w w' h hM=>⟨hM.ss.same fun i hi=>h i (.inl hi),hM.row.same fun i hi=>h i (.inr hi),hM.ap⟩⟩
def aHg (T2:Nat) (vo:Value) (vs:List Value) (vp:Value) (q:LS):Fgn:=⟨fun i=>uJ vo vs i∨vp.ownBlock=some i,fun w=>iq T2 vp (eD q) w,fun w w' h hM=>hM.same fun i hi=>h i (.inr hi)⟩
def aEH (vo:Value) (vs:List Value) (vp:Value):Fgn:=⟨fun i=>uJ vo vs i∨vp.ownBlock=some i,fun _=>True,fun _ _ _ _=>trivial⟩
theorem ahr.lt {T1 T2:Nat} {vo vp:Value} {vs:List Value} {p:List LS} {q:LS} {w:World} (h:ahr T1 T2 vo vs vp p q w) {i:Nat} (hi:uJ vo vs i∨vp.ownBlock=some i):i<w.heap.size:=hi.elim h.ss.lt h.row.lt
section
variable {P:Program}
theorem ahR.calls {f T2:Nat} {mk:Int→Nat→LS} (hmk:ahR P f T2 mk) {u:Value} {z:LS} {k:Int} {w:World} (hrow:iq T2 u (eD z) w) (hlz:z.length≤1048576) (hk0:0<k) (hk1:k≤1099511627776) (hT:kr w fun b=>u.ownBlock=some b):
 Calls P f #[u,.int .i64 k] w fun e w'=>e=.returned (.int .i64 (k+z.length))∧Fr (fun b=>u.ownBlock=some b) w w':=by
 obtain⟨⟨Φ,hS,h1,h2⟩,h3⟩:=hmk;rcases hrow with⟨rfl,hz0⟩|⟨gb,cap,arr,rfl,q1,q2,q3,q4,q5⟩
 ·have hz0:z=[]:=by unfold eD at hz0;simpa using hz0
  subst hz0;refine(hS w (fun _ _=>False) (fun _=>0) (fun _=>0) [.val (.slice none 0 0),.val (.int .i64 k)] [] _ _ _ (h2 k) (fun _ _ q=>False.elim q) ⟨fun o ho=>by simp at ho,fun o o' ho=>by simp at ho,fun o c hc=>by simp at hc⟩ (hT.io fun t ht=>by rintro⟨o,ho,_⟩;simp at ho) ⟨_,_,rfl,by simp[Rep],_,_,rfl,by simp[Rep],rfl⟩).mono ?_;rintro e w' ⟨v',β',κ',M,rfl,hfr,-,-,-,-,-,hrep⟩;simp only[Rep]at hrep;subst hrep;exact⟨by simp,hfr.os,hfr.tape,hfr.output,hfr.size,fun i hi _=>hfr.block i hi fun⟨o,ho,_⟩=>by simp at ho⟩
 ·have hzl:(eD z).length=z.length:=by simp[eD]
  rw[hzl]at q1⊢;have hes:bB (dH (fun _ _=>False) (fun _=>gb) (fun _=>arr.size) 1) w 1 (z.map fun s=>PV.val (.string s)) gb 0:=iq.aen (vs:=eD z) q3 q5 (by simp[eD]) fun j e u h1 h2=>by unfold eD at h2;rw[List.getElem?_map]at h1 h2;rw[Option.map_eq_some_iff]at h1 h2;obtain⟨s,p1,rfl⟩:=h1;obtain⟨s',p2,rfl⟩:=h2;rw[p1]at p2;cases p2;exact⟨by simp[Rep],nW s⟩
  refine(hS w (fun _ _=>False) (fun _=>gb) (fun _=>arr.size) [.row 0 1 0 z.length,.val (.int .i64 k)] [(T2,1,z.map fun s=> .val (.string s))] _ _ _ (h1 z k hlz hk0 hk1) (fun _ _ q=>False.elim q) ⟨fun o ho=>⟨lt_of_heap q3,fun _ q=>q⟩,fun o o' ho ho' _=>by simp at ho ho';omega,fun o c hc=>?_⟩ (hT.io fun t ht=>?_) ?_).mono ?_
  ·have ho:o=0:=by have:=(List.getElem?_eq_some_iff.1 hc).1;simpa using this
   subst ho;cases hc;exact⟨⟨arr,q3,rfl⟩,by show(z.map _).length*1≤arr.size;rw[List.length_map];omega,hes⟩
  ·rintro⟨o,ho,rfl⟩
   exact hT.apart _ ht rfl
  ·refine⟨_,_,rfl,?_,_,_,rfl,by simp[Rep],rfl⟩
   simp only[Rep];exact⟨cap,by simp[dH],q1,q2,by show(0+cap)*1≤arr.size;omega,by exact Nat.zero_lt_one,fun q=>q⟩
  ·rintro e w' ⟨v',β',κ',M,rfl,hfr,-,hβ,-,-,hO',hrep⟩
   simp only[Rep]at hrep;subst hrep;exact⟨rfl,hfr.os,hfr.tape,hfr.output,hfr.size,fun i hi hn=>hfr.block i hi fun⟨o,ho,q⟩=>hn (by rw[q];rfl)⟩
theorem fQ.row {f T:Nat} {Ψ:yU} (hs:fQ P f Ψ) {ps:List PV} {l:LS} (hΨ:Ψ ps=some (.row 0 1 0 l.length,[(T,1,l.map fun s=> .val (.string s))])) {w:World} {Jm:Nat→Prop} {args:Array Value} (hJ:∀i,Jm i→i<w.heap.size) (hT:kr w fun _=>False) (hargs:bL (lG Jm) w ps args.toList):
 Calls P f args w fun e w'=>∃v,e=.returned v∧Fr (fun _=>False) w w'∧iq T v (eD l) w'∧∃b,v.ownBlock=some b∧w.heap.size≤b:=by
 refine(hs w (fun k b=>k=false∧Jm b) (fun _=>0) (fun _=>0) ps [] args _ _ (by simpa using hΨ) (fun k b hb=>hJ b hb.2) ⟨fun o ho=>by simp at ho,fun o o' ho=>by simp at ho,fun o c ho=>by simp at ho⟩ (hT.io fun t ht=>by rintro⟨o,ho,_⟩;simp at ho) hargs).mono ?_;rintro e w' ⟨v,β',κ',M,rfl,hfr,-,-,hnew,hM,hO',hrep⟩;obtain⟨⟨arr2,p1,p2⟩,p3,p4⟩:=hO'.at_ 0 _ rfl;have hb:w.heap.size≤β' 0:=hnew 0 (Nat.zero_le _) (by simp);simp only[Rep]at hrep;obtain⟨c,e1,e2,e3,e4,e5⟩:=hrep;have e6:(eD l).map PV.val=l.map fun s=>PV.val (.string s):=by unfold eD;rw[List.map_map];rfl
 dsimp only at p1 p4;rw[←e6]at p4;have hr:=uY (n:=l.length) ⟨c,e1,e2,e3,by rw[p2];exact e4⟩ (by simp[eD]) p1 p4 fun u hu=>by unfold eD at hu;obtain⟨s,_,rfl⟩:=List.mem_map.1 hu;exact nW s
 exact⟨v,rfl,⟨hfr.os,hfr.tape,hfr.output,hfr.size,fun i hi _=>hfr.block i hi fun⟨o,ho,_⟩=>by simp at ho⟩,hr.1,_,hr.2,hb⟩
end
abbrev vJ (p:List LS) (q:LS) (x y z:Int):PV:=.agg [.lst false 1 (p.map fun p=> .lst false 1 (p.map fun s=> .val (.string s))),.lst false 1 (q.map fun s=> .val (.string s)),.val (.int .i64 x),.val (.int .i64 y),.val (.int .i64 z)]
abbrev bkV (vo vp:Value) (x y z:Int):Value:=.agg #[vo,vp,.int .i64 x,.int .i64 y,.int .i64 z]
abbrev bkQ (vo vp:Value) (x y z:Int):PV:=.agg [.val vo,.val vp,.val (.int .i64 x),.val (.int .i64 y),.val (.int .i64 z)]
theorem iq.sl {T:Nat} {v:Value} {vs:List Value} {w:World} (h:iq T v vs w):∃a n c,v=.slice a n c:=by
 rcases h with⟨rfl,_⟩|⟨g,cap,arr,rfl,_⟩
 ·exact⟨_,_,_,rfl⟩
 ·exact⟨_,_,_,rfl⟩
theorem aiD {p:List LS} {q:LS} {x y z:Int} {w:World} {Jm:Nat→Prop} {args:Array Value} (hp:aFC p) (hq:q.length≤1048576) (hJ:∀b,Jm b→b<w.heap.size) (hT:kr w fun _=>False) (hargs:bL (lG Jm) w [vJ p q x y z] args.toList):
 Calls Tryz.prog 17 args w fun e w'=>∃vo vs vp,e=.returned (bkV vo vp x y z)∧Fr (fun _=>False) w w'∧ahr 24 9 vo vs vp p q w'∧∀i,(uJ vo vs i∨vp.ownBlock=some i)→w.heap.size≤i:=by
 have hc:=HZ.calls (σ:=Fgn.no) (N:=22) (rs:=[.cell 2 26]) (ps:=[vJ p q x y z]) Tryz.func17 rfl rfl rfl (fun b e=>False.elim e) trivial hT hJ (fun b _ e=>e) hargs (by show 1≤_;decide) (fun P' σ'=>∃vo vs vp,P'=bkQ vo vp x y z∧σ'=aiF 24 9 vo vs vp p q) ?_
 ·refine hc.mono ?_
  rintro e w' ⟨v0,σ',P',g,rfl,⟨vo,vs,vp,rfl,rfl⟩,hr,hf,hb,ha⟩;simp only[Rep,bL]at hr;obtain⟨l,rfl,v1,l1,h1,rfl,v2,l2,rfl,rfl,v3,l3,rfl,rfl,v4,l4,rfl,rfl,v5,l5,rfl,rfl,rfl⟩:=hr;refine⟨v1,vs,v2,?_,hf,ha,fun i hi=>((hb i hi).2).elim (fun e=>False.elim e) id⟩;obtain⟨ll⟩:=l;simp only at h1;rw[h1]
 refine HZ.start ?_;show HZ _ _ _ _ _ _ ⟨(bX [vJ p q x y z]).tm,fun _=>none,0⟩ _;refine HZ.seq (HZ.eng mixed bV (by kernel_rfl) ?_);(try dsimp only);(refine wlk ?_;intros);refine HZ.seq (HZ.eng mixed bV (by kernel_rfl) ?_);(try dsimp only);(refine wlk ?_;intros);refine HZ.seq (HZ.each ?_);refine ZO.pre (imm:=⟨[],[],[]⟩) 2 bV (by kernel_rfl) (by simp only[List.take_succ_cons,List.take_zero]<;>exact rfl) (by simp only[List.drop_succ_cons,List.drop_zero]<;>exact rfl) (by simp only[List.map_cons,List.map_nil]<;>exact rfl) ?_;(try dsimp only);(refine wlk ?_;intros);(try dsimp only);refine ZO.wV rfl rfl ⟨_,Tryz.func51,rfl,rfl⟩ rfl (by rintro y ⟨⟩;decide) (fun v σ'=>(∃a n c,v=.slice a n c)∧∃vs,σ'=ssF 24 9 v vs p∧∀i,uJ v vs i→w.heap.size≤i) (fun a w1 hst=>?_) (fun vo σ' ⟨⟨a1,n1,c1,hvo⟩,vs,e,hbo⟩=>?_)
 ·obtain⟨⟨io,w0,g,hr,hC⟩,hM⟩:=hst
  simp only[List.map_toArray,List.map_cons,List.map_nil];have hrep:=hr.aEm (x:=.tmp 5) (q:=aze p) (by(exact sr));have hT1:kr w1 fun _=>False:=(hr.tab.keep hr.fr fun t ht=>(hr.tab.apart t ht)).io fun _ _ q=>False.elim q;refine(ajJ hp (fun b hb=>hb) hT1 ⟨_,_,rfl,hrep,rfl⟩).mono ?_;rintro e w' ⟨v,vs,rfl,hf,hs,hb⟩;have hsz:=Nat.le_trans hC.sz hr.fr.size;exact⟨v,_,rfl,⟨hs.out.sl,vs,rfl,fun i hi=>Nat.le_trans hsz (hb i hi)⟩,⟨hf.os,hf.tape,hf.output,hf.size,fun i hi _=>hf.block i hi fun e=>e⟩,fun i hi e=>by have:=hb i e;omega,fun i e=>False.elim e,fun i e=>hs.lt e,hs⟩
 subst e hvo;have hc1:bJ (.val (.slice a1 n1 c1))=some [.val (.slice a1 n1 c1)]:=rfl;dsimp only[AS.put];refine ZO.pre (imm:=⟨[],[],[]⟩) 2 bV (by kernel_rfl) (by simp only[List.take_succ_cons,List.take_zero]<;>exact rfl) (by simp only[List.drop_succ_cons,List.drop_zero]<;>exact rfl) (by simp only[List.map_cons,List.map_nil]<;>exact rfl) ?_;(try dsimp only);(refine wlk ?_;intros);(try dsimp only);refine ZO.nil ?_;(try dsimp only);refine HZ.seq (HZ.each ?_);refine ZO.pre (imm:=⟨[],[],[]⟩) 2 bV (by kernel_rfl) (by simp only[List.take_succ_cons,List.take_zero]<;>exact rfl) (by simp only[List.drop_succ_cons,List.drop_zero]<;>exact rfl) (by simp only[List.map_cons,List.map_nil]<;>exact rfl) ?_;(try dsimp only);(refine wlk ?_;intros);(try dsimp only);refine ZO.wV rfl rfl ⟨_,Tryz.func52,rfl,rfl⟩ rfl (by rintro y ⟨⟩;decide) (fun v σ'=>(∃a n c,v=.slice a n c)∧σ'=aiF 24 9 (.slice a1 n1 c1) vs v p q∧∀i,v.ownBlock=some i→w.heap.size≤i) (fun a w1 hst=>?_) (fun vp σ' ⟨⟨a2,n2,c2,hvp⟩,e,hbp⟩=>?_)
 ·obtain⟨⟨io,w0,g,hr,hC⟩,hM⟩:=hst
  simp only[List.map_toArray,List.map_cons,List.map_nil];have hrep:=hr.aEm (x:=.tmp 9) (q:=.lst false 1 (q.map fun s=> .val (.string s))) (by(exact sr));have hT1:kr w1 fun _=>False:=(hr.tab.keep hr.fr fun t ht=>(hr.tab.apart t ht)).io fun _ _ q=>False.elim q;refine(zG.row (ahc hq) (fun b hb=>hb) hT1 ⟨_,_,rfl,hrep,rfl⟩).mono ?_;rintro e w' ⟨v,rfl,hf,hs,b,hvb,hb⟩;have hsz:=Nat.le_trans hC.sz hr.fr.size;have hM':qc 24 9 (.slice a1 n1 c1) vs p w1:=hM;have hk:∀i,i<w1.heap.size→w'.heap[i]?=w1.heap[i]?:=fun i hi=>hf.block i hi fun e=>e;have hss:qc 24 9 (.slice a1 n1 c1) vs p w':=hM'.same fun i hi=>hk i (hM'.lt hi);refine⟨v,_,rfl,⟨hs.sl,rfl,fun i hi=>by rw[hvb]at hi;cases hi;omega⟩,⟨hf.os,hf.tape,hf.output,hf.size,fun i hi _=>hk i hi⟩,fun i hi e=>?_,fun i e=> .inl e,fun i e=>e.elim hss.lt hs.lt,⟨hss,hs,fun i hi e=>?_⟩⟩
  ·rcases e with e|e
   ·exact e
   ·rw[hvb]at e;cases e;omega
  ·rw[hvb]at hi
   cases hi;have:=hM'.lt e;omega
 subst e hvp;have hc2:bJ (.val (.slice a2 n2 c2))=some [.val (.slice a2 n2 c2)]:=rfl;dsimp only[AS.put];refine ZO.pre (imm:=⟨[],[],[]⟩) 2 bV (by kernel_rfl) (by simp only[List.take_succ_cons,List.take_zero]<;>exact rfl) (by simp only[List.drop_succ_cons,List.drop_zero]<;>exact rfl) (by simp only[List.map_cons,List.map_nil]<;>exact rfl) ?_;(try dsimp only);(refine wlk ?_;intros);(try dsimp only);refine ZO.nil ?_;(try dsimp only);refine HZ.eng mixed bV (by kernel_rfl) ?_;(try dsimp only);(refine wlk ?_;intros);(try dsimp only);refine⟨.inr rfl,⟨_,by(exact sr),_,vs,_,rfl,rfl⟩,fun i hi=> .inr (hi.elim (hbo i) (hbp i))⟩
theorem uy {p:List LS} {q:LS} {x y z k0:Int} {vo vp:Value} {vs:List Value} {w:World} {args:Array Value} (hM:ahr 24 9 vo vs vp p q w) (hl:uN p≤1048576) (hp:p.length≤1048576) (hq:q.length≤1048576) (hk0:0<k0) (hk1:k0≤1048577) (hT:kr w fun i=>uJ vo vs i∨vp.ownBlock=some i) (hargs:args=#[bkV vo vp x y z,.int .i64 k0]):
 Calls Tryz.prog 20 args w fun e w'=>e=.returned (.int .i64 (k0+uN p+q.length))∧Fr (fun i=>uJ vo vs i∨vp.ownBlock=some i) w w':=by
 have hargs2:bL (lG fun _=>False) w [bkQ vo vp x y z,.val (.int .i64 k0)] args.toList:=by rw[hargs];refine⟨_,_,rfl,?_,_,_,rfl,by simp[Rep],rfl⟩;simp[Rep,bL]
 have hc:=HZ.calls (σ:=aiF 24 9 vo vs vp p q) (N:=14) (rs:=[.tmp 4]) (ps:=[bkQ vo vp x y z,.val (.int .i64 k0)]) Tryz.func20 rfl rfl rfl (fun b e=>hM.lt e) hM hT (fun b e=>False.elim e) (fun b e=>False.elim e) hargs2 (by show 2≤_;decide) (fun P' σ'=>P'=.val (.int .i64 (k0+uN p+q.length))) ?_
 ·refine hc.mono ?_
  rintro e w' ⟨v0,σ',P',g,rfl,rfl,hr,hf,hb,ha⟩;simp only[Rep]at hr;subst hr;exact⟨rfl,hf⟩
 obtain⟨a1,n1,c1,hvo⟩:=hM.ss.out.sl;obtain⟨a2,n2,c2,hvp⟩:=hM.row.sl;clear hargs2;subst hvo hvp;have hc1:bJ (bkQ (.slice a1 n1 c1) (.slice a2 n2 c2) x y z)=some [.val (.slice a1 n1 c1),.val (.slice a2 n2 c2),.val (.int .i64 x),.val (.int .i64 y),.val (.int .i64 z)]:=rfl;refine HZ.start ?_;show HZ _ _ _ _ _ _ ⟨(bX [bkQ (.slice a1 n1 c1) (.slice a2 n2 c2) x y z,.val (.int .i64 k0)]).tm,fun _=>none,0⟩ _;refine HZ.seq (HZ.eng mixed bV (by kernel_rfl) ?_);(try dsimp only);(refine wlk ?_;intros);refine HZ.seq (HZ.each ?_);refine ZO.pre (imm:=⟨[],[],[]⟩) 3 bV (by kernel_rfl) (by simp only[List.take_succ_cons,List.take_zero]<;>exact rfl) (by simp only[List.drop_succ_cons,List.drop_zero]<;>exact rfl) (by simp only[List.map_cons,List.map_nil]<;>exact rfl) ?_;(try dsimp only);(refine wlk ?_;intros);(try dsimp only);refine ZO.wV rfl rfl ⟨_,Tryz.func54,rfl,rfl⟩ rfl (by rintro y ⟨⟩;decide) (fun v σ'=>v=.int .i64 (k0+uN p)∧σ'=aHg 9 (.slice a1 n1 c1) vs (.slice a2 n2 c2) q) (fun a w1 hst=>?_) (fun v σ' ⟨e1,e2⟩=>?_)
 ·obtain⟨⟨io,w0,g,hr,hC⟩,hM1⟩:=hst
  have hM1:ahr 24 9 (.slice a1 n1 c1) vs (.slice a2 n2 c2) p q w1:=hM1;have hX:=hr.look (.tmp 6);have hY:=hr.look (.tmp 7);rw[show look _ (.tmp 6)=.val (.slice a1 n1 c1)from by(exact sr)]at hX;rw[show look _ (.tmp 7)=.val (.int .i64 k0)from by(exact sr)]at hY;simp only[Rep]at hX hY;simp only[List.map_toArray,List.map_cons,List.map_nil];rw[hX,hY];refine(acr hM1.ss hl hp hk0 hk1 ((hr.tab.keep hr.fr fun t ht=>(hr.tab.apart t ht)).io fun t ht e=>(hC.tk t ht).2 (.inl e)) rfl).mono ?_;rintro e w' ⟨rfl,hf,hs⟩;refine⟨_,_,rfl,⟨rfl,rfl⟩,⟨hf.os,hf.tape,hf.output,hf.size,fun i hi hn=>hf.block i hi fun e=>hn (.inl e)⟩,fun _ _ e=>e,fun _ e=>e,fun i e=>Nat.lt_of_lt_of_le (hM1.lt e) hf.size,?_⟩;exact hM1.row.same fun i hi=>hf.block i (hM1.row.lt hi) (hM1.ap i hi)
 subst e1 e2;dsimp only[AS.put];refine ZO.pre (imm:=⟨[],[],[]⟩) 1 bV (by kernel_rfl) (by simp only[List.take_succ_cons,List.take_zero]<;>exact rfl) (by simp only[List.drop_succ_cons,List.drop_zero]<;>exact rfl) (by simp only[List.map_cons,List.map_nil]<;>exact rfl) ?_;(try dsimp only);(refine wlk ?_;intros);(try dsimp only);refine ZO.nil ?_;(try dsimp only);refine HZ.seq (HZ.each ?_);refine ZO.pre (imm:=⟨[],[],[]⟩) 3 bV (by kernel_rfl) (by simp only[List.take_succ_cons,List.take_zero]<;>exact rfl) (by simp only[List.drop_succ_cons,List.drop_zero]<;>exact rfl) (by simp only[List.map_cons,List.map_nil]<;>exact rfl) ?_;(try dsimp only);(refine wlk ?_;intros);(try dsimp only);refine ZO.wV rfl rfl ⟨_,Tryz.func21,rfl,rfl⟩ rfl (by rintro y ⟨⟩;decide) (fun v σ'=>v=.int .i64 (k0+uN p+q.length)∧σ'=aEH (.slice a1 n1 c1) vs (.slice a2 n2 c2)) (fun a w1 hst=>?_) (fun v σ' ⟨e1,e2⟩=>?_)
 ·obtain⟨⟨io,w0,g,hr,hC⟩,hM1⟩:=hst
  have hM1:iq 9 (.slice a2 n2 c2) (eD q) w1:=hM1;have hX:=hr.look (.tmp 10);have hY:=hr.look (.tmp 11);rw[show look _ (.tmp 10)=.val (.slice a2 n2 c2)from by(exact sr)]at hX;rw[show look _ (.tmp 11)=.val (.int .i64 (k0+uN p))from by(exact sr)]at hY;simp only[Rep]at hX hY;simp only[List.map_toArray,List.map_cons,List.map_nil];rw[hX,hY];refine(aif.calls hM1 hq (by omega) (by omega) ((hr.tab.keep hr.fr fun t ht=>(hr.tab.apart t ht)).io fun t ht e=>(hC.tk t ht).2 (.inr e))).mono ?_;rintro e w' ⟨rfl,hf⟩;exact⟨_,_,rfl,⟨rfl,rfl⟩,⟨hf.os,hf.tape,hf.output,hf.size,fun i hi hn=>hf.block i hi fun e=>hn (.inr e)⟩,fun _ _ e=>e,fun _ e=>e,fun i e=>Nat.lt_of_lt_of_le (hC.hb i e) (Nat.le_trans hr.fr.size hf.size),trivial⟩
 subst e1 e2;dsimp only[AS.put];refine ZO.pre (imm:=⟨[],[],[]⟩) 1 bV (by kernel_rfl) (by simp only[List.take_succ_cons,List.take_zero]<;>exact rfl) (by simp only[List.drop_succ_cons,List.drop_zero]<;>exact rfl) (by simp only[List.map_cons,List.map_nil]<;>exact rfl) ?_;(try dsimp only);(refine wlk ?_;intros);(try dsimp only);refine ZO.nil ?_;(try dsimp only);refine HZ.eng mixed bV (by kernel_rfl) ?_;(try dsimp only);(refine wlk ?_;intros);(try dsimp only);refine⟨.inr rfl,⟨_,by(exact sr),rfl⟩,fun i hi=> .inl hi⟩
section
variable {P:Program} {N B:Nat} {w00:World} {s:AS} {σ:Fgn} {ops:Array Oper} {J:AS→Fgn→Prop} {j:Nat} {o:Oper} {l:List Oper}
theorem Zt.weak {a:Act} {w:World} {t:Nat} {p:PV} (h:Zt P N B w00 s σ a w) (hp:∀(g:Gh) (w:World) (v:Value),Rep g w (s.tm t) v→Rep g w p v):Zt P N B w00 ⟨upd s.tm t p,s.ob,s.nx⟩ σ a w:=by
 obtain⟨⟨io,w0,g,hr,hC⟩,hM⟩:=h;refine⟨⟨io,w0,g,⟨hr.nt,hr.df,fun t'=>?_,hr.ob,hr.inj,hr.nx,hr.lt,hr.new,hr.fr,hr.old,hr.fix,hr.hl,hr.tab⟩,hC⟩,hM⟩;show Rep g w (upd s.tm t p t') _;unfold upd;split
 ·rename_i e
  subst e;exact hp g w _ (hr.tm t')
 ·exact hr.tm t'
theorem ZO.weak {t:Nat} {p:PV} (hp:∀(g:Gh) (w:World) (v:Value),Rep g w (s.tm t) v→Rep g w p v) (h:ZO P N B w00 ops j l J ⟨upd s.tm t p,s.ob,s.nx⟩ σ):ZO P N B w00 ops j l J s σ:=ZO.mk fun hl a w hs Q hQ=>h.go hl a w (hs.weak hp) Q hQ
theorem Zt.aBj {f d:Nat} {c:Call} {φ:Fun} {ps:List PV} {u:Value} (ho:o.op=.call c) (hc:c.callee=.value (.func f)) (hf:Fnd P f) (hdst:o.dst=some d) (hd:d<N) (hs:Sound P f φ) (hφ:φ ps=some (.val u)) {a:Act} {w:World} (hst:Zt P N B w00 s σ a w) {Jm:Nat→Prop} (hJ:∀i,Jm i→i<w.heap.size) (hargs:bL (lG Jm) w ps (c.args.map a.eval).toList) {Kn:Act→World→Prop} {Q:Exit→Act→World→Prop} (h:∀a' w',Zt P N B w00 (s.put (some d) (.val u)) σ a' w'→Kn a' w'):o.wp P a w Kn Q:=by
 have hst0:=hst;obtain⟨⟨io,w0,g,hr,hC⟩,hM⟩:=hst0;obtain⟨fn,hfn,hname,hbody⟩:=hf;have hrun:(execOp a.eval o).run P w=.ok (.enter f (c.args.map a.eval)) w:=by unfold execOp;simp only[ho,resolve,hc,Act.eval,Deferred.ofValue,Sem.run_bind,Sem.run_pure,Result.andThen_ok,invoke,callFunc,run_program,hfn];simp[hname,hbody]
 unfold Oper.wp;rw[hrun,Oper.upon_enter];refine(hs w Jm ps (c.args.map a.eval) _ hφ hJ ((hr.tab.keep hr.fr fun t ht=>(hr.tab.apart t ht)).io fun _ _ q=>False.elim q) hargs).mono ?_;rintro e w' ⟨v,rfl,hb,hv⟩;have hv1:=hv ⟨fun _ _=>True,fun _=>0,fun _=>0,0,fun _=>False⟩ fun _ _ _=>trivial;simp only[Rep]at hv1;subst hv1;rw[hdst];exact h _ _ ((hst.jE (σ':=σ) ⟨hb.os,hb.tape,hb.output,hb.size,fun i hi _=>hb.block i hi⟩ (fun _ _ q=>q) (fun _ q=>q) (fun b' q=>Nat.lt_of_lt_of_le (hC.hb b' q) (Nat.le_trans hr.fr.size hb.size)) (σ.keep w w' (fun i hi=>hb.block i (Nat.lt_of_lt_of_le (hC.hb i hi) hr.fr.size)) hM)).put (fun x e=>by cases e;exact hd) fun g w=>by simp[Rep])
theorem ahr.rep {T1 T2:Nat} {vo vp:Value} {vs:List Value} {p:List LS} {q:LS} {x y z:Int} {w:World} (h:ahr T1 T2 vo vs vp p q w):Rep (lG fun i=>i<w.heap.size) w (vJ p q x y z) (bkV vo vp x y z):=by refine⟨_,rfl,_,_,rfl,h.ss.rep fun i hi=>h.ss.lt hi,_,_,rfl,h.row.aGF fun g hg=>h.row.lt hg,?_⟩;simp[bL,Rep]
theorem au7 {vo vp:Value} {x y z:Int} (g:Gh) (w:World) (v:Value) (h:Rep g w (.val (bkV vo vp x y z)) v):Rep g w (bkQ vo vp x y z) v:=by simp only[Rep]at h;subst h;simp[Rep,bL]
theorem oF {vo vp:Value} {x y z:Int} {g:Gh} {w:World} {v:Value} (h:Rep g w (bkQ vo vp x y z) v):v=bkV vo vp x y z:=by simp only[Rep,bL]at h;obtain⟨l,rfl,v1,l1,h1,rfl,v2,l2,rfl,rfl,v3,l3,rfl,rfl,v4,l4,rfl,rfl,v5,l5,rfl,rfl,rfl⟩:=h;obtain⟨ll⟩:=l;simp only at h1;rw[h1]
end
theorem ayT {l:LS} {left:Int} (h:0≤szS left l) (h0:0≤left):szS left l+l.length≤left:=by
 unfold szS at h⊢;split at h
 ·omega
 ·rename_i h1
  rw[if_neg h1];have:=tC (l:=l.map (·.size)) (left:=left-l.length) (by omega);omega
theorem ac6:∀{l:List LS} {left:Int},0≤sM left l→0≤left→(uN l:Int)≤left
 |[],left,h,h0=>by simp[uN];exact h0
 |p::l,left,h,h0=>by
  unfold sM at h;split at h
  ·omega
  ·rename_i h1
   have h2:=ayT (l:=p) (left:=left) (by omega) h0;have h3:=ac6 (l:=l) h (by omega);unfold uN at h3⊢;simp only[List.map_cons,List.sum_cons];omega
theorem apY {p:List LS} {q:LS} (h:0≤atp p q):yO p∧aaI p q∧uN p≤1048576:=by
 unfold atp at h;split at h
 ·omega
 ·split at h
  ·omega
  ·rename_i h1 h2
   have h3:=alF (l:=p);have hq:oM q:=at6 (by omega) (by omega) h3;have h4:p.length≤1048576∧0≤sM (1048576-p.length) p:=by
    unfold aj9 at h1;split at h1
    ·omega
    ·exact⟨by omega,by omega⟩
   have h5:=afZ h4.2 (by omega) (by omega);have h6:∀i:Nat,oM (p[i]?.getD []):=fun i=>by
    by_cases hi:i<p.length
    ·rw[List.getElem?_eq_getElem hi,Option.getD_some]
     exact h5 _ (List.getElem_mem hi)
    ·rw[List.getElem?_eq_none (by omega)]
     exact⟨Nat.zero_le _,fun i=>by simp⟩
   have h7:=ac6 h4.2 (by omega);exact⟨⟨h4.1,List.all_eq_true.2 fun w hw=>decide_eq_true (h5 w hw).1⟩,⟨h4.1,h6,hq⟩,by omega⟩
section
variable {P:Program} {N B:Nat} {w00:World} {s:AS} {σ:Fgn} {o:Oper}
theorem Zt.get {a:Act} {w:World} (h:Zt P N B w00 s σ a w):∃g:Gh,(∀x:Operand,Rep g w (look s.tm x) (a.eval x))∧(∀(x:Operand) (q:PV),reify false 0 s.ob fuel (look s.tm x)=some q→Rep (lG fun i=>i<w.heap.size) w q (a.eval x))∧σ.at_ w:=by obtain⟨⟨io,w0,g,hr,hC⟩,hM⟩:=h;exact⟨g,fun x=>hr.look x,fun x q hq=>hr.aEm hq,hM⟩
theorem Zt.aGN {t d:Nat} {x:Operand} {b:Bool} (ho:o.op=.unOp .not t x) (hdst:o.dst=some d) (hd:d<N) (hx:look s.tm x=.val (.bool b)) {a:Act} {w:World} (hst:Zt P N B w00 s σ a w) {Kn:Act→World→Prop} {Q:Exit→Act→World→Prop} (h:∀a' w',Zt P N B w00 (s.put (some d) (.val (.bool !b))) σ a' w'→Kn a' w'):o.wp P a w Kn Q:=by
 have hst0:=hst;obtain⟨⟨io,w0,g,hr,hC⟩,hM⟩:=hst0;have hX:=hr.look x;rw[hx]at hX;simp only[Rep]at hX;have hrun:(execOp a.eval o).run P w=.ok (.value (.bool !b)) w:=by simp[execOp,ho,hX,Op.unary]
 unfold Oper.wp;rw[hrun,Oper.upon_value,hdst];exact h _ _ (hst.put (d:=some d) (fun y hy=>by cases hy;exact hd) fun g w=>by simp[Rep])
end
def ahL:Fun:=ayt 1 aff
def vV:Fun:=ayt 1 aev
theorem alX {a b:LS} (h:a.length≤1048576) (h2:b.length≤1048576):ahL [.lst false 1 (a.map fun s=> .val (.string s)),.lst false 1 (b.map fun s=> .val (.string s))]=some (.val (.bool (decide (a=b)))):=u6 h h2
theorem aiI:ahL [.val (.slice none 0 0),.lst false 1 []]=some (.val (.bool true)):=u6 (a:=[]) (b:=[]) (by simp) (by simp)
theorem ae2 {k:Int} {n:Nat} (hn:n≤1048576) (hk:0<k) (hk2:k≤1099511627776):vV [.lst false 1 ((kZ k n).map fun s=> .val (.string s)),.val (.int .i64 k)]=some (.val (.int .i64 (k+n))):=zV hn hk hk2
theorem acR:vV [.val (.slice none 0 0),.val (.int .i64 1)]=some (.val (.int .i64 1)):=zV (k:=1) (n:=0) (by simp) (by simp) (by simp)
end
end Go.Proofs.YtmmafcjjlbgnkaaGreatDoor
