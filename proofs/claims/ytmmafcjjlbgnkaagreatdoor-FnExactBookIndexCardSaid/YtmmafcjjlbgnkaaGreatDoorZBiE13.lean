/- What the proof rests on, part 13: contracts of functions. No condition beyond what each states. -/
import Derived.Test.YtmmafcjjlbgnkaaGreatDoorZBiE11
namespace Go.Proofs.YtmmafcjjlbgnkaaGreatDoor
open Go.RowKit
open Nat renaming reduceEqDiff→Rq,reduceBEq→Rb,reduceAdd→Ra,reduceSub→Rs
open Int renaming reduceToNat→Rt
set_option linter.all false
set_option maxHeartbeats 32000000
noncomputable section
abbrev Sg:=Option (Nat×VL)
structure HyC (io:IoS) (w00 w0:World) (B:Nat) (ob:Option Nat):Prop where
 ne:∀i,io.wr i∨io.im i∨io.it i→some i≠ob
 lo:∀i,io.wr i∨io.it i→B≤i
 lt:∀i,io.wr i→i<w0.heap.size
 hb:∀b,ob=some b→b<w0.heap.size
 sz:B≤w0.heap.size
 fr:Fr (fun i=>some i=ob∨B≤i) w00 w0
 tk:∀t∈tks,t<B∧some t≠ob
def St (P:Program) (k:TypeId) (N B:Nat) (w00:World) (s:AS) (σ:Sg) (a:Act) (w:World):Prop:=
 (∃io w0 g,Rel io w0 N g s a w∧HyC io w00 w0 B (σ.map Prod.fst))∧∀b L,σ=some (b,L)→jm P k w b L
section
variable {P:Program} {k:TypeId} {N B:Nat} {w00:World}
theorem jm.same {w w':World} {b:Nat} {L:VL} (h:jm P k w b L) (e:w'.heap[b]?=w.heap[b]?):jm P k w' b L:=by obtain⟨es,clock,hb,H⟩:=h;exact⟨es,clock,e.trans hb,H⟩
theorem HyC.same {io:IoS} {w0:World} {ob:Option Nat} (h:HyC io w00 w0 B ob) {g:Gh} {s:AS} {a:Act} {w:World} (hr:Rel io w0 N g s a w) {b:Nat} (hb:ob=some b):w.heap[b]?=w0.heap[b]?:=
 hr.fr.block b (h.hb b hb) fun q=>h.ne b (.inl q) hb.symm
theorem ars {io:IoS} {w0:World} {σ:Sg} {g g':Gh} {s s':AS} {a a':Act} {w w':World} (hC:HyC io w00 w0 B (σ.map Prod.fst)) (h1:Rel io w0 N g s a w) (h2:Rel io w0 N g' s' a' w') (hM:∀b L,σ=some (b,L)→jm P k w b L):∀b L,σ=some (b,L)→jm P k w' b L:=fun b L e=>
 (hM b L e).same (by
   have hb:σ.map Prod.fst=some b:=by rw[e];rfl
   rw[hC.same h1 hb,hC.same h2 hb])
theorem HyC.l9 {io:IoS} {w0:World} {ob:Option Nat} (h:HyC io w00 w0 B ob) {g:Gh} {s:AS} {a:Act} {w:World} (hr:Rel io w0 N g s a w) {kk:Bool} {i:Nat} (hi:g.I kk i):i<w.heap.size∧some i≠ob:=by
 refine⟨hr.lt _ _ hi,?_⟩;cases kk with
 |false=>exact h.ne i (.inr (.inl (hr.old i hi)))
 |true=>
  rcases hr.new i hi with⟨h1,_⟩|h1
  ·exact fun e=>by have:=h.hb i e.symm;omega
  ·exact h.ne i (.inr (.inr h1))
theorem HyC.eF {io:IoS} {w0:World} {ob:Option Nat} (h:HyC io w00 w0 B ob) {g:Gh} {s:AS} {a:Act} {w:World} (hr:Rel io w0 N g s a w) {o:Nat} {c:Nat×Nat×List PV} (ho:s.ob o=some c):g.β o<w.heap.size∧some (g.β o)≠ob∧B≤g.β o:=by
 obtain⟨h1,h2,h3,h4⟩:=hr.ob o c ho;obtain⟨arr,ha,_⟩:=h4.1;refine⟨lt_of_heap ha,?_,?_⟩
 ·rcases h2 with h2|h2
  ·exact fun e=>by have:=h.hb _ e.symm;omega
  ·exact h.ne _ (.inl h2)
 ·rcases h2 with h2|h2
  ·have:=h.sz;omega
  ·exact h.lo _ (.inl h2)
theorem Rel.jE {io:IoS} {w0 w w':World} {ob ob':Option Nat} {g:Gh} {s:AS} {a:Act} (hr:Rel io w0 N g s a w) (hC:HyC io w00 w0 B ob) (hf:w.grownBy w' ob')
 (h1:∀i,i<w.heap.size→some i=ob'→some i=ob) (h2:∀i,some i=ob→some i=ob') (h3:∀b,ob'=some b→b<w'.heap.size):∃io',Rel io' w' N g s a w'∧HyC io' w00 w' B ob':=by
 have hI:∀kk i,g.I kk i→w'.heap[i]?=w.heap[i]?:=fun kk i hi=>by obtain⟨q1,q2⟩:=hC.l9 hr hi;exact hf.block i q1 fun e=>q2 (h1 i q1 e)
 have hsz:B≤w.heap.size:=Nat.le_trans hC.sz hr.fr.size;have htk:∀t∈tks,some t≠ob':=fun t ht e=>(hC.tk t ht).2 (h1 t (by have:=(hC.tk t ht).1;omega) e);refine⟨{wr:=fun i=>∃o,(s.ob o).isSome∧i=g.β o,im:=g.I false,m:=0,β0:=fun _=>0,κ0:=fun _=>0,it:=g.I true},⟨hr.nt,hr.df,fun t=>(hr.tm t).mono (Gh.le_refl g) hI,fun o c ho=>?_,hr.inj,hr.nx,fun kk i hi=>Nat.lt_of_lt_of_le (hr.lt kk i hi) hf.size,fun i hi=> .inr hi,Fr.refl _ _,fun i hi=>hi,⟨fun o ho=>(Nat.not_lt_zero o ho).elim,fun o ho=>(Nat.not_lt_zero o ho).elim⟩,fun o ho=>False.elim ho,?_⟩,⟨fun i hi=>?_,fun i hi=>?_,fun i hi=>?_,h3,Nat.le_trans hsz hf.size,?_,fun t ht=>⟨(hC.tk t ht).1,htk t ht⟩⟩⟩
 ·obtain⟨k1,k2,k3,k4⟩:=hr.ob o c ho
  obtain⟨q1,q2,q3⟩:=hC.eF hr ho;exact⟨k1,.inr ⟨o,by simp[ho],rfl⟩,k3,k4.mono (Gh.le_refl g) k1 hI (hf.block _ q1 fun e=>q2 (h1 _ q1 e))⟩
 ·have t1:kr w (fun i=>some i=ob'):=hr.tab.keep hr.fr fun t ht e=>htk t ht e
  refine t1.keep ⟨hf.os,hf.tape,hf.output,hf.size,fun i hi hn=>hf.block i hi hn⟩ ?_;rintro t ht ⟨o,ho,rfl⟩;obtain⟨c,hc⟩:=Option.isSome_iff_exists.1 ho;have:=(hC.eF hr hc).2.2;have:=(hC.tk _ ht).1;omega
 ·rcases hi with⟨o,ho,rfl⟩|hi|hi
  ·obtain⟨c,hc⟩:=Option.isSome_iff_exists.1 ho
   obtain⟨q1,q2,q3⟩:=hC.eF hr hc;exact fun e=>q2 (h1 _ q1 e)
  ·obtain⟨q1,q2⟩:=hC.l9 hr hi
   exact fun e=>q2 (h1 _ q1 e)
  ·obtain⟨q1,q2⟩:=hC.l9 hr hi
   exact fun e=>q2 (h1 _ q1 e)
 ·rcases hi with⟨o,ho,rfl⟩|hi
  ·obtain⟨c,hc⟩:=Option.isSome_iff_exists.1 ho
   exact(hC.eF hr hc).2.2
  ·rcases hr.new i hi with⟨q,_⟩|q
   ·exact Nat.le_trans hC.sz q
   ·exact hC.lo i (.inr q)
 ·obtain⟨o,ho,rfl⟩:=hi
  obtain⟨c,hc⟩:=Option.isSome_iff_exists.1 ho;exact Nat.lt_of_lt_of_le (hC.eF hr hc).1 hf.size
 ·have hf1:Fr (fun i=>some i=ob'∨B≤i) w0 w:=⟨hr.fr.os,hr.fr.tape,hr.fr.output,hr.fr.size,fun i hi hn=>hr.fr.block i hi fun q=>hn (.inr (hC.lo i (.inl q)))⟩
  refine⟨hf.os.trans (hf1.os.trans hC.fr.os),hf.tape.trans (hf1.tape.trans hC.fr.tape),hf.output.trans (hf1.output.trans hC.fr.output),Nat.le_trans hC.fr.size (Nat.le_trans hf1.size hf.size),fun i hi hn=>?_⟩;have g1:=hC.fr.block i hi fun q=>hn (q.imp (h2 i) id);have g2:=hf1.block i (Nat.lt_of_lt_of_le hi hC.fr.size) hn;have g3:=hf.block i (Nat.lt_of_lt_of_le hi (Nat.le_trans hC.fr.size hf1.size)) fun q=>hn (.inl q);exact g3.trans (g2.trans g1)
structure HY (P:Program) (k:TypeId) (N B:Nat) (w00:World) (c:Code) (K:X→AS→Sg→Prop) (s:AS) (σ:Sg):Prop where
 go:∀a w,St P k N B w00 s σ a w→∀Q:Exit→Act→World→Prop,(∀x s' σ' a' w',St P k N B w00 s' σ' a' w'→K x s' σ'→Q x.uo a' w')→CWp P c Q a w
variable {c c1 c2:Code} {K:X→AS→Sg→Prop} {s s':AS} {σ:Sg}
theorem HY.seq (h:HY P k N B w00 c1 (fun x s' σ'=>match x with| .normal=>HY P k N B w00 c2 K s' σ'| .exit id=>K (.exit id) s' σ'| .ret=>K .ret s' σ') s σ):HY P k N B w00 (.seq c1 c2) K s σ:=HY.mk fun a w hs Q hQ=>by
 refine wp_seq (CWp.wp (h.go a w hs _ fun x s' σ' a' w' hs' hk=>?_));cases x with
 |normal=>exact(hk.go a' w' hs' Q hQ).wp
 |exit id=>exact hQ _ s' σ' a' w' hs' hk
 |ret=>exact hQ _ s' σ' a' w' hs' hk
theorem HY.block {id:Nat} (h:HY P k N B w00 c (fun x s' σ'=>K (x.out id) s' σ') s σ):HY P k N B w00 (.block id c) K s σ:=HY.mk fun a w hs Q hQ=>by
 refine wp_block (CWp.wp (h.go a w hs _ fun x s' σ' a' w' hs' hk=>?_));have:=hQ _ s' σ' a' w' hs' hk;cases x with
 |normal=>exact this
 |ret=>exact this
 |exit id'=>
  simp only[X.uo,Exit.inBlock,X.out]at this⊢;split
  ·rename_i hid;simpa [hid]using this
  ·rename_i hid;simpa [hid]using this
theorem HY.cond {x:Operand} {b:Bool} (hc:look s.tm x=.val (.bool b)) (ht:b=true→HY P k N B w00 c1 K s σ) (hf:b=false→HY P k N B w00 c2 K s σ):HY P k N B w00 (.cond x c1 c2) K s σ:=HY.mk fun a w hs Q hQ=>by
 obtain⟨⟨io,w0,g,hr,hC⟩,hM⟩:=hs;have hx:=hr.look x;rw[hc]at hx;simp only[Rep]at hx;refine wp_cond hx ?_;cases b with
 |true=>exact((ht rfl).go a w ⟨⟨io,w0,g,hr,hC⟩,hM⟩ Q hQ).wp
 |false=>exact((hf rfl).go a w ⟨⟨io,w0,g,hr,hC⟩,hM⟩ Q hQ).wp
theorem HY.skip (h:K .normal s σ):HY P k N B w00 .skip K s σ:=HY.mk fun a w hs Q hQ=>wp_skip (hQ .normal s σ a w hs h)
theorem HY.ret (h:K .ret s σ):HY P k N B w00 .ret K s σ:=HY.mk fun a w hs Q hQ=>wp_ret (hQ .ret s σ a w hs h)
theorem St.forget {a:Act} {w:World} (h:St P k N B w00 s σ a w) (hf:s.forget s'):St P k N B w00 s' σ a w:=by obtain⟨⟨io,w0,g,hr,hC⟩,hM⟩:=h;exact⟨⟨io,w0,g,hr.forget hf,hC⟩,hM⟩
theorem HY.forget (hf:s.forget s') (h:HY P k N B w00 c K s' σ):HY P k N B w00 c K s σ:=HY.mk fun a w hs Q hQ=>h.go a w (hs.forget hf) Q hQ
theorem HY.loop {α:Type} (S:α→AS) (I:α→Sg→Prop) (μ:α→Nat) (i:α) (hi:I i σ) (hs:s.forget (S i))
 (h:∀i σ,I i σ→HY P k N B w00 c (fun x s' σ'=>match x with| .normal=>∃j,I j σ'∧μ j<μ i∧s'.forget (S j)| .exit id=>K (.exit id) s' σ'| .ret=>K .ret s' σ') (S i) σ):HY P k N B w00 (.loop c) K s σ:=by
 have key:∀n i σ,μ i=n→I i σ→∀a w,St P k N B w00 (S i) σ a w→∀Q:Exit→Act→World→Prop,(∀x s' σ' a' w',St P k N B w00 s' σ' a' w'→K x s' σ'→Q x.uo a' w')→lu P c Q a w:=by
  intro n
  induction n using Nat.strongRecOn with
  |_ n ih=>
   intro i σ hn hi a w hst Q hQ;refine lu.step (CWp.wp ((h i σ hi).go a w hst _ fun x s' σ' a' w' hst' hk=>?_));cases x with
   |normal=>obtain⟨j,hj,hlt,hf⟩:=hk;exact ih (μ j) (hn▸hlt) j σ' rfl hj a' w' (hst'.forget hf) Q hQ
   |exit id=>exact hQ _ s' σ' a' w' hst' hk
   |ret=>exact hQ _ s' σ' a' w' hst' hk
 exact HY.mk fun a w hst Q hQ=>key _ i σ rfl hi a w (hst.forget hs) Q hQ
theorem HY.eng {Γ:Ctx} (hm:P.follows .mixedOrders=true) (hΓ:au P Γ) (hc:codeOk Γ true N c=true) (hp:pq P Γ N c (fun x s'=>K x s' σ) s.tm s.ob s.nx):HY P k N B w00 c K s σ:=HY.mk fun a w hs Q hQ=>by obtain⟨⟨io,w0,g,hr,hC⟩,hM⟩:=hs;obtain⟨x,s',h1,h2⟩:=adz (fun _=>hm) c _ _ hc hp;exact h1.cwp hΓ.w (fun b hb=>hC.lt b hb) g a w Q hr fun g' a' w' hr'=>hQ x s' σ a' w' ⟨⟨io,w0,g',hr',hC⟩,ars hC hr hr' hM⟩ h2
def Ctx.see (Γ:Ctx) (M:MpO):Ctx:={Γ with mp:=some M}
theorem HY.see {Γ:Ctx} {M:MpO} {L:VL} (hm:P.follows .mixedOrders=true) (hΓ:au P Γ) (hσ:σ=some (M.b,L)) (hans:∀key c p,M.ans key c=some p→∀(w:World) (g:Gh),jm P k w M.b L→∃v,(Instr.lookup M.t (.map (some M.b)) key c).run P w=.ok v w∧Rep g w p v)
 (hc:codeOk (Γ.see M) true N c=true) (hp:pq P (Γ.see M) N c (fun x s'=>K x s' σ) s.tm s.ob s.nx):HY P k N B w00 c K s σ:=HY.mk fun a w hs Q hQ=>by
 obtain⟨⟨io,w0,g,hr,hC⟩,hM⟩:=hs;obtain⟨x,s',h1,h2⟩:=adz (fun _=>hm) c _ _ hc hp;have hb:σ.map Prod.fst=some M.b:=by rw[hσ];rfl
 have hW:fJ P (Γ.see M) io.wr w0:=⟨hΓ.1,hΓ.2.1,fun M' hM'=>by cases hM';refine⟨hC.hb _ hb,fun q=>hC.ne _ (.inl q) hb.symm,fun key c p hp w1 g1 he=>hans key c p hp w1 g1 ((hM _ _ hσ).same ?_)⟩;rw[he,hC.same hr hb]⟩
 exact h1.cwp hW (fun b hb=>hC.lt b hb) g a w Q hr fun g' a' w' hr'=>hQ x s' σ a' w' ⟨⟨io,w0,g',hr',hC⟩,ars hC hr hr' hM⟩ h2
structure HO (P:Program) (k:TypeId) (N B:Nat) (w00:World) (ops:Array Oper) (j:Nat) (l:List Oper) (K:AS→Sg→Prop) (s:AS) (σ:Sg):Prop where
 go:ops.toList.drop j=l→∀a w,St P k N B w00 s σ a w→∀Q:Exit→Act→World→Prop,(∀s' σ' a' w',St P k N B w00 s' σ' a' w'→K s' σ'→Q .normal a' w')→wpOps P ops Q (List.range' j l.length) a w
variable {ops:Array Oper} {J:AS→Sg→Prop} {j:Nat} {o:Oper} {l l1 l2:List Oper}
theorem HY.each {id:Nat} {os:List Oper} (h:HO P k N B w00 os.toArray 0 os (K .normal) s σ):HY P k N B w00 (.region id os.toArray false) K s σ:=HY.mk fun a w hs Q hQ=>by refine wp_region ?_;have:=h.go (by simp) a w hs Q fun s' σ' a' w' hs' hk=>hQ .normal s' σ' a' w' hs' hk;rw[List.range_eq_range'];simpa using this
theorem HO.nil (h:J s σ):HO P k N B w00 ops j [] J s σ:=HO.mk fun _ a w hs Q hQ=>hQ s σ a w hs h
theorem auf {Γ:Ctx} {imm:Md} {io:IoS} {w0:World} {Q:Exit→Act→World→Prop} {s1:AS} (hΓ:fJ P Γ io.wr w0) (hio:∀b,io b→b<w0.heap.size) (hd:∀o∈ops.toList,gV N o=true):∀(l1:List Oper) (j:Nat) {g:Gh} {s:AS} {a:Act} {w:World},ops.toList.drop j=l1++l2→Rel io w0 N g s a w→
 iJ P Γ imm ops l1 s=some s1→(∀g' a' w',Rel io w0 N g' s1 a' w'→wpOps P ops Q (List.range' (j+l1.length) l2.length) a' w')→wpOps P ops Q (List.range' j (l1++l2).length) a w
 |[],j,g,s,a,w,hl,h,he,hQ=>by simp only[iJ,Option.some.injEq]at he;subst he;exact hQ g a w h
 |o::l,j,g,s,a,w,hl,h,he,hQ=>by
  have hk:ops.toList[j]?=some o:=by have:=congrArg (·[0]?) hl;simpa using this
  have hk':ops[j]?=some o:=by simpa using hk
  have hl':ops.toList.drop (j+1)=l++l2:=by rw[←List.drop_drop,hl];rfl
  simp only[iJ]at he;split at he
  ·rename_i s2 h2
   simp only[List.cons_append,List.length_cons,List.range'_succ];rw[wpOps_cons];exact adk h hΓ hio (hd o (List.mem_of_getElem? hk)) h2 hk' fun g' a' w' hr=>auf hΓ hio hd l (j+1) hl' hr he fun g2 a2 w2 hr2=>by
    have:=hQ g2 a2 w2 hr2
    rwa[List.length_cons,show j+(l.length+1)=j+1+l.length by omega]at this
  ·cases he
theorem HO.pre {Γ:Ctx} {imm:Md} {os:List Oper} (n:Nat) (hΓ:au P Γ) (hd:os.toArray.all (gV N)=true) (h1:l.take n=l1) (h2:l.drop n=l2) {gs:List (Option Nat)} (hg:os.map (·.dst)=gs) (hp:wq P Γ imm gs l1 (fun s1=>HO P k N B w00 os.toArray (j+l1.length) l2 J s1 σ) s.tm s.ob s.nx):HO P k N B w00 os.toArray j l J s σ:=HO.mk fun hl a w hs Q hQ=>by
 obtain⟨⟨io,w0,g,hr,hC⟩,hM⟩:=hs;have hl12:l=l1++l2:=by rw[←h1,←h2,List.take_append_drop]
 subst hg;rw[show os.map (·.dst)=os.toArray.toList.map (·.dst) by simp,←mg]at hp;obtain⟨s1,e1,e2⟩:=oO _ _ hp;rw[hl12]at hl⊢;refine auf hΓ.w (fun b hb=>hC.lt b hb) (fun o ho=>(Array.all_eq_true_iff_forall_mem.1 hd) o (by simpa using ho)) l1 j hl hr e1 fun g' a' w' hr'=>?_;refine e2.go ?_ a' w' ⟨⟨io,w0,g',hr',hC⟩,ars hC hr hr' hM⟩ Q hQ;rw[←List.drop_drop,hl];simp
theorem HO.one (hg:o.guard=none) (h:∀a w,St P k N B w00 s σ a w→∀(Kn:Act→World→Prop) (Q:Exit→Act→World→Prop),(∀s' σ' a' w',St P k N B w00 s' σ' a' w'→HO P k N B w00 ops (j+1) l J s' σ'→Kn a' w')→o.wp P a w Kn Q):HO P k N B w00 ops j (o::l) J s σ:=HO.mk fun hl a w hs Q hQ=>by
 have hk:ops.toList[j]?=some o:=by have:=congrArg (·[0]?) hl;simpa using this
 have hk':ops[j]?=some o:=by simpa using hk
 have hl':ops.toList.drop (j+1)=l:=by rw[←List.drop_drop,hl];rfl
 simp only[List.length_cons,List.range'_succ];rw[wpOps_cons];unfold wpOp;simp only[hk'];have hw:Region.wanted o (yielded ops a.tmps)=true:=by simp[Region.wanted,hg]
 rw[hw];simp only[if_true];left;exact h a w hs _ _ fun s' σ' a' w' hs' hh=>hh.go hl' a' w' hs' Q hQ
theorem St.put {a:Act} {w:World} (h:St P k N B w00 s σ a w) {d:Option Nat} (hd:∀x,d=some x→x<N) {p:PV} {v:Value} (hv:∀(g:Gh) (w:World),Rep g w p v):St P k N B w00 (s.put d p) σ (a.put d v) w:=by obtain⟨⟨io,w0,g,hr,hC⟩,hM⟩:=h;exact⟨⟨io,w0,g,hr.put hd (hv g w),hC⟩,hM⟩
theorem St.jE {a:Act} {w w':World} {b:Nat} {L L':VL} (h:St P k N B w00 s (some (b,L)) a w) (hf:w.grownBy w' (some b)) (hM:jm P k w' b L'):St P k N B w00 s (some (b,L')) a w':=by obtain⟨⟨io,w0,g,hr,hC⟩,_⟩:=h;obtain⟨io',h1,h2⟩:=hr.jE hC hf (fun i _ e=>e) (fun i e=>e) (fun b' e=>by cases e;exact hM.lt);exact⟨⟨io',w',g,h1,h2⟩,fun b' L2 e=>by cases e;exact hM⟩
theorem HO.make {t d:Nat} (ho:o.op=.makeMap t none) (hdst:o.dst=some d) (hd:d<N) (hg:o.guard=none) (h:∀b,B≤b→HO P k N B w00 ops (j+1) l J (s.put (some d) (.val (.map (some b)))) (some (b,[]))):HO P k N B w00 ops j (o::l) J s none:=by
 refine HO.one hg fun a w hs Kn Q hK=>?_;obtain⟨⟨io,w0,g,hr,hC⟩,hM⟩:=hs;have hrun:(execOp a.eval o).run P w=.ok (.value (.map (some w.heap.size))) (w.alloc (.map #[] 0)):=by simp[execOp,ho,run_makeMap]
 unfold Oper.wp;rw[hrun,Oper.upon_value,hdst];obtain⟨io',h1,h2⟩:=hr.jE (ob':=some w.heap.size) hC (World.grownBy_alloc w _ _) (fun i hi e=>by cases e;omega) (fun i e=>(by cases e)) (fun b' e=>by cases e;simp);refine hK (s.put (some d) (.val (.map (some w.heap.size)))) (some (w.heap.size,[])) _ _ ?_ (h _ (Nat.le_trans hC.sz hr.fr.size));exact St.put ⟨⟨io',_,g,h1,h2⟩,fun b' L' e=>by cases e;exact jm.made w⟩ (fun x e=>by cases e;exact hd) fun g w=>by simp[Rep]
theorem HO.call {b f:Nat} {L:VL} {c:Call} {ps:List PV} {R:PV→VL→Prop} (ho:o.op=.call c) (hc:c.callee=.value (.func f)) (hf:Fnd P f) (hg:o.guard=none) (hd:∀x,o.dst=some x→x<N) (hps:(c.args.toList.map (look s.tm)).mapM (reify false 0 s.ob fuel)=some ps)
 (hcall:∀(w:World) (Jm:Nat→Prop) (args:Array Value),(∀i,Jm i→i<w.heap.size∧i≠b)→bL (lG Jm) w ps args.toList→jm P k w b L→kr w (fun i=>i=b)→Calls P f args w fun e w'=>∃p v L',e=.returned v∧(∀(g:Gh) (w:World),Rep g w p v)∧w.grownBy w' (some b)∧jm P k w' b L'∧R p L')
 (h:∀p L',R p L'→HO P k N B w00 ops (j+1) l J (s.put o.dst p) (some (b,L'))):HO P k N B w00 ops j (o::l) J s (some (b,L)):=by
 refine HO.one hg fun a w hs Kn Q hK=>?_;have hs0:=hs;obtain⟨⟨io,w0,g,hr,hC⟩,hM⟩:=hs;obtain⟨fn,hfn,hname,hbody⟩:=hf;have hrun:(execOp a.eval o).run P w=.ok (.enter f (c.args.map a.eval)) w:=by unfold execOp;simp only[ho,resolve,hc,Act.eval,Deferred.ofValue,Sem.run_bind,Sem.run_pure,Result.andThen_ok,invoke,callFunc,run_program,hfn];simp[hname,hbody]
 unfold Oper.wp;rw[hrun,Oper.upon_enter];have hseen:Seen false 0 g s (lG fun b=>(∃k,g.I k b)∨∃o,(s.ob o).isSome∧b=g.β o):=⟨fun _=>⟨fun k b hb=>⟨rfl,.inl ⟨k,hb⟩⟩,fun o ho=>⟨rfl,.inr ⟨o,ho,rfl⟩⟩⟩,fun hh=>by cases hh⟩;have hargs:bL (lG fun b=>(∃k,g.I k b)∨∃o,(s.ob o).isSome∧b=g.β o) w ps (c.args.map a.eval).toList:=by rw[Array.toList_map];exact bL.conv (Rep.seen (fun o c hoc=>(hr.ob o c hoc).2.2.2) hseen fuel) (hr.looks _) hps
 have hT:kr w (fun i=>i=b):=hr.tab.keep hr.fr fun t ht e=>(hC.tk t ht).2 (by rw[e];rfl);refine(hcall w _ _ ?_ hargs (hM _ _ rfl) hT).mono ?_
 ·rintro i (⟨k',hi⟩|⟨o',ho',rfl⟩)
  ·obtain⟨q1,q2⟩:=hC.l9 hr hi
   exact⟨q1,fun e=>q2 (by rw[e];rfl)⟩
  ·obtain⟨c',hc'⟩:=Option.isSome_iff_exists.1 ho'
   obtain⟨q1,q2,_⟩:=hC.eF hr hc';exact⟨q1,fun e=>q2 (by rw[e];rfl)⟩
 ·rintro e w' ⟨p,v,L',rfl,hv,hgr,hM',hR⟩
  exact hK _ _ _ _ ((hs0.jE hgr hM').put hd hv) (h p L' hR)
end
theorem yJ {g:Gh} {w:World}:∀{cs:List PV} {vs:List Value},iB cs=some vs→bL g w cs vs
 |[],vs,h=>by simp only[iB,Option.some.injEq]at h;subst h;simp[bL]
 | .val v::cs,vs,h=>by simp only[iB,Option.map_eq_some_iff]at h;obtain⟨us,h1,rfl⟩:=h;simp only[bL];exact⟨v,us,rfl,by simp[Rep],yJ h1⟩
 | .dead::_,_,h| .lst .. ::_,_,h| .ptr .. ::_,_,h| .own .. ::_,_,h| .row .. ::_,_,h| .agg _::_,_,h| .tup _::_,_,h=>by simp[iB]at h
theorem xZ {g:Gh} {w:World} {p:PV} {v:Value} (h:toVal p=some v):Rep g w p v:=by
 cases p with
 |val u=>simp only[toVal,Option.some.injEq]at h;subst h;simp[Rep]
 |agg cs=>simp only[toVal,Option.map_eq_some_iff]at h;obtain⟨vs,h1,rfl⟩:=h;simp only[Rep];exact⟨_,rfl,by simpa using yJ h1⟩
 |_=>simp[toVal]at h
theorem agI {g:Gh} {w:World} {p1 p2:PV} {v1 v2:Value} (h1:Rep g w p1 v1) (h2:Rep g w p2 v2):Rep g w (.tup [p1,p2]) (.tuple #[v1,v2]):=by simp only[Rep,bL];exact⟨_,rfl,_,_,rfl,h1,_,_,rfl,h2,rfl⟩
def oU (c0:Bool) (k0:Value) (p:PV):Value→Bool→Option PV:=open Classical in fun key c=>if key=k0∧c=c0 then some p else none
theorem pQ {c0 c:Bool} {k0 key:Value} {p q:PV} (h:oU c0 k0 p key c=some q):key=k0∧c=c0∧q=p:=by
 unfold oU at h;split at h
 ·rename_i hc;cases h;exact⟨hc.1,hc.2,rfl⟩
 ·cases h
theorem ahz {Γ:Ctx} {t b:Nat} {c:Bool} {k0:Value} {p:PV}:lkP (Γ.see ⟨t,b,oU c k0 p⟩).mp t (.val (.map (some b))) (some k0) c=some p:=by simp[Ctx.see,lkP,oU]
section
variable {P:Program} {k:TypeId} {N B:Nat} {w00:World} {Γ:Ctx} {imm:Md} {ops:Array Oper} {io:IoS} {w0:World}
theorem afl {l2:List Oper}:∀(l:List Oper) (j:Nat) (s:AS),ops.toList.drop j=l++l2→evL P Γ imm ops (List.range' j l.length) s=iJ P Γ imm ops l s
 |[],j,s,hl=>rfl
 |o::l,j,s,hl=>by
  have hk:ops[j]?=some o:=by have:=congrArg (·[0]?) hl;simpa using this
  have hl':ops.toList.drop (j+1)=l++l2:=by rw[←List.drop_drop,hl];rfl
  simp only[List.length_cons,List.range'_succ,evL,hk,iJ];cases pY P Γ imm ops o s with
  |none=>rfl
  |some s'=>exact afl l (j+1) s' hl'
theorem aic {Q:Exit→Act→World→Prop} {a:Act} {w:World} {listed:Array Bool} (h:∀i,i<ops.size→listed.getD i true=true) (hQ:Q .normal a w):∀fuel,wpAny P .any ops Q fuel listed a w:=by
 have hnil:Region.ready .any ops listed=[]:=by
  cases hr:Region.ready .any ops listed with
  |nil=>rfl
  |cons i l=>
   have hm:i∈Region.ready .any ops listed:=by rw[hr];simp
   rw[mem_ready]at hm;obtain⟨h1,o,h2,_⟩:=hm;rw[h i (Array.getElem?_eq_some_iff.1 h2).1]at h1;cases h1
 intro fuel;cases fuel with
 |zero=>exact⟨hnil,hQ⟩
 |succ fuel=>exact⟨fun _=>hQ,fun i hi=>by rw[hnil]at hi;cases hi⟩
theorem ao5 (hΓ:fJ P Γ io.wr w0) (hio:∀b,io b→b<w0.heap.size) (hd:ops.all (gV N)=true) {n:Nat} (hn:ops.size=n+1) (hok:qY Γ imm ops=true) (hlast:∀i,i<n→tT ops ops.size i n=true) {Q:Exit→Act→World→Prop} {s':AS}
 (hQ:∀g' a' w',Rel io w0 N g' s' a' w'→wpOp P ops Q n (Q .normal) a' w'):
 ∀(fuel:Nat) (listed:Array Bool) (rem:List Nat) (g:Gh) (s:AS) (a:Act) (w:World),rem.length+1≤fuel→listed.size=ops.size→(∀i,i∈rem↔i<n∧listed.getD i true=false)→listed.getD n true=false→rem.Pairwise (· < ·)→
  (∀j o,ops[j]?=some o→listed.getD j true=true→∀e∈o.after,Region.binds .any e=true→listed.getD e.on false=true)→
  Rel io w0 N g s a w→evL P Γ imm ops rem s=some s'→wpAny P .any ops Q fuel listed a w:=by
 have hfacts:=nN hok;have hon:ops[n]?=some ops[n]:=Array.getElem?_eq_getElem (by omega);intro fuel
 induction fuel with
 |zero=>intro listed rem g s a w hlen;omega
 |succ fuel ih=>
  intro listed rem g s a w hlen hsz hrem hln hpw hcl h he;have hl':∀x,x<n→¬x∈rem→listed.getD x false=true:=fun x hx hm=>by
   rw[hrem]at hm;have hlt':x<listed.size:=by omega
   have:listed.getD x true≠false:=fun h0=>hm ⟨hx,h0⟩;simp[hlt']at this⊢;exact this
  have hne:Region.ready .any ops listed≠[]:=by
   intro hnil;cases rem with
   |nil=>
    have:n∈Region.ready .any ops listed:=by rw[mem_ready];refine⟨hln,ops[n],hon,fun e he hb=>?_⟩;exact hl' _ ((hfacts n (by omega)).2 _ hon e he hb) (by simp)
    rw[hnil]at this;cases this
   |cons i0 q=>
    obtain⟨hi1,hi2⟩:=(hrem i0).1 (by simp);have:i0∈Region.ready .any ops listed:=by
     rw[mem_ready];refine⟨hi2,ops[i0],Array.getElem?_eq_getElem (by omega),fun e he hb=>?_⟩;have hlt:=(hfacts i0 (by omega)).2 _ (Array.getElem?_eq_getElem (by omega)) e he hb;refine hl' _ (by omega) fun hm=>?_;rcases List.mem_cons.1 hm with hm|hm
     ·omega
     ·have:=(List.pairwise_cons.1 hpw).1 _ hm
      omega
    rw[hnil]at this;cases this
  refine⟨fun hr=>absurd hr hne,fun i hi=>?_⟩;rw[mem_ready]at hi;obtain⟨h1,o,h2,h3⟩:=hi;have hilt:=(Array.getElem?_eq_some_iff.1 h2).1;by_cases hin:i=n
  ·subst hin
   have hnil:rem=[]:=by
    cases rem with
    |nil=>rfl
    |cons i0 q=>
     exfalso;obtain⟨hi1,hi2⟩:=(hrem i0).1 (by simp);have hxl:=fG hcl _ _ _ (hlast i0 hi1) (fun o' ho' e he hb=>by rw[h2]at ho';cases ho';exact h3 e he hb);have hlt:i0<listed.size:=by omega
     simp[hlt]at hi2 hxl;rw[hi2]at hxl;cases hxl
   subst hnil;simp only[evL,Option.some.injEq]at he;subst he;refine wpOp_mono (fun a' w' hq=>?_) (hQ g a w h);refine aic (fun x hx=>?_) hq fuel;by_cases hxi:x=i
   ·subst hxi
    have hlt:x<listed.size:=by omega
    simp[hlt]
   ·rw[getD_set_ne true (fun e=>hxi e.symm)]
    have:=hl' x (by omega) (by simp);have hlt:x<listed.size:=by omega
    simp[hlt]at this⊢;exact this
  ·have hmem:=(hrem i).2 ⟨by omega,h1⟩
   obtain⟨p,q,rfl⟩:=List.append_of_mem hmem;have hp:∀x∈p,eU Γ imm ops x i=true:=fun x hx=>by
    have hxi:x<i:=by rw[List.pairwise_append]at hpw;exact hpw.2.2 x hx i (by simp)
    rcases((hfacts i hilt).1 x hxi).symm with ho|ho
    ·exfalso
     have hxl:=fG hcl _ _ _ ho (fun o' ho' e he hb=>by rw[h2]at ho';cases ho';exact h3 e he hb);have:=((hrem x).1 (by simp[hx])).2;have hlt:x<listed.size:=by have:=((hrem x).1 (by simp[hx])).1;omega
     simp[hlt]at this hxl;rw[this]at hxl;cases hxl
    ·exact ho
   have hfr:=iV hp he;rw[dh,h2]at hfr;dsimp only at hfr;split at hfr
   ·rename_i s1 hs1
    have hdo:gV N o=true:=(Array.all_eq_true_iff_forall_mem.1 hd) o (Array.mem_of_getElem? h2);refine adk h hΓ hio hdo hs1 h2 fun g' a' w' hr=>ih _ (p++q) g' s1 a' w' (by simp at hlen⊢;omega) (by simpa using hsz) (fun j=>?_) ?_ ?_ ?_ hr hfr
    ·by_cases hji:j=i
     ·subst hji
      have hnp:j∉p++q:=by
       rw[List.pairwise_append]at hpw;intro hm;rcases List.mem_append.1 hm with hm|hm
       ·have:=hpw.2.2 j hm j (by simp)
        omega
       ·have:=(List.pairwise_cons.1 hpw.2.1).1 j hm
        omega
      constructor
      ·intro hm;exact absurd hm hnp
      ·rintro⟨_,hf⟩
       have hlt:j<listed.size:=by omega
       simp[hlt]at hf
     ·rw[getD_set_ne true (fun e=>hji e.symm),←hrem j]
      simp[hji]
    ·rw[getD_set_ne true hin]
     exact hln
    ·rw[List.pairwise_append]at hpw⊢
     exact⟨hpw.1,(List.pairwise_cons.1 hpw.2.1).2,fun x hx y hy=>hpw.2.2 x hx y (by simp[hy])⟩
    ·intro j o' ho' hl e he hb
     by_cases hji:j=i
     ·subst hji
      rw[h2]at ho';cases ho';exact getD_set_true (h3 e he hb)
     ·rw[getD_set_ne true (fun e=>hji e.symm)]at hl
      exact getD_set_true (hcl j o' ho' hl e he hb)
   ·cases hfr
variable {c:Code} {K:X→AS→Sg→Prop} {J:AS→Sg→Prop} {s:AS} {σ:Sg} {b:Nat} {L:VL}
inductive Upd (L:VL) (key val:Value):VL→Prop
 |new (h:∀p∈L,p.1≠key):Upd L key val (L++[(key,val)])
 |old {L1 L2:VL} {v0:Value} (h:L=L1++(key,v0)::L2):Upd L key val (L1++(key,val)::L2)
theorem jm.upd {t e:TypeId} {w:World} {key val:Value} {kl:Lit} (h:jm P k w b L) (Ky:Go.Maps.Keyed P k) (ht:P.underlying t=some (.map k e)) (hkey:keyOf P k key=some kl):
 ∃w' L',(Instr.mapUpdate t (.map (some b)) key val).run P w=.ok () w'∧jm P k w' b L'∧w.grownBy w' (some b)∧Upd L key val L':=by
 by_cases hm:∃v0,(key,v0)∈L
 ·obtain⟨v0,hm⟩:=hm
  obtain⟨L1,L2,rfl⟩:=List.append_of_mem hm;obtain⟨w',q1,q2,q3,_⟩:=h.anx (v:=val) Ky ht hkey;exact⟨w',_,q1,q2,q3,.old rfl⟩
 ·have hm':∀p∈L,p.1≠key:=fun p hp e1=>hm ⟨p.2,by rw[←e1];exact hp⟩
  obtain⟨w',q1,q2,q3,_⟩:=h.alk (v:=val) Ky ht hkey hm';exact⟨w',_,q1,q2,q3,.new hm'⟩
theorem atU {o:Oper} {t e:TypeId} {x y z:Operand} {key val:Value} {kl:Lit} (Ky:Go.Maps.Keyed P k) (ht:P.underlying t=some (.map k e)) (ho:o.op=.mapUpdate t x y z) (hdst:o.dst=none) (hx:look s.tm x=.val (.map (some b))) (hy:toVal (look s.tm y)=some key) (hz:toVal (look s.tm z)=some val) (hkey:keyOf P k key=some kl)
 {a:Act} {w:World} (hs:St P k N B w00 s (some (b,L)) a w) {Kn:Act→World→Prop} {Q:Exit→Act→World→Prop} (hK:∀L' w',St P k N B w00 s (some (b,L')) a w'→Upd L key val L'→Kn a w'):o.wp P a w Kn Q:=by
 have hs0:=hs;obtain⟨⟨io,w0,g,hr,hC⟩,hM⟩:=hs;have ex:=hr.look x;rw[hx]at ex;simp only[Rep]at ex;have ey:=eu (hr.look y) hy;have ez:=eu (hr.look z) hz;obtain⟨w',L',q1,q2,q3,q4⟩:=(hM _ _ rfl).upd (val:=val) Ky ht hkey;have hrun:(execOp a.eval o).run P w=.ok .skip w':=by unfold execOp;simp only[ho,ex,ey,ez,Sem.run_bind,q1,Result.andThen_ok,Sem.run_pure]
 unfold Oper.wp;rw[hrun,Oper.upon_skip,hdst];exact hK L' w' (hs0.jE q3 q2) q4
theorem HO.upd {o:Oper} {j:Nat} {l:List Oper} {t e:TypeId} {x y z:Operand} {key val:Value} {kl:Lit} (Ky:Go.Maps.Keyed P k) (ht:P.underlying t=some (.map k e)) (ho:o.op=.mapUpdate t x y z) (hdst:o.dst=none) (hg:o.guard=none) (hx:look s.tm x=.val (.map (some b))) (hy:toVal (look s.tm y)=some key) (hz:toVal (look s.tm z)=some val) (hkey:keyOf P k key=some kl)
 (h:∀L',Upd L key val L'→HO P k N B w00 ops (j+1) l J s (some (b,L'))):HO P k N B w00 ops j (o::l) J s (some (b,L)):=
 HO.one hg fun a w hs Kn Q hK=>atU Ky ht ho hdst hx hy hz hkey hs fun L' w' hs' hu=>hK s _ a w' hs' (h L' hu)
theorem HY.aGZ {id n:Nat} {o:Oper} {pre:List Oper} {t e:TypeId} {x y z:Operand} (hm:P.follows .mixedOrders=true) (hΓ:au P Γ) (Ky:Go.Maps.Keyed P k) (ht:P.underlying t=some (.map k e)) (hd:ops.all (gV N)=true) (hok:qY Γ imm ops=true) (hlast:(List.range n).all (fun i=>tT ops ops.size i n)=true)
 (hops:ops.toList=pre++[o]) (hn:pre.length=n) (ho:o.op=.mapUpdate t x y z) (hdst:o.dst=none) (hg:o.guard=none) {gs:List (Option Nat)} (hgs:ops.toList.map (·.dst)=gs)
 (hp:wq P Γ imm gs pre (fun s1=>∃key val kl,look s1.tm x=.val (.map (some b))∧toVal (look s1.tm y)=some key∧toVal (look s1.tm z)=some val∧keyOf P k key=some kl∧∀L',Upd L key val L'→K .normal s1 (some (b,L'))) s.tm s.ob s.nx):HY P k N B w00 (.region id ops true) K s (some (b,L)):=HY.mk fun a w hs Q hQ=>by
 obtain⟨⟨io,w0,g,hr,hC⟩,hM⟩:=hs;subst hgs;rw[←mg]at hp;obtain⟨s1,e1,key,val,kl,h1,h2,h3,h4,h5⟩:=oO _ _ hp;have hsz:ops.size=n+1:=by rw[←Array.length_toList,hops,List.length_append,hn];rfl
 have hon:ops[n]?=some o:=by
  have:ops.toList[n]?=some o:=by rw[hops,←hn];simp
  simpa using this
 refine wp_region_any hm ?_;have hdrew:Rel io w0 N g s a {w with drawn:=w.drawn+1}:=⟨hr.nt,hr.df,fun t=>Rep.mono (w:=w) (w':={w with drawn:=w.drawn+1}) (g:=g) (g':=g) (Gh.le_refl g) (fun _ _ _=>rfl) _ _ (hr.tm t),fun o c ho=>by obtain⟨k1,k2,k3,k4⟩:=hr.ob o c ho;exact⟨k1,k2,k3,pX.mono (w:=w) (w':={w with drawn:=w.drawn+1}) (g:=g) (g':=g) k4 (Gh.le_refl g) k1 (fun _ _ _=>rfl) rfl⟩,hr.inj,hr.nx,hr.lt,hr.new,⟨hr.fr.os,hr.fr.tape,hr.fr.output,hr.fr.size,hr.fr.block⟩,hr.old,hr.fix,hr.hl,hr.tab⟩
 refine ao5 hΓ.w (fun b hb=>hC.lt b hb) hd hsz hok (fun i hi=>(List.all_eq_true.1 hlast) i (by simpa using hi)) (s':=s1) (fun g' a' w' hr'=>?_) ops.size _ (List.range n) g s a _ (by simp;omega) (by simp) (fun i=>?_) (by simp[hsz]) List.pairwise_lt_range (fun j o ho hl=>?_) hdrew ?_
 ·unfold wpOp
  simp only[hon];have hw:Region.wanted o (yielded ops a'.tmps)=true:=by simp[Region.wanted,hg]
  rw[hw];simp only[if_true];left;exact atU Ky ht ho hdst h1 h2 h3 h4 ⟨⟨io,w0,g',hr',hC⟩,ars hC hr hr' hM⟩ fun L' w2 hs' hu=>hQ .normal s1 _ a' w2 hs' (h5 L' hu)
 ·simp only[List.mem_range]
  constructor
  ·intro hi;exact⟨hi,by have:i<ops.size:=(by omega);simp[this]⟩
  ·exact fun hi=>hi.1
 ·have hlt:=(Array.getElem?_eq_some_iff.1 ho).1
  simp[hlt]at hl
 ·have:=afl (P:=P) (Γ:=Γ) (imm:=imm) (ops:=ops) (l2:=[o]) pre 0 s (by rw[List.drop_zero];exact hops)
  rw[List.range_eq_range',←hn,this];exact e1
theorem HY.cut {Lf:List (Nat×PV)} {O:List (Nat×Nat×Nat×List PV)} {x:Nat} (h1:agree s.tm Lf) (h2:jc s.ob O) (h3:s.nx=x) (h:HY P k N B w00 c K ⟨lk Lf,lo O,x⟩ σ):HY P k N B w00 c K s σ:=
 HY.forget (s':=mkS Lf O x) (iR (gX h1) (fI h2) h3) h
theorem HY.uR {α:Type} (Lf:α→List (Nat×PV)) (O:α→List (Nat×Nat×Nat×List PV)) (XX:α→Nat) (I:α→Sg→Prop) (μ:α→Nat) (i:α) (hi:I i σ) (h1:agree s.tm (Lf i)) (h2:jc s.ob (O i)) (h3:s.nx=XX i)
 (h:∀i σ,I i σ→HY P k N B w00 c (fun x s' σ'=>match x with| .normal=>∃j,I j σ'∧μ j<μ i∧agree s'.tm (Lf j)∧jc s'.ob (O j)∧s'.nx=XX j| .exit id=>K (.exit id) s' σ'| .ret=>K .ret s' σ') ⟨lk (Lf i),lo (O i),XX i⟩ σ):HY P k N B w00 (.loop c) K s σ:=by
 refine HY.loop (fun i=>mkS (Lf i) (O i) (XX i)) I μ i hi (iR (gX h1) (fI h2) h3) fun i σ hi=>⟨fun a w hs Q hQ=>(h i σ hi).go a w hs Q fun x s' σ' a' w' hs' hk=>hQ x s' σ' a' w' hs' ?_⟩;cases x with
 |normal=>obtain⟨j,k1,k2,k3,k4,k5⟩:=hk;exact⟨j,k1,k2,iR (gX k3) (fI k4) k5⟩
 |exit id=>exact hk
 |ret=>exact hk
theorem HY.start {ps:List PV} (h:HY P k N B w00 c K ⟨(bX ps).tm,fun _=>none,0⟩ σ):HY P k N B w00 c K (bX ps) σ:=h
theorem aft {fn:Func} {ps:List PV} {args:Array Value} {w:World} {Jm:Nat→Prop} (hJ:∀b,Jm b→b<w.heap.size) (hT:kr w (fun _=>False)) (hargs:bL (lG Jm) w ps args.toList) (hle:ps.length≤fn.ntmps):
 Rel ⟨fun _=>False,Jm,0,fun _=>0,fun _=>0,fun _=>False,fun _=>False⟩ w fn.ntmps (lG Jm) (bX ps) {tmps:=args++Array.replicate (fn.ntmps-args.size) undef,defers:=[]} w:=by
 have hsz:args.size=ps.length:=by simpa using hargs.get.1
 refine⟨by simp;omega,rfl,fun t=>?_,fun o c ho=>(by cases ho),fun o o' ho=>(by cases ho),rfl,fun k b hi=>hJ b hi.2,fun b hi=>(by cases hi.1),Fr.refl _ _,fun b hi=>hi.2,⟨fun o ho=>(Nat.not_lt_zero o ho).elim,fun o ho=>(Nat.not_lt_zero o ho).elim⟩,fun o ho=>False.elim ho,hT⟩;simp only[bX];cases hp:ps[t]? with
 |none=>
  have hge:ps.length≤t:=by simpa using hp
  have:(args++Array.replicate (fn.ntmps-args.size) undef).getD t undef=undef:=by simp only[Array.getD_eq_getD_getElem?];rw[Array.getElem?_append_right (by omega)];simp only[Array.getElem?_replicate];split<;>rfl
  rw[this];simp[Rep]
 |some p=>
  obtain⟨v,hv,hrep⟩:=hargs.get.2 t p hp;have hlt:t<args.size:=by have:=(List.getElem?_eq_some_iff.1 hp).1;omega
  have:(args++Array.replicate (fn.ntmps-args.size) undef).getD t undef=v:=by
   simp only[Array.getD_eq_getD_getElem?];rw[Array.getElem?_append_left hlt];have:args[t]?=some v:=by simpa using hv
   simp[this]
  rw[this];exact hrep
theorem anD {w:World} {io:Nat→Prop} (hT:kr w io):∀t∈tks,t<w.heap.size:=fun t ht=>hT.lt t ht
theorem HY.calls {f:Nat} {fn:Func} {rs:List ResultVar} {ps:List PV} {args:Array Value} {w:World} {Jm:Nat→Prop} {R:PV→VL→Prop} (hf:P.funcs[f]?=some fn) (hb:fn.body=some c) (hN:fn.ntmps=N) (hrs:fn.results.toList=rs) (hlen:ps.length≤N)
 (hJ:∀i,Jm i→i<w.heap.size∧i≠b) (hargs:bL (lG Jm) w ps args.toList) (hM:jm P k w b L) (hT:kr w (fun i=>i=b))
 (h:HY P k N w.heap.size w c (fun x s' σ'=>(x=.normal∨x=.ret)∧∃p v L',((fU P s' rs).map gM)=some p∧toVal p=some v∧σ'=some (b,L')∧R p L') (bX ps) (some (b,L))):
 Calls P f args w fun e w'=>∃p v L',e=.returned v∧(∀(g:Gh) (w:World),Rep g w p v)∧w.grownBy w' (some b)∧jm P k w' b L'∧R p L':=by
 subst hN hrs;have hb1:∀i,i≠b→some i≠some b:=fun i h e=>h (by cases e;rfl);refine calls_of_wp hf hb (CWp.wp (h.go _ _ ⟨⟨_,w,_,aft (fun i hi=>(hJ i hi).1) (hT.io fun _ _ q=>q) hargs hlen,⟨fun i hi=>?_,fun i hi=>?_,fun i hi=>False.elim hi,fun b' e=>?_,Nat.le_refl _,Fr.refl _ _,fun t ht=>⟨anD hT t ht,hb1 _ (hT.apart t ht)⟩⟩⟩,fun b' L2 e=>?_⟩ _ fun x s' σ' a' w' hs' hk=>?_))
 ·rcases hi with hi|hi|hi
  ·exact False.elim hi
  ·exact hb1 _ (hJ i hi).2
  ·exact False.elim hi
 ·rcases hi with hi|hi<;>exact False.elim hi
 ·cases e;exact hM.lt
 ·cases e;exact hM
 ·obtain⟨hx,p,v,L',h1,h2,rfl,h3⟩:=hk
  obtain⟨⟨io,w0,g,hr,hC⟩,hM'⟩:=hs';rw[Option.map_eq_some_iff]at h1;obtain⟨qs,h1,rfl⟩:=h1;obtain⟨u,e1,e2⟩:=gJ hr h1;have huv:=eu e2 h2;have hpv:∀(g:Gh) (w:World),Rep g w (gM qs) v:=fun g w=>xZ h2;have hgr:w.grownBy w' (some b):=by
   have hf1:Fr (fun i=>some i=some b∨w.heap.size≤i) w0 w':=⟨hr.fr.os,hr.fr.tape,hr.fr.output,hr.fr.size,fun i hi hn=>hr.fr.block i hi fun q=>hn (.inr (hC.lo i (.inl q)))⟩;refine⟨hf1.os.trans hC.fr.os,hf1.tape.trans hC.fr.tape,hf1.output.trans hC.fr.output,Nat.le_trans hC.fr.size hf1.size,fun i hi hn=>?_⟩;have hn':¬(some i=some b∨w.heap.size≤i):=fun q=>q.elim hn fun q=>by omega
   exact(hf1.block i (Nat.lt_of_lt_of_le hi hC.fr.size) hn').trans (hC.fr.block i hi hn')
  have hend:a'.defers=[]∧∃v,(results fn a'.tmps).run P w'=.ok v w'∧∃p u L',Ending.returned v=.returned u∧(∀(g:Gh) (w:World),Rep g w p u)∧w.grownBy w' (some b)∧jm P k w' b L'∧R p L':=
   ⟨hr.df,u,e1,gM qs,u,L',rfl,huv▸hpv,hgr,hM' _ _ rfl,h3⟩
  rcases hx with rfl|rfl<;>exact hend
theorem HY.sound {f:Nat} {fn:Func} {rs:List ResultVar} {φ:Fun} (hf:P.funcs[f]?=some fn) (hb:fn.body=some c) (hN:fn.ntmps=N) (hrs:fn.results.toList=rs)
 (h:∀ps r,φ ps=some r→ps.length≤N∧∀B w00,HY P k N B w00 c (fun x s' σ'=>(x=.normal∨x=.ret)∧(∃r',(∀(g:Gh) (w:World) (v:Value),Rep g w r' v→Rep g w r v)∧((fU P s' rs).bind fun qs=>reify true 0 s'.ob fuel (gM qs))=some r')∧∀b L,σ'=some (b,L)→B≤b) (bX ps) none):Sound P f φ:=by
 intro w Jm ps args r hr hJ hT hargs;subst hN hrs;obtain⟨hlen,h⟩:=h ps r hr;refine calls_of_wp hf hb (CWp.wp ((h w.heap.size w).go _ _ ⟨⟨_,w,_,aft hJ hT hargs hlen,⟨fun i hi e=>(by cases e),fun i hi=>?_,fun i hi=>False.elim hi,fun b' e=>(by cases e),Nat.le_refl _,Fr.refl _ _,fun t ht=>⟨anD hT t ht,fun e=>(by cases e)⟩⟩⟩,fun b' L2 e=>(by cases e)⟩ _ fun x s' σ' a' w' hs' hk=>?_))
 ·rcases hi with hi|hi<;>exact False.elim hi
 ·obtain⟨hx,⟨r',hle,hres⟩,hbb⟩:=hk
  obtain⟨⟨io,w0,g,hrel,hC⟩,hM'⟩:=hs';rw[Option.bind_eq_some_iff]at hres;obtain⟨qs,hres,hreify⟩:=hres;have hbel:Below w.heap.size w w':=by
   have hf1:Fr (fun i=>w.heap.size≤i) w0 w':=⟨hrel.fr.os,hrel.fr.tape,hrel.fr.output,hrel.fr.size,fun i hi hn=>hrel.fr.block i hi fun q=>hn (hC.lo i (.inl q))⟩;refine⟨hf1.os.trans hC.fr.os,hf1.tape.trans hC.fr.tape,hf1.output.trans hC.fr.output,Nat.le_trans hC.fr.size hf1.size,fun i hi=>?_⟩;refine(hf1.block i (Nat.lt_of_lt_of_le hi hC.fr.size) (by omega)).trans (hC.fr.block i hi fun q=>q.elim (fun q=>?_) fun q=>by omega);cases σ' with
   |none=>cases q
   |some bl=>obtain⟨b',L'⟩:=bl;have:=hbb b' L' rfl;cases q;omega
  have hend:a'.defers=[]∧∃v,(results fn a'.tmps).run P w'=.ok v w'∧((∃v',Ending.returned v=.returned v'∧Below w.heap.size w w'∧∀g'':Gh,(∀b,w.heap.size≤b→b<w'.heap.size→g''.I true b)→Rep g'' w' r v')):=by
   obtain⟨v,h1,h2⟩:=gJ hrel hres;refine⟨hrel.df,v,h1,v,rfl,hbel,fun g'' hg=>hle _ _ _ ?_⟩;refine Rep.seen (fun o c ho=>(hrel.ob o c ho).2.2.2) ⟨fun hh=>(by cases hh),fun _=>⟨fun b hb=>hg b ?_ (hrel.lt true b hb),fun o ho _=>?_⟩⟩ fuel _ _ _ h2 hreify
   ·rcases hrel.new b hb with⟨q,_⟩|q
    ·exact Nat.le_trans hC.sz q
    ·exact hC.lo b (.inr q)
   ·obtain⟨c,hc⟩:=Option.isSome_iff_exists.1 ho
    obtain⟨q1,q2,q3⟩:=hC.eF hrel hc;exact hg _ q3 q1
  rcases hx with rfl|rfl<;>exact hend
end
section
variable {P:Program} {k:TypeId} {N B:Nat} {w00:World} {c:Code}
theorem HY.amj {f:Nat} {fn:Func} {rs:List ResultVar} {Ψ:yU} (hf:P.funcs[f]?=some fn) (hb:fn.body=some c) (hN:fn.ntmps=N) (hrs:fn.results.toList=rs)
 (hpure:∀ps r cs',Ψ ps=some (r,cs')→ps.mapM (reify false 0 lY fuel)=some ps∧jW id fuel r=some r∧cs'.mapM (ng id fuel)=some cs')
 (h:∀ps r cs',Ψ ps=some (r,cs')→ps.length≤N∧∀B w00,HY P k N B w00 c (fun x s' σ'=>kH P rs 0 r cs' x s'∧∀b L,σ'=some (b,L)→B≤b) (bX ps) none):fQ P f Ψ:=by
 intro w J β κ ps cs args r cs' hr hJ hO hT hargs;subst hN hrs;replace hr:(if cs=[]then Ψ ps else none)=some (r,cs'):=hr;split at hr
 case isFalse=>cases hr
 case isTrue hcs=>
 subst hcs;obtain⟨hp1,hp2,hp3⟩:=hpure ps r cs' hr;obtain⟨hlen,h⟩:=h ps r cs' hr;have hJ':∀b,(∃k,J k b)→b<w.heap.size:=fun b ⟨k,hk⟩=>hJ k b hk;have hT':kr w (fun _=>False):=hT.io fun _ _ q=>False.elim q;have hargs':bL (lG fun b=>∃k,J k b) w ps args.toList:=by refine bL.conv (g:=dH J β κ 0) (Rep.seen (fr:=false) (n:=0) (g':=lG fun b=>∃k,J k b) (s:=⟨fun _=> .dead,lY,0⟩) (fun o c ho=>by cases ho) ⟨fun _=>⟨fun k b hb=>⟨rfl,k,hb⟩,fun o ho=>by cases ho⟩,fun e=>by cases e⟩ fuel) hargs hp1
 refine calls_of_wp hf hb (CWp.wp ((h w.heap.size w).go _ _ ⟨⟨_,w,_,aft hJ' hT' hargs' hlen,⟨fun i hi e=>(by cases e),fun i hi=>?_,fun i hi=>False.elim hi,fun b' e=>(by cases e),Nat.le_refl _,Fr.refl _ _,fun t ht=>⟨anD hT' t ht,fun e=>(by cases e)⟩⟩⟩,fun b' L2 e=>(by cases e)⟩ _ fun x s' σ' a' w' hs' hk=>?_))
 ·rcases hi with hi|hi<;>exact False.elim hi
 ·obtain⟨⟨hx,news,hn0,hnd,hres,hobs0⟩,hbb⟩:=hk
  obtain⟨⟨io,w0,g',hrel,hC⟩,hM'⟩:=hs';rw[Option.bind_eq_some_iff]at hres;obtain⟨qs,hres,hren⟩:=hres;simp only[List.range_zero,List.nil_append]at hren hobs0;have hocs:cs'.length=news.length:=(bg hobs0).1;have hobs:∀(i o:Nat),news[i]?=some o→∃T sz es es',s'.ob o=some (T,sz,es)∧es.mapM (dA news s'.ob fuel)=some es'∧cs'[i]?=some (T,sz,es'):=fun i o hi=>by obtain⟨c1,h1,h2⟩:=(bg hobs0).2 i o hi;unfold oW at h2;simp only[Option.bind_eq_some_iff,Option.map_eq_some_iff]at h2;obtain⟨⟨T,sz,es⟩,h3,es',h4,rfl⟩:=h2;exact⟨T,sz,es,es',h3,h4,h1⟩
  have hget:∀i,i<news.length→news[i]?=some (news.getD i 0):=fun i hi=>by simp[hi]
  have hsome:∀i,i<news.length→(s'.ob (news.getD i 0)).isSome:=fun i hi=>by obtain⟨T,sz,es,es',h1,_⟩:=hobs i _ (hget i hi);rw[h1];rfl
  have hinjO:∀i j,i<news.length→j<news.length→g'.β (news.getD i 0)=g'.β (news.getD j 0)→i=j:=fun i j hi hj he=>by have:=hrel.inj _ _ (hsome i hi) (hsome j hj) he;have e1:=hget i hi;have e2:=hget j hj;rw[this]at e1;have e1:=e1.trans e2.symm;exact(List.getElem?_inj hi hnd).1 e1
  have hinn:∀o1 o2,inn news o1=some o2→o2<news.length∧news.getD o2 0=o1:=fun o1 o2 hi=>by
   unfold inn at hi;split at hi
   ·rename_i hm
    cases hi;have hlt:=List.idxOf_lt_length_of_mem hm;exact⟨hlt,by simp[List.getD,hlt]⟩
   ·cases hi
  have hfrm:Fr (fun b=>∃o,o<([]:List aS).length∧b=β o) w w':=by
   have hf1:Fr (fun i=>w.heap.size≤i) w0 w':=⟨hrel.fr.os,hrel.fr.tape,hrel.fr.output,hrel.fr.size,fun i hi hn=>hrel.fr.block i hi fun q=>hn (hC.lo i (.inl q))⟩;refine⟨hf1.os.trans hC.fr.os,hf1.tape.trans hC.fr.tape,hf1.output.trans hC.fr.output,Nat.le_trans hC.fr.size hf1.size,fun i hi _=>?_⟩;refine(hf1.block i (Nat.lt_of_lt_of_le hi hC.fr.size) (by omega)).trans (hC.fr.block i hi fun q=>q.elim (fun q=>?_) fun q=>by omega);cases σ' with
   |none=>cases q
   |some bl=>obtain⟨b',L'⟩:=bl;have:=hbb b' L' rfl;cases q;omega
  have hend:a'.defers=[]∧∃v,(results fn a'.tmps).run P w'=.ok v w'∧(∃v' β' κ' M,Ending.returned v=.returned v'∧Fr (fun b=>∃o,o<([]:List aS).length∧b=β o) w w'∧([]:List aS).length≤cs'.length∧
   (∀o,o<([]:List aS).length→β' o=β o∧κ' o=κ o)∧(∀o,([]:List aS).length≤o→o<cs'.length→w.heap.size≤β' o)∧(∀b,M b→w.heap.size≤b∧b<w'.heap.size)∧
   uG (addN J M) w' β' κ' cs'∧Rep (dH (addN J M) β' κ' cs'.length) w' r v'):=by
   obtain⟨v,h1,h2⟩:=gJ hrel hres
   let M:Nat→Prop:=fun b=>w.heap.size≤b∧b<w'.heap.size∧∀i,i<news.length→b≠g'.β (news.getD i 0)
   let G1:Gh:=dH (fun kk b=>kk=false∨M b) (fun i=>g'.β (news.getD i 0)) (fun i=>g'.κ (news.getD i 0)) cs'.length
   let G:Gh:=dH (addN J M) (fun i=>g'.β (news.getD i 0)) (fun i=>g'.κ (news.getD i 0)) cs'.length
   have hnewb:∀b,g'.I true b→w.heap.size≤b:=fun b hb=>by
    rcases hrel.new b hb with⟨q,_⟩|q
    ·exact Nat.le_trans hC.sz q
    ·exact hC.lo b (.inr q)
   have hI:∀k b,g'.I k b→G1.I k b:=fun k b hi=>by
    cases k with
    |false=>exact .inl rfl
    |true=>refine .inr ⟨hnewb b hi,hrel.lt true b hi,fun i hil he=>?_⟩;obtain⟨T,sz,es,es',k1,_⟩:=hobs i _ (hget i hil);exact(hrel.ob _ _ k1).2.2.1 true (he▸hi)
   have hom:∀o o',inn news o=some o'→G1.β o'=g'.β o∧G1.κ o'=g'.κ o∧G1.D o':=fun o o' ho=>by obtain⟨k1,k2⟩:=hinn o o' ho;exact⟨by simp only[G1,dH,k2],by simp only[G1,dH,k2],⟨by simp only[G1,dH];omega,fun q=>q⟩⟩
   have hfz:∀o,(s'.ob o).isSome→inn news o=none→G1.I true (g'.β o):=fun o ho hn=>by
    obtain⟨c,hc⟩:=Option.isSome_iff_exists.1 ho;have hno:o∉news:=fun hm=>by simp[inn,hm]at hn
    obtain⟨q1,q2,q3⟩:=hC.eF hrel hc;refine .inr ⟨q3,q1,fun i hi he=>hno ?_⟩;rw[hrel.inj o _ (by rw[hc];rfl) (hsome i hi) he];exact List.mem_of_getElem? (hget i hi)
   have hobA:∀o c,s'.ob o=some c→pX g' w' o c:=fun o c ho=>(hrel.ob o c ho).2.2.2;have hI2:∀b,G1.I true b→G.I true b:=fun b hb=>by
    rcases hb with hb|hb
    ·cases hb
    ·exact .inr ⟨rfl,hb⟩
   refine⟨hrel.df,v,h1,v,fun i=>g'.β (news.getD i 0),fun i=>g'.κ (news.getD i 0),M,rfl,hfrm,Nat.zero_le _,fun o ho=>(Nat.not_lt_zero o ho).elim,fun o h3 h4=>?_,fun b hb=>⟨hb.1,hb.2.1⟩,⟨fun o ho=>?_,fun o o' ho ho' he=>hinjO o o' (by omega) (by omega) he,fun o c hc=>?_⟩,
    Rep.jW (g:=G1) (g':=G) hI2 (fun o ho=>⟨rfl,rfl,ho⟩) fuel _ _ _ (Rep.hand (g:=g') (g':=G1) hI hom hobA hfz fuel _ _ _ h2 hren) hp2⟩
   ·obtain⟨T,sz,es,es',k1,_⟩:=hobs o _ (hget o (by omega))
    exact(hC.eF hrel k1).2.2
   ·obtain⟨T,sz,es,es',k1,_⟩:=hobs o _ (hget o (by omega))
    obtain⟨_,_,k3,⟨arr,k4,_⟩,_⟩:=hrel.ob _ _ k1;refine⟨lt_of_heap k4,fun k hj=>?_⟩;rcases hj with hj|⟨_,hj⟩
    ·have:=(hC.eF hrel k1).2.2
     have:=hJ _ _ hj;omega
    ·exact hj.2.2 o (by omega) rfl
   ·have ho:o<cs'.length:=(List.getElem?_eq_some_iff.1 hc).1
    obtain⟨T,sz,es,es',k1,k2,k3⟩:=hobs o _ (hget o (by omega));rw[k3]at hc;cases hc;obtain⟨_,_,_,⟨arr,m1,m2⟩,m3,m4⟩:=hrel.ob _ _ k1;have hl:=(bg k2).1;have hes:es'.mapM (jW id fuel)=some es':=by obtain⟨c2,e1,e2⟩:=(bg hp3).2 o _ k3;unfold ng at e2;simp only[Option.map_eq_some_iff]at e2;obtain⟨es2,e3,rfl⟩:=e2;rw[k3]at e1;cases e1;exact e3
    exact⟨⟨arr,m1,m2⟩,by rw[hl];exact m3,bB.conv (g:=G1) (g':=G) (Rep.jW (g:=G1) (g':=G) hI2 (fun o ho=>⟨rfl,rfl,ho⟩) fuel) (bB.conv (g:=g') (g':=G1) (Rep.hand (g:=g') (g':=G1) hI hom hobA hfz fuel) m4 k2) hes⟩
  rcases hx with rfl|rfl<;>exact hend
end
section
variable {P:Program} {k:TypeId} {N B:Nat} {w00:World} {ops:Array Oper} {J:AS→Sg→Prop} {s:AS} {b:Nat} {L:VL}
theorem HO.aHn {o:Oper} {j:Nat} {l:List Oper} {t e d:Nat} {x:Operand} (ht:P.underlying t=some (.map k e)) (ho:o.op=.call {callee:=.builtin .len,args:=#[x],argTypes:=#[t]}) (hg:o.guard=none) (hd:o.dst=some d) (hdN:d<N) (hx:look s.tm x=.val (.map (some b)))
 (h:HO P k N B w00 ops (j+1) l J (s.put (some d) (.val (.int .i64 L.length))) (some (b,L))):HO P k N B w00 ops j (o::l) J s (some (b,L)):=by
 refine HO.one hg fun a w hs Kn Q hK=>?_;have hs0:=hs;obtain⟨⟨io,w0,g,hr,hC⟩,hM⟩:=hs;have ex:=hr.look x;rw[hx]at ex;simp only[Rep]at ex;obtain⟨es,clock,hb,H⟩:=hM _ _ rfl;have ht':P.underlying t=some (.map (P.mapKeyOf t) (P.mapElemOf t)):=by
  have h1:P.mapKeyOf t=k:=by simp[Program.mapKeyOf,ht]
  have h2:P.mapElemOf t=e:=by simp[Program.mapElemOf,ht]
  rw[h1,h2];exact ht
 have hsz:es.size=L.length:=by rw[←H.list,List.length_map,Array.length_toList]
 have hrun:(execOp a.eval o).run P w=.ok (.value (.int .i64 L.length)) w:=by unfold execOp;simp only[ho,resolve,Sem.run_bind,Sem.run_pure,Result.andThen_ok,invoke];simp only[builtin,List.map_toArray,List.map_cons,List.map_nil,ex,Sem.run_bind,run_len_map w t _ b es clock ht' hb,Result.andThen_ok,Sem.run_pure,hsz];rfl
 unfold Oper.wp;rw[hrun,Oper.upon_value,hd];exact hK _ _ _ _ (hs0.put (fun x e=>by cases e;exact hdN) fun g w=>by simp[Rep]) h
def auA (L:VL):Value→Bool→Option PV:=open Classical in fun key c=>if h:∃v,(key,v)∈L then(if c=true then none else some (.val h.choose))else none
theorem al8 {L:VL} {key:Value} {c:Bool} {p:PV} (h:auA L key c=some p):c=false∧∃v,(key,v)∈L∧p=.val v:=by
 unfold auA at h;split at h
 ·rename_i hv
  split at h
  ·cases h
  ·rename_i hc
   cases h;exact⟨by simpa using hc,_,hv.choose_spec,rfl⟩
 ·cases h
theorem arE {L:VL} (hn:(L.map Prod.fst).Nodup) {key v:Value} (h:(key,v)∈L):auA L key false=some (.val v):=by unfold auA;have hv:∃v,(key,v)∈L:=⟨v,h⟩;rw[dif_pos hv,if_neg (by simp),ac5 hn hv.choose_spec h]
end
theorem aqV (o:Int):∀gs:List I4,(∀g∈gs,GOk g)→(0≤(mo gs o).1∧(mo gs o).1≤1000*gs.length)∧(0≤(mo gs o).2.1∧(mo gs o).2.1≤1000*gs.length)∧(0≤(mo gs o).2.2.1∧(mo gs o).2.2.1≤1000*gs.length):=by
 refine jg ?_ ?_
 ·intro _
  exact⟨⟨Int.le_refl _,by simp[mo]⟩,⟨Int.le_refl _,by simp[mo]⟩,Int.le_refl _,by simp[mo]⟩
 ·intro gs g ih hg
  obtain⟨i1,i2,i3⟩:=ih fun x hx=>hg x (List.mem_append.2 (.inl hx));have gk:=hg g (by simp);obtain⟨w,st,sh,od⟩:=g;obtain⟨g1,g2,g3,g4⟩:=gk;dsimp only at g1 g2 g3 g4;rw[gY,List.length_append,List.length_singleton];generalize mo gs o=t at*;obtain⟨tw,ts,th,tod⟩:=t;dsimp only at i1 i2 i3;dsimp only
  push_cast
  refine⟨by omega,?_,by omega⟩;split<;>omega
theorem zI {l:List I4} {k:Nat} (h:k<l.length):l.take (k+1)=l.take k++[l[k]?.getD i40]:=by rw[List.take_succ_eq_append_getElem h,List.getElem?_eq_getElem h];rfl
def ay6:Fun:=F1 (dL 4 dI4) fun gs=>open Classical in if(∀g∈gs,GOk g)∧gs.length≤61 then some (pvG (jT gs))else none
theorem ahD {gs:List I4} (h:∀g∈gs,GOk g) (h2:gs.length≤61):ay6 [.lst false 4 (gs.map pvG)]=some (pvG (jT gs)):=(dY (A:=dL 4 dI4) gs).trans (if_pos ⟨h,h2⟩)
open Classical in
set_option maxHeartbeats 16000000 in
theorem aji:Sound Tryz.prog 240 ay6:=by
 refine ak mixed bV Tryz.func240 rfl 55 rfl [.cell 2 60] rfl (by kernel_rfl) fun ps r hr=>?_;obtain⟨gs,rfl,hpre,rfl⟩:=je hr;refine⟨by simp,?_⟩;simp only[dIs,dUs,dSs,bP,bS,bQ,bT,aP,bR,aQ,aO,aR,aL];obtain⟨hg,hl⟩:=hpre;show pq _ _ _ _ _ (bX [.lst false 4 (gs.map pvG)]).tm _ _;rw[(ay1 gs hg).1];have hat:∀k,k<gs.length→GOk (gs[k]?.getD i40):=fun k hk=>by rw[List.getElem?_eq_getElem hk,Option.getD_some];exact hg _ (List.getElem_mem hk)
 have htk:∀k,∀g∈gs.take k,GOk g:=fun k g h=>hg g (List.mem_of_mem_take h);clear hg;(refine wlk ?_;intros);refine aB (α:=Nat) mixed (fun k=>[(0,.lst false 4 (gs.map pvG)),(2,.own 0 4 0 0),(3,.own 1 4 0 0),(8,.lst false 4 (gs.map pvG)),(9,iv gs.length),(10,iv k)])
  (fun k=>[(0,60,4,[pvG g40]),(1,60,4,[pvG (0,0,0,zh (gs.take k))])]) (fun k=>2+k)
  (fun k=>k≤gs.length) (fun k=>gs.length-k) (by kernel_rfl) 0 (Nat.zero_le _) ?_ ?_ rfl ?_
 ·exact agr
 ·simp(disch:=(first|omega|(simp only[push_cast];first|done|omega))) only[push_cast,↓reduceIte,Rq,Rb,Ra,Rs,Rt,List.take_zero,zh,List.any_nil,Bool.false_eq_true,if_false,g40, *]
 intro k hk;by_cases h0:k<gs.length
 ·have hs:zh (gs.take (k+1))=if zh (gs.take k)=1∨((gs[k]?.getD i40).2.2.2=1∧0<(gs[k]?.getD i40).2.1)then 1 else 0:=by rw[zI h0,acU]
  have ho:=aor (gs.take k);obtain⟨g1,g2,g3,g4⟩:=hat k h0;clear hat htk;generalize hx:gs[k]?.getD i40=x at*;obtain⟨w,st,sh,od⟩:=x;dsimp only at hs g1 g2 g3 g4;by_cases hc:od=1∧0<st
  ·rw[if_pos (.inr hc)]at hs
   replace hs:=Lib.hid hs;generalize zh (gs.take k)=o at*;obtain⟨rfl,hc2⟩:=hc;clear g4 ho;(refine wlk ?_;intros);refine⟨k+1,by omega,by dsimp only;omega,?_,?_,?_⟩
   ·exact agr
   ·dsimp only
    rw[hs.out];exact agr
   ·first|rfl|(dsimp only;omega)
  ·have hs2:zh (gs.take (k+1))=zh (gs.take k):=by
    rw[hs];rcases ho with h|h
    ·rw[h,if_neg (by omega)]
    ·rw[h,if_pos (.inl rfl)]
   replace hs2:=Lib.hid hs2;clear hs;generalize zh (gs.take k)=o at*;by_cases hd:od=1
   ·subst hd
    have hst:¬0<st:=fun h=>hc ⟨rfl,h⟩;clear hc g4 ho;(refine wlk ?_;intros);refine⟨k+1,by omega,by dsimp only;omega,?_,?_,?_⟩
    ·exact agr
    ·dsimp only
     rw[hs2.out];exact agr
    ·first|rfl|(dsimp only;omega)
   ·clear hc g4 ho
    (refine wlk ?_;intros);refine⟨k+1,by omega,by dsimp only;omega,?_,?_,?_⟩
    ·exact agr
    ·dsimp only
     rw[hs2.out];exact agr
    ·first|rfl|(dsimp only;omega)
 ·obtain rfl:k=gs.length:=by omega
  rw[List.take_of_length_le (Nat.le_refl _)];generalize zh gs=o at*;(refine wlk ?_;intros);refine aB (α:=Nat) mixed (fun k=>[(2,.own 0 4 0 0),(3,.own 1 4 0 0),(24,.lst false 4 (gs.map pvG)),(25,iv gs.length),(26,iv k)])
   (fun k=>[(0,60,4,[pvG g40]),(1,60,4,[pvG (mo (gs.take k) o)])]) (fun k=>2+gs.length+k)
   (fun k=>k≤gs.length) (fun k=>gs.length-k) (by kernel_rfl) 0 (Nat.zero_le _) ?_ ?_ ?_ ?_
  ·exact agr
  ·simp(disch:=(first|omega|(simp only[push_cast];first|done|omega))) only[push_cast,↓reduceIte,Rq,Rb,Ra,Rs,Rt,List.take_zero,mo,List.foldl_nil,g40, *]
  ·first|rfl|(dsimp only;omega)
  intro k hk;have hod:=amC (gs.take k) o;obtain⟨r1,r2,r3⟩:=aqV o (gs.take k) (htk k);have hkl:(gs.take k).length=k:=by rw[List.length_take];omega
  rw[hkl]at r1 r2 r3;by_cases h0:k<gs.length
  ·have hs:mo (gs.take (k+1)) o=((mo (gs.take k) o).1+(gs[k]?.getD i40).1,(if(gs[k]?.getD i40).2.2.2=o then(mo (gs.take k) o).2.1+(gs[k]?.getD i40).2.1 else(mo (gs.take k) o).2.1),(mo (gs.take k) o).2.2.1+(gs[k]?.getD i40).2.2.1,o):=by rw[zI h0,gY]
   obtain⟨g1,g2,g3,g4⟩:=hat k h0;clear hat htk hkl;generalize hx:gs[k]?.getD i40=x at*;generalize ht:mo (gs.take k) o=t at*;obtain⟨w,st,sh,od⟩:=x;obtain⟨tw,ts,th,tod⟩:=t;dsimp only at hs g1 g2 g3 g4 r1 r2 r3 hod;subst hod;by_cases hd:od=tod
   ·rw[if_pos hd]at hs
    replace hs:=Lib.hid hs;subst hd;(refine wlk ?_;intros);refine⟨k+1,by omega,by dsimp only;omega,?_,?_,?_⟩
    ·exact agr
    ·dsimp only
     rw[hs.out];exact agr
    ·first|rfl|(dsimp only;omega)
   ·rw[if_neg hd]at hs
    replace hs:=Lib.hid hs;(refine wlk ?_;intros);refine⟨k+1,by omega,by dsimp only;omega,?_,?_,?_⟩
    ·exact agr
    ·dsimp only
     rw[hs.out];exact agr
    ·first|rfl|(dsimp only;omega)
  ·obtain rfl:k=gs.length:=by omega
   rw[List.take_of_length_le (Nat.le_refl _)]at*;clear hat htk hkl;generalize mo gs o=t at*;obtain⟨tw,ts,th,tod⟩:=t;exact wlkF
def aGT:Ctx:={fn:=aT [(124,φLi)],io:=aT []}
theorem auI:au Tryz.prog aGT:=okΓ (fC Tryz.func124 adf aj) aj
def aqt:=ah (Γ:=aGT) (f:=124) (φ:=φLi) rfl
def alf:Fun:=F3 oQ dI dI fun l n m=>open Classical in if axu l n m then some (.lst true 1 ((if dX l (n+1).toNat m.toNat=true then oL l (aF l (n+1).toNat) m.toNat else []).map fun n=> .val (.int .i64 n)))else none
theorem ahj {l:List It} {a en:Nat} (h:aW l=true) (h2:a≤en) (h3:en<l.length):alf [gy l,.val (.int .i64 ((a:Int)-1)),.val (.int .i64 en)]=some (.lst true 1 ((if dX l a en=true then oL l (aF l a) en else []).map fun n=> .val (.int .i64 n))):=
 (adE (A:=oQ) (B:=dI) (C:=dI) l ((a:Int)-1) en).trans ((if_pos ⟨h,by omega,by omega,by omega⟩).trans (by rw[show((a:Int)-1+1).toNat=a by omega,Int.toNat_natCast]))
theorem ajW:Sound Tryz.prog 93 alf:=by refine ak mixed auI Tryz.func93 rfl 17 rfl [.tmp 6] rfl (by kernel_rfl) fun ps r hr=>?_;obtain⟨l,n,m,rfl,hpre,rfl⟩:=aby hr;refine⟨by simp,?_⟩;simp only[dIs,dUs,dSs,bP,bS,bQ,bT,aP,bR,aQ,aO,aR,aL];obtain⟨hB,hn0,hn1,hn2⟩:=hpre;obtain⟨a,rfl⟩:∃a:Nat,n=(a:Int)-1:=⟨(n+1).toNat,by omega⟩;obtain⟨en,rfl⟩:∃en:Nat,m=en:=⟨m.toNat,by omega⟩;show pq _ _ _ _ _ (bX [gy l,.val (.int .i64 ((a:Int)-1)),.val (.int .i64 en)]).tm _ _;rw[show((a:Int)-1+1).toNat=a by omega,Int.toNat_natCast];have ap:=ak9 hB (show a≤en by omega) (by omega);generalize(if dX l a en=true then oL l (aF l a) en else [])=q at*;generalize dX l a en=b at*;have gli2_c124:=aqt;exact wlkF
def φLa:Fun:=F3 oQ dI dI fun l wd most=>if ai4 l then some (bv (aW l&&(decide (0<l.length)&&(inB wd 0 1000&&inB most 0 10000))))else none
theorem ayY {l:List It} {wd most:Int} (h:ai4 l):φLa [gy l,.val (.int .i64 wd),.val (.int .i64 most)]=some (.val (.bool (aW l&&(decide (0<l.length)&&(inB wd 0 1000&&inB most 0 10000))))):=(adE (A:=oQ) (B:=dI) (C:=dI) l wd most).trans (if_pos h)
def GLa:Ctx:={fn:=aT [(175,aa9),(64,φIn),(72,qN)],io:=aT []}
theorem azH:au Tryz.prog GLa:=okΓ (fC Tryz.func175 aak (fC Tryz.func64 sD (fC Tryz.func72 qZ aj))) aj
def av6:=ah (Γ:=GLa) (f:=175) (φ:=aa9) rfl
def aCH:=ah (Γ:=GLa) (f:=64) (φ:=φIn) rfl
def aCx:=ah (Γ:=GLa) (f:=72) (φ:=qN) rfl
theorem akC:Sound Tryz.prog 122 φLa:=by refine ak mixed azH Tryz.func122 rfl 22 rfl [.tmp 6] rfl (by kernel_rfl) fun ps r hr=>?_;obtain⟨l,wd,most,rfl,hpre,rfl⟩:=aby hr;refine⟨by simp,?_⟩;simp only[dIs,dUs,dSs,bP,bS,bQ,bT,aP,bR,aQ,aO,aR,aL];have hl:l.length≤1000:=hpre;show pq _ _ _ _ _ (bX [gy l,.val (.int .i64 wd),.val (.int .i64 most)]).tm _ _;have ap1:=abI hpre;have ap2:=bI;have ap3:=oh;clear hpre;generalize aW l=b1 at*;have gla_c175:=av6;have gla_c64:=aCH;have gla_c72:=aCx;((refine wlk6 ?_ ?_ ?_ ?_ ?_ ?_<;>intros<;>try with_reducible exact trivial)<;>(refine fnG ?_;try with_reducible exact trivial));all_goals((refine congrArg (fun z=>some (PV.val (Value.bool z))) ?_);first|(simp_all;done)|(simp_all;omega))
def aie:Fun:=ayt 4 ay6
theorem acd {gs:List I4} (h:∀g∈gs,GOk g) (h2:gs.length≤61):aie [.lst false 4 (gs.map pvG)]=some (pvG (jT gs)):=ahD h h2
theorem ajG:aie [.val (.slice none 0 0)]=some (pvG (jT [])):=ahD (gs:=[]) (by simp) (by simp)
def lgR (l:List It) (a en:Nat):I4:=if dX l a en=true then jT (agJ l a en)else(0,0,0,0)
def φLg:Fun:=F3 oQ dI dI fun l n m=>open Classical in if axu l n m then some (.tup [pvG (lgR l (n+1).toNat m.toNat),bv (dX l (n+1).toNat m.toNat)])else none
theorem ayw {l:List It} {a en:Nat} (h:aW l=true) (h2:a≤en) (h3:en<l.length):φLg [gy l,.val (.int .i64 ((a:Int)-1)),.val (.int .i64 en)]=some (.tup [pvG (lgR l a en),.val (.bool (dX l a en))]):=
 (adE (A:=oQ) (B:=dI) (C:=dI) l ((a:Int)-1) en).trans ((if_pos ⟨h,by omega,by omega,by omega⟩).trans (by rw[show((a:Int)-1+1).toNat=a by omega,Int.toNat_natCast]))
theorem ajb {l:List Int} {k:Nat} (h:k<l.length):l.take (k+1)=l.take k++[l[k]?.getD 0]:=by rw[List.take_succ_eq_append_getElem h,List.getElem?_eq_getElem h];rfl
def GLg:Ctx:={fn:=aT [(124,φLi),(240,aie)],io:=aT []}
theorem aDs:au Tryz.prog GLg:=okΓ (fC Tryz.func124 adf (fC Tryz.func240 (aji.nil 4) aj)) aj
def anf:=ah (Γ:=GLg) (f:=124) (φ:=φLi) rfl
def aov:=ah (Γ:=GLg) (f:=240) (φ:=aie) rfl
theorem ak5:Sound Tryz.prog 236 φLg:=by
 refine ak mixed aDs Tryz.func236 rfl 54 rfl [.cell 6 60,.tmp 7] rfl (by kernel_rfl) fun ps r hr=>?_;obtain⟨l,n,m,rfl,hpre,rfl⟩:=aby hr;refine⟨by simp,?_⟩;simp only[dIs,dUs,dSs,bP,bS,bQ,bT,aP,bR,aQ,aO,aR,aL];obtain⟨hB,hn0,hn1,hn2⟩:=hpre;obtain⟨a,rfl⟩:∃a:Nat,n=(a:Int)-1:=⟨(n+1).toNat,by omega⟩;obtain⟨en,rfl⟩:∃en:Nat,m=en:=⟨m.toNat,by omega⟩;have hl:=bK hB;have hae:a≤en:=by omega
 have hel:en<l.length:=by omega
 show pq _ _ _ _ _ (bX [gy l,.val (.int .i64 ((a:Int)-1)),.val (.int .i64 en)]).tm _ _;rw[show((a:Int)-1+1).toNat=a by omega,Int.toNat_natCast];have ap:=ak9 hB hae hel;unfold lgR;clear hn0 hn1 hn2;cases hq:dX l a en with
 |false=>rw[hq,if_neg (by decide)]at ap;rw[if_neg (by decide)];clear hq hB;have glg_c124:=anf;have glg_c240:=aov;exact wlkF
 |true=>
  rw[hq,if_pos rfl]at ap;rw[if_pos rfl];have hst:aF l a≤en:=(fE.1 hq).2.2.2.1;have hG:agJ l a en=rQ l (aF l a) en++(if(gI l en).kd=3 then [(gI l en).gl]else []):=rfl;have hgo:=afI (b:=aF l a) hB (show en≤l.length by omega);have hgl:=aaT l (aF l a) en;have hio:=(gZ hB hel).gl;have him:=@vO l (aF l a) en;have h0l:rQ l (aF l a) en=(oL l (aF l a) en).map fun n:Int=>(gI l n.toNat).gl:=rfl;rw[hG];clear hG hq hB;rw[h0l]at hgo hgl⊢;rw[List.length_map]at hgl;generalize oL l (aF l a) en=L at*;clear h0l;have hLl:L.length≤60:=by omega
  have hLk:∀k,k<L.length→0≤L[k]?.getD 0∧L[k]?.getD 0<en:=fun k hk=>by rw[List.getElem?_eq_getElem hk,Option.getD_some];have:=him _ (List.getElem_mem hk);omega
  clear him;have glg_c124:=anf;have glg_c240:=aov;(refine wlk ?_;intros);refine aB (α:=Nat×Nat×Nat) mixed (fun z=>[(0,gy l),(2,iv en),(6,.own 0 4 0 0),(10,nP 4 (((L.take z.1).map fun n:Int=>(gI l n.toNat).gl).map pvG) z.2.1),(23,.lst true 1 (L.map pvN)),(24,iv L.length),(25,iv z.1)])
   (fun z=>(0,60,4,[pvG g40])::nO 60 4 (((L.take z.1).map fun n:Int=>(gI l n.toNat).gl).map pvG) z.2.1) (fun z=>z.2.2)
   (fun z=>z.1≤L.length∧0<z.2.2∧(0<z.1→0<z.2.1∧z.2.1<z.2.2)) (fun z=>L.length-z.1) (by kernel_rfl) (0,0,1) ⟨Nat.zero_le _,by simp,by simp⟩ ?_ ?_ rfl ?_
  ·simp(disch:=(first|omega|(simp only[push_cast];first|done|omega))) only[push_cast,↓reduceIte,Rq,Rb,Ra,Rs,Rt,List.take_zero,List.map_nil, *]
  ·simp(disch:=(first|omega|(simp only[push_cast];first|done|omega))) only[push_cast,↓reduceIte,Rq,Rb,Ra,Rs,Rt,List.take_zero,List.map_nil,g40, *]
  rintro⟨k,x,y⟩ ⟨hk,hy,hxy⟩;dsimp only at hk hy hxy;have hGl:((L.take k).map fun n:Int=>(gI l n.toNat).gl).length=k:=by rw[List.length_map,List.length_take];omega
  by_cases h0:k<L.length
  ·obtain⟨q1,q2⟩:=hLk k h0
   have hn:(L.take (k+1)).map (fun n:Int=>(gI l n.toNat).gl)=(L.take k).map (fun n:Int=>(gI l n.toNat).gl)++[(l[(L[k]?.getD 0).toNat]?.getD it0).gl]:=by rw[ajb h0,List.map_append];rfl
   have hGb:k≤60:=by omega
   clear hLk hgo hgl hio;generalize hx9:l[(L[k]?.getD 0).toNat]?.getD it0=it at*;obtain⟨kd,w9,c,d,e,cost,g⟩:=it;generalize hG9:(L.take k).map (fun n:Int=>(gI l n.toNat).gl)=G at*;replace hn:(L.take (k+1)).map (fun n:Int=>(gI l n.toNat).gl)=G++[(w9,c,d,e)]:=hn;replace hn:=Lib.hid hn;by_cases hz:G.length=0
   ·obtain rfl:G=[]:=List.eq_nil_of_length_eq_zero hz
    clear hGl hz hG9 hxy;(refine wlk ?_;intros);refine⟨(k+1,y+1,y+2),⟨by dsimp only;omega,by dsimp only;omega,fun _=>by dsimp only;omega⟩,by dsimp only;omega,?_,?_,rfl⟩
    ·dsimp only
     rw[hn.out];exact agr
    ·dsimp only
     rw[hn.out];exact agr
   ·obtain⟨hx0,hxy⟩:=hxy (by omega)
    have hap:0<(G.map pvG).length:=by rw[List.length_map];omega
    have hGc:G.length≤60:=by omega
    clear hz hG9 hGl;have hap3:0<((G++[(w9,c,d,e)]).map pvG).length:=by simp
    simp only[av hap,ay hap,List.length_map];(refine wlk ?_;intros);refine⟨(k+1,y+1,y+2),⟨by dsimp only;omega,by dsimp only;omega,fun _=>by dsimp only;omega⟩,by dsimp only;omega,?_,?_,rfl⟩
    ·dsimp only
     rw[hn.out];simp(disch:=(first|omega|(simp only[push_cast];first|done|omega))) only[push_cast,↓reduceIte,Rq,Rb,Ra,Rs,Rt,av hap3,List.length_append, *]
    ·dsimp only
     rw[hn.out];simp(disch:=(first|omega|(simp only[push_cast];first|done|omega))) only[push_cast,↓reduceIte,Rq,Rb,Ra,Rs,Rt,ay hap3, *]
  ·obtain rfl:k=L.length:=by omega
   rw[List.take_of_length_le (Nat.le_refl _)]at*;have hkx:gI l en=l[en]?.getD it0:=rfl;rw[hkx];clear hkx hLk;have hGL:(L.map fun n:Int=>(gI l n.toNat).gl).length=L.length:=List.length_map _;generalize hx9:l[en]?.getD it0=it at*;obtain⟨kd,w9,c,d,e,cost,g⟩:=it;replace hio:GOk (w9,c,d,e):=hio;generalize(L.map fun n:Int=>(gI l n.toNat).gl)=G at*;have apn:=ajG;have apt:=acd (gs:=G) hgo (by omega);have apu:=acd (gs:=G++[(w9,c,d,e)]) (fun z hz=>by
    rcases List.mem_append.1 hz with hz|hz
    ·exact hgo z hz
    ·rw[List.mem_singleton.1 hz];exact hio) (by rw[List.length_append,List.length_singleton];omega)
   by_cases h3:kd=3
   ·rw[if_pos (show It.kd (kd,w9,c,d,e,cost,g)=3 from h3)]
    have hz9:It.gl (kd,w9,c,d,e,cost,g)=(w9,c,d,e):=rfl;rw[hz9];clear hz9 apn apt hgo hio;subst h3;by_cases hz:G.length=0
    ·obtain rfl:G=[]:=List.eq_nil_of_length_eq_zero hz
     rw[List.nil_append]at*;generalize jT [(w9,c,d,e)]=t at*;obtain⟨t1,t2,t3,t4⟩:=t;clear hGl hGL hz hxy;simp only[List.map_cons,List.map_nil]at apu;exact wlkF
    ·obtain⟨hx0,hxy⟩:=hxy (by omega)
     have hap:0<(G.map pvG).length:=by rw[List.length_map];omega
     generalize jT (G++[(w9,c,d,e)])=t at*;obtain⟨t1,t2,t3,t4⟩:=t;have hGc:G.length≤60:=by omega
     clear hz hGl hGL;simp only[av hap,ay hap,List.length_map];exact wlkF
   ·rw[if_neg (show¬It.kd (kd,w9,c,d,e,cost,g)=3 from h3),List.append_nil]
    clear apu hgo hio;by_cases hz:G.length=0
    ·obtain rfl:G=[]:=List.eq_nil_of_length_eq_zero hz
     generalize jT []=t at*;obtain⟨t1,t2,t3,t4⟩:=t;clear hGl hGL hz hxy apt;exact wlkF
    ·obtain⟨hx0,hxy⟩:=hxy (by omega)
     have hap:0<(G.map pvG).length:=by rw[List.length_map];omega
     generalize jT G=t at*;obtain⟨t1,t2,t3,t4⟩:=t;clear hz hGl hGL apn;simp only[av hap,ay hap,List.length_map];exact wlkF
def φLb:Fun:=F4 oQ dI dI dI fun l n m wd=>open Classical in if axu l n m∧0≤wd∧wd≤1000 then some (.tup [iv (if dX l (n+1).toNat m.toNat=true then(iY l wd (n+1).toNat m.toNat).1 else-1),bv (dX l (n+1).toNat m.toNat&&(iY l wd (n+1).toNat m.toNat).2)])else none
theorem auV {l:List It} {a en:Nat} {wd:Int} (h:aW l=true) (h2:a≤en) (h3:en<l.length) (h4:0≤wd∧wd≤1000):φLb [gy l,.val (.int .i64 ((a:Int)-1)),.val (.int .i64 en),.val (.int .i64 wd)]=some (.tup [.val (.int .i64 (if dX l a en=true then(iY l wd a en).1 else-1)),.val (.bool (dX l a en&&(iY l wd a en).2))]):=
 (aAZ (A:=oQ) (B:=dI) (C:=dI) (D:=dI) l ((a:Int)-1) en wd).trans (by rw[show((a:Int)-1+1).toNat=a by omega,Int.toNat_natCast];exact if_pos ⟨⟨h,by omega,by omega,by omega⟩,h4⟩)
def GLb:Ctx:={fn:=aT [(236,φLg),(64,φIn),(237,wK)],io:=aT []}
theorem az6:au Tryz.prog GLb:=okΓ (fC Tryz.func236 ak5 (fC Tryz.func64 sD (fC Tryz.func237 aey aj))) aj
def yN:=ah (Γ:=GLb) (f:=236) (φ:=φLg) rfl
def adl:=ah (Γ:=GLb) (f:=64) (φ:=φIn) rfl
def wX:=ah (Γ:=GLb) (f:=237) (φ:=wK) rfl
theorem amc:Sound Tryz.prog 215 φLb:=by
 refine ak mixed az6 Tryz.func215 rfl 63 rfl [.tmp 8,.tmp 9] rfl (by kernel_rfl) fun ps r hr=>?_;obtain⟨l,n,m,wd,rfl,hpre,rfl⟩:=aBC hr;refine⟨by simp,?_⟩;simp only[dIs,dUs,dSs,bP,bS,bQ,bT,aP,bR,aQ,aO,aR,aL];obtain⟨⟨hB,hn0,hn1,hn2⟩,hw⟩:=hpre;obtain⟨a,rfl⟩:∃a:Nat,n=(a:Int)-1:=⟨(n+1).toNat,by omega⟩;obtain⟨en,rfl⟩:∃en:Nat,m=en:=⟨m.toNat,by omega⟩;show pq _ _ _ _ _ (bX [gy l,.val (.int .i64 ((a:Int)-1)),.val (.int .i64 en),.val (.int .i64 wd)]).tm _ _;rw[show((a:Int)-1+1).toNat=a by omega,Int.toNat_natCast];have ap1:=ayw hB (show a≤en by omega) (show en<l.length by omega);have api:φIn [.val (.int .i64 wd),.val (.int .i64 0),.val (.int .i64 1000)]=some (.val (.bool true)):=(bI _ _ _).trans (by rw[aD.2 hw]);obtain⟨g1,g2⟩:=adF (b:=aF l a) hB (show en<l.length by omega);obtain⟨⟨o1,o2,o3,o4⟩,t1,t2,t3⟩:=aoh g1 g2;have hE:iY l wd a en=azZ (jT (mX l (aF l a) en)) wd:=rfl;have hE2:agJ l a en=mX l (aF l a) en:=rfl;unfold lgR at ap1;rw[hE];rw[hE2]at ap1;have hl:=bK hB;clear hB g1 g2 hE hE2;cases hq:dX l a en with
 |false=>rw[hq,if_neg (by decide)]at ap1;rw[if_neg (by decide),Bool.false_and];clear hq o1 o2 o3 o4 t1 t2 t3;have glb_c236:=yN;have glb_c64:=adl;have glb_c237:=wX;exact wlkF
 |true=>
  rw[hq,if_pos rfl]at ap1;rw[if_pos rfl,Bool.true_and];clear hq;generalize jT (mX l (aF l a) en)=t at*;obtain⟨tw,ts,th,tod⟩:=t;dsimp only at o1 o2 o3 o4 t1 t2 t3;have hG:azZ (tw,ts,th,tod) wd=if tw≤wd then(if tod=1 then(0,true)else(aec (wd-tw) ts,true))else if tw-wd≤th then(aec (tw-wd) th,false)else(-1,false):=rfl;rw[hG];by_cases h1:tw≤wd
  ·have ap3:=qm (need:=wd-tw) (room:=ts) ⟨⟨by omega,by omega⟩,by omega,by omega⟩
   rw[if_pos h1];by_cases h2:tod=1
   ·rw[if_pos h2]
    subst h2;have glb_c236:=yN;have glb_c64:=adl;have glb_c237:=wX;exact wlkF
   ·rw[if_neg h2]
    generalize aec (wd-tw) ts=bd at*;have glb_c236:=yN;have glb_c64:=adl;have glb_c237:=wX;exact wlkF
  ·rw[if_neg h1]
   by_cases h2:tw-wd≤th
   ·have ap3:=qm (need:=tw-wd) (room:=th) ⟨⟨by omega,by omega⟩,by omega,by omega⟩
    rw[if_pos h2];generalize aec (tw-wd) th=bd at*;have glb_c236:=yN;have glb_c64:=adl;have glb_c237:=wX;exact wlkF
   ·rw[if_neg h2]
    have glb_c236:=yN;have glb_c64:=adl;have glb_c237:=wX;exact wlkF
abbrev LE:=Int×Bool×Int
abbrev dLe:Dec LE:=dA3 dI dB dI
abbrev aCn (x:LE):PV:=.agg [.val (.int .i64 x.1),.val (.bool x.2.1),.val (.int .i64 x.2.2)]
def lcR (l:List It) (wd most:Int) (a en:Nat) (lk:Int):Int×LE:=match jf l wd most a en with
 |none=>(-1,(0,false,0))
 |some x=>(x.1+jD l a en lk x.2,((en:Int),(l[en]?.getD it0).2.2.2.2.2.2,x.2))
abbrev aFg (l:List It) (wd most:Int) (e:LE) (m:Int):Prop:=axu l e.1 m∧(0≤wd∧wd≤1000)∧(0≤most∧most≤10000)∧(0≤e.2.2∧e.2.2≤3)∧(0≤e.1→e.2.1=(l[e.1.toNat]?.getD it0).2.2.2.2.2.2)
def φLc:Fun:=F5 oQ dI dI dLe dI fun l wd most e m=>open Classical in if aFg l wd most e m then some (.tup [iv (lcR l wd most (e.1+1).toNat m.toNat e.2.2).1,aCn (lcR l wd most (e.1+1).toNat m.toNat e.2.2).2])else none
theorem awH {l:List It} {wd most:Int} {a en:Nat} {mk:Bool} {lk:Int} (h:aFg l wd most ((a:Int)-1,mk,lk) en):φLc [gy l,.val (.int .i64 wd),.val (.int .i64 most),aCn ((a:Int)-1,mk,lk),.val (.int .i64 en)]=some (.tup [.val (.int .i64 (lcR l wd most a en lk).1),aCn (lcR l wd most a en lk).2]):=
 (aDl (A:=oQ) (B:=dI) (C:=dI) (D:=dLe) (E:=dI) l wd most ((a:Int)-1,mk,lk) en).trans ((if_pos h).trans (by rw[show(((a:Int)-1,mk,lk).1+1).toNat=a by dsimp only;omega,Int.toNat_natCast]))
def GLc:Ctx:={fn:=aT [(215,φLb),(216,φLk),(217,φCo)],io:=aT []}
theorem aCy:au Tryz.prog GLc:=okΓ (fC Tryz.func215 amc (fC Tryz.func216 am6 (fC Tryz.func217 aln aj))) aj
def wL:=ah (Γ:=GLc) (f:=215) (φ:=φLb) rfl
def yM:=ah (Γ:=GLc) (f:=216) (φ:=φLk) rfl
def wF:=ah (Γ:=GLc) (f:=217) (φ:=φCo) rfl
theorem alm:Sound Tryz.prog 176 φLc:=by
 refine ak mixed aCy Tryz.func176 rfl 77 rfl [.tmp 10,.cell 11 145] rfl (by kernel_rfl) fun ps r hr=>?_;obtain⟨l,wd,most,⟨n,mk,lk⟩,m,rfl,hq⟩:=am0 hr;clear hr;split at hq
 case isFalse=>cases hq
 case isTrue hpre=>
 cases hq;refine⟨by simp,?_⟩;simp only[dIs,dUs,dSs,bP,bS,bQ,bT,aP,bR,aQ,aO,aR,aL];obtain⟨⟨hB,hn0,hn1,hn2⟩,hw,hm,hlk,hmk⟩:=hpre;(try dsimp only at hn0 hn1 hn2 hlk hmk);obtain⟨a,rfl⟩:∃a:Nat,n=(a:Int)-1:=⟨(n+1).toNat,by omega⟩;obtain⟨en,rfl⟩:∃en:Nat,m=en:=⟨m.toNat,by omega⟩;show pq _ _ _ _ _ (bX [gy l,.val (.int .i64 wd),.val (.int .i64 most),aCn ((a:Int)-1,mk,lk),.val (.int .i64 en)]).tm _ _;(try dsimp only);rw[show((a:Int)-1+1).toNat=a by omega,Int.toNat_natCast];have hl:=bK hB;have hel:en<l.length:=by omega
 have ap1:=auV hB (show a≤en by omega) hel hw;have hcst:aoB (l[en]?.getD it0).2.2.2.2.2.1:=(gZ hB hel).cost;have hlr:jf l wd most a en=if dX l a en=true∧0≤(iY l wd a en).1∧(iY l wd a en).1≤most then some (mU (iY l wd a en).1 (l[en]?.getD it0).2.2.2.2.2.1,gL (iY l wd a en).2 (iY l wd a en).1)else none:=rfl;have hbw:∀k,jD l a en lk k=(if 0<a∧(l[a-1]?.getD it0).2.2.2.2.2.2=true∧(l[en]?.getD it0).2.2.2.2.2.2=true then 3000 else 0)+(if 0<a∧(1<lk-k∨lk-k< -1)then 3000 else 0):=fun k=>rfl;have hmk2:0<a→(l[a-1]?.getD it0).2.2.2.2.2.2=mk:=fun h=>by have:=hmk (by omega);rw[show((a:Int)-1).toNat=a-1 by omega]at this;exact this.symm
 unfold lcR;rw[hlr];clear hlr hmk hn0 hn1 hn2 hB;generalize iY l wd a en=B at*;obtain⟨bad,st⟩:=B;(try dsimp only at ap1⊢);by_cases hL:dX l a en=true∧0≤bad∧bad≤most
 ·rw[if_pos hL]
  (try dsimp only);obtain⟨h1,h2,h3⟩:=hL;rw[h1,if_pos rfl,Bool.true_and]at ap1;have ap2:=aaL (s:=st) (bad:=bad) ⟨h2,by omega⟩;have ap3:=ad1 (bad:=bad) ⟨h2,by omega⟩ hcst;have hkr:=oG st bad;have hcr:=qA (bad:=bad) ⟨h2,by omega⟩ hcst;rw[hbw];clear hbw h1 hcst;by_cases h0:0<a
  ·rw[hmk2 h0]
   clear hmk2;generalize hy:l[en]?.getD it0=y at*;obtain⟨y1,y2,y3,y4,y5,y6,y7⟩:=y;(try dsimp only at ap3 hcr⊢);generalize mU bad y6=co at*;generalize gL st bad=k at*;cases mk<;>cases y7<;>by_cases hz:1<lk-k∨lk-k< -1<;>
   ·first
     |rw[if_pos (show 0<a∧(1<lk-k∨lk-k< -1)from⟨h0,hz⟩)]
     |rw[if_neg (show¬(0<a∧(1<lk-k∨lk-k< -1))from fun q=>hz q.2)]
    have glc_c215:=wL;have glc_c216:=yM;have glc_c217:=wF;(refine wlk ?_;intros);refine qX 10 (by simp only[List.map_cons,List.map_nil]<;>exact rfl) (by simp only[List.take_succ_cons,List.take_zero]<;>exact rfl) (by simp only[List.drop_succ_cons,List.drop_zero]<;>exact rfl) zO (by decide+kernel) (by decide+kernel) ?_;(refine wlk ?_;intros);refine azA (by(exact sr)) ?_;((refine wlk6 ?_ ?_ ?_ ?_ ?_ ?_<;>intros<;>try with_reducible exact trivial)<;>(refine fnG ?_;try with_reducible exact trivial));all_goals(simp[h0];try omega)
  ·obtain rfl:a=0:=by omega
   rw[if_neg (fun q=>h0 q.1),if_neg (fun q=>h0 q.1)];clear hmk2;generalize hy:l[en]?.getD it0=y at*;obtain⟨y1,y2,y3,y4,y5,y6,y7⟩:=y;(try dsimp only at ap3 hcr⊢);generalize mU bad y6=co at*;generalize gL st bad=k at*;simp only[Int.natCast_zero,Int.zero_sub]at ap1⊢;have glc_c215:=wL;have glc_c216:=yM;have glc_c217:=wF;(refine wlk ?_;intros);refine qX 10 (by simp only[List.map_cons,List.map_nil]<;>exact rfl) (by simp only[List.take_succ_cons,List.take_zero]<;>exact rfl) (by simp only[List.drop_succ_cons,List.drop_zero]<;>exact rfl) zO (by decide+kernel) (by decide+kernel) ?_;(refine wlk ?_;intros);refine azA (by(exact sr)) ?_;((refine wlk6 ?_ ?_ ?_ ?_ ?_ ?_<;>intros<;>try with_reducible exact trivial)<;>(refine fnG ?_;try with_reducible exact trivial));all_goals(simp;try omega)
 ·rw[if_neg hL]
  (try dsimp only);have hbb:∃b9:Int,φLb [gy l,.val (.int .i64 ((a:Int)-1)),.val (.int .i64 en),.val (.int .i64 wd)]=some (.tup [.val (.int .i64 b9),.val (.bool (dX l a en&&st))])∧(b9<0∨most<b9):=by
   refine⟨_,ap1,?_⟩;split
   ·rename_i h
    by_cases hb0:bad<0
    ·exact .inl hb0
    ·refine .inr ?_
     by_cases hb1:bad≤most
     ·exact absurd ⟨h,by omega,hb1⟩ hL
     ·omega
   ·exact .inl (by decide)
  clear hL ap1 hbw hmk2 hcst;obtain⟨b9,ap1,hb⟩:=hbb;generalize(dX l a en&&st)=q9 at*;rcases hb with hb|hb
  ·have glc_c215:=wL;have glc_c216:=yM;have glc_c217:=wF
   exact wlkF
  ·by_cases h00:b9<0
   ·have glc_c215:=wL;have glc_c216:=yM;have glc_c217:=wF
    exact wlkF
   ·have glc_c215:=wL;have glc_c216:=yM;have glc_c217:=wF
    exact wlkF
end
end Go.Proofs.YtmmafcjjlbgnkaaGreatDoor
