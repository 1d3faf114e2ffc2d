/- What the proof rests on, part 4: contracts of functions. No condition beyond what each states. -/
import Derived.Test.YtmmafcjjlbgnkaaGreatDoorZBiE3
namespace Go.Proofs.YtmmafcjjlbgnkaaGreatDoor
open Go.RowKit
set_option linter.all false
set_option maxHeartbeats 32000000
noncomputable section
section
variable {P:Program} {Γ:Ctx} {imm:Md} {ops:Array Oper} {io:IoS} {w0:World} {N:Nat} {g:Gh} {s s':AS} {a:Act} {w w':World} {o:Oper}
def IoS.keep (io:IoS) (R:Nat):IoS:={io with hole:=fun o=>io.hole o∨o=R}
def Gh.keep (g:Gh):Gh:={g with nx:=g.nx+1,hole:=fun o=>g.hole o∨o=g.nx}
def Gh.fill (g:Gh) (R b k:Nat):Gh:={g with β:=upd g.β R b,κ:=upd g.κ R k,hole:=fun o=>g.hole o∧o≠R}
theorem Gh.aa2 (g:Gh):g.le g.keep:=
 ⟨fun _ _ h=>h,fun o h=>⟨Nat.lt_succ_of_lt h.1,fun q=>q.elim h.2 fun e=>by have:=h.1;omega⟩,fun _ _=>rfl,fun _ _=>rfl⟩
theorem Rel.keep (h:Rel io w0 N g s a w):Rel (io.keep s.nx) w0 N g.keep {s with nx:=s.nx+1} a w:=
 ⟨h.nt,h.df,fun t=>(h.tm t).mono g.aa2 fun _ _ _=>rfl,fun o c ho=>by obtain⟨k1,k2,k3,k4⟩:=h.ob o c ho;exact⟨g.aa2.D o k1,k2,k3,k4.mono g.aa2 k1 (fun _ _ _=>rfl) rfl⟩,
   h.inj,congrArg (· +1) h.nx,h.lt,h.new,h.fr,h.old,⟨fun o ho=>g.aa2.D o (h.fix.1 o ho),h.fix.2⟩,
   fun o ho=>ho.elim (fun q=>⟨.inl (h.hl o q).1,Nat.lt_succ_of_lt (h.hl o q).2⟩) fun e=>⟨.inr (e.trans h.nx.symm),by subst e;rw[←h.nx];exact Nat.lt_succ_self _⟩,h.tab⟩
theorem Rel.ami {R:Nat} (h:Rel (io.keep R) w0 N g s a w):s.ob R=none∧R<s.nx:=by
 have h1:=h.hl R (.inr rfl);refine⟨?_,h.nx▸h1.2⟩;cases hq:s.ob R with
 |none=>rfl
 |some c=>exact absurd h1.1 (h.ob R c hq).1.2
theorem Gh.ayn {R:Nat} (hR:g.hole R) (b k:Nat):g.le (g.fill R b k):=
 ⟨fun _ _ h=>h,fun o h=>⟨h.1,fun q=>h.2 q.1⟩,fun o ho=>l8 fun e=>ho.2 (e▸hR),fun o ho=>l8 fun e=>ho.2 (e▸hR)⟩
theorem Rel.fill {R:Nat} (h:Rel (io.keep R) w0 N g s a w) (hio:∀b,io b→b<w0.heap.size) (hRio:¬io.hole R) {arr:Array Value} {T sz:Nat} {es:List PV} (hb:Below w.heap.size w w') (hn:w'.heap[w.heap.size]?=some (.cells arr T (0,0)))
 (hes:Lays g w arr sz es) (hlen:es.length*sz≤arr.size):
 Rel io w0 N (g.fill R w.heap.size arr.size) {s with ob:=upd s.ob R (some (T,sz,es))} a w':=by
 have hw:∀k b,g.I k b→w'.heap[b]?=w.heap[b]?:=fun k b hi=>hb.block b (h.lt k b hi);have hR:=h.hl R (.inr rfl);have hle:=Gh.ayn hR.1 w.heap.size arr.size;have hβn:(g.fill R w.heap.size arr.size).β R=w.heap.size:=upd_same _ _ _;have hκn:(g.fill R w.heap.size arr.size).κ R=arr.size:=upd_same _ _ _;have hDn:(g.fill R w.heap.size arr.size).D R:=⟨hR.2,fun q=>q.2 rfl⟩;have hold:∀o c,s.ob o=some c→g.D o∧g.β o<w.heap.size:=fun o c ho=>by obtain⟨h1,_,_,h4⟩:=h.ob o c ho;obtain⟨arr',ha,_⟩:=h4.1;exact⟨h1,lt_of_heap ha⟩
 refine⟨h.nt,h.df,fun t=>(h.tm t).mono hle hw,fun o c ho=>?_,fun o o' ho ho' he=>?_,h.nx,fun k b hi=>Nat.lt_of_lt_of_le (h.lt k b hi) hb.size,h.new,h.fr.below hb,h.old,⟨fun o ho=>hle.D o (h.fix.1 o ho),fun o ho=>?_⟩,fun o ho=>?_,h.tab⟩
 ·dsimp only at ho
  unfold upd at ho;split at ho
  ·rename_i heq
   subst heq;cases ho;refine⟨hDn,.inl (by rw[hβn];exact h.fr.size),fun k hk=>?_,⟨arr,by rw[hβn];exact hn,hκn.symm⟩,by rw[hκn];exact hlen,?_⟩
   ·rw[hβn]at hk
    have:=h.lt k _ hk;omega
   ·rw[hβn]
    exact hes.aen hle hw hn
  ·obtain⟨h1,h2,h3,h4⟩:=h.ob o c ho
   have hlt:=(hold o c ho).2;have hβ:=hle.β o h1;refine⟨hle.D o h1,by rw[hβ];exact h2,by rw[hβ];exact h3,h4.mono hle h1 hw (hb.block _ hlt)⟩
 ·dsimp only at ho ho'
  have key:∀o,(upd s.ob R (some (T,sz,es)) o).isSome→o=R∨(s.ob o).isSome∧g.D o∧g.β o<w.heap.size:=fun o ho=>by
   unfold upd at ho;split at ho
   ·left;assumption
   ·obtain⟨c,hc⟩:=Option.isSome_iff_exists.1 ho
    exact .inr ⟨ho,hold o c hc⟩
  rcases key o ho with rfl|⟨k1,k2,k3⟩
  ·rcases key o' ho' with rfl|⟨k1',k2',k3'⟩
   ·rfl
   ·rw[hβn,hle.β o' k2']at he
    omega
  ·rcases key o' ho' with rfl|⟨k1',k2',k3'⟩
   ·rw[hβn,hle.β o k2]at he
    omega
   ·rw[hle.β o k2,hle.β o' k2']at he
    exact h.inj o o' k1 k1' he
 ·have hk:=h.fix.1 o ho
  rw[hle.β o hk,hle.κ o hk];exact h.fix.2 o ho
 ·have h1:=h.hl o (.inl ho)
  exact⟨⟨h1.1,fun e=>hRio (e▸ho)⟩,h1.2⟩
def AS.flt (s:AS) (R t d:Nat) (z:Value):AS:=({s with ob:=upd s.ob R (some (t,z.cells.size,[bn z]))}:AS).put (some d) (.own R z.cells.size 0 0)
theorem az8 {R t d i:Nat} {z:Value} (h:Rel (io.keep R) w0 N g s a w) (hio:∀b,io b→b<w0.heap.size) (hRio:¬io.hole R) (hi:ops[i]?=some o) (ho:o.op=.alloc t) (hd:o.dst=some d) (hdN:d<N) (hg:o.guard=none)
 (hz:zeroOf P t=some z) (h1:z.cells.all (·.oneCell')=true) {Q:Exit→Act→World→Prop} {K:Act→World→Prop}
 (hK:∀g' a' w',Rel io w0 N g' (s.flt R t d z) a' w'→K a' w'):wpOp P ops Q i K a w:=by
 have hr:(execOp a.eval o).run P w=.ok (.value (.pointer (some ⟨w.heap.size,0,none⟩))) (w.alloc (.cells z.cells t)):=by simp[execOp,ho,Instr.alloc,Sem.run_bind,l7 hz w,newVar,newRow]
 unfold wpOp;simp only[hi];have hw:Region.wanted o (yielded ops a.tmps)=true:=by simp[Region.wanted,hg]
 rw[hw];simp only[if_true];left;unfold Oper.wp;rw[hr,Oper.upon_value];have hrel:=Rel.fill (T:=t) h hio hRio (mH _ _) (heap_alloc_new _ _) (Lays.one (yH g w z) h1) (by simp);have hR:=h.hl R (.inr rfl);rw[hd];refine hK _ _ _ (hrel.put (fun x hx=>by cases hx;exact hdN) ?_);simp only[Rep,Gh.fill,upd_same];exact⟨by simp,hR.2,fun q=>q.2 rfl⟩
theorem ani {R t d:Nat} {z:Value} (hd:o.dst=some d):s.flt R t d z=s.app o (.own R z.cells.size 0 0,some (upd s.ob R (some (t,z.cells.size,[bn z])),s.nx)):=by unfold AS.flt AS.app;rw[hd]
theorem amu {R t d:Nat} {z:Value} {x:Oper} {r:PV×Option (bG×Nat)} (hd:o.dst=some d) (ha:d∉x.looksAt ops) (hR:s.ob R=none) (hlt:R<s.nx) (h:rF P Γ imm ops x s=some r):
 (∀q,r.2=some q→q.1 R=none∧R<q.2)∧rF P Γ imm ops x (s.flt R t d z)=some (r.1,r.2.map fun q=>(upd q.1 R (some (t,z.cells.size,[bn z])),q.2)):=by
 have hl:∀e,o.dst=some e→e∉x.looksAt ops:=fun e he=>by rw[hd]at he;cases he;exact ha
 have hlook:=vQ (s:=s) (x:=o) (y:=x) (r:=(.own R z.cells.size 0 0,some (upd s.ob R (some (t,z.cells.size,[bn z])),s.nx))) hl;rw[←ani hd]at hlook;have hguard:=acD (ops:=ops) (s:=s) (x:=o) (y:=x) (r:=(.own R z.cells.size 0 0,some (upd s.ob R (some (t,z.cells.size,[bn z])),s.nx))) hl;rw[←ani hd]at hguard;have hob:(s.flt R t d z).ob=upd s.ob R (some (t,z.cells.size,[bn z])):=rfl;have hnx:(s.flt R t d z).nx=s.nx:=rfl;unfold rF at h⊢;rw[hguard];cases hg:gP ops s x with
 |none=>rw[hg]at h;cases h
 |some b=>
  rw[hg]at h;cases b with
  |false=>dsimp only at h⊢;cases h;exact⟨fun q hq=>(by cases hq),rfl⟩
  |true=>
   dsimp only at h⊢;cases hx:eZ Γ imm x with
   |true=>
    rw[hx]at h;simp only[if_true]at h⊢;rw[Option.map_eq_some_iff]at h;obtain⟨r0,h0,rfl⟩:=h;split at h0
    case isFalse=>cases h0
    case isTrue hok=>
    obtain⟨k1,k2,k3⟩:=aiC (c:=(t,z.cells.size,[bn z])) hR hlt h0;have e1:bf P Γ (s.flt R t d z) (look (s.flt R t d z).tm) x.op=bf P Γ (s.flt R t d z) (look s.tm) x.op:=xM x.op hlook;have e2:bf P Γ (s.flt R t d z) (look s.tm) x.op=bf P Γ {s with ob:=upd s.ob R (some (t,z.cells.size,[bn z]))} (look s.tm) x.op:=by unfold bf;rw[hob,hnx]
    have e3:mY Γ imm (s.flt R t d z).nx (look (s.flt R t d z).tm) x.op=mY Γ imm s.nx (look s.tm) x.op:=by unfold mY;rw[hnx,vZ x.op hlook]
    rw[e1,e2,e3,if_pos hok,k3];refine⟨fun q hq=>?_,rfl⟩;cases hq;exact⟨k1,Nat.lt_of_lt_of_le hlt k2⟩
   |false=>
    rw[hx]at h;simp only[Bool.false_eq_true,if_false]at h⊢;rw[Option.map_eq_some_iff]at h;obtain⟨p,h0,rfl⟩:=h;have e1:aZ P Γ (obq imm x (s.flt R t d z).ob) (look (s.flt R t d z).tm) x.type x.op=aZ P Γ (obq imm x (s.flt R t d z).ob) (look s.tm) x.type x.op:=yh x.op hlook;have H:=aaF (c:=(t,z.cells.size,[bn z])) hR;have e2:=aiV (ob':=obq imm x (s.flt R t d z).ob) (fun o c ho=>by
     rw[hob];unfold obq at ho⊢;split at ho
     ·cases ho
     ·split at ho
      ·rename_i h1 h2
       rw[if_neg h1,if_pos h2];unfold yY at ho⊢;split at ho
       ·rename_i h3
        rw[if_pos h3];exact H o c ho
       ·cases ho
      ·rename_i h1 h2
       rw[if_neg h1,if_neg h2];exact H o c ho) h0
    rw[e1,e2];exact⟨fun q hq=>(by cases hq),rfl⟩
theorem asv {R t d:Nat} {z:Value} {x:Oper} {s1:AS} (hd:o.dst=some d) (ha:d∉x.looksAt ops) (hne:x.dst≠some d) (hR:s.ob R=none) (hlt:R<s.nx) (h:pY P Γ imm ops x s=some s1):
 s1.ob R=none∧R<s1.nx∧pY P Γ imm ops x (s.flt R t d z)=some (s1.flt R t d z):=by
 rw[qK,Option.map_eq_some_iff]at h;obtain⟨r,h0,rfl⟩:=h;obtain⟨k1,k2⟩:=amu (z:=z) (t:=t) hd ha hR hlt h0;rw[qK,k2];cases hr:r.2 with
 |none=>
  have e:s.app x r=s.put x.dst r.1:=by unfold AS.app;rw[hr]
  rw[e];refine⟨by rw[qz.1];exact hR,by rw[qz.2];exact hlt,?_⟩;simp only[Option.map_none,Option.map_some,Option.some.injEq,AS.app];unfold AS.flt;rw[put_comm (s:=({s with ob:=upd s.ob R (some (t,z.cells.size,[bn z]))}:AS)) (d:=some d) (e:=x.dst) (fun y hy=>by cases hy;exact hne)];cases x.dst<;>rfl
 |some q=>
  obtain⟨m1,m2⟩:=k1 q hr;have e:s.app x r=({s with ob:=q.1,nx:=q.2}:AS).put x.dst r.1:=by unfold AS.app;rw[hr]
  rw[e];refine⟨by rw[qz.1];exact m1,by rw[qz.2];exact m2,?_⟩;simp only[Option.map_some,Option.some.injEq,AS.app];unfold AS.flt;have:=put_comm (s:=({s with ob:=upd q.1 R (some (t,z.cells.size,[bn z])),nx:=q.2}:AS)) (d:=some d) (e:=x.dst) (u:=.own R z.cells.size 0 0) (v:=r.1) (fun y hy=>by cases hy;exact hne);cases hxd:x.dst with
  |none=>rfl
  |some e=>rw[hxd]at this;exact this
theorem afd {R t d:Nat} {z:Value} (hd:o.dst=some d) (hR:s.ob R=none) (hlt:R<s.nx):∀(p:List Nat) {s s1:AS},(∀i∈p,∀x,ops[i]?=some x→d∉x.looksAt ops∧x.dst≠some d)→s.ob R=none→R<s.nx→evL P Γ imm ops p s=some s1→
 evL P Γ imm ops p (s.flt R t d z)=some (s1.flt R t d z)
 |[],s,s1,hp,h1,h2,h=>by cases h;rfl
 |i::p,s,s1,hp,h1,h2,h=>by
  rw[dh]at h⊢;cases hx:ops[i]? with
  |none=>simp only[hx]at h⊢;exact afd hd hR hlt p (fun j hj=>hp j (by simp[hj])) h1 h2 h
  |some x=>
   simp only[hx]at h⊢;cases hq:pY P Γ imm ops x s with
   |none=>simp[hq]at h
   |some s2=>simp only[hq]at h;obtain⟨m1,m2⟩:=hp i (by simp) x hx;obtain⟨k1,k2,k3⟩:=asv (z:=z) (t:=t) hd m1 m2 h1 h2 hq;rw[k3];exact afd hd hR hlt p (fun j hj=>hp j (by simp[hj])) k1 k2 h
theorem ayI {p q:List Nat} {s s1 s':AS} (h1:evL P Γ imm ops p s=some s1) (h2:evL P Γ imm ops q s1=some s'):evL P Γ imm ops (p++q) s=some s':=by
 induction p generalizing s with
 |nil=>cases h1;exact h2
 |cons i p ih=>
  rw[List.cons_append,dh];rw[dh]at h1;cases hx:ops[i]? with
  |none=>simp only[hx]at h1⊢;exact ih h1
  |some x=>
   simp only[hx]at h1⊢;cases hq:pY P Γ imm ops x s with
   |none=>simp[hq]at h1
   |some s2=>simp only[hq]at h1⊢;exact ih h1
def aug (ops:Array Oper) (i d:Nat):Bool:=match ops[i]? with
 |some x=> !((x.looksAt ops).contains d)&&decide (x.dst≠some d)
 |none=>true
def nI (Γ:Ctx) (imm:Md) (ops:Array Oper) (k d:Nat):Bool:=
 (List.range ops.size).all fun j=>
   ((List.range j).all fun i=>if j=k then aug ops i d else if i=k then tT ops ops.size i j else eU Γ imm ops i j||tT ops ops.size i j)&&
   (match ops[j]? with|some o=>o.after.all (fun e=> !Region.binds .any e||decide (e.on<j))|none=>true)
theorem aaX {k d:Nat} (hok:nI Γ imm ops k d=true):∀j,j<ops.size→
 (∀i,i<j→(j=k→∀x,ops[i]?=some x→d∉x.looksAt ops∧x.dst≠some d)∧(i=k→tT ops ops.size i j=true)∧(i≠k→j≠k→eU Γ imm ops i j=true∨tT ops ops.size i j=true))∧
 ∀o,ops[j]?=some o→∀e∈o.after,Region.binds .any e=true→e.on<j:=fun j hj=>by
 unfold nI at hok;rw[List.all_eq_true]at hok;have h:=hok j (by simpa using hj);simp only[Bool.and_eq_true,List.all_eq_true,List.mem_range]at h;refine⟨fun i hi=>?_,fun o ho e he hb=>?_⟩
 ·have h1:=h.1 i hi
  refine⟨fun hjk x hx=>?_,fun hik=>?_,fun hik hjk=>?_⟩
  ·rw[if_pos hjk]at h1
   unfold aug at h1;rw[hx]at h1;simp only[Bool.and_eq_true,Bool.not_eq_true',decide_eq_true_eq]at h1;exact⟨by simpa using h1.1,h1.2⟩
  ·rw[if_neg (by omega),if_pos hik]at h1
   exact h1
  ·rw[if_neg hjk,if_neg hik]at h1
   simpa using h1
 ·have h2:=h.2
  rw[ho]at h2;dsimp only at h2;have:=(Array.all_eq_true_iff_forall_mem.1 h2) e he;simpa [hb]using this
theorem adK {listed:Array Bool} {p q:List Nat} {i:Nat} {x:Oper} (h2:ops[i]?=some x) (h3:∀e∈x.after,Region.binds .any e=true→listed.getD e.on false=true) (hsz:listed.size=ops.size)
 (hrem:∀j,j∈p++i::q↔j<ops.size∧listed.getD j true=false) (hpw:(p++i::q).Pairwise (· < ·))
 (hcl:∀j o,ops[j]?=some o→listed.getD j true=true→∀e∈o.after,Region.binds .any e=true→listed.getD e.on false=true):
 (∀j,j∈p++q↔j<ops.size∧(listed.setIfInBounds i true).getD j true=false)∧(p++q).Pairwise (· < ·)∧
 (∀j o,ops[j]?=some o→(listed.setIfInBounds i true).getD j true=true→∀e∈o.after,Region.binds .any e=true→(listed.setIfInBounds i true).getD e.on false=true):=by
 have hilt:=(Array.getElem?_eq_some_iff.1 h2).1;refine⟨fun j=>?_,?_,?_⟩
 ·by_cases hji:j=i
  ·subst hji
   have hnp:j∉p++q:=by
    rw[List.pairwise_append]at hpw;intro hm;rcases List.mem_append.1 hm with hm|hm
    ·have:=hpw.2.2 j hm j (by simp)
     omega
    ·have:=(List.pairwise_cons.1 hpw.2.1).1 j hm
     omega
   constructor
   ·intro hm;exact absurd hm hnp
   ·rintro⟨_,hf⟩
    have hlt:j<listed.size:=by omega
    simp[hlt]at hf
  ·rw[getD_set_ne true (fun e=>hji e.symm),←hrem j]
   simp[hji]
 ·rw[List.pairwise_append]at hpw⊢
  exact⟨hpw.1,(List.pairwise_cons.1 hpw.2.1).2,fun x hx y hy=>hpw.2.2 x hx y (by simp[hy])⟩
 ·intro j o' ho' hl e he hb
  by_cases hji:j=i
  ·subst hji
   rw[h2]at ho';cases ho';exact getD_set_true (h3 e he hb)
  ·rw[getD_set_ne true (fun e=>hji e.symm)]at hl
   exact getD_set_true (hcl j o' ho' hl e he hb)
theorem awG {R k t d:Nat} {z:Value} (hΓ:fJ P Γ io.wr w0) (hio:∀b,io b→b<w0.heap.size) (hRio:¬io.hole R) (hd:ops.all (gV N)=true) (hok:nI Γ imm ops k d=true) (hk:ops[k]?=some o) (ho:o.op=.alloc t) (hdst:o.dst=some d) (hg:o.guard=none)
 (hz:zeroOf P t=some z) (h1:z.cells.all (·.oneCell')=true) {Q:Exit→Act→World→Prop} {s':AS} (hQ:∀g' a' w',Rel io w0 N g' s' a' w'→Q .normal a' w'):
 ∀(fuel:Nat) (listed:Array Bool) (p q:List Nat) (g:Gh) (s s1:AS) (a:Act) (w:World),(p++k::q).length≤fuel→listed.size=ops.size→(∀i,i∈p++k::q↔i<ops.size∧listed.getD i true=false)→(p++k::q).Pairwise (· < ·)→
  (∀j o,ops[j]?=some o→listed.getD j true=true→∀e∈o.after,Region.binds .any e=true→listed.getD e.on false=true)→
  Rel (io.keep R) w0 N g s a w→evL P Γ imm ops p s=some s1→evL P Γ imm ops q (s1.flt R t d z)=some s'→wpAny P .any ops Q fuel listed a w:=by
 have hfacts:=aaX hok;have hdN:d<N:=by have:=(Array.all_eq_true_iff_forall_mem.1 hd) o (Array.mem_of_getElem? hk);unfold gV at this;rw[hdst]at this;simpa using this
 intro fuel
 induction fuel with
 |zero=>intro listed p q g s s1 a w hlen;simp at hlen
 |succ fuel ih=>
  intro listed p q g s s1 a w hlen hsz hrem hpw hcl h he1 he2;refine⟨fun hr=>?_,fun i hi=>?_⟩
  ·exfalso
   have hne:p++k::q≠[]:=by simp
   obtain⟨i0,r0,hp0⟩:=List.exists_cons_of_ne_nil hne;obtain⟨hi1,hi2⟩:=(hrem i0).1 (by rw[hp0];simp);have:i0∈Region.ready .any ops listed:=by
    rw[mem_ready];refine⟨hi2,ops[i0],Array.getElem?_eq_getElem hi1,fun e he hb=>?_⟩;have hlt:=(hfacts i0 hi1).2 _ (Array.getElem?_eq_getElem hi1) e he hb;have hnot:¬e.on∈p++k::q:=by
     rw[hp0];rw[hp0]at hpw;intro hm;rcases List.mem_cons.1 hm with hm|hm
     ·omega
     ·have:=(List.pairwise_cons.1 hpw).1 _ hm
      omega
    rw[hrem]at hnot;have hlt':e.on<listed.size:=by omega
    have:listed.getD e.on true≠false:=fun h0=>hnot ⟨by omega,h0⟩;simp[hlt']at this⊢;exact this
   rw[hr]at this;cases this
  ·rw[mem_ready]at hi
   obtain⟨g1,x,g2,g3⟩:=hi;have hilt:=(Array.getElem?_eq_some_iff.1 g2).1;have hmem:=(hrem i).2 ⟨hilt,g1⟩;have hunl:∀y,y∈p++k::q→tT ops ops.size y i=true→False:=fun y hy hord=>by
    have hxl:=fG hcl _ _ _ hord (fun o' ho' e he hb=>by rw[g2]at ho';cases ho';exact g3 e he hb);have:=((hrem y).1 hy).2;have hlt:y<listed.size:=by have:=((hrem y).1 hy).1;omega
    simp[hlt]at this hxl;rw[this]at hxl;cases hxl
   have hpw0:=hpw;rw[List.pairwise_append]at hpw0;rcases List.mem_append.1 hmem with hip|hiq
   ·
    obtain⟨p1,p2,rfl⟩:=List.append_of_mem hip;have hik:i<k:=hpw0.2.2 i (by simp) k (by simp);have hp:∀y∈p1,eU Γ imm ops y i=true:=fun y hy=>by
     have hyi:y<i:=by have:=hpw0.1;rw[List.pairwise_append]at this;exact this.2.2 y hy i (by simp)
     rcases((hfacts i hilt).1 y hyi).2.2 (by omega) (by omega)with q1|q1
     ·exact q1
     ·exact(hunl y (by simp[hy]) q1).elim
    have hfr:=iV hp he1;rw[dh,g2]at hfr;dsimp only at hfr;split at hfr
    ·rename_i s2 hs2
     have hdo:gV N x=true:=(Array.all_eq_true_iff_forall_mem.1 hd) x (Array.mem_of_getElem? g2);have hrem':∀j,j∈p1++i::(p2++k::q)↔j<ops.size∧listed.getD j true=false:=fun j=>by rw[←hrem j];simp
     have hpw':(p1++i::(p2++k::q)).Pairwise (· < ·):=by simpa using hpw
     obtain⟨m1,m2,m3⟩:=adK g2 g3 hsz hrem' hpw' hcl;refine adk h hΓ hio hdo hs2 g2 fun g' a' w' hr=>ih _ (p1++p2) q g' s2 s1 a' w' (by simp at hlen⊢;omega) (by simpa using hsz) (fun j=>?_) ?_ m3 hr hfr he2
     ·rw[←m1 j];simp
     ·simpa using m2
    ·cases hfr
   ·rcases List.mem_cons.1 hiq with rfl|hiq
    ·
     rw[hk]at g2;cases g2;obtain⟨m1,m2,m3⟩:=adK hk g3 hsz hrem hpw hcl;obtain⟨n1,n2⟩:=h.ami;refine az8 h hio hRio hk ho hdst hdN hg hz h1 fun g' a' w' hr=>aoL hΓ hio hd (X:=fun j=>j≠i) (fun j hj=>⟨fun y hy hyk hjk=>((hfacts j hj).1 y hy).2.2 hyk hjk,(hfacts j hj).2⟩) hQ fuel _ (p++q) g' (s.flt R t d z) a' w' (by simp at hlen⊢;omega) (by simpa using hsz) m1 m2 (fun y hy=>?_) m3 hr
      (ayI (afd (z:=z) (t:=t) hdst n1 n2 p (fun y hy x hx=>((hfacts i hilt).1 y (hpw0.2.2 y hy i (by simp))).1 rfl x hx) n1 n2 he1) he2)
     rcases List.mem_append.1 hy with hy|hy
     ·have:=hpw0.2.2 y hy i (by simp)
      omega
     ·have:=(List.pairwise_cons.1 hpw0.2.1).1 y hy
      omega
    ·
     have hki:k<i:=(List.pairwise_cons.1 hpw0.2.1).1 i hiq;exact(hunl k (by simp) (((hfacts i hilt).1 k hki).2.1 rfl)).elim
theorem aaH:∀(n j:Nat) (s:AS),j+n≤ops.size→evL P Γ imm ops (List.range' j n) s=iJ P Γ imm ops ((ops.toList.drop j).take n) s
 |0,j,s,hj=>rfl
 |n+1,j,s,hj=>by
  have hlt:j<ops.size:=by omega
  have hk:ops[j]?=some ops[j]:=Array.getElem?_eq_getElem hlt;have hd:ops.toList.drop j=ops[j]::ops.toList.drop (j+1):=by rw[List.drop_eq_getElem_cons (by simpa using hlt)];rfl
  rw[hd,List.take_succ_cons];simp only[List.range'_succ,evL,hk,iJ];cases pY P Γ imm ops ops[j] s with
  |none=>rfl
  |some s'=>exact aaH n (j+1) s' (by omega)
theorem aqO {id k t d:Nat} {z:Value} {Q:Exit→Act→World→Prop} {s1:AS} (hm:P.follows .mixedOrders=true) (h:Rel io w0 N g s a w) (hRio:¬io.hole s.nx) (hΓ:fJ P Γ io.wr w0) (hio:∀b,io b→b<w0.heap.size) (hd:ops.all (gV N)=true)
 (hok:nI Γ imm ops k d=true) (hk:ops[k]?=some o) (ho:o.op=.alloc t) (hdst:o.dst=some d) (hg:o.guard=none) (hz:zeroOf P t=some z) (h1:z.cells.all (·.oneCell')=true)
 (he1:iJ P Γ imm ops (ops.toList.take k) {s with nx:=s.nx+1}=some s1) (he2:iJ P Γ imm ops (ops.toList.drop (k+1)) (s1.flt s.nx t d z)=some s') (hQ:∀g' a' w',Rel io w0 N g' s' a' w'→Q .normal a' w'):(Code.region id ops true).wp P Q a w:=by
 refine wp_region_any hm ?_;have hdrew:Rel io w0 N g s a {w with drawn:=w.drawn+1}:=⟨h.nt,h.df,fun t=>Rep.mono (w:=w) (w':={w with drawn:=w.drawn+1}) (g:=g) (g':=g) (Gh.le_refl g) (fun _ _ _=>rfl) _ _ (h.tm t),fun o c ho=>by obtain⟨k1,k2,k3,k4⟩:=h.ob o c ho;exact⟨k1,k2,k3,pX.mono (w:=w) (w':={w with drawn:=w.drawn+1}) (g:=g) (g':=g) k4 (Gh.le_refl g) k1 (fun _ _ _=>rfl) rfl⟩,h.inj,h.nx,h.lt,h.new,⟨h.fr.os,h.fr.tape,h.fr.output,h.fr.size,h.fr.block⟩,h.old,h.fix,h.hl,h.tab⟩
 have hkl:=(Array.getElem?_eq_some_iff.1 hk).1;have hrange:List.range ops.size=List.range' 0 k++k::List.range' (k+1) (ops.size-(k+1)):=by rw[List.range_eq_range',show ops.size=k+(1+(ops.size-(k+1))) by omega,←List.range'_append_1];congr 1;rw[Nat.zero_add,Nat.add_comm 1,List.range'_succ];congr 2;omega
 have hall:∀i,i∈List.range' 0 k++k::List.range' (k+1) (ops.size-(k+1))↔i<ops.size:=fun i=>by rw[←hrange,List.mem_range]
 refine awG hΓ hio hRio hd hok hk ho hdst hg hz h1 hQ ops.size _ (List.range' 0 k) (List.range' (k+1) (ops.size-(k+1))) g.keep {s with nx:=s.nx+1} s1 a _ (by simp;omega) (by simp) (fun i=>?_) (by rw[←hrange];exact List.pairwise_lt_range) (fun j o ho hl=>?_) hdrew.keep ?_ ?_
 ·rw[hall]
  constructor
  ·intro hi;exact⟨hi,by simp[hi]⟩
  ·exact fun hi=>hi.1
 ·have hlt:=(Array.getElem?_eq_some_iff.1 ho).1
  simp[hlt]at hl
 ·rw[aaH k 0 _ (by omega)]
  exact he1
 ·rw[aaH (ops.size-(k+1)) (k+1) _ (by omega),List.take_of_length_le (by simp)]
  exact he2
end
inductive X where
 |normal
 |exit (id:Nat)
 |ret
 deriving DecidableEq
def X.uo:X→Exit
 | .normal=> .normal
 | .exit id=> .exit id
 | .ret=> .ret
def X.out (id:Nat):X→X
 | .exit id'=>if id'=id then .normal else .exit id'
 |x=>x
structure AS.forget (s s':AS):Prop where
 tm:∀t,s'.tm t=s.tm t∨s'.tm t=.dead
 ob:∀o,s'.ob o=s.ob o∨s'.ob o=none
 nx:s'.nx=s.nx
inductive Ev (P:Program) (Γ:Ctx) (N:Nat):Code→AS→X→AS→Prop
 |skip (s:AS):Ev P Γ N .skip s .normal s
 |region {id:Nat} {ops:Array Oper} {s s':AS} (imm:Md) (hd:ops.all (gV N)=true) (he:iJ P Γ imm ops ops.toList s=some s'):Ev P Γ N (.region id ops false) s .normal s'
 |draw {id:Nat} {ops:Array Oper} {s s':AS} (imm:Md) (hm:P.follows .mixedOrders=true) (hd:ops.all (gV N)=true) (hok:qY Γ imm ops=true) (he:iJ P Γ imm ops ops.toList s=some s'):Ev P Γ N (.region id ops true) s .normal s'
 |drawF {id:Nat} {ops:Array Oper} {s s1 s':AS} {k t d:Nat} {z:Value} {o:Oper} (imm:Md) (hm:P.follows .mixedOrders=true) (hd:ops.all (gV N)=true) (hok:nI Γ imm ops k d=true) (hk:ops[k]?=some o) (ho:o.op=.alloc t) (hdst:o.dst=some d) (hg:o.guard=none)
   (hz:zeroOf P t=some z) (h1:z.cells.all (·.oneCell')=true) (he1:iJ P Γ imm ops (ops.toList.take k) {s with nx:=s.nx+1}=some s1) (he2:iJ P Γ imm ops (ops.toList.drop (k+1)) (s1.flt s.nx t d z)=some s'):Ev P Γ N (.region id ops true) s .normal s'
 |seq {x y:Code} {s s1 s2:AS} {e:X} (h1:Ev P Γ N x s .normal s1) (h2:Ev P Γ N y s1 e s2):Ev P Γ N (.seq x y) s e s2
 |seqX {x y:Code} {s s1:AS} {e:X} (h1:Ev P Γ N x s e s1) (he:e≠ .normal):Ev P Γ N (.seq x y) s e s1
 |cond {c:Operand} {x y:Code} {s s1:AS} {e:X} {b:Bool} (hc:look s.tm c=.val (.bool b)) (h:Ev P Γ N (if b then x else y) s e s1):Ev P Γ N (.cond c x y) s e s1
 |block {id:Nat} {x:Code} {s s1:AS} {e:X} (h:Ev P Γ N x s e s1):Ev P Γ N (.block id x) s (e.out id) s1
 |loop {x:Code} {s s1 s2:AS} {e:X} (h1:Ev P Γ N x s .normal s1) (h2:Ev P Γ N (.loop x) s1 e s2):Ev P Γ N (.loop x) s e s2
 |loopX {x:Code} {s s1:AS} {e:X} (h:Ev P Γ N x s e s1) (he:e≠ .normal):Ev P Γ N (.loop x) s e s1
 |exit (id:Nat) (s:AS):Ev P Γ N (.exit id) s (.exit id) s
 |ret (s:AS):Ev P Γ N .ret s .ret s
 |forget {x:Code} {s s1 s2:AS} {e:X} (hf:s.forget s1) (h:Ev P Γ N x s1 e s2):Ev P Γ N x s e s2
section
variable {P:Program} {Γ:Ctx} {io:IoS} {w0:World} {N:Nat} {g:Gh} {s s':AS} {a:Act} {w w':World}
theorem Rel.forget (h:Rel io w0 N g s a w) (hf:s.forget s'):Rel io w0 N g s' a w:=by
 have key:∀o c,s'.ob o=some c→s.ob o=some c:=fun o c ho=>by
  rcases hf.ob o with h1|h1
  ·rw[←h1];exact ho
  ·rw[h1]at ho;cases ho
 have keyS:∀o,(s'.ob o).isSome→(s.ob o).isSome:=fun o ho=>by obtain⟨c,hc⟩:=Option.isSome_iff_exists.1 ho;rw[key o c hc];rfl
 refine⟨h.nt,h.df,fun t=>?_,fun o c ho=>h.ob o c (key o c ho),fun o o' ho ho' he=>h.inj o o' (keyS o ho) (keyS o' ho') he,by rw[hf.nx];exact h.nx,h.lt,h.new,h.fr,h.old,h.fix,h.hl,h.tab⟩;rcases hf.tm t with h1|h1
 ·rw[h1];exact h.tm t
 ·rw[h1];simp[Rep]
def lu (P:Program) (c:Code) (Q:Exit→Act→World→Prop) (a:Act) (w:World):Prop:=
 ∀(b:Frame) (k:List Item) (cs:List Frame),∃e a' w',Q e a' w'∧Arrives P (lone (b.at a (.code c:: .inLoop c::k)) cs w) b k cs e a' w'
theorem lu.wp {c:Code} {Q:Exit→Act→World→Prop} (h:lu P c Q a w):(Code.loop c).wp P Q a w:=fun b k cs=>by obtain⟨e,a',w',hq,harr⟩:=h b k cs;exact⟨e,a',w',hq,.of_steps (.one step_loop) harr⟩
theorem lu.step {c:Code} {Q:Exit→Act→World→Prop} (h:c.wp P (Exit.then (fun a' w'=>lu P c Q a' w') Q) a w):lu P c Q a w:=fun b k cs=>by
 obtain⟨e,a₁,w₁,hq,harr⟩:=h b (.inLoop c::k) cs;cases e with
 |normal=>obtain⟨e₂,a₂,w₂,hq₂,harr₂⟩:=hq b k cs;exact⟨e₂,a₂,w₂,hq₂,.of_steps (Steps.trans harr (.one step_inLoop)) harr₂⟩
 |exit id=>exact⟨_,a₁,w₁,hq,.pass (x:=.inLoop c) rfl (fun _ _=> .inl (by simp)) harr⟩
 |goto l=>exact⟨_,a₁,w₁,hq,.pass (x:=.inLoop c) rfl (fun _ _=> .inl (by simp)) harr⟩
 |ret=>exact⟨_,a₁,w₁,hq,.pass (x:=.inLoop c) rfl (fun _ _=> .inl (by simp)) harr⟩
 |panic ch=>exact⟨_,a₁,w₁,hq,.pass (x:=.inLoop c) rfl (fun _ _=> .inl (by simp)) harr⟩
 |outgrown=>exact⟨_,a₁,w₁,hq,.pass (x:=.inLoop c) rfl (fun _ _=> .inl (by simp)) harr⟩
def CWp (P:Program) (c:Code) (Q:Exit→Act→World→Prop) (a:Act) (w:World):Prop:=
 match c with
 | .loop x=>lu P x Q a w
 |c=>c.wp P Q a w
theorem CWp.wp {c:Code} {Q:Exit→Act→World→Prop} (h:CWp P c Q a w):c.wp P Q a w:=by
 cases c with
 |loop x=>exact lu.wp h
 |_=>exact h
theorem Ev.cwp (hΓ:fJ P Γ io.wr w0) (hio:∀b,io b→b<w0.heap.size) {c:Code} {s:AS} {x:X} {s':AS} (h:Ev P Γ N c s x s'):∀(g:Gh) (a:Act) (w:World) (Q:Exit→Act→World→Prop),Rel io w0 N g s a w→
 (∀g' a' w',Rel io w0 N g' s' a' w'→Q x.uo a' w')→CWp P c Q a w:=by
 induction h with
 |skip s=>exact fun g a w Q hr hq=>wp_skip (hq g a w hr)
 |region imm hd he=>exact fun g a w Q hr hq=>aoE hr hΓ hio hd he hq
 |draw imm hm hd hok he=>exact fun g a w Q hr hq=>avP hm hr hΓ hio hd hok he hq
 |drawF imm hm hd hok hk ho hdst hg hz h1 he1 he2=>exact fun g a w Q hr hq=>aqO hm hr (fun q=>by have:=(hr.hl _ q).2;have:=hr.nx;omega) hΓ hio hd hok hk ho hdst hg hz h1 he1 he2 hq
 |seq h1 h2 ih1 ih2=>exact fun g a w Q hr hq=>wp_seq (CWp.wp (ih1 g a w _ hr fun g' a' w' hr'=>(ih2 g' a' w' Q hr' hq).wp))
 |seqX h1 he ih=>
  rename_i e;exact fun g a w Q hr hq=>wp_seq (CWp.wp (ih g a w _ hr fun g' a' w' hr'=>by
   cases e with
   |normal=>exact absurd rfl he
   |exit id=>exact hq g' a' w' hr'
   |ret=>exact hq g' a' w' hr'))
 |cond hc h ih=>exact fun g a w Q hr hq=>wp_cond (by have:=hr.look _|>fun q=>(by rw[hc]at q;simpa [Rep]using q);exact this) (ih g a w Q hr hq).wp
 |block h ih=>
  rename_i id _ _ _ e;exact fun g a w Q hr hq=>wp_block (CWp.wp (ih g a w _ hr fun g' a' w' hr'=>by
   have:=hq g' a' w' hr';cases e with
   |normal=>exact this
   |ret=>exact this
   |exit id'=>
    simp only[X.uo,Exit.inBlock,X.out]at this⊢;split
    ·rename_i hid;simpa [hid]using this
    ·rename_i hid;simpa [hid]using this))
 |loop h1 h2 ih1 ih2=>exact fun g a w Q hr hq=>lu.step (CWp.wp (ih1 g a w _ hr fun g' a' w' hr'=>ih2 g' a' w' Q hr' hq))
 |loopX h he ih=>
  rename_i e;exact fun g a w Q hr hq=>lu.step (CWp.wp (ih g a w _ hr fun g' a' w' hr'=>by
   cases e with
   |normal=>exact absurd rfl he
   |exit id=>exact hq g' a' w' hr'
   |ret=>exact hq g' a' w' hr'))
 |exit id s=>exact fun g a w Q hr hq=>wp_exit (hq g a w hr)
 |ret s=>exact fun g a w Q hr hq=>wp_ret (hq g a w hr)
 |forget hf h ih=>exact fun g a w Q hr hq=>ih g a w Q (hr.forget hf) hq
def fU (P:Program) (s:AS):List ResultVar→Option (List PV)
 |[]=>some []
 | .tmp t::l=>(fU P s l).map (s.tm t:: ·)
 | .cell t ty::l=>match s.tm t with
   | .own o sz i f=>match s.ob o with
     |some (_,sz',es)=>if sz=sz' then
       match(es[i]?).bind (adT P ty f),fU P s l with
       |some p,some ps=>some (p::ps)
       |_,_=>none
      else none
     |none=>none
   |_=>none
def gM:List PV→PV
 |[p]=>p
 |ps=> .tup ps
def bX (ps:List PV):AS:={tm:=fun t=>(ps[t]?).getD (.val undef),ob:=fun _=>none,nx:=0}
def azd (tmps:Array Value):ResultVar→Sem Value
 | .tmp t=>pure (tmps.getD t undef)
 | .cell a t=>do loadVar t (←asAddr (tmps.getD a undef))
theorem aj0 (fn:Func) (tmps:Array Value):results fn tmps=(do let vs←fn.results.mapM (azd tmps);pure (if h:vs.size=1 then vs[0]else .tuple vs)):=by unfold results;congr 1
theorem zk {t b c:Nat} {v:Value} (h:(Instr.loadAt t (.pointer (some ⟨b,c,none⟩))).run P w=.ok v w):(loadVar t ⟨b,c,none⟩).run P w=.ok v w:=by simpa [Instr.loadAt,Instr.sureAddr]using h
theorem akh (h:Rel io w0 N g s a w):∀(l:List ResultVar) {ps:List PV},fU P s l=some ps→
 ∃vs:List Value,(l.mapM (azd a.tmps)).run P w=.ok vs w∧bL g w ps vs
 |[],ps,hr=>by simp only[fU,Option.some.injEq]at hr;subst hr;exact⟨[],by simp,by simp[bL]⟩
 | .tmp t::l,ps,hr=>by
   simp only[fU,Option.map_eq_some_iff]at hr;obtain⟨qs,h1,rfl⟩:=hr;obtain⟨vs,h2,h3⟩:=akh h l h1;refine⟨a.tmps.getD t undef::vs,?_,?_⟩
   ·rw[List.mapM_cons,Sem.run_bind]
    simp only[azd,Sem.run_pure,Result.andThen_ok,Sem.run_bind];change((l.mapM (azd a.tmps)).run P w).andThen _=_;rw[h2];rfl
   ·simp only[bL]
    exact⟨_,_,rfl,h.tm t,h3⟩
 | .cell t ty::l,ps,hr=>by
   simp only[fU]at hr;split at hr
   ·rename_i o sz i f ht
    split at hr
    ·rename_i T sz' es ho
     split at hr
     case isFalse=>cases hr
     case isTrue hs=>
      subst hs;split at hr
      ·rename_i p qs h1 h2
       cases hr;obtain⟨vs,h3,h4⟩:=akh h l h2;rw[Option.bind_eq_some_iff]at h1;obtain⟨e,he,hsub⟩:=h1;have hT:=h.tm t;rw[ht]at hT;simp only[Rep]at hT;obtain⟨hT,_⟩:=hT;obtain⟨u,k1,k2,k3⟩:=(h.ob o _ ho).2.2.2.2.2.get he;dsimp only at k2;obtain⟨v,k4,k5⟩:=iO k1 k2 hsub;rw[Nat.zero_add]at k4;have k6:=zk k4;refine⟨v::vs,?_,?_⟩
       ·have e1:(azd a.tmps (.cell t ty)).run P w=.ok v w:=by simp only[azd,hT,asAddr,Sem.run_bind,Sem.run_pure,Result.andThen_ok,k6]
        rw[List.mapM_cons,Sem.run_bind,e1,Result.andThen_ok,Sem.run_bind,h3];rfl
       ·simp only[bL]
        exact⟨_,_,rfl,k5,h4⟩
      ·cases hr
    ·cases hr
   ·cases hr
theorem gJ (h:Rel io w0 N g s a w) {fn:Func} {ps:List PV} (hr:fU P s fn.results.toList=some ps):∃v,(results fn a.tmps).run P w=.ok v w∧Rep g w (gM ps) v:=by
 obtain⟨vs,h1,h2⟩:=akh h _ hr;have hlen:=h2.get.1;refine⟨if h:vs.toArray.size=1 then vs.toArray[0]else .tuple vs.toArray,?_,?_⟩
 ·rw[aj0,Sem.run_bind,Array.mapM_eq_mapM_toList,Sem.run_map,h1]
  rfl
 ·cases ps with
  |nil=>have:vs=[]:=List.eq_nil_of_length_eq_zero (by simpa using hlen);subst this;simp only[gM,Rep];exact⟨#[],by simp,h2⟩
  |cons p qs=>
   cases qs with
   |nil=>simp only[bL]at h2;obtain⟨v,vs',rfl,h3,rfl⟩:=h2;simpa [gM]using h3
   |cons q qs=>
    have hl:¬vs.length=1:=by rw[hlen];simp
    simp only[gM,Rep];exact⟨vs.toArray,by simp[hl],by simpa using h2⟩
theorem wZ {f:Nat} {fn:Func} {c:Code} {φ:Fun} (hΓ:au P Γ) (hf:P.funcs[f]?=some fn) (hb:fn.body=some c)
 (hlen:∀ps r,φ ps=some r→ps.length≤fn.ntmps)
 (h:∀ps r,φ ps=some r→∃x s' qs,Ev P Γ fn.ntmps c (bX ps) x s'∧(x=.normal∨x=.ret)∧fU P s' fn.results.toList=some qs∧reify true 0 s'.ob fuel (gM qs)=some r):Sound P f φ:=by
 intro w J ps args r hr hJ hT hargs;obtain⟨x,s',qs,hev,hx,hres,hreify⟩:=h ps r hr;have hsz:args.size=ps.length:=by simpa using hargs.get.1
 have hle:=hlen ps r hr;have hinit:Rel ⟨fun _=>False,J,0,fun _=>0,fun _=>0,fun _=>False,fun _=>False⟩ w fn.ntmps (lG J) (bX ps) {tmps:=args++Array.replicate (fn.ntmps-args.size) undef,defers:=[]} w:=by
  refine⟨by simp;omega,rfl,fun t=>?_,fun o c ho=>(by cases ho),fun o o' ho=>(by cases ho),rfl,fun k b hi=>hJ b hi.2,fun b hi=>(by cases hi.1),Fr.refl _ _,fun b hi=>hi.2,⟨fun o ho=>(Nat.not_lt_zero o ho).elim,fun o ho=>(Nat.not_lt_zero o ho).elim⟩,fun o ho=>False.elim ho,hT⟩;simp only[bX];cases hp:ps[t]? with
  |none=>
   have hge:ps.length≤t:=by simpa using hp
   have:(args++Array.replicate (fn.ntmps-args.size) undef).getD t undef=undef:=by simp only[Array.getD_eq_getD_getElem?];rw[Array.getElem?_append_right (by omega)];simp only[Array.getElem?_replicate];split<;>rfl
   rw[this];simp[Rep]
  |some p=>
   obtain⟨v,hv,hrep⟩:=hargs.get.2 t p hp;have hlt:t<args.size:=by have:=(List.getElem?_eq_some_iff.1 hp).1;omega
   have:(args++Array.replicate (fn.ntmps-args.size) undef).getD t undef=v:=by
    simp only[Array.getD_eq_getD_getElem?];rw[Array.getElem?_append_left hlt];have:args[t]?=some v:=by simpa using hv
    simp[this]
   rw[this];exact hrep
 refine calls_of_wp hf hb (CWp.wp (hev.cwp hΓ.w (fun b hb=>False.elim hb) _ _ _ _ hinit fun g' a' w' hrel=>?_));have hend:a'.defers=[]∧∃v,(results fn a'.tmps).run P w'=.ok v w'∧((∃v',Ending.returned v=.returned v'∧Below w.heap.size w w'∧∀g'':Gh,(∀b,w.heap.size≤b→b<w'.heap.size→g''.I true b)→Rep g'' w' r v')):=by obtain⟨v,h1,h2⟩:=gJ hrel hres;refine⟨hrel.df,v,h1,v,rfl,⟨hrel.fr.os,hrel.fr.tape,hrel.fr.output,hrel.fr.size,fun b hb=>hrel.fr.block b hb id⟩,fun g'' hg=>?_⟩;refine Rep.seen (fun o c ho=>(hrel.ob o c ho).2.2.2) ⟨fun hh=>(by cases hh),fun _=>⟨fun b hb=>hg b ((hrel.new b hb).resolve_right id).1 (hrel.lt true b hb),fun o ho _=>?_⟩⟩ fuel _ _ _ h2 hreify;obtain⟨c,hc⟩:=Option.isSome_iff_exists.1 ho;obtain⟨_,k2,_,⟨arr,k3,_⟩,_⟩:=hrel.ob o c hc;exact hg _ (k2.resolve_right id) (lt_of_heap k3)
 rcases hx with rfl|rfl<;>exact hend
end
def anw (l:List Oper):Nat→Operand→Bool
 |0,_=>false
 |f+1,.tmp t=>match l.find? (fun o=>o.dst==some t)with
  |some o=>match o.op with
   | .buildSlice .. =>true
   | .indexAddr _ x _=>anw l f x
   | .fieldAddr _ x _=>anw l f x
   | .nilCheck x=>anw l f x
   | .slice _ x _ _ _=>anw l f x
   |_=>false
  |none=>false
 |_,_=>false
def aDa (l:List Oper) (d:Option Nat):Bool:=
 match d with
 |some d=>l.any fun o=>match o.op with
  | .call c=>match c.callee with
    | .builtin .append=>match c.args.toList with
      | .tmp t::_=>t==d
      |_=>false
    |_=>false
  |_=>false
 |none=>false
def aG0 (l:List Oper) (o:Oper):Bool:=
 match o.op with
 | .buildSlice .. => !(aDa l o.dst)
 | .load _ x=>anw l 8 x
 |_=>false
def aHb (draw:Bool) (ops:Array Oper):List Nat:=
 match draw with
 |false=>[]
 |true=>ops.toList.filterMap fun o=>if aG0 ops.toList o=true then o.dst else none
def aut (draw:Bool) (ops:Array Oper):Md:=⟨aHb draw ops,[],[]⟩
def evQ (P:Program) (Γ:Ctx) (imm:Md) (ops:Array Oper):List Oper→(AS→Prop)→AS→Prop
 |[],Q,s=>Q s
 |o::l,Q,s=>match gP ops s o with
  |some b=>(b=true→match atM P Γ imm s o with
    |some s'=>evQ P Γ imm ops l Q s'
    |none=>False)∧(b=false→evQ P Γ imm ops l Q (s.put o.dst (.val undef)))
  |none=>False
theorem oO {P:Program} {Γ:Ctx} {imm:Md} {ops:Array Oper} {Q:AS→Prop}:∀(l:List Oper) (s:AS),evQ P Γ imm ops l Q s→∃s',iJ P Γ imm ops l s=some s'∧Q s'
 |[],s,h=>⟨s,rfl,h⟩
 |o::l,s,h=>by
  simp only[evQ]at h;split at h
  ·rename_i b hb
   cases b with
   |true=>
    have h1:=h.1 rfl;split at h1
    ·rename_i s1 hs
     obtain⟨s',h2,h3⟩:=oO l s1 h1;exact⟨s',by simp only[iJ,pY,hb,hs,h2],h3⟩
    ·exact h1.elim
   |false=>obtain⟨s',h2,h3⟩:=oO l _ (h.2 rfl);exact⟨s',by simp only[iJ,pY,hb,h2],h3⟩
  ·exact h.elim
theorem qM {P:Program} {Γ:Ctx} {imm:Md} {ops:Array Oper} {Q Q':AS→Prop} (hq:∀s,Q s→Q' s):∀(l:List Oper) (s:AS),evQ P Γ imm ops l Q s→evQ P Γ imm ops l Q' s
 |[],s,h=>hq s h
 |o::l,s,h=>by
  simp only[evQ]at h⊢;split at h
  ·rename_i b hb
   refine⟨fun hb=>?_,fun hb=>qM hq l _ (h.2 hb)⟩;have h1:=h.1 hb;split at h1
   ·exact qM hq l _ h1
   ·exact h1.elim
  ·exact h.elim
def pw (P:Program) (Γ:Ctx) (N:Nat):Code→(X→AS→Prop)→AS→Prop
 | .skip,Q,s=>Q .normal s
 | .region _ ops draw,Q,s=>(∃m:Md,(draw=true→qY Γ m ops=true)∧evQ P Γ m ops ops.toList (Q .normal) s)∨
   (draw=true∧∃(m:Md) (k t d:Nat) (z:Value) (o:Oper),nI Γ m ops k d=true∧ops[k]?=some o∧o.op=.alloc t∧o.dst=some d∧o.guard=none∧zeroOf P t=some z∧z.cells.all (·.oneCell')=true∧
     evQ P Γ m ops (ops.toList.take k) (fun s1=>evQ P Γ m ops (ops.toList.drop (k+1)) (Q .normal) (s1.flt s.nx t d z)) {s with nx:=s.nx+1})
 | .seq a b,Q,s=>pw P Γ N a (fun x s'=>match x with
   | .normal=>pw P Γ N b Q s'
   | .exit id=>Q (.exit id) s'
   | .ret=>Q .ret s') s
 | .cond c x y,Q,s=>match look s.tm c with
   | .val (.bool b)=>(b=true→pw P Γ N x Q s)∧(b=false→pw P Γ N y Q s)
   |_=>False
 | .block id c,Q,s=>pw P Γ N c (fun x s'=>Q (x.out id) s') s
 | .loop c,Q,s=>∃x s',Ev P Γ N (.loop c) s x s'∧Q x s'
 | .exit id,Q,s=>Q (.exit id) s
 | .ret,Q,s=>Q .ret s
 |_,_,_=>False
def codeOk (Γ:Ctx) (mixed:Bool) (N:Nat):Code→Bool
 | .region _ ops draw=>ops.all (gV N)&&(!draw||mixed)
 | .seq a b=>codeOk Γ mixed N a&&codeOk Γ mixed N b
 | .cond _ a b=>codeOk Γ mixed N a&&codeOk Γ mixed N b
 | .block _ c=>codeOk Γ mixed N c
 | .loop c=>codeOk Γ mixed N c
 |_=>true
section
variable {P:Program} {Γ:Ctx} {N:Nat}
theorem ak0 {Q Q':X→AS→Prop} (hq:∀x s,Q x s→Q' x s):∀(c:Code) (s:AS),pw P Γ N c Q s→pw P Γ N c Q' s:=by
 intro c
 induction c generalizing Q Q' with
 |skip=>exact fun s h=>hq _ _ h
 |region id ops draw=>
  intro s h;simp only[pw]at h⊢;rcases h with⟨m,h1,h2⟩|⟨hd,m,k,t,d,z,o,k1,k2,k3,k4,k5,k6,k7,h2⟩
  ·exact .inl ⟨m,h1,qM (fun s=>hq _ s) _ _ h2⟩
  ·exact .inr ⟨hd,m,k,t,d,z,o,k1,k2,k3,k4,k5,k6,k7,qM (fun s1 h3=>qM (fun s=>hq _ s) _ _ h3) _ _ h2⟩
 |seq a b iha ihb=>
  intro s h;simp only[pw]at h⊢;refine iha (fun x s' hx=>?_) s h;cases x with
  |normal=>exact ihb hq s' hx
  |exit id=>exact hq _ _ hx
  |ret=>exact hq _ _ hx
 |cond c x y ihx ihy=>
  intro s h;simp only[pw]at h⊢;split at h
  ·exact⟨fun hb=>ihx hq s (h.1 hb),fun hb=>ihy hq s (h.2 hb)⟩
  ·exact h
 |block id c ih=>exact fun s h=>ih (fun x s' hx=>hq _ _ hx) s h
 |loop c ih=>rintro s ⟨x,s',h1,h2⟩;exact⟨x,s',h1,hq _ _ h2⟩
 |exit id=>exact fun s h=>hq _ _ h
 |ret=>exact fun s h=>hq _ _ h
 |_=>exact fun s h=>h
theorem adz {mixed:Bool} (hm:mixed=true→P.follows .mixedOrders=true):∀(c:Code) (Q:X→AS→Prop) (s:AS),codeOk Γ mixed N c=true→pw P Γ N c Q s→∃x s',Ev P Γ N c s x s'∧Q x s':=by
 intro c
 induction c with
 |skip=>exact fun Q s _ h=>⟨_,_,.skip s,h⟩
 |region id ops draw=>
  intro Q s hc h;simp only[pw]at h;simp only[codeOk,Bool.and_eq_true,Bool.or_eq_true]at hc;rcases h with⟨m,hdr,h⟩|⟨hd,m,k,t,d,z,o,k1,k2,k3,k4,k5,k6,k7,h⟩
  ·obtain⟨s',he,h'⟩:=oO _ _ h
   cases draw with
   |false=>exact⟨_,_,.region _ hc.1 he,h'⟩
   |true=>have h2:=hc.2.resolve_left (by simp);exact⟨_,_,.draw _ (hm h2) hc.1 (hdr rfl) he,h'⟩
  ·subst hd
   have h2:=hc.2.resolve_left (by simp);obtain⟨s1,he1,h3⟩:=oO _ _ h;obtain⟨s',he2,h'⟩:=oO _ _ h3;exact⟨_,_,.drawF _ (hm h2) hc.1 k1 k2 k3 k4 k5 k6 k7 he1 he2,h'⟩
 |seq a b iha ihb=>
  intro Q s hc h;simp only[pw]at h;simp only[codeOk,Bool.and_eq_true]at hc;obtain⟨x,s1,h1,h2⟩:=iha _ s hc.1 h;cases x with
  |normal=>obtain⟨x2,s2,h3,h4⟩:=ihb _ s1 hc.2 h2;exact⟨x2,s2,.seq h1 h3,h4⟩
  |exit id=>exact⟨_,s1,.seqX h1 (by simp),h2⟩
  |ret=>exact⟨_,s1,.seqX h1 (by simp),h2⟩
 |cond c x y ihx ihy=>
  intro Q s hc h;simp only[pw]at h;simp only[codeOk,Bool.and_eq_true]at hc;split at h
  ·rename_i b hb
   cases b with
   |true=>obtain⟨e,s',h1,h2⟩:=ihx _ s hc.1 (h.1 rfl);exact⟨e,s',.cond hb h1,h2⟩
   |false=>obtain⟨e,s',h1,h2⟩:=ihy _ s hc.2 (h.2 rfl);exact⟨e,s',.cond hb h1,h2⟩
  ·exact h.elim
 |block id c ih=>intro Q s hc h;obtain⟨e,s',h1,h2⟩:=ih _ s hc h;exact⟨_,s',.block h1,h2⟩
 |loop c ih=>exact fun Q s _ h=>h
 |exit id=>exact fun Q s _ h=>⟨_,_,.exit id s,h⟩
 |ret=>exact fun Q s _ h=>⟨_,_,.ret s,h⟩
 |_=>exact fun Q s _ h=>h.elim
theorem axG {mixed:Bool} (hm:mixed=true→P.follows .mixedOrders=true) {c:Code} {Q:X→AS→Prop} {α:Type} (S:α→AS) (I:α→Prop) (μ:α→Nat) {s:AS} (hc:codeOk Γ mixed N c=true) (i:α) (hi:I i) (hs:s.forget (S i))
 (h:∀i,I i→pw P Γ N c (fun x s'=>match x with
   | .normal=>∃j,I j∧μ j<μ i∧s'.forget (S j)
   | .exit id=>Q (.exit id) s'
   | .ret=>Q .ret s') (S i)):pw P Γ N (.loop c) Q s:=by
 have key:∀n i,μ i=n→I i→∃x s',Ev P Γ N (.loop c) (S i) x s'∧Q x s':=by
  intro n
  induction n using Nat.strongRecOn with
  |_ n ih=>
   intro i hn hi;obtain⟨x,s',h1,h2⟩:=adz hm c _ _ hc (h i hi);cases x with
   |normal=>obtain⟨j,hj,hlt,hf⟩:=h2;obtain⟨x2,s2,h3,h4⟩:=ih (μ j) (hn▸hlt) j rfl hj;exact⟨x2,s2,.loop h1 (.forget hf h3),h4⟩
   |exit id=>exact⟨_,s',.loopX h1 (by simp),h2⟩
   |ret=>exact⟨_,s',.loopX h1 (by simp),h2⟩
 obtain⟨x,s',h1,h2⟩:=key _ i rfl hi;exact⟨x,s',.forget hs h1,h2⟩
def mkS (l:List (Nat×PV)) (ob:List (Nat×Nat×Nat×List PV)) (nx:Nat):AS:=
 {tm:=fun t=>(l.lookup t).getD .dead,ob:=fun o=>ob.lookup o,nx:=nx}
theorem iR {s:AS} {l:List (Nat×PV)} {ob:List (Nat×Nat×Nat×List PV)} {nx:Nat} (h1:∀p∈l,s.tm p.1=p.2) (h2:∀p∈ob,s.ob p.1=some p.2) (h3:s.nx=nx):s.forget (mkS l ob nx):=by
 refine⟨fun t=>?_,fun o=>?_,h3.symm⟩
 ·cases hl:l.lookup t with
  |none=>right;simp[mkS,hl]
  |some p=>
   left;simp only[mkS,hl,Option.getD_some];have:=h1 (t,p) (by obtain⟨l1,l2,h⟩:=List.lookup_eq_some_iff.1 hl;rw[h.1];simp)
   exact this.symm
 ·cases hl:ob.lookup o with
  |none=>right;simp[mkS,hl]
  |some p=>
   left;simp only[mkS,hl];have:=h2 (o,p) (by obtain⟨l1,l2,h⟩:=List.lookup_eq_some_iff.1 hl;rw[h.1];simp)
   exact this.symm
theorem aem {mixed:Bool} (hm:mixed=true→P.follows .mixedOrders=true) {f:Nat} {fn:Func} {c:Code} {φ:Fun} (hΓ:au P Γ) (hf:P.funcs[f]?=some fn) (hb:fn.body=some c) (hc:codeOk Γ mixed fn.ntmps c=true)
 (h:∀ps r,φ ps=some r→ps.length≤fn.ntmps∧pw P Γ fn.ntmps c (fun x s'=>(x=.normal∨x=.ret)∧((fU P s' fn.results.toList).bind fun qs=>reify true 0 s'.ob fuel (gM qs))=some r) (bX ps)):Sound P f φ:=by
 refine wZ hΓ hf hb (fun ps r hr=>(h ps r hr).1) fun ps r hr=>?_;obtain⟨x,s',h1,h2,h3⟩:=adz hm c _ _ hc (h ps r hr).2;rw[Option.bind_eq_some_iff]at h3;obtain⟨qs,h4,h5⟩:=h3;exact⟨x,s',qs,h1,h2,h4,h5⟩
end
abbrev iv (n:Int):PV:=.val (.int .i64 n)
abbrev bv (b:Bool):PV:=.val (.bool b)
abbrev sv (s:ByteArray):PV:=.val (.string s)
theorem amv {α:Type} (f:Nat→α) (d:Nat) (v:α) (t:Nat):upd f d v t=if t=d then v else f t:=rfl
section
variable {P:Program} {t ty:Nat} {x y:Operand} {k:IntKind} {m n:Int}
theorem dD {n:Int} (h1:-9223372036854775808≤n) (h2:n≤9223372036854775807):IntKind.i64.wrap n=n:=IntWalk.i64_in _ ⟨h1,h2⟩
theorem aAF:aA P (do eqGuard .add t x y (.int k m) (.int k n);binOp .add t (.int k m) (.int k n))=some (.int k (k.wrap (m+n))):=by simp[eqGuard,binOp,Op.intArith,bind,Sem.bind,pure,aA]
theorem aEe:aA P (do eqGuard .sub t x y (.int k m) (.int k n);binOp .sub t (.int k m) (.int k n))=some (.int k (k.wrap (m-n))):=by simp[eqGuard,binOp,Op.intArith,bind,Sem.bind,pure,aA]
theorem azQ:aA P (do eqGuard .mul t x y (.int k m) (.int k n);binOp .mul t (.int k m) (.int k n))=some (.int k (k.wrap (m*n))):=by simp[eqGuard,binOp,Op.intArith,bind,Sem.bind,pure,aA]
theorem aCC (h:n≠0):aA P (do eqGuard .quo t x y (.int k m) (.int k n);binOp .quo t (.int k m) (.int k n))=some (.int k (k.wrap (m.tdiv n))):=by simp[eqGuard,binOp,Op.intDiv,bind,Sem.bind,pure,aA,h]
theorem aDD (h:n≠0):aA P (do eqGuard .rem t x y (.int k m) (.int k n);binOp .rem t (.int k m) (.int k n))=some (.int k (m.tmod n)):=by simp[eqGuard,binOp,Op.intDiv,bind,Sem.bind,pure,aA,h]
theorem aCi:aA P (do eqGuard .lss t x y (.int k m) (.int k n);binOp .lss t (.int k m) (.int k n))=some (.bool (decide (m<n))):=by simp[eqGuard,binOp,Op.intCmp,bind,Sem.bind,pure,aA]
theorem aD5:aA P (do eqGuard .leq t x y (.int k m) (.int k n);binOp .leq t (.int k m) (.int k n))=some (.bool (decide (m≤n))):=by simp[eqGuard,binOp,Op.intCmp,bind,Sem.bind,pure,aA]
theorem aCv:aA P (do eqGuard .gtr t x y (.int k m) (.int k n);binOp .gtr t (.int k m) (.int k n))=some (.bool (decide (n<m))):=by simp[eqGuard,binOp,Op.intCmp,bind,Sem.bind,pure,aA]
theorem aDb:aA P (do eqGuard .geq t x y (.int k m) (.int k n);binOp .geq t (.int k m) (.int k n))=some (.bool (decide (n≤m))):=by simp[eqGuard,binOp,Op.intCmp,bind,Sem.bind,pure,aA]
theorem aAr:aA P (do eqGuard .eql t x y (.int k m) (.int k n);binOp .eql t (.int k m) (.int k n))=some (.bool (decide (m=n))):=by simp[eqGuard,binOp,Op.intCmp,bind,Sem.bind,pure,aA];rfl
theorem aCK:aA P (do eqGuard .neq t x y (.int k m) (.int k n);binOp .neq t (.int k m) (.int k n))=some (.bool (!decide (m=n))):=by simp[eqGuard,binOp,Op.intCmp,bind,Sem.bind,pure,aA];rfl
theorem aBV {b:Bool}:aA P (Op.unary .not (.bool b))=some (.bool !b):=by simp[Op.unary,pure,aA]
theorem ayE {s:ByteArray} (h:P.underlying t=some .string):aA P (Builtin.len_ #[t] ty #[.string s])=some (.int .i64 s.size):=by simp[Builtin.len_,underlying,Go.program,bind,Sem.bind,pure,aA,h,goInt]
theorem aD8 {a:Array TypeId}:aA P (Builtin.max_ a ty #[.int k m,.int k n])=some (.int k (if n>m then n else m)):=by simp[Builtin.max_,Builtin.max2,bind,Sem.bind,pure,aA,List.foldlM]
theorem aA1 {a:Array TypeId}:aA P (Builtin.min_ a ty #[.int k m,.int k n])=some (.int k (if n<m then n else m)):=by simp[Builtin.min_,Builtin.min2,bind,Sem.bind,pure,aA,List.foldlM]
theorem awX {src dst:Nat} {d:TypeDesc} {k':IntKind} (h:P.underlying src=some d) (h':P.underlying dst=some (.int k')):aA P (convert src dst (.int k n))=some (.int k' (k'.wrap n)):=by simp[convert,underlying,Go.program,bind,Sem.bind,pure,aA,h,h',Conv.intToInt]
end
def gq (gs:List (Option Nat)) (tm:Nat→PV):Option (Nat×Bool)→Option Bool
 |none=>some true
 |some (j,want)=>match gs[j]? with
  |some (some d)=>(wB (tm d)).map fun b=>b==some want
  |_=>some false
theorem aE1 {ops:Array Oper} {s:AS} {o:Oper}:gP ops s o=gq (ops.toList.map (·.dst)) s.tm o.guard:=by
 unfold gP gq;cases o.guard with
 |none=>rfl
 |some jw=>
  obtain⟨j,want⟩:=jw;dsimp only
  rw[List.getElem?_map];cases h:ops[j]? with
  |none=>
   have:ops.toList[j]?=none:=by simpa using h
   rw[this];rfl
  |some oj=>
   have:ops.toList[j]?=some oj:=by simpa using h
   rw[this];dsimp only[Option.map_some];cases oj.dst<;>rfl
def wq (P:Program) (Γ:Ctx) (imm:Md) (gs:List (Option Nat)):List Oper→(AS→Prop)→(Nat→PV)→bG→Nat→Prop
 |[],Q,tm,ob,nx=>Q ⟨tm,ob,nx⟩
 |o::l,Q,tm,ob,nx=>match gq gs tm o.guard with
  |some b=>(b=true→match atM P Γ imm ⟨tm,ob,nx⟩ o with
    |some s'=>wq P Γ imm gs l Q s'.tm s'.ob s'.nx
    |none=>False)∧(b=false→wq P Γ imm gs l Q ((AS.mk tm ob nx).put o.dst (.val undef)).tm ob nx)
  |none=>False
def ajk (r:Option PV) (k:PV→Prop):Prop:=match r with|some p=>k p|none=>False
def aqm (r:Option (PV×bG×Nat)) (k:PV→bG→Nat→Prop):Prop:=match r with|some (p,ob,nx)=>k p ob nx|none=>False
def wO (r:Option Bool) (k j:Prop):Prop:=match r with|some b=>(b=true→k)∧(b=false→j)|none=>False
section
variable {P:Program} {Γ:Ctx} {imm:Md} {N:Nat} {gs:List (Option Nat)} {l:List Oper} {Q:AS→Prop} {tm:Nat→PV} {ob:bG} {nx:Nat}
theorem mg {ops:Array Oper}:∀(l:List Oper) (tm:Nat→PV) (ob:bG) (nx:Nat),evQ P Γ imm ops l Q ⟨tm,ob,nx⟩=wq P Γ imm (ops.toList.map (·.dst)) l Q tm ob nx
 |[],tm,ob,nx=>rfl
 |o::l,tm,ob,nx=>by
  simp only[wq,evQ,aE1];cases gq (ops.toList.map (·.dst)) tm o.guard with
  |none=>rfl
  |some b=>
   dsimp only
   congr 1
   ·congr 1
    cases atM P Γ imm ⟨tm,ob,nx⟩ o with
    |none=>rfl
    |some s'=>exact mg l s'.tm s'.ob s'.nx
   ·congr 1
    have e:(AS.mk tm ob nx).put o.dst (.val undef)=⟨((AS.mk tm ob nx).put o.dst (.val undef)).tm,ob,nx⟩:=by cases o.dst<;>rfl
    rw[e];exact mg l _ _ _
def kV (P:Program) (Γ:Ctx) (imm:Md) (gs:List (Option Nat)) (l:List Oper) (Q:AS→Prop) (tm:Nat→PV) (ob:bG) (nx:Nat) (d:Nat) (p:PV):Prop:=wq P Γ imm gs l Q (upd tm d p) ob nx
def kE (P:Program) (Γ:Ctx) (imm:Md) (gs:List (Option Nat)) (l:List Oper) (Q:AS→Prop) (tm:Nat→PV) (d:Option Nat) (p:PV) (ob:bG) (nx:Nat):Prop:=
 wq P Γ imm gs l Q (match d with|some d=>upd tm d p|none=>tm) ob nx
theorem o8 (d:Option Nat) (op:Op) (ty:Nat) (pos:String) (af:Array Edge) (g:Option (Nat×Bool)):
 wq P Γ imm gs ({dst:=d,op:=op,type:=ty,pos:=pos,after:=af,guard:=g}::l) Q tm ob nx=
  wO (gq gs tm g) (if eZ Γ imm {dst:=d,op:=op,type:=ty,pos:=pos,after:=af,guard:=g}then aqm (if mY Γ imm nx (look tm) op then bf P Γ ⟨tm,ob,nx⟩ (look tm) op else none) (kE P Γ imm gs l Q tm d)
   else ajk (aZ P Γ (obq imm {dst:=d,op:=op,type:=ty,pos:=pos,after:=af,guard:=g} ob) (look tm) ty op) (fun p=>wq P Γ imm gs l Q (match d with|some d=>upd tm d p|none=>tm) ob nx))
   (wq P Γ imm gs l Q (match d with|some d=>upd tm d (.val undef)|none=>tm) ob nx):=by
 simp only[wq,wO];cases gq gs tm g with
 |none=>rfl
 |some b=>
  dsimp only
  congr 1
  ·congr 1
   unfold atM;cases eZ Γ imm {dst:=d,op:=op,type:=ty,pos:=pos,after:=af,guard:=g}with
   |true=>
    simp only[if_true];cases h:(if mY Γ imm nx (look tm) op=true then bf P Γ ⟨tm,ob,nx⟩ (look tm) op else none)with
    |none=>simp[aqm]
    |some r=>cases d<;>simp[aqm,kE,AS.put]
   |false=>
    simp only[Bool.false_eq_true,if_false];cases h:aZ P Γ (obq imm {dst:=d,op:=op,type:=ty,pos:=pos,after:=af,guard:=g} ob) (look tm) ty op with
    |none=>simp[ajk]
    |some r=>cases d<;>simp[ajk,AS.put]
  ·cases d<;>rfl
theorem aHd (d:Nat) (op:Op) (ty:Nat) (pos:String) (af:Array Edge) (h:eZ Γ imm {dst:=some d,op:=op,type:=ty,pos:=pos,after:=af,guard:=none}=false) (hq:quiet imm {dst:=some d,op:=op,type:=ty,pos:=pos,after:=af,guard:=none}=false) (hp:ac1 imm {dst:=some d,op:=op,type:=ty,pos:=pos,after:=af,guard:=none}=false):
 wq P Γ imm gs ({dst:=some d,op:=op,type:=ty,pos:=pos,after:=af,guard:=none}::l) Q tm ob nx=ajk (aZ P Γ ob (look tm) ty op) (kV P Γ imm gs l Q tm ob nx d):=by
 rw[o8];simp[gq,wO,h,obq,hq,hp];rfl
theorem aEB (d:Nat) (op:Op) (ty:Nat) (pos:String) (af:Array Edge) (h:eZ Γ imm {dst:=some d,op:=op,type:=ty,pos:=pos,after:=af,guard:=none}=false) (hq:quiet imm {dst:=some d,op:=op,type:=ty,pos:=pos,after:=af,guard:=none}=true):
 wq P Γ imm gs ({dst:=some d,op:=op,type:=ty,pos:=pos,after:=af,guard:=none}::l) Q tm ob nx=ajk (aZ P Γ lY (look tm) ty op) (kV P Γ imm gs l Q tm ob nx d):=by
 rw[o8];simp[gq,wO,h,obq,hq];rfl
theorem aEY (d:Nat) (op:Op) (ty:Nat) (pos:String) (af:Array Edge) (h:eZ Γ imm {dst:=some d,op:=op,type:=ty,pos:=pos,after:=af,guard:=none}=false) (hq:quiet imm {dst:=some d,op:=op,type:=ty,pos:=pos,after:=af,guard:=none}=false) (hp:ac1 imm {dst:=some d,op:=op,type:=ty,pos:=pos,after:=af,guard:=none}=true):
 wq P Γ imm gs ({dst:=some d,op:=op,type:=ty,pos:=pos,after:=af,guard:=none}::l) Q tm ob nx=ajk (aZ P Γ (yY imm.V ob) (look tm) ty op) (kV P Γ imm gs l Q tm ob nx d):=by
 rw[o8];simp[gq,wO,h,obq,hq,hp];rfl
theorem aGH (d:Option Nat) (op:Op) (ty:Nat) (pos:String) (af:Array Edge) (h:eZ Γ imm {dst:=d,op:=op,type:=ty,pos:=pos,after:=af,guard:=none}=true) (hk:mY Γ imm nx (look tm) op=true):
 wq P Γ imm gs ({dst:=d,op:=op,type:=ty,pos:=pos,after:=af,guard:=none}::l) Q tm ob nx=aqm (bf P Γ ⟨tm,ob,nx⟩ (look tm) op) (kE P Γ imm gs l Q tm d):=by
 rw[o8];simp[gq,wO,h,hk]
theorem aiW (k j:Prop):wO (some true) k j=k:=by simp[wO]
theorem afq (k j:Prop):wO (some false) k j=j:=by simp[wO]
def pq (P:Program) (Γ:Ctx) (N:Nat) (c:Code) (Q:X→AS→Prop) (tm:Nat→PV) (ob:bG) (nx:Nat):Prop:=pw P Γ N c Q ⟨tm,ob,nx⟩
def kS (P:Program) (Γ:Ctx) (N:Nat) (b:Code) (Q:X→AS→Prop):X→AS→Prop:=fun x s'=>match x with
    | .normal=>pw P Γ N b Q s'
    | .exit id=>Q (.exit id) s'
    | .ret=>Q .ret s'
def kB (id:Nat) (Q:X→AS→Prop):X→AS→Prop:=fun x s'=>Q (x.out id) s'
variable {QX:X→AS→Prop}
theorem awn {c:Operand} {x y:Code} {b:Bool} (h:look tm c=.val (.bool b)):pq P Γ N (.cond c x y) QX tm ob nx=((b=true→pq P Γ N x QX tm ob nx)∧(b=false→pq P Γ N y QX tm ob nx)):=by simp only[pq,pw,h]
end
section
variable {P:Program} {Γ:Ctx} {imm:Md} {N:Nat} {gs:List (Option Nat)} {l:List Oper} {Q:AS→Prop} {tm:Nat→PV} {ob ob':bG} {nx nx':Nat} {QX:X→AS→Prop}
theorem rJ {a b:Code} (h:pq P Γ N a (kS P Γ N b QX) tm ob nx):pq P Γ N (.seq a b) QX tm ob nx:=h
theorem jP (h:QX .normal ⟨tm,ob,nx⟩):pq P Γ N .skip QX tm ob nx:=h
theorem gQ {id:Nat} {c:Code} (h:pq P Γ N c (kB id QX) tm ob nx):pq P Γ N (.block id c) QX tm ob nx:=h
theorem jQ {id:Nat} (h:QX (.exit id) ⟨tm,ob,nx⟩):pq P Γ N (.exit id) QX tm ob nx:=h
theorem rP (h:QX .ret ⟨tm,ob,nx⟩):pq P Γ N .ret QX tm ob nx:=h
theorem ah9 {b:Code} (h:pq P Γ N b QX tm ob nx):kS P Γ N b QX .normal ⟨tm,ob,nx⟩:=h
theorem rG {b:Code} {id:Nat} (h:QX (.exit id) ⟨tm,ob,nx⟩):kS P Γ N b QX (.exit id) ⟨tm,ob,nx⟩:=h
theorem qP {b:Code} (h:QX .ret ⟨tm,ob,nx⟩):kS P Γ N b QX .ret ⟨tm,ob,nx⟩:=h
theorem ag7 {id:Nat} (h:QX .normal ⟨tm,ob,nx⟩):kB id QX .normal ⟨tm,ob,nx⟩:=h
theorem qH {id:Nat} (h:QX .ret ⟨tm,ob,nx⟩):kB id QX .ret ⟨tm,ob,nx⟩:=h
theorem qj {id:Nat} (h:QX .normal ⟨tm,ob,nx⟩):kB id QX (.exit id) ⟨tm,ob,nx⟩:=by simpa [kB,X.out]using h
theorem rE {id id':Nat} (hn:(id'==id)=false) (h:QX (.exit id') ⟨tm,ob,nx⟩):kB id QX (.exit id') ⟨tm,ob,nx⟩:=by
 have:¬id'=id:=by simpa using hn
 simpa [kB,X.out,this]using h
theorem eY {id:Nat} {os:List Oper} {gs:List (Option Nat)} (hg:os.map (·.dst)=gs) (h:wq P Γ ⟨[],[],[]⟩ gs os (QX .normal) tm ob nx):pq P Γ N (.region id os.toArray false) QX tm ob nx:=by subst hg;exact Or.inl (Exists.intro ⟨[],[],[]⟩ (And.intro (fun h=>by cases h) (by rw[mg];exact h)))
theorem jM {id:Nat} {os:List Oper} {gs:List (Option Nat)} (hg:os.map (·.dst)=gs) (hd:qY Γ (aut true os.toArray) os.toArray=true) (h:wq P Γ (aut true os.toArray) gs os (QX .normal) tm ob nx):pq P Γ N (.region id os.toArray true) QX tm ob nx:=by subst hg;exact Or.inl (Exists.intro (aut true os.toArray) (And.intro (fun _=>hd) (by rw[mg];exact h)))
def kF (P:Program) (Γ:Ctx) (imm:Md) (gs:List (Option Nat)) (l:List Oper) (Q:AS→Prop) (R t d:Nat):AS→Prop:=fun s1=> ∃p ob' nx',bf P Γ ⟨s1.tm,s1.ob,R⟩ (look s1.tm) (.alloc t)=some (p,ob',nx')∧wq P Γ imm gs l Q (upd s1.tm d p) ob' s1.nx
theorem azA {R t d:Nat} {p:PV} {ob':bG} {nx':Nat} (hp:bf P Γ ⟨tm,ob,R⟩ (look tm) (.alloc t)=some (p,ob',nx')) (hk:wq P Γ imm gs l Q (upd tm d p) ob' nx):kF P Γ imm gs l Q R t d ⟨tm,ob,nx⟩:=⟨p,ob',nx',hp,hk⟩
theorem avr (k:Nat) (m:Md) {id t d ty:Nat} {pos:String} {af:Array Edge} {os l1 l2:List Oper} {gs:List (Option Nat)} {z:Value} (hg:os.map (·.dst)=gs) (h1:os.take k=l1) (h2:os.drop k={dst:=some d,op:=.alloc t,type:=ty,pos:=pos,after:=af,guard:=none}::l2)
 (hz:zeroOf P t=some z) (hc:z.cells.all (·.oneCell')=true) (hd:nI Γ m os.toArray k d=true) (h:wq P Γ m gs l1 (kF P Γ m gs l2 (QX .normal) nx t d) tm ob (nx+1)):pq P Γ N (.region id os.toArray true) QX tm ob nx:=by
 subst hg h1;have hk:os.toArray[k]?=some {dst:=some d,op:=.alloc t,type:=ty,pos:=pos,after:=af,guard:=none}:=by have:=congrArg (·[0]?) h2;simpa using this
 have hl2:os.drop (k+1)=l2:=by rw[←List.drop_drop,h2];rfl
 refine Or.inr ⟨rfl,m,k,t,d,z,_,hd,hk,rfl,rfl,rfl,hz,hc,?_⟩;rw[mg];show wq P Γ m (os.map (·.dst)) (os.take k) _ tm ob (nx+1);refine Eq.mp (congrArg (fun Q=>wq P Γ m (os.map (·.dst)) (os.take k) Q tm ob (nx+1)) (funext fun s1=>propext ?_)) h;constructor
 ·rintro⟨p,ob',nx',h3,h4⟩
  simp only[bf,hz,hc,if_true,Option.some.injEq,Prod.mk.injEq]at h3;obtain⟨rfl,rfl,rfl⟩:=h3;show evQ P Γ m os.toArray (os.drop (k+1)) (QX .normal) _;rw[hl2];exact(mg l2 _ _ _).mpr h4
 ·intro h3
  refine⟨_,_,_,by simp only[bf,hz,hc,if_true];rfl,?_⟩;have h4:evQ P Γ m os.toArray (os.drop (k+1)) (QX .normal) (s1.flt nx t d z):=h3;rw[hl2]at h4;exact(mg l2 _ _ _).mp h4
theorem qX (k:Nat) {id t d ty:Nat} {pos:String} {af:Array Edge} {os l1 l2:List Oper} {gs:List (Option Nat)} {z:Value} (hg:os.map (·.dst)=gs) (h1:os.take k=l1) (h2:os.drop k={dst:=some d,op:=.alloc t,type:=ty,pos:=pos,after:=af,guard:=none}::l2)
 (hz:zeroOf P t=some z) (hc:z.cells.all (·.oneCell')=true) (hd:nI Γ (aut true os.toArray) os.toArray k d=true) (h:wq P Γ (aut true os.toArray) gs l1 (kF P Γ (aut true os.toArray) gs l2 (QX .normal) nx t d) tm ob (nx+1)):pq P Γ N (.region id os.toArray true) QX tm ob nx:=
 avr k _ hg h1 h2 hz hc hd h
theorem rA (h:Q ⟨tm,ob,nx⟩):wq P Γ imm gs [] Q tm ob nx:=h
theorem i_V {d:Nat} {op:Op} {ty:Nat} {pos:String} {af:Array Edge} {p:PV} (h:eZ Γ imm {dst:=some d,op:=op,type:=ty,pos:=pos,after:=af,guard:=none}=false) (hq:quiet imm {dst:=some d,op:=op,type:=ty,pos:=pos,after:=af,guard:=none}=false) (hv:ac1 imm {dst:=some d,op:=op,type:=ty,pos:=pos,after:=af,guard:=none}=false)
 (hp:aZ P Γ ob (look tm) ty op=some p) (hk:wq P Γ imm gs l Q (upd tm d p) ob nx):wq P Γ imm gs ({dst:=some d,op:=op,type:=ty,pos:=pos,after:=af,guard:=none}::l) Q tm ob nx:=by
 rw[aHd _ _ _ _ _ h hq hv,hp];exact hk
theorem agc {d:Nat} {op:Op} {ty:Nat} {pos:String} {af:Array Edge} {p:PV} (h:eZ Γ imm {dst:=some d,op:=op,type:=ty,pos:=pos,after:=af,guard:=none}=false) (hq:quiet imm {dst:=some d,op:=op,type:=ty,pos:=pos,after:=af,guard:=none}=false) (hv:ac1 imm {dst:=some d,op:=op,type:=ty,pos:=pos,after:=af,guard:=none}=true)
 (hp:aZ P Γ (yY imm.V ob) (look tm) ty op=some p) (hk:wq P Γ imm gs l Q (upd tm d p) ob nx):wq P Γ imm gs ({dst:=some d,op:=op,type:=ty,pos:=pos,after:=af,guard:=none}::l) Q tm ob nx:=by
 rw[aEY _ _ _ _ _ h hq hv,hp];exact hk
theorem agG {d:Nat} {op:Op} {ty:Nat} {pos:String} {af:Array Edge} {p:PV} (h:eZ Γ imm {dst:=some d,op:=op,type:=ty,pos:=pos,after:=af,guard:=none}=false) (hq:quiet imm {dst:=some d,op:=op,type:=ty,pos:=pos,after:=af,guard:=none}=true)
 (hp:aZ P Γ lY (look tm) ty op=some p) (hk:wq P Γ imm gs l Q (upd tm d p) ob nx):wq P Γ imm gs ({dst:=some d,op:=op,type:=ty,pos:=pos,after:=af,guard:=none}::l) Q tm ob nx:=by
 rw[aEB _ _ _ _ _ h hq,hp];exact hk
theorem i_E {d:Nat} {op:Op} {ty:Nat} {pos:String} {af:Array Edge} {p:PV} (h:eZ Γ imm {dst:=some d,op:=op,type:=ty,pos:=pos,after:=af,guard:=none}=true) (hv:mY Γ imm nx (look tm) op=true)
 (hp:bf P Γ ⟨tm,ob,nx⟩ (look tm) op=some (p,ob',nx')) (hk:wq P Γ imm gs l Q (upd tm d p) ob' nx'):wq P Γ imm gs ({dst:=some d,op:=op,type:=ty,pos:=pos,after:=af,guard:=none}::l) Q tm ob nx:=by
 rw[aGH _ _ _ _ _ h hv,hp];exact hk
theorem i_S {op:Op} {ty:Nat} {pos:String} {af:Array Edge} {p:PV} (h:eZ Γ imm {dst:=none,op:=op,type:=ty,pos:=pos,after:=af,guard:=none}=true) (hv:mY Γ imm nx (look tm) op=true)
 (hp:bf P Γ ⟨tm,ob,nx⟩ (look tm) op=some (p,ob',nx')) (hk:wq P Γ imm gs l Q tm ob' nx'):wq P Γ imm gs ({dst:=none,op:=op,type:=ty,pos:=pos,after:=af,guard:=none}::l) Q tm ob nx:=by
 rw[aGH _ _ _ _ _ h hv,hp];exact hk
theorem aHa {d:Option Nat} {op:Op} {ty:Nat} {pos:String} {af:Array Edge} {g:Nat×Bool} (hg:gq gs tm (some g)=some true)
 (hk:wq P Γ imm gs ({dst:=d,op:=op,type:=ty,pos:=pos,after:=af,guard:=none}::l) Q tm ob nx):wq P Γ imm gs ({dst:=d,op:=op,type:=ty,pos:=pos,after:=af,guard:=some g}::l) Q tm ob nx:=by
 have:∀i,eZ Γ imm {dst:=d,op:=op,type:=ty,pos:=pos,after:=af,guard:=i}=eZ Γ imm {dst:=d,op:=op,type:=ty,pos:=pos,after:=af,guard:=none}:=fun i=>rfl;have this2:∀i,obq imm {dst:=d,op:=op,type:=ty,pos:=pos,after:=af,guard:=i} ob=obq imm {dst:=d,op:=op,type:=ty,pos:=pos,after:=af,guard:=none} ob:=fun i=>rfl;rw[o8,hg,aiW,this,this2];rw[o8]at hk;simpa [gq,wO]using hk
theorem aG4 {d:Nat} {op:Op} {ty:Nat} {pos:String} {af:Array Edge} {g:Nat×Bool} (hg:gq gs tm (some g)=some false)
 (hk:wq P Γ imm gs l Q (upd tm d (.val undef)) ob nx):wq P Γ imm gs ({dst:=some d,op:=op,type:=ty,pos:=pos,after:=af,guard:=some g}::l) Q tm ob nx:=by
 rw[o8,hg,afq];exact hk
theorem ahp {d:Nat} {op:Op} {ty:Nat} {pos:String} {af:Array Edge} {g:Nat×Bool} {b:Bool} (hg:gq gs tm (some g)=some b)
 (ht:b=true→wq P Γ imm gs ({dst:=some d,op:=op,type:=ty,pos:=pos,after:=af,guard:=none}::l) Q tm ob nx) (hf:b=false→wq P Γ imm gs l Q (upd tm d (.val undef)) ob nx):
 wq P Γ imm gs ({dst:=some d,op:=op,type:=ty,pos:=pos,after:=af,guard:=some g}::l) Q tm ob nx:=by
 cases b with
 |true=>exact aHa hg (ht rfl)
 |false=>exact aG4 hg (hf rfl)
theorem jR {c:Operand} {x y:Code} {b:Bool} (h:look tm c=.val (.bool b)) (ht:b=true→pq P Γ N x QX tm ob nx) (hf:b=false→pq P Γ N y QX tm ob nx):pq P Γ N (.cond c x y) QX tm ob nx:=by rw[awn h];exact⟨ht,hf⟩
def lk (l:List (Nat×PV)):Nat→PV:=fun t=>(l.lookup t).getD .dead
def lo (l:List (Nat×Nat×Nat×List PV)):bG:=fun o=>l.lookup o
def agree (tm:Nat→PV):List (Nat×PV)→Prop
 |[]=>True
 |p::l=>tm p.1=p.2∧agree tm l
def jc (ob:bG):List (Nat×Nat×Nat×List PV)→Prop
 |[]=>True
 |p::l=>ob p.1=some p.2∧jc ob l
theorem gX {tm:Nat→PV}:∀{l:List (Nat×PV)},agree tm l→∀p∈l,tm p.1=p.2
 |[],_,p,hp=>by simp at hp
 |q::l,h,p,hp=>by
  rcases List.mem_cons.1 hp with rfl|hp
  ·exact h.1
  ·exact gX h.2 p hp
theorem fI {ob:bG}:∀{l:List (Nat×Nat×Nat×List PV)},jc ob l→∀p∈l,ob p.1=some p.2
 |[],_,p,hp=>by simp at hp
 |q::l,h,p,hp=>by
  rcases List.mem_cons.1 hp with rfl|hp
  ·exact h.1
  ·exact fI h.2 p hp
def aAc {α:Type} (I:α→Prop) (μ:α→Nat) (L:α→List (Nat×PV)) (O:α→List (Nat×Nat×Nat×List PV)) (X:α→Nat) (m:Nat) (tm:Nat→PV) (ob:bG) (nx:Nat):Prop:=
 ∃j,I j∧μ j<m∧agree tm (L j)∧jc ob (O j)∧nx=X j
def kL {α:Type} (I:α→Prop) (μ:α→Nat) (L:α→List (Nat×PV)) (O:α→List (Nat×Nat×Nat×List PV)) (XX:α→Nat) (m:Nat) (QX:X→AS→Prop):X→AS→Prop:=fun x s'=>match x with
 | .normal=>aAc I μ L O XX m s'.tm s'.ob s'.nx
 | .exit id=>QX (.exit id) s'
 | .ret=>QX .ret s'
theorem aB (hm:P.follows .mixedOrders=true) {c:Code} {α:Type} (L:α→List (Nat×PV)) (O:α→List (Nat×Nat×Nat×List PV)) (XX:α→Nat) (I:α→Prop) (μ:α→Nat) (hc:codeOk Γ true N c=true) (i:α) (hi:I i)
 (h1:agree tm (L i)) (h2:jc ob (O i)) (h3:nx=XX i)
 (h:∀i,I i→pq P Γ N c (kL I μ L O XX (μ i) QX) (lk (L i)) (lo (O i)) (XX i)):pq P Γ N (.loop c) QX tm ob nx:=by
 refine axG (mixed:=true) (fun _=>hm) (fun i=>mkS (L i) (O i) (XX i)) I μ hc i hi (iR (gX h1) (fI h2) h3) fun i hi=>?_;refine ak0 (fun x s' hx=>?_) _ _ (h i hi);cases x with
 |normal=>obtain⟨j,k1,k2,k3,k4,k5⟩:=hx;exact⟨j,k1,k2,iR (gX k3) (fI k4) k5⟩
 |exit id=>exact hx
 |ret=>exact hx
section
variable {α:Type} {I:α→Prop} {μ:α→Nat} {L:α→List (Nat×PV)} {O:α→List (Nat×Nat×Nat×List PV)} {XX:α→Nat} {m:Nat}
theorem ahE (h:aAc I μ L O XX m tm ob nx):kL I μ L O XX m QX .normal ⟨tm,ob,nx⟩:=h
theorem qU {id:Nat} (h:QX (.exit id) ⟨tm,ob,nx⟩):kL I μ L O XX m QX (.exit id) ⟨tm,ob,nx⟩:=h
theorem qV (h:QX .ret ⟨tm,ob,nx⟩):kL I μ L O XX m QX .ret ⟨tm,ob,nx⟩:=h
end
end
def Post (P:Program) (rs:List ResultVar) (r:PV):X→AS→Prop:=fun x s'=>(x=.normal∨x=.ret)∧((fU P s' rs).bind fun qs=>reify true 0 s'.ob fuel (gM qs))=some r
section
variable {P:Program} {Γ:Ctx} {tm:Nat→PV} {ob:bG} {nx:Nat}
theorem ad8 {rs:List ResultVar} {r:PV} (h:((fU P ⟨tm,ob,nx⟩ rs).bind fun qs=>reify true 0 ob fuel (gM qs))=some r):Post P rs r .ret ⟨tm,ob,nx⟩:=⟨.inr rfl,h⟩
theorem zW {rs:List ResultVar} {r:PV} (h:((fU P ⟨tm,ob,nx⟩ rs).bind fun qs=>reify true 0 ob fuel (gM qs))=some r):Post P rs r .normal ⟨tm,ob,nx⟩:=⟨.inl rfl,h⟩
theorem ak (hm:P.follows .mixedOrders=true) {f:Nat} {fn:Func} {c:Code} {φ:Fun} (hΓ:au P Γ) (hf:P.funcs[f]?=some fn) (hb:fn.body=some c) (N:Nat) (hN:fn.ntmps=N) (rs:List ResultVar) (hrs:fn.results.toList=rs) (hc:codeOk Γ true N c=true)
 (h:∀ps r,φ ps=some r→ps.length≤N∧pq P Γ N c (Post P rs r) (bX ps).tm (fun _=>none) 0):Sound P f φ:=by
 subst hN hrs;exact aem (mixed:=true) (fun _=>hm) hΓ hf hb hc h
end
theorem alz (fr:Bool) (n:Nat) (ob:bG) (v:Value):reify fr n ob fuel (.val v)=some (.val v):=rfl
theorem akI (p:PV):gM [p]=p:=rfl
theorem alZ (p q:PV):gM [p,q]=.tup [p,q]:=rfl
theorem alS (P:Program) (s:AS):fU P s []=some []:=rfl
theorem alE (P:Program) (s:AS) (t:Nat) (l:List ResultVar):fU P s (.tmp t::l)=(fU P s l).map (s.tm t:: ·):=rfl
theorem afz (b:Bool):wB (.val (.bool b))=some (some b):=rfl
theorem abn (b:Bool):(some b==some true)=b:=by cases b<;>rfl
theorem zf (b:Bool):(some b==some false)= !b:=by cases b<;>rfl
theorem al0 (v:Value):toVal (.val v)=some v:=rfl
section
variable {P:Program} {t e sz:Nat}
theorem uq {k:Bool} {es:List PV} {i:Int} (hu:P.underlying t=some (.slice e)) (hs:aY P e=some sz) (h0:0≤i) (h1:i<(es.length:Int)):aI P t (.lst k sz es) i=some (.ptr k ((es[i.toNat]?).getD .dead) 0):=by
 have hlt:i.toNat<es.length:=by omega
 simp[aI,hu,hs,h0,hlt]
theorem wQ {o j n:Nat} {i:Int} (hu:P.underlying t=some (.slice e)) (hs:aY P e=some sz) (h0:0≤i) (h1:i<(n:Int)):aI P t (.row o sz j n) i=some (.own o sz (j+i.toNat) 0):=by simp[aI,hu,hs,h0,h1]
theorem atL {k:Bool} {es:List PV} {lo hi:Option Int} (hu:P.underlying t=some (.slice e)) (hs:aY P e=some sz) (h0:0≤lo.getD 0) (h1:lo.getD 0≤hi.getD es.length) (h2:hi.getD es.length≤es.length):
 j6 P t (.lst k sz es) lo hi=some (.lst k sz ((es.drop (lo.getD 0).toNat).take ((hi.getD es.length).toNat-(lo.getD 0).toNat))):=by
 simp[j6,hu,hs,h0,h1,h2]
end
def acP (Γ:Ctx) (ob:bG) (f:Nat) (ps:List PV):Option PV:=
 match Γ f,ps.mapM (reify false 0 ob fuel)with
 |some φ,some qs=>φ qs
 |_,_=>none
theorem axe {P:Program} {Γ:Ctx} {ob:bG} {tm:Nat→PV} {ty f:Nat} {xs:Array Operand} {ts:Array TypeId}:aZ P Γ ob (look tm) ty (.call {callee:=.value (.func f),args:=xs,argTypes:=ts})=acP Γ ob f (xs.toList.map (look tm)):=rfl
theorem ah {Γ:Ctx} {f:Nat} {φ:Fun} (h:Γ.fn f=some φ) (ob:bG) (ps:List PV):acP Γ ob f ps=(ps.mapM (reify false 0 ob fuel)).bind φ:=by unfold acP;rw[h];cases ps.mapM (reify false 0 ob fuel)<;>rfl
def aT {α:Type}:List (Nat×α)→Nat→Option α
 |[],_=>none
 |(g,φ)::l,f=>cond (Nat.beq f g) (some φ) (aT l f)
def as7 {α:Type} (R:Nat→α→Prop) (l:List (Nat×α)):Prop:=∀f φ,aT l f=some φ→R f φ
theorem aj {α:Type} {R:Nat→α→Prop}:as7 R []:=fun f φ h=>by cases h
theorem acZ {α:Type} {R:Nat→α→Prop} {f:Nat} {φ:α} {l:List (Nat×α)} (h0:R f φ) (h:as7 R l):as7 R ((f,φ)::l):=fun g ψ hg=>by
 unfold aT at hg;cases hb:Nat.beq g f with
 |true=>rw[hb]at hg;cases hg;rw[Nat.eq_of_beq_eq_true hb];exact h0
 |false=>rw[hb]at hg;exact h g ψ hg
theorem okΓ {P:Program} {l:List (Nat×Fun)} {m:List (Nat×jh)} (h1:as7 (fun f φ=>Fnd P f∧Sound P f φ) l) (h2:as7 (fun f Φ=>Fnd P f∧eT P f Φ) m):au P {fn:=aT l,io:=aT m}:=⟨h1,h2,rfl⟩
theorem fC {P:Program} {f:Nat} {φ:Fun} {l:List (Nat×Fun)} {fn:Func} (hf:P.funcs[f]?=some fn) (hs:Sound P f φ) (h:as7 (fun f φ=>Fnd P f∧Sound P f φ) l) (h1:(fn.name== "runtime.NumGoroutine")=false:=by rfl) (h2:fn.body.isNone=false:=by rfl):as7 (fun f φ=>Fnd P f∧Sound P f φ) ((f,φ)::l):=acZ ⟨⟨fn,hf,h1,h2⟩,hs⟩ h
theorem fD {P:Program} {f:Nat} {φ:jh} {l:List (Nat×jh)} {fn:Func} (hf:P.funcs[f]?=some fn) (hs:eT P f φ) (h:as7 (fun f φ=>Fnd P f∧eT P f φ) l) (h1:(fn.name== "runtime.NumGoroutine")=false:=by rfl) (h2:fn.body.isNone=false:=by rfl):as7 (fun f φ=>Fnd P f∧eT P f φ) ((f,φ)::l):=acZ ⟨⟨fn,hf,h1,h2⟩,hs⟩ h
theorem dP {F:PV→Option PV}:∀{es:List PV},(∀e∈es,F e=some e)→es.mapM F=some es
 |[],_=>rfl
 |e::es,h=>by rw[List.mapM_cons,h e (by simp),dP fun x hx=>h x (by simp[hx])];rfl
theorem kU (fr:Bool) (n:Nat) (ob:bG) (p:PV):reify fr n ob fuel p=reify fr n ob 8 p:=rfl
theorem oI (fr:Bool) (n:Nat) (ob:bG) (f:Nat) (v:Value):reify fr n ob (f+1) (.val v)=some (.val v):=rfl
theorem ai0 (fr:Bool) (n:Nat) (ob:bG) (f:Nat) (cs:List PV):reify fr n ob (f+1) (.agg cs)=(cs.mapM (reify fr n ob f)).map .agg:=by simp only[reify]
theorem aiM (fr:Bool) (n:Nat) (ob:bG) (f:Nat) (cs:List PV):reify fr n ob (f+1) (.tup cs)=(cs.mapM (reify fr n ob f)).map .tup:=by simp only[reify]
theorem lX {α:Type} {n sz:Nat} {ob:bG} {f:Nat} {k:Bool} {g:α→Value} {l:List α}:reify false n ob (f+2) (.lst k sz (l.map fun x=> .val (g x)))=some (.lst false sz (l.map fun x=> .val (g x))):=by
 have:(l.map fun x=>PV.val (g x)).mapM (reify false n ob (f+1))=some (l.map fun x=>PV.val (g x)):=dP fun e he=>by obtain⟨x,_,rfl⟩:=List.mem_map.1 he;rfl
 show(if false=true∧k=false∧(l.map fun x=>PV.val (g x))≠[]then none else((l.map fun x=>PV.val (g x)).mapM (reify false n ob (f+1))).map (PV.lst false sz))=_;rw[this];simp
theorem xJ {α:Type} {n sz:Nat} {ob:bG} {f:Nat} {g:α→Value} {l:List α}:reify true n ob (f+2) (.lst true sz (l.map fun x=> .val (g x)))=some (.lst true sz (l.map fun x=> .val (g x))):=by
 have:(l.map fun x=>PV.val (g x)).mapM (reify true n ob (f+1))=some (l.map fun x=>PV.val (g x)):=dP fun e he=>by obtain⟨x,_,rfl⟩:=List.mem_map.1 he;rfl
 show(if true=true∧true=false∧(l.map fun x=>PV.val (g x))≠[]then none else((l.map fun x=>PV.val (g x)).mapM (reify true n ob (f+1))).map (PV.lst true sz))=_;rw[this];simp
def rW (fr:Bool) (f:Nat) (ob:bG) (sz i m:Nat):Option (Nat×Nat×List PV)→Option PV
 |some (_,sz',es)=>if sz=sz'∧i+m≤es.length then(((es.drop i).take m).mapM (reify fr 0 ob f)).map (.lst fr sz)else none
 |none=>none
theorem sJ (fr:Bool) (ob:bG) (f o sz i m:Nat):reify fr 0 ob (f+1) (.row o sz i m)=rW fr f ob sz i m (ob o):=by
 simp only[reify,rW,Nat.not_lt_zero,and_false,if_false];cases ob o with
 |none=>rfl
 |some c=>rfl
theorem rU {α:Type} {fr:Bool} {f sz m T:Nat} {ob:bG} {g:α→Value} {l:List α} (hm:m=l.length):rW fr (f+1) ob sz 0 m (some (T,sz,l.map fun x=> .val (g x)))=some (.lst fr sz (l.map fun x=> .val (g x))):=by
 have:(l.map fun x=>PV.val (g x)).mapM (reify fr 0 ob (f+1))=some (l.map fun x=>PV.val (g x)):=dP fun e he=>by obtain⟨x,_,rfl⟩:=List.mem_map.1 he;rfl
 subst hm;have e:((l.map fun x=>PV.val (g x)).drop 0).take l.length=l.map fun x=>PV.val (g x):=by rw[List.drop_zero,List.take_of_length_le (by simp)]
 simp only[rW,e,this,Nat.zero_add,List.length_map,Nat.le_refl,and_self,if_true,Option.map_some]
def aGs (P:Program) (ty:Nat) (x:PV) (e:Option PV) (ps:Option (List PV)):Option (List PV):=
 match x with
 | .own _ _ _ f=>(e.bind (adT P ty f)).bind fun p=>ps.map (p:: ·)
 |_=>none
def aEs (x:PV) (c:Option (Nat×Nat×List PV)):Option PV:=
 match x,c with
 | .own _ sz i _,some (_,sz',es)=>if sz=sz' then es[i]? else none
 |_,_=>none
theorem asu {o sz i f T:Nat} {es:List PV}:aEs (.own o sz i f) (some (T,sz,es))=es[i]?:=by simp[aEs]
theorem aj5 (P:Program) (s:AS) (t ty:Nat) (l:List ResultVar):fU P s (.cell t ty::l)=aGs P ty (s.tm t) (aEs (s.tm t) (match s.tm t with| .own o _ _ _=>s.ob o|_=>none)) (fU P s l):=by
 simp only[fU,aGs,aEs];cases s.tm t with
 |own o sz i f=>
  dsimp only
  cases s.ob o with
  |none=>rfl
  |some c=>
   obtain⟨T,sz',es⟩:=c;dsimp only
   by_cases h:sz=sz'
   ·simp only[h,if_true]
    cases hq:(es[i]?).bind (adT P ty f)with
    |none=>rfl
    |some p=>cases fU P s l<;>rfl
   ·simp only[h,if_false]
    rfl
 |_=>rfl
theorem aso {P:Program} {ty o sz i f:Nat} {e:Option PV} {ps:Option (List PV)}:aGs P ty (.own o sz i f) e ps=(e.bind (adT P ty f)).bind fun p=>ps.map (p:: ·):=rfl
theorem mapM_nil' {α β:Type} {F:α→Option β}:([]:List α).mapM F=some []:=rfl
theorem mapM_cons' {α β:Type} {F:α→Option β} {e:α} {es:List α}:(e::es).mapM F=(F e).bind fun x=>(es.mapM F).map (x:: ·):=by
 rw[List.mapM_cons];cases F e with
 |none=>rfl
 |some x=>cases es.mapM F<;>rfl
theorem aqI (l:List (Nat×PV)) (t:Nat):lk l t=(l.lookup t).getD .dead:=rfl
theorem asQ (ps:List PV) (t:Nat):(bX ps).tm t=(ps[t]?).getD (.val undef):=rfl
def gqd (tm:Nat→PV) (want:Bool):Option (Option Nat)→Option Bool
 |some (some d)=>(wB (tm d)).map fun b=>b==some want
 |_=>some false
theorem aC0 (gs:List (Option Nat)) (tm:Nat→PV) (j:Nat) (want:Bool):gq gs tm (some (j,want))=gqd tm want gs[j]?:=rfl
theorem apH (tm:Nat→PV) (want:Bool) (d:Nat):gqd tm want (some (some d))=(wB (tm d)).map fun b=>b==some want:=rfl
theorem acT:wB (.val undef)=some none:=rfl
theorem beq_none (b:Bool):((none:Option Bool)==some b)=false:=rfl
theorem ajT (k:Nat):((k:Int)-1).toNat=k-1:=by omega
theorem aix (k:Nat):((k:Int)+1).toNat=k+1:=by omega
theorem toNat_add (k n:Nat):((k:Int)+(n:Int)).toNat=k+n:=by omega
theorem hyT {p:Prop} (h:p):true=true→p:=fun _=>h
theorem hyF {p:Prop} (h:p):false=false→p:=fun _=>h
theorem hyA {p:Prop}:true=false→p:=fun h=>absurd h (by decide)
theorem hyB {p:Prop}:false=true→p:=fun h=>absurd h (by decide)
theorem alG {P:Program} {Γ:Ctx} {ob:bG} {ρ:Operand→PV} {ty t:Nat} {x y:Operand} {c:Bool}:aZ P Γ ob ρ ty (.lookup t x y c)=lkP Γ.mp t (ρ x) (toVal (ρ y)) c:=rfl
attribute[push_cast]
 alG
attribute[push_cast]
 mY touch refsOf List.flatMap_cons List.flatMap_nil
end
end Go.Proofs.YtmmafcjjlbgnkaaGreatDoor
