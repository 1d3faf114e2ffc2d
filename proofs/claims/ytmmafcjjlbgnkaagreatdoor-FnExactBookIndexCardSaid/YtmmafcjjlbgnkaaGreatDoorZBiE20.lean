/- What the proof rests on, part 20: contracts of functions. No condition beyond what each states. -/
import Derived.Test.YtmmafcjjlbgnkaaGreatDoorZBiE19
namespace Go.Proofs.YtmmafcjjlbgnkaaGreatDoor
open Go.RowKit
set_option linter.all false
set_option maxHeartbeats 32000000
noncomputable section
def adb (ob:bG) (nx:Nat) (cs:List aS):bG:=fun o=>if nx≤o∧o<nx+cs.length then cs[o-nx]? else ob o
theorem ac4 (ob:bG) (nx:Nat):adb ob nx []=ob:=by funext o;unfold adb;rw[if_neg (by simp)]
theorem adg (ob:bG) (nx:Nat) (c:aS):adb ob nx [c]=upd ob nx (some c):=by
 funext o;unfold adb upd;by_cases h:o=nx
 ·subst h;simp
 ·rw[if_neg (by simp;omega),if_neg h]
section
variable {P:Program} {N B:Nat} {w00:World}
theorem aF8 {io:IoS} {w0:World} {g:Gh} {s:AS} {a:Act} {w:World} (h:Rel io w0 N g s a w) (hlt0:∀b,io.wr b→b<w0.heap.size) {f:Nat} {Ψ:yU} (hs:fQ P f Ψ) {ps:List PV} {r r':PV} {cs' cs2:List aS} (hΨ:Ψ ps=some (r,cs')) (hr':jW (s.nx+ ·) fuel r=some r') (hcs2:cs'.mapM (ng (s.nx+ ·) fuel)=some cs2) {Jm:Nat→Prop} (hJ:∀i,Jm i→i<w.heap.size) {args:Array Value} (hargs:bL (lG Jm) w ps args.toList):
 Calls P f args w fun e w'=>∃v g',e=.returned v∧Fr (fun _=>False) w w'∧Rel io w0 N g' ⟨s.tm,adb s.ob s.nx cs2,s.nx+cs2.length⟩ a w'∧Rep g' w' r' v:=by
 have hl2:=(bg hcs2).1;have hT:kr w (fun b=>∃o,o<([]:List aS).length∧b=(fun _=>0:Nat→Nat) o):=h.tab.keep h.fr fun t ht ⟨o,ho,_⟩=>by simp at ho
 refine(hs w (fun k b=>k=false∧Jm b) (fun _=>0) (fun _=>0) ps [] args r cs' (by simpa using hΨ) (fun k b hb=>hJ b hb.2) ⟨fun o ho=>by simp at ho,fun o o' ho=>by simp at ho,fun o c ho=>by simp at ho⟩ hT hargs).mono ?_;rintro e w' ⟨v,β',κ',M,rfl,hfr,-,-,hnew,hM,hO',hrep⟩;have hfr':Fr (fun _=>False) w w':=⟨hfr.os,hfr.tape,hfr.output,hfr.size,fun b hb _=>hfr.block b hb fun⟨o,ho,_⟩=>by simp at ho⟩
 let g':Gh:={I:=addN g.I M,β:=fun o=>if o<g.nx then g.β o else β' (o-g.nx),κ:=fun o=>if o<g.nx then g.κ o else κ' (o-g.nx),nx:=g.nx+cs'.length,hole:=fun o=>g.hole o∧o<g.nx}
 have hnx:=h.nx;have hgle:g.le g':=⟨fun _ _ hb=> .inl hb,fun o ho=>⟨Nat.lt_of_lt_of_le ho.1 (Nat.le_add_right _ _),fun q=>ho.2 q.1⟩,fun o ho=>by simp only[g',if_pos ho.1],fun o ho=>by simp only[g',if_pos ho.1]⟩;have hIsame:∀k b,g.I k b→w'.heap[b]?=w.heap[b]?:=fun k b hb=>hfr'.block b (h.lt k b hb) fun q=>q;have hgt:∀i,i<cs'.length→g'.β (s.nx+i)=β' i∧g'.κ (s.nx+i)=κ' i∧g'.D (s.nx+i):=fun i hi=>by
  rw[←hnx];refine⟨?_,?_,?_⟩
  ·simp only[g'];rw[if_neg (by omega),Nat.add_sub_cancel_left]
  ·simp only[g'];rw[if_neg (by omega),Nat.add_sub_cancel_left]
  ·exact⟨by simp only[g'];omega,fun q=>by have:=q.2;omega⟩
 have hTI:∀b,(dH (addN (fun k b=>k=false∧Jm b) M) β' κ' cs'.length).I true b→g'.I true b:=fun b hb=>by
  rcases hb with⟨q,_⟩|hb
  ·cases q
  ·exact .inr hb
 have hTo:∀o,(dH (addN (fun k b=>k=false∧Jm b) M) β' κ' cs'.length).D o→g'.β (s.nx+o)=(dH (addN (fun k b=>k=false∧Jm b) M) β' κ' cs'.length).β o∧g'.κ (s.nx+o)=(dH (addN (fun k b=>k=false∧Jm b) M) β' κ' cs'.length).κ o∧g'.D (s.nx+o):=fun o ho=>hgt o ho.1;have hpl:∀o c0,s.ob o=some c0→g.β o<w.heap.size∧o<s.nx:=fun o c0 hc0=>by obtain⟨hd,_,_,⟨arr,h3,_⟩,_⟩:=h.ob _ _ hc0;exact⟨lt_of_heap h3,by rw[←hnx];exact hd.1⟩
 have hobs:∀o1 c1,adb s.ob s.nx cs2 o1=some c1→(∃i,i<cs'.length∧o1=s.nx+i∧cs2[i]?=some c1)∨(s.ob o1=some c1∧o1<s.nx):=fun o1 c1 h1=>by
  unfold adb at h1;split at h1
  ·rename_i hc
   exact .inl ⟨o1-s.nx,by omega,by omega,h1⟩
  ·exact .inr ⟨h1,(hpl o1 c1 h1).2⟩
 have hβ0:∀o c0,s.ob o=some c0→g'.β o=g.β o:=fun o c0 hc0=>hgle.β o (h.ob o c0 hc0).1;refine⟨v,g',rfl,hfr',⟨h.nt,h.df,fun t=>(h.tm t).mono hgle hIsame,fun o1 c1 h1=>?_,fun o1 o2 h1 h2 he=>?_,?_,?_,?_,?_,?_,?_,?_,h.tab⟩,Rep.jW (g:=dH (addN (fun k b=>k=false∧Jm b) M) β' κ' cs'.length) (g':=g') hTI hTo fuel _ _ _ hrep hr'⟩
 ·rcases hobs o1 c1 h1 with⟨i,hi,rfl,hc1⟩|⟨h2,h3⟩
  ·obtain⟨k1,k2,k3⟩:=hgt i hi
   obtain⟨c0,hc0,hrc⟩:=mapM_at hcs2 hc1;refine⟨k3,.inl ?_,fun k hb=>?_,?_⟩
   ·rw[k1]
    have:=hnew i (Nat.zero_le _) hi;have:=h.fr.size;omega
   ·rw[k1]at hb
    rcases hb with hb|hb
    ·have:=h.lt k _ hb
     have:=hnew i (Nat.zero_le _) hi;omega
    ·exact(hO'.lt i hi).2 k (.inr hb)
   ·obtain⟨⟨arr,m1,m2⟩,m3,m4⟩:=hO'.at_ i c0 hc0
    unfold ng at hrc;rw[Option.map_eq_some_iff]at hrc;obtain⟨es,h4,rfl⟩:=hrc;have hl:=(bg h4).1;refine⟨⟨arr,by rw[k1];exact m1,by rw[k2];exact m2⟩,by rw[k2];simp only[hl];exact m3,?_⟩;rw[k1];exact bB.conv (g:=dH (addN (fun k b=>k=false∧Jm b) M) β' κ' cs'.length) (g':=g') (Rep.jW (g:=dH (addN (fun k b=>k=false∧Jm b) M) β' κ' cs'.length) (g':=g') hTI hTo fuel) m4 h4
  ·obtain⟨k1,k2,k3,k4⟩:=h.ob o1 c1 h2
   have hβ:=hgle.β o1 k1;have hlt:=(hpl o1 c1 h2).1;refine⟨hgle.D _ k1,by rw[hβ];exact k2,fun k hb=>?_,k4.mono hgle k1 hIsame (hfr'.block _ hlt fun q=>q)⟩;rw[hβ]at hb;rcases hb with hb|⟨_,hb⟩
   ·exact k3 k hb
   ·have:=(hM _ hb).1
    omega
 ·obtain⟨c1,h1⟩:=Option.isSome_iff_exists.1 h1
  obtain⟨c2,h2⟩:=Option.isSome_iff_exists.1 h2;rcases hobs o1 c1 h1 with⟨i,hi,rfl,_⟩|⟨h3,h3'⟩<;>rcases hobs o2 c2 h2 with⟨j,hj,rfl,_⟩|⟨h4,h4'⟩
  ·rw[(hgt i hi).1,(hgt j hj).1]at he
   rw[hO'.inj i j hi hj he]
  ·rw[(hgt i hi).1,hβ0 _ _ h4]at he
   have:=(hpl _ _ h4).1;have:=hnew i (Nat.zero_le _) hi;omega
  ·rw[(hgt j hj).1,hβ0 _ _ h3]at he
   have:=(hpl _ _ h3).1;have:=hnew j (Nat.zero_le _) hj;omega
  ·rw[hβ0 _ _ h3,hβ0 _ _ h4]at he
   exact h.inj _ _ (by rw[h3];rfl) (by rw[h4];rfl) he
 ·show g.nx+cs'.length=s.nx+cs2.length
  omega
 ·intro k b hb
  rcases hb with hb|⟨_,hb⟩
  ·exact Nat.lt_of_lt_of_le (h.lt k b hb) hfr'.size
  ·exact(hM b hb).2
 ·intro b hb
  rcases hb with hb|⟨_,hb⟩
  ·exact h.new b hb
  ·by_cases hio:io b
   ·have:=(hM b hb).1
    have:=h.fr.size;have:=hlt0 b hio;omega
   ·exact .inl ⟨by have:=(hM b hb).1;have:=h.fr.size;omega,hio⟩
 ·exact⟨hfr'.os.trans h.fr.os,hfr'.tape.trans h.fr.tape,hfr'.output.trans h.fr.output,Nat.le_trans h.fr.size hfr'.size,fun b hb hn=>(hfr'.block b (Nat.lt_of_lt_of_le hb h.fr.size) fun q=>q).trans (h.fr.block b hb hn)⟩
 ·intro b hb
  rcases hb with hb|⟨hk,_⟩
  ·exact h.old b hb
  ·cases hk
 ·refine⟨fun o ho=>hgle.D _ (h.fix.1 o ho),fun o ho=>?_⟩
  have hd:=h.fix.1 o ho;rw[hgle.β o hd,hgle.κ o hd];exact h.fix.2 o ho
 ·intro o ho
  obtain⟨q1,q2⟩:=h.hl o ho;exact⟨⟨q1,q2⟩,by show o<g.nx+_;omega⟩
variable {ops:Array Oper} {J:AS→Fgn→Prop} {s:AS} {σ:Fgn}
theorem ZO.ao6 {o:Oper} {j:Nat} {l:List Oper} {f:Nat} {c:Call} {Ψ:yU} {ps:List PV} {r r':PV} {cs' cs2:List aS} (ho:o.op=.call c) (hc:c.callee=.value (.func f)) (hf:Fnd P f) (hg:o.guard=none) (hd:∀x,o.dst=some x→x<N) (hs:fQ P f Ψ) (hΨ:Ψ ps=some (r,cs')) (hr':jW (s.nx+ ·) fuel r=some r') (hcs2:cs'.mapM (ng (s.nx+ ·) fuel)=some cs2)
 (hargs:∀a w,Zt P N B w00 s σ a w→∃Jm:Nat→Prop,(∀i,Jm i→i<w.heap.size)∧bL (lG Jm) w ps (c.args.map a.eval).toList)
 (h:ZO P N B w00 ops (j+1) l J (AS.put ⟨s.tm,adb s.ob s.nx cs2,s.nx+cs2.length⟩ o.dst r') σ):ZO P N B w00 ops j (o::l) J s σ:=by
 refine ZO.one hg fun a w hst Kn Q hK=>?_;obtain⟨Jm,hJ,hargs⟩:=hargs a w hst;obtain⟨⟨io,w0,g,hr,hC⟩,hM⟩:=hst;obtain⟨fn,hfn,hname,hbody⟩:=hf;have hrun:(execOp a.eval o).run P w=.ok (.enter f (c.args.map a.eval)) w:=by unfold execOp;simp only[ho,resolve,hc,Act.eval,Deferred.ofValue,Sem.run_bind,Sem.run_pure,Result.andThen_ok,invoke,callFunc,run_program,hfn];simp[hname,hbody]
 unfold Oper.wp;rw[hrun,Oper.upon_enter];refine(aF8 hr hC.lt hs hΨ hr' hcs2 hJ hargs).mono ?_;rintro e w' ⟨v,g',rfl,hfr,hr2,hrep⟩;exact hK _ _ _ _ ⟨⟨io,w0,g',hr2.put hd hrep,hC⟩,σ.keep w w' (fun i hi=>hfr.block i (Nat.lt_of_lt_of_le (hC.hb i hi) hr.fr.size) fun q=>q) hM⟩ h
theorem ZO.wV {o:Oper} {j:Nat} {l:List Oper} {f:Nat} {c:Call} (ho:o.op=.call c) (hc:c.callee=.value (.func f)) (hf:Fnd P f) (hg:o.guard=none) (hd:∀x,o.dst=some x→x<N) (R:Value→Fgn→Prop)
 (hcall:∀a w,Zt P N B w00 s σ a w→Calls P f (c.args.map a.eval) w fun e w'=>∃v σ',e=.returned v∧R v σ'∧Fr σ'.bk w w'∧(∀i,i<w.heap.size→σ'.bk i→σ.bk i)∧(∀i,σ.bk i→σ'.bk i)∧(∀b,σ'.bk b→b<w'.heap.size)∧σ'.at_ w')
 (h:∀v σ',R v σ'→ZO P N B w00 ops (j+1) l J (s.put o.dst (.val v)) σ'):ZO P N B w00 ops j (o::l) J s σ:=by
 refine ZO.one hg fun a w hst Kn Q hK=>?_;obtain⟨fn,hfn,hname,hbody⟩:=hf;have hrun:(execOp a.eval o).run P w=.ok (.enter f (c.args.map a.eval)) w:=by unfold execOp;simp only[ho,resolve,hc,Act.eval,Deferred.ofValue,Sem.run_bind,Sem.run_pure,Result.andThen_ok,invoke,callFunc,run_program,hfn];simp[hname,hbody]
 unfold Oper.wp;rw[hrun,Oper.upon_enter];refine(hcall a w hst).mono ?_;rintro e w' ⟨v,σ',rfl,hR,h1,h2,h3,h4,h5⟩;exact hK _ _ _ _ ((hst.jE h1 h2 h3 h4 h5).put hd fun g w=>by simp[Rep]) (h v σ' hR)
end
section
variable {P:Program} {Γ:Ctx} {imm:Md} {ops:Array Oper} {N B:Nat} {w00:World}
def abq (Γ:Ctx) (imm:Md) (ops:Array Oper) (n:Nat):Bool:=(List.range n).all fun j=>(List.range j).all fun i=>eU Γ imm ops i j||tT ops ops.size i j
def aaw (ops:Array Oper):Bool:=(List.range ops.size).all fun j=>match ops[j]? with|some o=>o.after.all (fun e=> !Region.binds .any e||decide (e.on<j))|none=>true
theorem ahm {n:Nat} (h:abq Γ imm ops n=true) {i j:Nat} (hj:j<n) (hi:i<j):eU Γ imm ops i j=true∨tT ops ops.size i j=true:=by have h1:=List.all_eq_true.1 (List.all_eq_true.1 h j (List.mem_range.2 hj)) i (List.mem_range.2 hi);simpa [Bool.or_eq_true]using h1
theorem vg (h:aaw ops=true) {j:Nat} {o:Oper} (ho:ops[j]?=some o):∀e∈o.after,Region.binds .any e=true→e.on<j:=fun e he hb=>by have hlt:=(Array.getElem?_eq_some_iff.1 ho).1;have h1:=List.all_eq_true.1 h j (List.mem_range.2 hlt);rw[ho]at h1;dsimp only at h1;have h2:=(Array.all_eq_true_iff_forall_mem.1 h1) e he;simpa [hb]using h2
theorem ata {io:IoS} {w0:World} (hΓ:fJ P Γ io.wr w0) (hio:∀b,io b→b<w0.heap.size) (hd:ops.all (gV N)=true) {n:Nat} (hn:ops.size=n+2) (hp:abq Γ imm ops n=true) (hed:aaw ops=true) (hlast:∀i,i<n+1→tT ops ops.size i (n+1)=true) {Q:Exit→Act→World→Prop} {s':AS}
 (hQ:∀g' a' w',Rel io w0 N g' s' a' w'→wpOp P ops Q (n+1) (Q .normal) a' w'):
 ∀(fuel:Nat) (listed:Array Bool) (rem:List Nat) (g:Gh) (s:AS) (a:Act) (w:World),rem.length+1≤fuel→listed.size=ops.size→(∀i,i∈rem↔i<n∧listed.getD i true=false)→listed.getD n false=true→listed.getD (n+1) true=false→rem.Pairwise (· < ·)→
  (∀j o,ops[j]?=some o→listed.getD j true=true→∀e∈o.after,Region.binds .any e=true→listed.getD e.on false=true)→
  Rel io w0 N g s a w→evL P Γ imm ops rem s=some s'→wpAny P .any ops Q fuel listed a w:=by
 intro fuel
 induction fuel with
 |zero=>intro listed rem g s a w hlen;omega
 |succ fuel ih=>
  intro listed rem g s a w hlen hsz hrem hA hln hpw hcl h he;have hl':∀x,x<n+1→¬x∈rem→listed.getD x false=true:=fun x hx hm=>by
   by_cases hxn:x=n
   ·rw[hxn];exact hA
   ·rw[hrem]at hm
    have hlt':x<listed.size:=by omega
    have:listed.getD x true≠false:=fun h0=>hm ⟨by omega,h0⟩;simp[hlt']at this⊢;exact this
  have hne:Region.ready .any ops listed≠[]:=by
   intro hnil;cases rem with
   |nil=>
    have:n+1∈Region.ready .any ops listed:=by rw[mem_ready];refine⟨hln,ops[n+1],Array.getElem?_eq_getElem (by omega),fun e he hb=>?_⟩;exact hl' _ (vg hed (Array.getElem?_eq_getElem (by omega)) e he hb) (by simp)
    rw[hnil]at this;cases this
   |cons i0 q=>
    obtain⟨hi1,hi2⟩:=(hrem i0).1 (by simp);have:i0∈Region.ready .any ops listed:=by
     rw[mem_ready];refine⟨hi2,ops[i0],Array.getElem?_eq_getElem (by omega),fun e he hb=>?_⟩;have hlt:=vg hed (Array.getElem?_eq_getElem (by omega)) e he hb;refine hl' _ (by omega) fun hm=>?_;rcases List.mem_cons.1 hm with hm|hm
     ·omega
     ·have:=(List.pairwise_cons.1 hpw).1 _ hm
      omega
    rw[hnil]at this;cases this
  refine⟨fun hr=>absurd hr hne,fun i hi=>?_⟩;rw[mem_ready]at hi;obtain⟨h1,o,h2,h3⟩:=hi;have hilt:=(Array.getElem?_eq_some_iff.1 h2).1;by_cases hin:i=n+1
  ·subst hin
   have hnil:rem=[]:=by
    cases rem with
    |nil=>rfl
    |cons i0 q=>
     exfalso;obtain⟨hi1,hi2⟩:=(hrem i0).1 (by simp);have hxl:=fG hcl _ _ _ (hlast i0 (by omega)) (fun o' ho' e he hb=>by rw[h2]at ho';cases ho';exact h3 e he hb);have hlt:i0<listed.size:=by omega
     simp[hlt]at hi2 hxl;rw[hi2]at hxl;cases hxl
   subst hnil;simp only[evL,Option.some.injEq]at he;subst he;refine wpOp_mono (fun a' w' hq=>?_) (hQ g a w h);refine aic (fun x hx=>?_) hq fuel;by_cases hxi:x=n+1
   ·subst hxi
    have hlt:n+1<listed.size:=by omega
    simp[hlt]
   ·rw[getD_set_ne true (fun e=>hxi e.symm)]
    have:=hl' x (by omega) (by simp);have hlt:x<listed.size:=by omega
    simp[hlt]at this⊢;exact this
  ·have hin2:i≠n:=fun e=>by
    subst e;have hlt:i<listed.size:=by omega
    simp[hlt]at hA h1;rw[hA]at h1;cases h1
   have hmem:=(hrem i).2 ⟨by omega,h1⟩;obtain⟨p,q,rfl⟩:=List.append_of_mem hmem;have hpi:∀x∈p,eU Γ imm ops x i=true:=fun x hx=>by
    have hxi:x<i:=by rw[List.pairwise_append]at hpw;exact hpw.2.2 x hx i (by simp)
    rcases(ahm hp (show i<n by omega) hxi).symm with ho|ho
    ·exfalso
     have hxl:=fG hcl _ _ _ ho (fun o' ho' e he hb=>by rw[h2]at ho';cases ho';exact h3 e he hb);have:=((hrem x).1 (by simp[hx])).2;have hlt:x<listed.size:=by have:=((hrem x).1 (by simp[hx])).1;omega
     simp[hlt]at this hxl;rw[this]at hxl;cases hxl
    ·exact ho
   have hfr:=iV hpi he;rw[dh,h2]at hfr;dsimp only at hfr;split at hfr
   ·rename_i s1 hs1
    have hdo:gV N o=true:=(Array.all_eq_true_iff_forall_mem.1 hd) o (Array.mem_of_getElem? h2);refine adk h hΓ hio hdo hs1 h2 fun g' a' w' hr=>ih _ (p++q) g' s1 a' w' (by simp at hlen⊢;omega) (by simpa using hsz) (fun j=>?_) ?_ ?_ ?_ ?_ hr hfr
    ·by_cases hji:j=i
     ·subst hji
      have hnp:j∉p++q:=by
       rw[List.pairwise_append]at hpw;intro hm;rcases List.mem_append.1 hm with hm|hm
       ·have:=hpw.2.2 j hm j (by simp)
        omega
       ·have:=(List.pairwise_cons.1 hpw.2.1).1 j hm
        omega
      constructor
      ·intro hm;exact absurd hm hnp
      ·rintro⟨_,hf⟩
       have hlt:j<listed.size:=by omega
       simp[hlt]at hf
     ·rw[getD_set_ne true (fun e=>hji e.symm),←hrem j]
      simp[hji]
    ·exact getD_set_true hA
    ·rw[getD_set_ne true hin]
     exact hln
    ·rw[List.pairwise_append]at hpw⊢
     exact⟨hpw.1,(List.pairwise_cons.1 hpw.2.1).2,fun x hx y hy=>hpw.2.2 x hx y (by simp[hy])⟩
    ·intro j o' ho' hl e he hb
     by_cases hji:j=i
     ·subst hji
      rw[h2]at ho';cases ho';exact getD_set_true (h3 e he hb)
     ·rw[getD_set_ne true (fun e=>hji e.symm)]at hl
      exact getD_set_true (hcl j o' ho' hl e he hb)
   ·cases hfr
def ak7 (Γ:Ctx) (imm:Md) (ops:Array Oper) (xs:List Nat) (i:Nat):Bool:=match ops[i]? with|some o=> !eZ Γ imm o&&(match o.dst with|some d=> !xs.contains d|none=>true)|none=>true
theorem anR {o:Oper} {s s1:AS} (h:eZ Γ imm o=false) (he:pY P Γ imm ops o s=some s1):s1.ob=s.ob∧s1.nx=s.nx∧∀t,o.dst≠some t→s1.tm t=s.tm t:=by
 have key:∀p,s1=s.put o.dst p→s1.ob=s.ob∧s1.nx=s.nx∧∀t,o.dst≠some t→s1.tm t=s.tm t:=fun p e=>by subst e;exact⟨qz.1,qz.2,fun t ht=>yE ht⟩
 unfold pY at he;split at he
 ·unfold atM at he
  rw[h]at he;simp only[Bool.false_eq_true,if_false,Option.map_eq_some_iff]at he;obtain⟨p,-,rfl⟩:=he;exact key p rfl
 ·cases he
  exact key _ rfl
 ·cases he
theorem aaq {xs:List Nat}:∀{rem:List Nat} {s s':AS},(∀x∈rem,ak7 Γ imm ops xs x=true)→evL P Γ imm ops rem s=some s'→s'.ob=s.ob∧s'.nx=s.nx∧∀t∈xs,s'.tm t=s.tm t
 |[],s,s',_,h=>by simp only[evL,Option.some.injEq]at h;subst h;exact⟨rfl,rfl,fun _ _=>rfl⟩
 |i::rem,s,s',hf,h=>by
  rw[dh]at h;have h0:=hf i (by simp);have ht:=fun x hx=>hf x (List.mem_cons_of_mem _ hx);unfold ak7 at h0;cases ho:ops[i]? with
  |none=>rw[ho]at h;exact aaq ht h
  |some o=>
   rw[ho]at h h0;dsimp only at h h0;split at h
   ·rename_i s1 hs1
    simp only[Bool.and_eq_true,Bool.not_eq_true']at h0;obtain⟨k1,k2,k3⟩:=anR h0.1 hs1;obtain⟨j1,j2,j3⟩:=aaq ht h;refine⟨j1.trans k1,j2.trans k2,fun t hx=>(j3 t hx).trans (k3 t fun e=>?_)⟩;have:=h0.2;rw[e]at this;simp[hx]at this
   ·cases h
def aur (d:Nat) (v:Value):Oper:={dst:=some d,op:=.move (.const v),type:=0,pos:= "",after:=#[],guard:=none}
theorem ab0 {i n:Nat} {o:Oper} (hn:n<ops.size):∀{rem:List Nat} {s:AS},(∀x∈rem,x<n)→(∀x∈rem,∀o',ops[x]?=some o'→o'.guard=none)→evL P Γ imm (ops.setIfInBounds n o) rem s=evL P Γ imm ops rem s
 |[],_,_,_=>rfl
 |x::rem,s,h,hg=>by
  rw[dh,dh];have hx:=h x (by simp);have e:(ops.setIfInBounds n o)[x]?=ops[x]?:=by rw[Array.getElem?_setIfInBounds,if_neg (by omega)]
  rw[e];cases ho:ops[x]? with
  |none=>exact ab0 (i:=i) hn (fun y hy=>h y (by simp[hy])) fun y hy=>hg y (by simp[hy])
  |some o'=>
   dsimp only
   have hgd:=hg x (by simp) o' ho;have e2:pY P Γ imm (ops.setIfInBounds n o) o' s=pY P Γ imm ops o' s:=by unfold pY gP;rw[hgd]
   rw[e2];cases pY P Γ imm ops o' s with
   |none=>rfl
   |some s1=>exact ab0 (i:=i) hn (fun y hy=>h y (by simp[hy])) fun y hy=>hg y (by simp[hy])
theorem abW {n:Nat} {o:Oper} (hn:ops[n]?=some o):∀{rem:List Nat} {s s1 s2:AS},evL P Γ imm ops rem s=some s1→pY P Γ imm ops o s1=some s2→evL P Γ imm ops (rem++[n]) s=some s2
 |[],s,s1,s2,h,h2=>by
  simp only[evL,Option.some.injEq]at h;subst h;rw[List.nil_append,dh,hn];dsimp only
  rw[h2];rfl
 |x::rem,s,s1,s2,h,h2=>by
  rw[List.cons_append,dh];rw[dh]at h;cases ho:ops[x]? with
  |none=>rw[ho]at h;exact abW hn h h2
  |some o'=>
   rw[ho]at h;dsimp only at h⊢;cases he:pY P Γ imm ops o' s with
   |none=>rw[he]at h;cases h
   |some s3=>rw[he]at h;exact abW hn h h2
theorem alC {n d:Nat} {v:Value} (hn:n<ops.size) {rem:List Nat} {s s1:AS} (hlt:∀x∈rem,x<n) (hg:∀x∈rem,∀o',ops[x]?=some o'→o'.guard=none) (hi:∀x∈rem,eU Γ imm (ops.setIfInBounds n (aur d v)) x n=true) (h:evL P Γ imm ops rem s=some s1):evL P Γ imm ops rem (s.put (some d) (.val v))=some (s1.put (some d) (.val v)):=by
 have hs:∀s:AS,pY P Γ imm (ops.setIfInBounds n (aur d v)) (aur d v) s=some (s.put (some d) (.val v)):=fun s=>rfl;have hnn:(ops.setIfInBounds n (aur d v))[n]?=some (aur d v):=by rw[Array.getElem?_setIfInBounds,if_pos rfl,if_pos hn]
 have h1:evL P Γ imm (ops.setIfInBounds n (aur d v)) rem s=some s1:=by rw[ab0 (i:=n) hn hlt hg];exact h
 have h2:=abW hnn h1 (hs s1);have h3:=iV (q:=[]) hi h2;rw[List.append_nil,dh,hnn]at h3;dsimp only at h3;rw[hs]at h3;dsimp only at h3;rw[ab0 (i:=n) hn hlt hg]at h3;exact h3
theorem awj {σ:Fgn} {n d:Nat} (hn:ops.size=n+2) {A:Oper} (hA:ops[n]?=some A) (hAg:A.guard=none) (hd:ops.all (gV N)=true) (hp:abq Γ imm ops n=true) (hed:aaw ops=true) (hlast:∀i,i<n+1→tT ops ops.size i (n+1)=true) {xs:List Nat}
 (hfree:∀i,i<n→tT ops ops.size i n=true∨ak7 Γ imm ops xs i=true) (hsur:∀v i,i<n→tT ops ops.size i n=true∨eU Γ imm (ops.setIfInBounds n (aur d v)) i n=true) (hgd:∀i,i<n→∀o',ops[i]?=some o'→o'.guard=none)
 {RA:Value→Fgn→Prop} {Q:Exit→Act→World→Prop} {s':AS}
 (hΓ:∀io w0 g s a w,Rel io w0 N g s a w→HzC io w00 w0 B σ.bk→σ.at_ w→fJ P Γ io.wr w0)
 (hΓ':∀v σ',RA v σ'→∀io w0 g s a w,Rel io w0 N g s a w→HzC io w00 w0 B σ'.bk→σ'.at_ w→fJ P Γ io.wr w0)
 (hAw:∀s a w,Zt P N B w00 s σ a w→s'.ob=s.ob→s'.nx=s.nx→(∀t∈xs,s'.tm t=s.tm t)→∀(Kn:Act→World→Prop) (Q':Exit→Act→World→Prop),(∀v σ' a' w',Zt P N B w00 (s.put (some d) (.val v)) σ' a' w'→RA v σ'→Kn a' w')→A.wp P a w Kn Q')
 (hU:∀v σ',RA v σ'→∀a' w',Zt P N B w00 (s'.put (some d) (.val v)) σ' a' w'→wpOp P ops Q (n+1) (Q .normal) a' w'):
 ∀(fuel:Nat) (listed:Array Bool) (rem:List Nat) (io:IoS) (w0:World) (g:Gh) (s:AS) (a:Act) (w:World),Rel io w0 N g s a w→HzC io w00 w0 B σ.bk→σ.at_ w→rem.length+2≤fuel→listed.size=ops.size→(∀i,i∈rem↔i<n∧listed.getD i true=false)→listed.getD n true=false→listed.getD (n+1) true=false→rem.Pairwise (· < ·)→
  (∀j o,ops[j]?=some o→listed.getD j true=true→∀e∈o.after,Region.binds .any e=true→listed.getD e.on false=true)→
  evL P Γ imm ops rem s=some s'→wpAny P .any ops Q fuel listed a w:=by
 intro fuel
 induction fuel with
 |zero=>intro listed rem io w0 g s a w _ _ _ hlen;omega
 |succ fuel ih=>
  intro listed rem io w0 g s a w h hC hM hlen hsz hrem hAn hln hpw hcl he;have hl':∀x,x<n→¬x∈rem→listed.getD x false=true:=fun x hx hm=>by
   rw[hrem]at hm;have hlt':x<listed.size:=by omega
   have:listed.getD x true≠false:=fun h0=>hm ⟨hx,h0⟩;simp[hlt']at this⊢;exact this
  have hne:Region.ready .any ops listed≠[]:=by
   intro hnil;cases rem with
   |nil=>
    have:n∈Region.ready .any ops listed:=by rw[mem_ready];refine⟨hAn,A,hA,fun e he hb=>?_⟩;exact hl' _ (vg hed hA e he hb) (by simp)
    rw[hnil]at this;cases this
   |cons i0 q=>
    obtain⟨hi1,hi2⟩:=(hrem i0).1 (by simp);have:i0∈Region.ready .any ops listed:=by
     rw[mem_ready];refine⟨hi2,ops[i0],Array.getElem?_eq_getElem (by omega),fun e he hb=>?_⟩;have hlt:=vg hed (Array.getElem?_eq_getElem (by omega)) e he hb;refine hl' _ (by omega) fun hm=>?_;rcases List.mem_cons.1 hm with hm|hm
     ·omega
     ·have:=(List.pairwise_cons.1 hpw).1 _ hm
      omega
    rw[hnil]at this;cases this
  refine⟨fun hr=>absurd hr hne,fun i hi=>?_⟩;rw[mem_ready]at hi;obtain⟨h1,o,h2,h3⟩:=hi;have hilt:=(Array.getElem?_eq_some_iff.1 h2).1;have hordl:∀x,tT ops ops.size x i=true→x<n→¬x∈rem:=fun x hox hxn hm=>by
   have hxl:=fG hcl _ _ _ hox (fun o' ho' e he hb=>by rw[h2]at ho';cases ho';exact h3 e he hb);have:=((hrem x).1 hm).2;have hlt:x<listed.size:=by omega
   simp[hlt]at this hxl;rw[this]at hxl;cases hxl
  by_cases hiU:i=n+1
  ·exfalso
   subst hiU;have hxl:=fG hcl _ _ _ (hlast n (by omega)) (fun o' ho' e he hb=>by rw[h2]at ho';cases ho';exact h3 e he hb);have hlt:n<listed.size:=by omega
   simp[hlt]at hAn hxl;rw[hAn]at hxl;cases hxl
  ·by_cases hin:i=n
   ·subst hin
    rw[hA]at h2;cases h2;have hrl:∀x∈rem,x<i:=fun x hx=>((hrem x).1 hx).1;have hrf:∀x∈rem,ak7 Γ imm ops xs x=true:=fun x hx=>by
     rcases hfree x (hrl x hx)with q|q
     ·exact absurd hx (hordl x q (hrl x hx))
     ·exact q
    obtain⟨k1,k2,k3⟩:=aaq hrf he;unfold wpOp;simp only[hA];have hw:Region.wanted A (yielded ops a.tmps)=true:=by simp[Region.wanted,hAg]
    rw[hw];simp only[if_true];left;refine hAw s a w ⟨⟨io,w0,g,h,hC⟩,hM⟩ k1 k2 k3 _ _ fun v σ' a' w' hz hR=>?_;obtain⟨⟨io',w0',g',hr',hC'⟩,hM'⟩:=hz;have he2:=alC (d:=d) (v:=v) (by omega) hrl (fun x hx=>hgd x (hrl x hx)) (fun x hx=>by
     rcases hsur v x (hrl x hx)with q|q
     ·exact absurd hx (hordl x q (hrl x hx))
     ·exact q) he
    have hrun:=hΓ' v σ' hR io' w0' g' _ a' w' hr' hC' hM';refine ata hrun hC'.lt hd hn hp hed hlast (s':=s'.put (some d) (.val v)) (fun g2 a2 w2 hr2=>hU v σ' hR a2 w2 ⟨⟨io',w0',g2,hr2,hC'⟩,Fgn.same hC' hr' hr2 hM'⟩) fuel _ rem g' _ a' w' (by omega) (by simpa using hsz) (fun j=>?_) ?_ ?_ hpw ?_ hr' he2
    ·by_cases hji:j=i
     ·subst hji
      constructor
      ·intro hm;exact absurd (hrl j hm) (by omega)
      ·rintro⟨hf,_⟩;omega
     ·rw[getD_set_ne true (fun e=>hji e.symm),←hrem j]
    ·have hlt:i<listed.size:=by omega
     simp[hlt]
    ·rw[getD_set_ne true (by omega)]
     exact hln
    ·intro j o' ho' hl e he hb
     by_cases hji:j=i
     ·subst hji
      rw[hA]at ho';cases ho';exact getD_set_true (h3 e he hb)
     ·rw[getD_set_ne true (fun e=>hji e.symm)]at hl
      exact getD_set_true (hcl j o' ho' hl e he hb)
   ·have hmem:=(hrem i).2 ⟨by omega,h1⟩
    obtain⟨p,q,rfl⟩:=List.append_of_mem hmem;have hpi:∀x∈p,eU Γ imm ops x i=true:=fun x hx=>by
     have hxi:x<i:=by rw[List.pairwise_append]at hpw;exact hpw.2.2 x hx i (by simp)
     rcases(ahm hp (show i<n by omega) hxi).symm with ho|ho
     ·exact absurd (by simp[hx]) (hordl x ho (by omega))
     ·exact ho
    have hfr:=iV hpi he;rw[dh,h2]at hfr;dsimp only at hfr;split at hfr
    ·rename_i s1 hs1
     have hdo:gV N o=true:=(Array.all_eq_true_iff_forall_mem.1 hd) o (Array.mem_of_getElem? h2);refine adk h (hΓ io w0 g s a w h hC hM) hC.lt hdo hs1 h2 fun g' a' w' hr=>ih _ (p++q) io w0 g' s1 a' w' hr hC (Fgn.same hC h hr hM) (by simp at hlen⊢;omega) (by simpa using hsz) (fun j=>?_) ?_ ?_ ?_ ?_ hfr
     ·by_cases hji:j=i
      ·subst hji
       have hnp:j∉p++q:=by
        rw[List.pairwise_append]at hpw;intro hm;rcases List.mem_append.1 hm with hm|hm
        ·have:=hpw.2.2 j hm j (by simp)
         omega
        ·have:=(List.pairwise_cons.1 hpw.2.1).1 j hm
         omega
       constructor
       ·intro hm;exact absurd hm hnp
       ·rintro⟨_,hf⟩
        have hlt:j<listed.size:=by omega
        simp[hlt]at hf
      ·rw[getD_set_ne true (fun e=>hji e.symm),←hrem j]
       simp[hji]
     ·rw[getD_set_ne true hin]
      exact hAn
     ·rw[getD_set_ne true hiU]
      exact hln
     ·rw[List.pairwise_append]at hpw⊢
      exact⟨hpw.1,(List.pairwise_cons.1 hpw.2.1).2,fun x hx y hy=>hpw.2.2 x hx y (by simp[hy])⟩
     ·intro j o' ho' hl e he hb
      by_cases hji:j=i
      ·subst hji
       rw[h2]at ho';cases ho';exact getD_set_true (h3 e he hb)
      ·rw[getD_set_ne true (fun e=>hji e.symm)]at hl
       exact getD_set_true (hcl j o' ho' hl e he hb)
    ·cases hfr
variable {c:Code} {K:X→AS→Fgn→Prop} {s:AS} {σ:Fgn}
theorem HZ.avN {id d:Nat} (n:Nat) {os pre:List Oper} {A U:Oper} {xs:List Nat} {RA:Value→Fgn→Prop} (hm:P.follows .mixedOrders=true) (h1:os.take n=pre) (h2:os.drop n=[A,U]) {gs:List (Option Nat)} (hgs:os.map (·.dst)=gs) (hnl:pre.length=n) (hAg:A.guard=none) (hUg:U.guard=none) (hgd:pre.all (fun o=>o.guard.isNone)=true) (hd:os.toArray.all (gV N)=true) (hp:abq Γ imm os.toArray n=true) (hed:aaw os.toArray=true) (hlast:(List.range (n+1)).all (fun i=>tT os.toArray os.toArray.size i (n+1))=true)
 (hfree:(List.range n).all (fun i=>tT os.toArray os.toArray.size i n||ak7 Γ imm os.toArray xs i)=true) (hsur:∀v,(List.range n).all (fun i=>tT os.toArray os.toArray.size i n||eU Γ imm (os.toArray.setIfInBounds n (aur d v)) i n)=true)
 (hΓ:∀io w0 g s a w,Rel io w0 N g s a w→HzC io w00 w0 B σ.bk→σ.at_ w→fJ P Γ io.wr w0)
 (hwq:wq P Γ imm gs pre (fun s1=>(∀v σ',RA v σ'→∀io w0 g s a w,Rel io w0 N g s a w→HzC io w00 w0 B σ'.bk→σ'.at_ w→fJ P Γ io.wr w0)∧
   (∀s a w,Zt P N B w00 s σ a w→s1.ob=s.ob→s1.nx=s.nx→(∀t∈xs,s1.tm t=s.tm t)→∀(Kn:Act→World→Prop) (Q':Exit→Act→World→Prop),(∀v σ' a' w',Zt P N B w00 (s.put (some d) (.val v)) σ' a' w'→RA v σ'→Kn a' w')→A.wp P a w Kn Q')∧
   (∀v σ',RA v σ'→∀a w,Zt P N B w00 (s1.put (some d) (.val v)) σ' a w→∀(Kn:Act→World→Prop) (Q':Exit→Act→World→Prop),(∀s2 σ2 a' w',Zt P N B w00 s2 σ2 a' w'→K .normal s2 σ2→Kn a' w')→U.wp P a w Kn Q')) s.tm s.ob s.nx):HZ P N B w00 (.region id os.toArray true) K s σ:=HZ.mk fun a w hs Q hQ=>by
 obtain⟨⟨io,w0,g,hr,hC⟩,hM⟩:=hs;subst hgs;rw[show os.map (·.dst)=os.toArray.toList.map (·.dst) by simp,←mg]at hwq;obtain⟨s1,e1,q1,q2,q3⟩:=oO _ _ hwq;have hops:os=pre++[A,U]:=by rw[←h1,←h2,List.take_append_drop]
 have hsz:os.toArray.size=n+2:=by show os.length=n+2;rw[hops,List.length_append,hnl];rfl
 have hlen2:os.length=n+2:=hsz;have hAn:os.toArray[n]?=some A:=by
  have:os[n]?=some A:=by rw[hops,←hnl];simp
  simpa using this
 have hUn:os.toArray[n+1]?=some U:=by
  have:os[n+1]?=some U:=by rw[hops,←hnl,List.getElem?_append_right (by omega)];simp
  simpa using this
 refine wp_region_any hm ?_;have hdrew:Rel io w0 N g s a {w with drawn:=w.drawn+1}:=⟨hr.nt,hr.df,fun t=>Rep.mono (w:=w) (w':={w with drawn:=w.drawn+1}) (g:=g) (g':=g) (Gh.le_refl g) (fun _ _ _=>rfl) _ _ (hr.tm t),fun o c ho=>by obtain⟨k1,k2,k3,k4⟩:=hr.ob o c ho;exact⟨k1,k2,k3,pX.mono (w:=w) (w':={w with drawn:=w.drawn+1}) (g:=g) (g':=g) k4 (Gh.le_refl g) k1 (fun _ _ _=>rfl) rfl⟩,hr.inj,hr.nx,hr.lt,hr.new,⟨hr.fr.os,hr.fr.tape,hr.fr.output,hr.fr.size,hr.fr.block⟩,hr.old,hr.fix,hr.hl,hr.tab⟩
 have hall:∀{f:Nat→Bool} {m:Nat},(List.range m).all f=true→∀i,i<m→f i=true:=fun h i hi=>(List.all_eq_true.1 h) i (by simpa using hi);refine awj (A:=A) (d:=d) (xs:=xs) (RA:=RA) hsz hAn hAg hd hp hed (fun i hi=>hall hlast i hi) (fun i hi=>by simpa [Bool.or_eq_true]using hall hfree i hi) (fun v i hi=>by simpa [Bool.or_eq_true]using hall (hsur v) i hi) (fun i hi o' ho'=>?_) (s':=s1) hΓ q1 q2 (fun v σ' hR a' w' hz=>?_) os.toArray.size _ (List.range n) io w0 g s a _ hdrew hC (σ.keep w _ (fun _ _=>rfl) hM) (by simp;omega) (by simp) (fun i=>?_) (by simp[hsz]) (by simp[hsz]) List.pairwise_lt_range (fun j o ho hl=>?_) ?_
 ·have ho2:os[i]?=some o':=by simpa using ho'
  rw[hops,List.getElem?_append_left (by omega)]at ho2;have:=(List.all_eq_true.1 hgd) o' (List.mem_of_getElem? ho2);simpa using this
 ·unfold wpOp
  simp only[hUn];have hw:Region.wanted U (yielded os.toArray a'.tmps)=true:=by simp[Region.wanted,hUg]
  rw[hw];simp only[if_true];left;exact q3 v σ' hR a' w' hz _ _ fun s2 σ2 a2 w2 hz2 hk=>hQ .normal s2 σ2 a2 w2 hz2 hk
 ·simp only[List.mem_range]
  constructor
  ·intro hi;exact⟨hi,by have:i<os.length:=(by omega);simp[this]⟩
  ·exact fun hi=>hi.1
 ·have hlt:=(Array.getElem?_eq_some_iff.1 ho).1
  simp at hlt;simp[hlt]at hl
 ·have:=afl (P:=P) (Γ:=Γ) (imm:=imm) (ops:=os.toArray) (l2:=[A,U]) pre 0 s (by rw[List.drop_zero];exact hops)
  rw[List.range_eq_range',←hnl,this];exact e1
end
structure En where
 w:ByteArray
 v:Value
 ns:List Int
def En.kv (m:En):Value×Value:=(.string m.w,m.v)
def abJ (l:List Int):List Value:=l.map (Value.int .i64)
theorem jK {w w':World} {B e n:Nat} {v:Value} {xs:List Value} (h:w.ownsRow B e 1 v n xs) (hs:∀g,v.ownBlock=some g→w'.heap[g]?=w.heap[g]?):w'.ownsRow B e 1 v n xs:=by
 refine⟨h.1,?_⟩;rcases h.2 with h0|⟨g,cap,cur,rfl,h1,h2,h3⟩
 ·exact .inl h0
 ·exact .inr ⟨g,cap,cur,rfl,h1,(hs g rfl).trans h2,h3⟩
structure IxA (P:Program) (k T B b:Nat) (M:List En) (w:World):Prop where
 map:jm P k w b (M.map En.kv)
 row:∀m∈M,w.ownsRow B T 1 m.v m.ns.length (abJ m.ns)
 own:∀m∈M,∃g,m.v.ownBlock=some g∧g≠b
 dis:M.Pairwise fun x y=>x.v.ownBlock≠y.v.ownBlock
def inG (G:Nat→Prop) (b:Nat) (M:List En):Prop:=G b∧∀m∈M,∀g,m.v.ownBlock=some g→G g
section
variable {P:Program} {k T B b:Nat} {M:List En} {w w':World} {G:Nat→Prop}
theorem IxA.same (h:IxA P k T B b M w) (hb:w'.heap[b]?=w.heap[b]?) (hs:∀m∈M,∀g,m.v.ownBlock=some g→w'.heap[g]?=w.heap[g]?):IxA P k T B b M w':=
 ⟨h.map.same hb,fun m hm=>jK (h.row m hm) (hs m hm),h.own,h.dis⟩
def ixF (P:Program) (k T B b:Nat) (G:Nat→Prop) (M:List En):Fgn:=⟨G,fun w=>inG G b M∧IxA P k T B b M w,fun w w' h hM=>⟨hM.1,hM.2.same (h b hM.1.1) fun m hm g hg=>h g (hM.1.2 m hm g hg)⟩⟩
theorem IxA.lt (h:IxA P k T B b M w) {m:En} (hm:m∈M) {g:Nat} (hg:m.v.ownBlock=some g):B≤g∧g<w.heap.size:=(h.row m hm).lt g hg
theorem IxA.made (w:World):IxA P k T B w.heap.size [] (w.alloc (.map #[] 0)):=⟨jm.made w,by simp,by simp,by simp⟩
structure IxH (P:Program) (k T B b:Nat) (M:List En) (m':En) (w:World):Prop where
 map:jm P k w b (M.map En.kv)
 row:∀m∈M,m.w≠m'.w→w.ownsRow B T 1 m.v m.ns.length (abJ m.ns)
 own:∀m∈M,∃g,m.v.ownBlock=some g∧g≠b
 dis:M.Pairwise fun x y=>x.v.ownBlock≠y.v.ownBlock
 new:w.ownsRow B T 1 m'.v m'.ns.length (abJ m'.ns)
 news:∃g,m'.v.ownBlock=some g∧g≠b
 newd:∀m∈M,m.w≠m'.w→m.v.ownBlock≠m'.v.ownBlock
theorem IxH.same {m':En} (h:IxH P k T B b M m' w) (hb:w'.heap[b]?=w.heap[b]?) (hs:∀m∈M,∀g,m.v.ownBlock=some g→w'.heap[g]?=w.heap[g]?) (hn:∀g,m'.v.ownBlock=some g→w'.heap[g]?=w.heap[g]?):IxH P k T B b M m' w':=
 ⟨h.map.same hb,fun m hm hw=>jK (h.row m hm hw) (hs m hm),h.own,h.dis,jK h.new hn,h.news,h.newd⟩
def ixH (P:Program) (k T B b:Nat) (G:Nat→Prop) (M:List En) (m':En):Fgn:=⟨G,fun w=>(inG G b M∧∀g,m'.v.ownBlock=some g→G g)∧IxH P k T B b M m' w,fun w w' h hM=>⟨hM.1,hM.2.same (h b hM.1.1.1) (fun m hm g hg=>h g (hM.1.1.2 m hm g hg)) fun g hg=>h g (hM.1.2 g hg)⟩⟩
def vk:List En→En→List En
 |[],m'=>[m']
 |m::M,m'=>if m.w=m'.w then m'::M else m::vk M m'
theorem as4 {M:List En} {m' m:En} (h:m∈vk M m'):m=m'∨m∈M:=by
 induction M with
 |nil=>exact .inl (by simpa [vk]using h)
 |cons x M ih=>
  unfold vk at h;split at h
  ·rcases List.mem_cons.1 h with h|h
   ·exact .inl h
   ·exact .inr (by simp[h])
  ·rcases List.mem_cons.1 h with h|h
   ·exact .inr (by simp[h])
   ·exact(ih h).imp id fun q=>by simp[q]
theorem abF:∀{M:List En} {m':En},(∀m∈M,m.w≠m'.w)→vk M m'=M++[m']
 |[],m',h=>rfl
 |m::M,m',h=>by unfold vk;rw[if_neg (h m (by simp)),abF fun x hx=>h x (by simp[hx])];rfl
theorem agQ:∀{M1 M2:List En} {m m':En},(∀x∈M1,x.w≠m'.w)→m.w=m'.w→vk (M1++m::M2) m'=M1++m'::M2
 |[],M2,m,m',h,e=>by simp[vk,e]
 |x::M1,M2,m,m',h,e=>by rw[List.cons_append,vk,if_neg (h x (by simp)),agQ (fun y hy=>h y (by simp[hy])) e];rfl
theorem aoD {M:List En} {s:ByteArray}:(∀m∈M,m.w≠s)∨∃M1 m M2,M=M1++m::M2∧m.w=s∧∀x∈M1,x.w≠s:=by
 induction M with
 |nil=>exact .inl (by simp)
 |cons x M ih=>
  by_cases h:x.w=s
  ·exact .inr ⟨[],x,M,rfl,h,by simp⟩
  ·rcases ih with h2|⟨M1,m,M2,rfl,h2,h3⟩
   ·exact .inl fun m hm=>by
     rcases List.mem_cons.1 hm with rfl|hm
     ·exact h
     ·exact h2 m hm
   ·exact .inr ⟨x::M1,m,M2,rfl,h2,fun y hy=>by
     rcases List.mem_cons.1 hy with rfl|hy
     ·exact h
     ·exact h3 y hy⟩
theorem jm.uniq {M1 M2:List En} {m:En} (h:jm P k w b ((M1++m::M2).map En.kv)):∀x,x∈M1∨x∈M2→x.w≠m.w:=by
 obtain⟨es,clock,_,H⟩:=h;have hk:=H.keys;rw[List.map_map,List.map_append,List.map_cons,List.nodup_append]at hk;obtain⟨k1,k2,k3⟩:=hk;rw[List.nodup_cons]at k2;intro x hx e;rcases hx with hx|hx
 ·exact k3 _ (List.mem_map.2 ⟨x,hx,rfl⟩) _ (List.mem_cons_self ..) (by simp[En.kv,e])
 ·exact k2.1 (List.mem_map.2 ⟨x,hx,by simp[En.kv,e]⟩)
theorem IxH.upd {m':En} {t e:TypeId} {kl:Lit} (h:IxH P k T B b M m' w) (K:Go.Maps.Keyed P k) (ht:P.underlying t=some (.map k e)) (hkey:keyOf P k (.string m'.w)=some kl):
 ∃w',(Instr.mapUpdate t (.map (some b)) (.string m'.w) m'.v).run P w=.ok () w'∧IxA P k T B b (vk M m') w'∧w.grownBy w' (some b)∧w'.heap.size=w.heap.size:=by
 rcases aoD (M:=M) (s:=m'.w)with hn|⟨M1,m,M2,rfl,hm,h1⟩
 ·obtain⟨w',k1,k2,k3,k4⟩:=h.map.alk (v:=m'.v) K ht hkey (fun p hp=>by
   obtain⟨x,hx,rfl⟩:=List.mem_map.1 hp;intro e;cases e2:x with
   |mk a v n=>subst e2;simp only[En.kv,Value.string.injEq]at e;exact hn _ hx e)
  rw[abF hn];refine⟨w',k1,⟨by simpa [En.kv]using k2,fun x hx=>?_,fun x hx=>?_,?_⟩,k3,k4⟩
  ·rcases List.mem_append.1 hx with hx|hx
   ·obtain⟨g,hg,hgb⟩:=h.own x hx
    exact(h.row x hx (hn x hx)).kept k3 (.inr (by rw[hg];simpa using hgb))
   ·rw[List.mem_singleton.1 hx]
    obtain⟨g,hg,hgb⟩:=h.news;exact h.new.kept k3 (.inr (by rw[hg];simpa using hgb))
  ·rcases List.mem_append.1 hx with hx|hx
   ·exact h.own x hx
   ·rw[List.mem_singleton.1 hx];exact h.news
  ·rw[List.pairwise_append]
   exact⟨h.dis,by simp,fun x hx y hy=>by rw[List.mem_singleton.1 hy];exact h.newd x hx (hn x hx)⟩
 ·have hu:=jm.uniq h.map
  have hmap:=h.map;rw[List.map_append,List.map_cons,show m.kv=(.string m'.w,m.v) by rw[En.kv,hm]]at hmap;obtain⟨w',k1,k2,k3,k4⟩:=hmap.anx (v:=m'.v) K ht hkey;have hne:∀x,x∈M1∨x∈M2→x.w≠m'.w:=fun x hx=>hm▸hu x hx;have hin:∀x,x∈M1∨x∈M2→x∈M1++m::M2:=fun x hx=>by rcases hx with hx|hx<;>simp[hx]
  have hcase:∀x∈M1++m'::M2,x=m'∨(x∈M1∨x∈M2):=fun x hx=>by
   rcases List.mem_append.1 hx with hx|hx
   ·exact .inr (.inl hx)
   ·exact(List.mem_cons.1 hx).imp id .inr
  rw[agQ h1 hm];refine⟨w',k1,⟨by simpa [En.kv]using k2,fun x hx=>?_,fun x hx=>?_,?_⟩,k3,k4⟩
  ·rcases hcase x hx with rfl|hx
   ·obtain⟨g,hg,hgb⟩:=h.news
    exact h.new.kept k3 (.inr (by rw[hg];simpa using hgb))
   ·obtain⟨g,hg,hgb⟩:=h.own x (hin x hx)
    exact(h.row x (hin x hx) (hne x hx)).kept k3 (.inr (by rw[hg];simpa using hgb))
  ·rcases hcase x hx with rfl|hx
   ·exact h.news
   ·exact h.own x (hin x hx)
  ·have hd:=h.dis
   rw[List.pairwise_append,List.pairwise_cons]at hd⊢;refine⟨hd.1,⟨fun y hy=>fun e=>h.newd y (hin y (.inr hy)) (hne y (.inr hy)) e.symm,hd.2.1.2⟩,fun x hx y hy=>?_⟩;rcases List.mem_cons.1 hy with rfl|hy
   ·exact h.newd x (hin x (.inl hx)) (hne x (.inl hx))
   ·exact hd.2.2 x hx y (by simp[hy])
end
section
variable {P:Program} {N B:Nat} {w00:World} {σ:Fgn} {Γ:Ctx} {imm:Md} {c:Code} {K:X→AS→Fgn→Prop} {s:AS} {k T b:Nat} {M:List En} {G:Nat→Prop}
def atQ (P:Program) (N B:Nat) (w00:World) (Γ:Ctx) (σ:Fgn):Prop:=∀io w0 g s a w,Rel io w0 N g s a w→HzC io w00 w0 B σ.bk→σ.at_ w→fJ P Γ io.wr w0
theorem aqn {Mo:MpO} {L:VL} (hΓ:au P Γ) (hat:∀w,σ.at_ w→σ.bk Mo.b∧jm P k w Mo.b L) (hans:∀key c p,Mo.ans key c=some p→∀(w:World) (g:Gh),jm P k w Mo.b L→∃v,(Instr.lookup Mo.t (.map (some Mo.b)) key c).run P w=.ok v w∧Rep g w p v):atQ P N B w00 (Γ.see Mo) σ:=by intro io w0 g s a w hr hC hM;refine⟨hΓ.1,hΓ.2.1,fun M' hM'=>?_⟩;cases hM';have hb:=(hat w hM).1;refine⟨hC.hb _ hb,fun q=>hC.ne _ (.inl q) hb,fun key c p hp w1 g1 he=>hans key c p hp w1 g1 ((hat w hM).2.same ?_)⟩;rw[he];exact(hr.fr.block _ (hC.hb _ hb) fun q=>hC.ne _ (.inl q) hb).symm
variable {ops:Array Oper} {J:AS→Fgn→Prop} {j:Nat} {o:Oper} {l l1 l2:List Oper}
theorem ZO.aGB {os:List Oper} (n:Nat) (hΓ:atQ P N B w00 Γ σ) (hd:os.toArray.all (gV N)=true) (h1:l.take n=l1) (h2:l.drop n=l2) {gs:List (Option Nat)} (hg:os.map (·.dst)=gs) (hp:wq P Γ imm gs l1 (fun s1=>ZO P N B w00 os.toArray (j+l1.length) l2 J s1 σ) s.tm s.ob s.nx):ZO P N B w00 os.toArray j l J s σ:=ZO.mk fun hl a w hs Q hQ=>by
 obtain⟨⟨io,w0,g,hr,hC⟩,hM⟩:=hs;have hl12:l=l1++l2:=by rw[←h1,←h2,List.take_append_drop]
 subst hg;rw[show os.map (·.dst)=os.toArray.toList.map (·.dst) by simp,←mg]at hp;obtain⟨s1,e1,e2⟩:=oO _ _ hp;rw[hl12]at hl⊢;refine afm (hΓ io w0 g s a w hr hC hM) (fun b hb=>hC.lt b hb) (fun o ho=>(Array.all_eq_true_iff_forall_mem.1 hd) o (by simpa using ho)) l1 j hl hr e1 fun g' a' w' hr'=>?_;refine e2.go ?_ a' w' ⟨⟨io,w0,g',hr',hC⟩,Fgn.same hC hr hr' hM⟩ Q hQ;rw[←List.drop_drop,hl];simp
theorem ZO.aFM {t d:Nat} (ho:o.op=.makeMap t none) (hdst:o.dst=some d) (hd:d<N) (hg:o.guard=none) (h:∀b,B≤b→ZO P N B w00 ops (j+1) l J (s.put (some d) (.val (.map (some b)))) (ixF P k T B b (fun i=>i=b) [])):ZO P N B w00 ops j (o::l) J s Fgn.no:=by
 refine ZO.one hg fun a w hs Kn Q hK=>?_;have hs0:=hs;obtain⟨⟨io,w0,g,hr,hC⟩,hM⟩:=hs0;have hrun:(execOp a.eval o).run P w=.ok (.value (.map (some w.heap.size))) (w.alloc (.map #[] 0)):=by simp[execOp,ho,run_makeMap]
 unfold Oper.wp;rw[hrun,Oper.upon_value,hdst];have hg1:=World.grownBy_alloc w (.map #[] 0) none;have hz:=hs.jE (σ':=ixF P k T B w.heap.size (fun i=>i=w.heap.size) []) (w':=w.alloc (.map #[] 0)) ⟨hg1.os,hg1.tape,hg1.output,hg1.size,fun i hi _=>hg1.block i hi (by simp)⟩ (fun i hi e=>by have:i=w.heap.size:=e;omega) (fun i e=>False.elim e) (fun b' e=>by have e:b'=w.heap.size:=e;rw[e];simp) ⟨⟨rfl,by simp⟩,IxA.made w⟩;exact hK _ _ _ _ (hz.put (fun x e=>by cases e;exact hd) fun g w=>by simp[Rep]) (h _ (Nat.le_trans hC.sz hr.fr.size))
theorem aEN {M:List En} (h:M.Pairwise fun x y=>x.v.ownBlock≠y.v.ownBlock):∀x∈M,∀y∈M,x.w≠y.w→x.v.ownBlock≠y.v.ownBlock:=by
 induction M with
 |nil=>simp
 |cons z M ih=>
  rw[List.pairwise_cons]at h;intro x hx y hy hw;rcases List.mem_cons.1 hx with e1|h1
  ·rcases List.mem_cons.1 hy with e2|h2
   ·rw[e1,e2]at hw
    exact absurd rfl hw
   ·rw[e1]
    exact h.1 y h2
  ·rcases List.mem_cons.1 hy with e2|h2
   ·rw[e2]
    exact fun e=>h.1 x h1 e.symm
   ·exact ih h.2 x h1 y h2 hw
def axt (M:List En) (wd:ByteArray) (v:Value) (ns:List Int):Prop:=(v=.slice none 0 0∧ns=[]∧∀m∈M,m.w≠wd)∨∃m∈M,m.w=wd∧m.v=v∧m.ns=ns
theorem axt.ans {t e:TypeId} {wd:ByteArray} {v0:Value} {ns:List Int} {kl:Lit} (hF:axt M wd v0 ns) (Ky:Go.Maps.Keyed P k) (ht:P.underlying t=some (.map k e)) (hkey:keyOf P k (.string wd)=some kl) (hz:∀w,(zeroValue e).run P w=.ok (.slice none 0 0) w):∀key c p,oU false (.string wd) (.val v0) key c=some p→∀(w:World) (g:Gh),jm P k w b (M.map En.kv)→∃v,(Instr.lookup t (.map (some b)) key c).run P w=.ok v w∧Rep g w p v:=by
 intro key c p hp w g hm;obtain⟨rfl,rfl,rfl⟩:=pQ hp;refine⟨v0,?_,by simp[Rep]⟩;rcases hF with⟨rfl,_,h0⟩|⟨m,hm0,hw,rfl,_⟩
 ·exact hm.anZ Ky ht false hkey (hz w) fun q hq=>by
   obtain⟨m,hm1,rfl⟩:=List.mem_map.1 hq;intro e;cases e2:m with
   |mk a v n=>subst e2;simp only[En.kv,Value.string.injEq]at e;exact h0 _ hm1 e
 ·exact hm.abh Ky ht false hkey (List.mem_map.2 ⟨m,hm0,by rw[En.kv,hw]⟩)
theorem Zt.append {x y:Operand} {cl:Call} {t by_:Nat} {z:Value} {wd:ByteArray} {v0:Value} {ns:List Int} {p:Int} {d:Nat} (ho:o.op=.call cl) (hcl:cl={callee:=.builtin .append,args:=#[x,y],argTypes:=#[t,t]}) (hdst:o.dst=some d) (hdN:d<N)
 (he:cZ P t=some T) (hz:zeroOf P T=some z) (hs1:aY P T=some 1) (hb:dO P T=some by_) (hzs:z.cells.size=1) (hx:look s.tm x=.val v0) (h2:bF s.ob 1 (look s.tm y)=some [.val (.int .i64 p)]) (hF:axt M wd v0 ns) (h63:ns.length+1≤1000000) (hby:by_≤8)
 {a:Act} {w:World} (hst:Zt P N B w00 s (ixF P k T B b G M) a w) {Kn:Act→World→Prop} {Q:Exit→Act→World→Prop}
 (h:∀v' G' a' w',Zt P N B w00 (s.put (some d) (.val v')) (ixH P k T B b G' M ⟨wd,v',ns++[p]⟩) a' w'→(∀i,G i→G' i)→(∀i,G' i→G i∨B≤i)→Kn a' w'):o.wp P a w Kn Q:=by
 have hst0:=hst;obtain⟨⟨io,w0,g,hr,hC⟩,⟨hGb,hGm⟩,hM⟩:=hst0;have hu:=kR he;obtain⟨i,hi,hib⟩:=qJ hb;have hisz:=qd hi hs1;have hiz:=ql hi hz;have hX:=hr.look x;rw[hx]at hX;simp only[Rep]at hX;obtain⟨ad,cap2,hY,q1,q2⟩:=jB hr (hr.look y) h2;rcases q2 with q2|⟨b2,off,rfl,q3⟩
 ·cases q2
 obtain⟨news,n1,n2,n3,n4⟩:=q3.news;have hnews:news=[.int .i64 p]:=by
  obtain⟨u,m1,m2,m3,m4⟩:=n4 0 _ rfl;simp only[Rep]at m1;subst m1;have:=m4 0 (by decide)
  match news,n1,this with
  |[x],_,e=>simpa [Value.cells]using e
 subst hnews;have hBw:B≤w.heap.size:=Nat.le_trans hC.sz hr.fr.size;have hown:w.ownsRow B T 1 v0 ns.length (abJ ns):=by
  rcases hF with⟨rfl,rfl,_⟩|⟨m,hm,_,rfl,rfl⟩
  ·exact World.ownsRow_nil _ _ _ _
  ·exact hM.row m hm
 obtain⟨v',w',k1,k2,k3,k4,k5⟩:=run_append_own_at (P:=P) w B t o.type T i z 1 by_ hu hi hiz hisz hib hzs (by decide) v0 ns.length (abJ ns) hown ⟨b2,off,none⟩ 1 cap2 [.int .i64 p] (by simp) (fun j u hj=>by rw[Addr.add_mid];exact n2 j u hj) n3 (by simp only[maxLen];omega) (by have:(ns.length+1)*by_≤1000000*8:=Nat.mul_le_mul h63 hby;omega) hBw
 have hrun:(execOp a.eval o).run P w=.ok (.value v') w':=by unfold execOp;simp only[ho,hcl,resolve,invoke,builtin,Sem.run_bind,Sem.run_pure,Result.andThen_ok,List.map_toArray,List.map_cons,List.map_nil,hX,hY,List.length_cons,List.length_nil,k1]
 unfold Oper.wp;rw[hrun,Oper.upon_value,hdst];have hbw:b<w.heap.size:=hM.map.lt;have hv0:∀g0,v0.ownBlock=some g0→G g0∧g0≠b:=fun g0 hg0=>by
  rcases hF with⟨rfl,_,_⟩|⟨m,hm,_,rfl,_⟩
  ·cases hg0
  ·obtain⟨g1,e1,e2⟩:=hM.own m hm
   rw[e1]at hg0;cases hg0;exact⟨hGm m hm _ e1,e2⟩
 obtain⟨g',hg',hg'b,hg'w,hg'G⟩:∃g',v'.ownBlock=some g'∧B≤g'∧g'<w'.heap.size∧(G g'∧v0.ownBlock=some g'∨g'=w.heap.size):=by
  have hne:v'≠ .slice none 0 0:=fun e=>by have:=(k4.1 e).2;omega
  rcases k2.2 with⟨e,_⟩|⟨g',cap,cur,rfl,e1,e2,_⟩
  ·exact absurd e hne
  ·refine⟨g',rfl,e1,(Array.getElem?_eq_some_iff.1 e2).1,?_⟩
   rcases k5 with k5|k5
   ·exact .inl ⟨(hv0 g' k5.symm).1,k5.symm⟩
   ·exact .inr (by simpa [Value.ownBlock]using k5)
 have hmne:∀m∈M,m.w≠wd→m.v.ownBlock=none∨m.v.ownBlock≠v0.ownBlock:=fun m hm hw=>by
  rcases hF with⟨rfl,_,_⟩|⟨m0,hm0,rfl,rfl,_⟩
  ·obtain⟨g1,e1,_⟩:=hM.own m hm
   exact .inr (by rw[e1];simp[Value.ownBlock])
  ·exact .inr (aEN hM.dis m hm m0 hm0 hw)
 refine h v' (fun i=>G i∨i=g') _ _ ((hst.jE (σ':=ixH P k T B b (fun i=>G i∨i=g') M ⟨wd,v',ns++[p]⟩) ⟨k3.os,k3.tape,k3.output,k3.size,fun i hi hn=>k3.block i hi fun e=>hn (.inl (hv0 i e.symm).1)⟩ (fun i hi e=>?_) (fun i e=> .inl e) (fun b' e=>?_) ⟨⟨⟨.inl hGb,fun m hm g1 e=> .inl (hGm m hm g1 e)⟩,fun g1 e=> .inr (by rw[hg']at e;cases e;rfl)⟩,?_⟩).put (fun x e=>by cases e;exact hdN) fun g w=>by simp[Rep]) (fun i e=> .inl e) fun i e=>?_
 ·rcases e with e|rfl
  ·exact e
  ·rcases hg'G with⟨e,_⟩|e
   ·exact e
   ·omega
 ·rcases e with e|rfl
  ·exact Nat.lt_of_lt_of_le (hC.hb b' e) (Nat.le_trans hr.fr.size k3.size)
  ·exact hg'w
 ·refine⟨hM.map.kept k3 fun e=>(hv0 b e.symm).2 rfl,fun m hm hw=>(hM.row m hm).kept k3 (hmne m hm hw),hM.own,hM.dis,by simpa [abJ]using k2,⟨g',hg',?_⟩,fun m hm hw e=>?_⟩
  ·rcases hg'G with⟨_,e⟩|e
   ·exact(hv0 g' e).2
   ·omega
  ·dsimp only at e
   rw[hg']at e;rcases hg'G with⟨_,e2⟩|e2
   ·rcases hmne m hm hw with e3|e3
    ·rw[e3]at e;cases e
    ·exact e3 (by rw[e,e2])
   ·have:=(hM.lt hm e).2
    omega
 ·rcases e with e|rfl
  ·exact .inl e
  ·exact .inr hg'b
theorem Zt.told {x y z:Operand} {t e:TypeId} {m':En} {kl:Lit} (ho:o.op=.mapUpdate t x y z) (hdst:o.dst=none) (Ky:Go.Maps.Keyed P k) (ht:P.underlying t=some (.map k e)) (hkey:keyOf P k (.string m'.w)=some kl) (hx:look s.tm x=.val (.map (some b))) (hy:look s.tm y=.val (.string m'.w)) (hz:look s.tm z=.val m'.v)
 {a:Act} {w:World} (hst:Zt P N B w00 s (ixH P k T B b G M m') a w) {Kn:Act→World→Prop} {Q:Exit→Act→World→Prop} (h:∀a' w',Zt P N B w00 s (ixF P k T B b G (vk M m')) a' w'→Kn a' w'):o.wp P a w Kn Q:=by
 have hst0:=hst;obtain⟨⟨io,w0,g,hr,hC⟩,⟨⟨hGb,hGm⟩,hGn⟩,hM⟩:=hst0;have hX:=hr.look x;have hY:=hr.look y;have hZ:=hr.look z;rw[hx]at hX;rw[hy]at hY;rw[hz]at hZ;simp only[Rep]at hX hY hZ;obtain⟨w',k1,k2,k3,k4⟩:=hM.upd Ky ht hkey;have hrun:(execOp a.eval o).run P w=.ok .skip w':=by unfold execOp;simp only[ho,hX,hY,hZ,Sem.run_bind,k1,Result.andThen_ok,Sem.run_pure]
 unfold Oper.wp;rw[hrun,Oper.upon_skip,hdst];refine h _ _ (hst.jE (σ':=ixF P k T B b G (vk M m')) ⟨k3.os,k3.tape,k3.output,k3.size,fun i hi hn=>k3.block i hi fun e=>hn (by cases e;exact hGb)⟩ (fun i _ e=>e) (fun i e=>e) (fun b' e=>?_) ⟨⟨hGb,fun m hm g1 e=>?_⟩,k2⟩)
 ·rw[k4]
  exact Nat.lt_of_lt_of_le (hC.hb b' e) hr.fr.size
 ·rcases as4 hm with rfl|hm
  ·exact hGn g1 e
  ·exact hGm m hm g1 e
end
def numsOf (l:List W2) (w:ByteArray):List Int:=(l.filter fun x=>decide (x.1=w)).map (·.2)
structure GrI (l:List W2) (M:List En):Prop where
 ns:∀m∈M,m.ns=numsOf l m.w
 all:∀x∈l,∃m∈M,m.w=x.1
 of:∀m∈M,∃x∈l,x.1=m.w
 nd:(M.map (·.w)).Nodup
theorem xR (l:List W2) (x:W2) (w:ByteArray):numsOf (l++[x]) w=numsOf l w++(if x.1=w then [x.2]else []):=by unfold numsOf;rw[List.filter_append,List.map_append];by_cases h:x.1=w<;>simp[h]
theorem zm (l:List W2) (w:ByteArray):(numsOf l w).length≤l.length:=by unfold numsOf;rw[List.length_map];exact List.length_filter_le _ _
theorem GrI.len {l:List W2} {M:List En} {wd:ByteArray} {v:Value} {ns:List Int} (h:GrI l M) (hF:axt M wd v ns):ns.length≤l.length:=by
 rcases hF with⟨_,rfl,_⟩|⟨m,hm,_,_,rfl⟩
 ·exact Nat.zero_le _
 ·rw[h.ns m hm]
  exact zm _ _
theorem aDS {M:List En} {m':En} (h:∃m∈M,m.w=m'.w):(vk M m').map (·.w)=M.map (·.w):=by
 induction M with
 |nil=>obtain⟨m,hm,_⟩:=h;cases hm
 |cons x M ih=>
  unfold vk;split
  ·rename_i hx
   simp[hx]
  ·rename_i hx
   rw[List.map_cons,List.map_cons,ih];obtain⟨m,hm,e⟩:=h;rcases List.mem_cons.1 hm with rfl|hm
   ·exact absurd e hx
   ·exact⟨m,hm,e⟩
theorem GrI.nil:GrI [] []:=⟨by simp,by simp,by simp,by simp⟩
theorem asY {M:List En} {m':En}:m'∈vk M m':=by
 induction M with
 |nil=>simp[vk]
 |cons x M ih=>
  unfold vk;split
  ·simp
  ·simp[ih]
theorem aos {M:List En} {m m':En} (h:m∈M) (hw:m.w≠m'.w):m∈vk M m':=by
 induction M with
 |nil=>cases h
 |cons x M ih=>
  unfold vk;split
  ·rename_i hx
   rcases List.mem_cons.1 h with rfl|h
   ·exact absurd hx hw
   ·simp[h]
  ·rcases List.mem_cons.1 h with rfl|h
   ·simp
   ·simp[ih h]
theorem adI {M:List En} {m m':En} (hn:(M.map (·.w)).Nodup) (h:m∈vk M m'):m=m'∨(m∈M∧m.w≠m'.w):=by
 induction M with
 |nil=>exact .inl (by simpa [vk]using h)
 |cons x M ih=>
  rw[List.map_cons,List.nodup_cons]at hn;unfold vk at h;split at h
  ·rename_i hx
   rcases List.mem_cons.1 h with h|h
   ·exact .inl h
   ·exact .inr ⟨by simp[h],fun e=>hn.1 (List.mem_map.2 ⟨m,h,by rw[e,hx]⟩)⟩
  ·rename_i hx
   rcases List.mem_cons.1 h with rfl|h
   ·exact .inr ⟨by simp,hx⟩
   ·exact(ih hn.2 h).imp id fun q=>⟨by simp[q.1],q.2⟩
theorem GrI.step {l:List W2} {M:List En} {x:W2} {v0 v':Value} {ns:List Int} (h:GrI l M) (hF:axt M x.1 v0 ns):GrI (l++[x]) (vk M ⟨x.1,v',ns++[x.2]⟩):=by
 have hns:ns=numsOf l x.1:=by
  rcases hF with⟨_,rfl,h0⟩|⟨m,hm,e,_,rfl⟩
  ·unfold numsOf
   have:(l.filter fun y=>decide (y.1=x.1))=[]:=List.filter_eq_nil_iff.2 fun y hy e=>by obtain⟨m,hm,e2⟩:=h.all y hy;exact h0 m hm (e2.trans (by simpa using e))
   rw[this];rfl
  ·rw[h.ns m hm,e]
 refine⟨fun m hm=>?_,fun y hy=>?_,fun m hm=>?_,?_⟩
 ·rcases adI h.nd hm with rfl|⟨h1,h2⟩
  ·dsimp only
   rw[xR,if_pos rfl,hns]
  ·rw[xR,if_neg (fun e=>h2 e.symm),List.append_nil]
   exact h.ns m h1
 ·by_cases hw:y.1=x.1
  ·exact⟨_,asY,hw.symm⟩
  ·rcases List.mem_append.1 hy with hy|hy
   ·obtain⟨m,hm,e⟩:=h.all y hy
    exact⟨m,aos hm (by rw[e];exact hw),e⟩
   ·rw[List.mem_singleton.1 hy]at hw
    exact absurd rfl hw
 ·rcases adI h.nd hm with rfl|⟨h1,h2⟩
  ·exact⟨x,by simp,rfl⟩
  ·obtain⟨y,hy,e⟩:=h.of m h1
   exact⟨y,by simp[hy],e⟩
 ·rcases hF with⟨_,_,h0⟩|⟨m,hm,e,_⟩
  ·rw[abF (fun m hm=>h0 m hm),List.map_append,List.nodup_append]
   refine⟨h.nd,by simp,fun a ha b hb=>?_⟩;obtain⟨m,hm,rfl⟩:=List.mem_map.1 ha;have hb:b=x.1:=by simpa using hb
   rw[hb];exact h0 m hm
  ·rw[aDS ⟨m,hm,e⟩]
   exact h.nd
structure IxI (P:Program) (k T B b r:Nat) (M:List En) (left:List Value) (w:World):Prop where
 it:kJ P k w r b (M.map En.kv) left
 row:∀m∈M,w.ownsRow B T 1 m.v m.ns.length (abJ m.ns)
 own:∀m∈M,∃g,m.v.ownBlock=some g∧g≠b∧g≠r
 dis:M.Pairwise fun x y=>x.v.ownBlock≠y.v.ownBlock
def arj (P:Program) (b r:Nat) (cur:Option (ByteArray×Value)) (w:World):Prop:=∀p,cur=some p→∀w2:World,w2.heap[r]?=w.heap[r]?→w2.heap[b]?=w.heap[b]?→(Instr.entry (.pointer (some ⟨r,0,none⟩))).run P w2=.ok (.tuple #[.string p.1,p.2]) w2
section
variable {P:Program} {k T B b r:Nat} {M:List En} {left:List Value} {w w':World} {G:Nat→Prop}
theorem kJ.same {L:VL} (h:kJ P k w r b L left) (hb:w'.heap[b]?=w.heap[b]?) (hr:w'.heap[r]?=w.heap[r]?):kJ P k w' r b L left:=by obtain⟨es,clock,since,seen,c0,h1,H,h2,rest⟩:=h;exact⟨es,clock,since,seen,c0,hb.trans h1,H,hr.trans h2,rest⟩
theorem IxI.same (h:IxI P k T B b r M left w) (hb:w'.heap[b]?=w.heap[b]?) (hr:w'.heap[r]?=w.heap[r]?) (hs:∀m∈M,∀g,m.v.ownBlock=some g→w'.heap[g]?=w.heap[g]?):IxI P k T B b r M left w':=
 ⟨h.it.same hb hr,fun m hm=>jK (h.row m hm) (hs m hm),h.own,h.dis⟩
def ixI (P:Program) (k T B b r:Nat) (G:Nat→Prop) (M:List En) (left:List Value) (cur:Option (ByteArray×Value)):Fgn:=⟨G,fun w=>(inG G b M∧G r)∧IxI P k T B b r M left w∧arj P b r cur w,fun w w' h hM=>⟨hM.1,hM.2.1.same (h b hM.1.1.1) (h r hM.1.2) (fun m hm g hg=>h g (hM.1.1.2 m hm g hg)),fun p hp w2 h1 h2=>hM.2.2 p hp w2 (h1.trans (h r hM.1.2)) (h2.trans (h b hM.1.1.1))⟩⟩
variable {N:Nat} {w00:World} {s:AS} {ops:Array Oper} {J:AS→Fgn→Prop} {j:Nat} {o:Oper} {l:List Oper}
theorem ZO.azt {x:Operand} {t e:TypeId} {d:Nat} (ho:o.op=.range t x) (hdst:o.dst=some d) (hd:d<N) (hg:o.guard=none) (ht:P.underlying t=some (.map k e)) (hx:look s.tm x=.val (.map (some b)))
 (h:∀r,B≤r→ZO P N B w00 ops (j+1) l J (s.put (some d) (.val (.pointer (some ⟨r,0,none⟩)))) (ixI P k T B b r (fun i=>G i∨i=r) M ((M.map En.kv).map Prod.fst) none)):ZO P N B w00 ops j (o::l) J s (ixF P k T B b G M):=by
 refine ZO.one hg fun a w hs Kn Q hK=>?_;have hs0:=hs;obtain⟨⟨io,w0,g,hr,hC⟩,⟨hGb,hGm⟩,hM⟩:=hs0;have hX:=hr.look x;rw[hx]at hX;simp only[Rep]at hX;obtain⟨w',k1,k2,k3,k4⟩:=hM.map.range ht;have hrun:(execOp a.eval o).run P w=.ok (.value (.pointer (some ⟨w.heap.size,0,none⟩))) w':=by unfold execOp;simp only[ho,hX,Sem.run_bind,k1,Result.andThen_ok,Sem.run_pure]
 unfold Oper.wp;rw[hrun,Oper.upon_value,hdst];have hlt:∀i,G i→i<w.heap.size:=fun i e=>Nat.lt_of_lt_of_le (hC.hb i e) hr.fr.size;have hz:=hs.jE (σ':=ixI P k T B b w.heap.size (fun i=>G i∨i=w.heap.size) M ((M.map En.kv).map Prod.fst) none) (w':=w') ⟨k3.os,k3.tape,k3.output,k3.size,fun i hi _=>k3.block i hi (by simp)⟩ (fun i hi e=>e.elim id fun e=>by omega) (fun i e=> .inl e) (fun b' e=>by
  rw[k4];rcases e with e|rfl
  ·have:=hlt b' e;omega
  ·omega) ⟨⟨⟨.inl hGb,fun m hm g1 e=> .inl (hGm m hm g1 e)⟩,.inr rfl⟩,⟨k2,fun m hm=>(hM.row m hm).kept k3 (by
   obtain⟨g1,e1,_⟩:=hM.own m hm;exact .inr (by rw[e1];simp)),fun m hm=>by obtain⟨g1,e1,e2⟩:=hM.own m hm;exact⟨g1,e1,e2,fun e=>by have:=hlt g1 (hGm m hm g1 e1);omega⟩,hM.dis⟩,fun p hp=>by cases hp⟩
 exact hK _ _ _ _ (hz.put (fun x e=>by cases e;exact hd) fun g w=>by simp[Rep]) (h _ (Nat.le_trans hC.sz hr.fr.size))
theorem ZO.aE5 {x:Operand} {d:Nat} {cur:Option (ByteArray×Value)} (ho:o.op=.next x false) (hdst:o.dst=some d) (hd:d<N) (hg:o.guard=none) (hx:look s.tm x=.val (.pointer (some ⟨r,0,none⟩)))
 (h0:left=[]→ZO P N B w00 ops (j+1) l J (s.put (some d) (.tup [.val (.bool false)])) (ixI P k T B b r G M left cur))
 (h1:∀m∈M,Value.string m.w∈left→∀left',(∀x,x∈left'↔x∈left∧x≠ .string m.w)→left'.length<left.length→ZO P N B w00 ops (j+1) l J (s.put (some d) (.tup [.val (.bool true),.val (.string m.w),.val m.v])) (ixI P k T B b r G M left' (some (m.w,m.v)))):ZO P N B w00 ops j (o::l) J s (ixI P k T B b r G M left cur):=by
 refine ZO.one hg fun a w hs Kn Q hK=>?_;have hs0:=hs;obtain⟨⟨io,w0,g,hr,hC⟩,⟨⟨hGb,hGm⟩,hGr⟩,hM,hE⟩:=hs0;have hX:=hr.look x;rw[hx]at hX;simp only[Rep]at hX;have hlt:∀i,G i→i<w.heap.size:=fun i e=>Nat.lt_of_lt_of_le (hC.hb i e) hr.fr.size;rcases hM.it.next o.type with⟨hl,k1⟩|⟨key,v,w',left',q1,q2,k1,k2,k3,k4,k5,k6,k7⟩
 ·have hrun:(execOp a.eval o).run P w=.ok (.value (.tuple #[.bool false])) w:=by unfold execOp;simp only[ho,hX,Sem.run_bind,k1,Result.andThen_ok,Sem.run_pure]
  unfold Oper.wp;rw[hrun,Oper.upon_value,hdst];exact hK _ _ _ _ (hs.put (fun x e=>by cases e;exact hd) fun g w=>by simp[Rep,bL]) (h0 hl)
 ·obtain⟨m,hm,e⟩:=List.mem_map.1 q2
  have e1:Value.string m.w=key:=congrArg Prod.fst e;have e2:m.v=v:=congrArg Prod.snd e;subst e1 e2;have hrun:(execOp a.eval o).run P w=.ok (.value (.tuple #[.bool true,.string m.w,m.v])) w':=by unfold execOp;simp only[ho,hX,Sem.run_bind,k1,Result.andThen_ok,Sem.run_pure]
  unfold Oper.wp;rw[hrun,Oper.upon_value,hdst];have hz:=hs.jE (σ':=ixI P k T B b r G M left' (some (m.w,m.v))) (w':=w') ⟨k5.os,k5.tape,k5.output,k5.size,fun i hi hn=>k5.block i hi fun e=>hn (by cases e;exact hGr)⟩ (fun i _ e=>e) (fun i e=>e) (fun b' e=>by rw[k6];exact hlt b' e) ⟨⟨⟨hGb,hGm⟩,hGr⟩,⟨k2,fun m1 hm1=>(hM.row m1 hm1).kept k5 (by obtain⟨g1,e1,_,e3⟩:=hM.own m1 hm1;exact .inr (by rw[e1];simpa using e3)),hM.own,hM.dis⟩,fun p hp w2 g1 g2=>by cases hp;exact k7 w2 g1 g2⟩
  exact hK _ _ _ _ (hz.put (fun x e=>by cases e;exact hd) fun g w=>by simp[Rep,bL]) (h1 m hm q1 left' k3 k4)
theorem ZO.aCA {x:Operand} {d:Nat} {p:ByteArray×Value} (ho:o.op=.entry x) (hdst:o.dst=some d) (hd:d<N) (hg:o.guard=none) (hx:look s.tm x=.val (.pointer (some ⟨r,0,none⟩)))
 (h:ZO P N B w00 ops (j+1) l J (s.put (some d) (.tup [.val (.string p.1),.val p.2])) (ixI P k T B b r G M left (some p))):ZO P N B w00 ops j (o::l) J s (ixI P k T B b r G M left (some p)):=by
 refine ZO.one hg fun a w hs Kn Q hK=>?_;have hs0:=hs;obtain⟨⟨io,w0,g,hr,hC⟩,_,hM,hE⟩:=hs0;have hX:=hr.look x;rw[hx]at hX;simp only[Rep]at hX;have k1:=hE p rfl w rfl rfl;have hrun:(execOp a.eval o).run P w=.ok (.value (.tuple #[.string p.1,p.2])) w:=by unfold execOp;simp only[ho,hX,Sem.run_bind,k1,Result.andThen_ok,Sem.run_pure]
 unfold Oper.wp;rw[hrun,Oper.upon_value,hdst];exact hK _ _ _ _ (hs.put (fun x e=>by cases e;exact hd) fun g w=>by simp[Rep,bL]) h
end
section
variable {P:Program} {k T B b r:Nat} {M M1 M2:List En} {m:En} {left:List Value} {w w':World} {G:Nat→Prop}
theorem IxI.turn {g:Nat} {ns':List Int} (h:IxI P k T B b r (M1++m::M2) left w) (hg:m.v.ownBlock=some g) (hw:w.grownBy w' (some g)) (ho:w'.ownsRow B T 1 m.v ns'.length (abJ ns')):IxI P k T B b r (M1++⟨m.w,m.v,ns'⟩::M2) left w':=by
 have hm:m∈M1++m::M2:=by simp
 obtain⟨g1,e1,e2,e3⟩:=h.own m hm;rw[hg]at e1;cases e1;have hd:=h.dis;rw[List.pairwise_append,List.pairwise_cons]at hd;have hne:∀x,x∈M1∨x∈M2→x.v.ownBlock≠some g:=fun x hx=>by
  rcases hx with hx|hx
  ·rw[←hg];exact hd.2.2 x hx m (by simp)
  ·rw[←hg];exact fun e=>hd.2.1.1 x hx e.symm
 have hin:∀x,x∈M1∨x∈M2→x∈M1++m::M2:=fun x hx=>by rcases hx with hx|hx<;>simp[hx]
 have hcase:∀x∈M1++(⟨m.w,m.v,ns'⟩:En)::M2,x=⟨m.w,m.v,ns'⟩∨(x∈M1∨x∈M2):=fun x hx=>by
  rcases List.mem_append.1 hx with hx|hx
  ·exact .inr (.inl hx)
  ·exact(List.mem_cons.1 hx).imp id .inr
 refine⟨?_,fun x hx=>?_,fun x hx=>?_,?_⟩
 ·have:=h.it.kept hw (by simpa using fun e=>e2 e.symm) (by simpa using fun e=>e3 e.symm)
  simpa [En.kv]using this
 ·rcases hcase x hx with rfl|hx
  ·exact ho
  ·exact(h.row x (hin x hx)).kept hw (.inr (hne x hx))
 ·rcases hcase x hx with rfl|hx
  ·exact⟨g,hg,e2,e3⟩
  ·exact h.own x (hin x hx)
 ·rw[List.pairwise_append,List.pairwise_cons]
  refine⟨hd.1,hd.2.1,fun x hx y hy=>?_⟩;rcases List.mem_cons.1 hy with rfl|hy
  ·exact hd.2.2 x hx m (by simp)
  ·exact hd.2.2 x hx y (by simp[hy])
theorem arj.kept {cur:Option (ByteArray×Value)} (h:arj P b r cur w) (hb:w'.heap[b]?=w.heap[b]?) (hr:w'.heap[r]?=w.heap[r]?):arj P b r cur w':=fun p hp w2 h1 h2=>h p hp w2 (h1.trans hr) (h2.trans hb)
theorem ad9 {e g n c j:Nat} {xs:List Value} (h:w.ownsRow B e 1 (.slice (some ⟨g,0,none⟩) n c) n xs) (hj:j≤n):w.ownsRow B e 1 (.slice (some ⟨g,0,none⟩) j c) j (xs.take j):=by
 obtain⟨h1,h2⟩:=h;rcases h2 with⟨e0,_⟩|⟨g',cap,cur,e0,k1,k2,k3,k4,k5,k6⟩
 ·cases e0
 ·cases e0
  refine⟨by rw[List.length_take,h1];omega,.inr ⟨g,c,cur,rfl,k1,k2,by omega,k4,k5,?_⟩⟩;rw[←k6,List.take_take];congr 1;omega
theorem IxI.told {t e:TypeId} {kl:Lit} {g n c j:Nat} (h:IxI P k T B b r (M1++m::M2) left w) (hv:m.v=.slice (some ⟨g,0,none⟩) n c) (hn:m.ns.length=n) (hj:j≤n) (K:Go.Maps.Keyed P k) (ht:P.underlying t=some (.map k e)) (hkey:keyOf P k (.string m.w)=some kl):
 ∃w',(Instr.mapUpdate t (.map (some b)) (.string m.w) (.slice (some ⟨g,0,none⟩) j c)).run P w=.ok () w'∧IxI P k T B b r (M1++⟨m.w,.slice (some ⟨g,0,none⟩) j c,m.ns.take j⟩::M2) left w'∧w.grownBy w' (some b)∧w'.heap.size=w.heap.size:=by
 have hm:m∈M1++m::M2:=by simp
 obtain⟨g1,e1,e2,e3⟩:=h.own m hm;have hg1:g1=g:=by rw[hv]at e1;cases e1;rfl
 subst hg1;have hmap:=h.it;rw[List.map_append,List.map_cons,show m.kv=(.string m.w,m.v)from rfl]at hmap;obtain⟨w',k1,k2,k3,k4⟩:=hmap.upd (v:=.slice (some ⟨g1,0,none⟩) j c) K ht hkey;have hin:∀x,x∈M1∨x∈M2→x∈M1++m::M2:=fun x hx=>by rcases hx with hx|hx<;>simp[hx]
 have hcase:∀x∈M1++(⟨m.w,.slice (some ⟨g1,0,none⟩) j c,m.ns.take j⟩:En)::M2,x=⟨m.w,.slice (some ⟨g1,0,none⟩) j c,m.ns.take j⟩∨(x∈M1∨x∈M2):=fun x hx=>by
  rcases List.mem_append.1 hx with hx|hx
  ·exact .inr (.inl hx)
  ·exact(List.mem_cons.1 hx).imp id .inr
 refine⟨w',k1,⟨by simpa [En.kv]using k2,fun x hx=>?_,fun x hx=>?_,?_⟩,k3,k4⟩
 ·rcases hcase x hx with rfl|hx
  ·have h1:=h.row m hm
   rw[hv,hn]at h1;have h2:=ad9 h1 hj;dsimp only
   rw[List.length_take,hn,Nat.min_eq_left hj];refine World.ownsRow.kept ?_ k3 (.inr (by simpa [Value.ownBlock]using e2));simpa [abJ,List.map_take]using h2
  ·obtain⟨g2,q1,q2,_⟩:=h.own x (hin x hx)
   exact(h.row x (hin x hx)).kept k3 (.inr (by rw[q1];simpa using q2))
 ·rcases hcase x hx with rfl|hx
  ·exact⟨g1,rfl,e2,e3⟩
  ·exact h.own x (hin x hx)
 ·have hd:=h.dis
  rw[List.pairwise_append,List.pairwise_cons]at hd⊢;have hb1:m.v.ownBlock=(Value.slice (some ⟨g1,0,none⟩) j c).ownBlock:=by rw[hv];rfl
  refine⟨hd.1,⟨fun y hy=>?_,hd.2.1.2⟩,fun x hx y hy=>?_⟩
  ·dsimp only
   rw[←hb1];exact hd.2.1.1 y hy
  ·rcases List.mem_cons.1 hy with rfl|hy
   ·dsimp only
    rw[←hb1];exact hd.2.2 x hx m (by simp)
   ·exact hd.2.2 x hx y (by simp[hy])
end
section
open Go.RowKit Go.Sort
section
theorem uw {d:Array Int} (hs:∀i j,i≤j→j<d.size→d[i]!≤d[j]!):∀m,m≤d.size→(Lib.compactUpTo d m).Pairwise (· < ·)∧∀x,x∈Lib.compactUpTo d m↔∃j,j<m∧d[j]! =x
 |0,_=>by simp[Lib.compactUpTo]
 |m+1,hm=>by
  obtain⟨h1,h2⟩:=uw hs m (by omega);rw[Lib.compactUpTo_succ];by_cases hk:m=0∨d[m]!≠d[m-1]!
  ·have hkk:Lib.keeps d m=true:=by
    rcases hk with rfl|hk
    ·exact Lib.keeps_lt_one d 0 (by omega)
    ·exact Lib.keeps_pos hk
   rw[if_pos hkk,List.pairwise_append];refine⟨⟨h1,by simp,fun a ha b hb=>?_⟩,fun x=>?_⟩
   ·rw[List.mem_singleton.1 hb]
    obtain⟨j,hj,rfl⟩:=(h2 a).1 ha;rcases hk with rfl|hk
    ·omega
    ·have e1:=hs j (m-1) (by omega) (by omega)
     have e2:=hs (m-1) m (by omega) (by omega);omega
   ·rw[List.mem_append,h2,List.mem_singleton]
    constructor
    ·rintro(⟨j,hj,rfl⟩|rfl)
     ·exact⟨j,by omega,rfl⟩
     ·exact⟨m,by omega,rfl⟩
    ·rintro⟨j,hj,rfl⟩
     by_cases hjm:j=m
     ·subst hjm;exact .inr rfl
     ·exact .inl ⟨j,by omega,rfl⟩
  ·have hm0:0<m:=by omega
   have he:d[m]! =d[m-1]!:=by
    by_cases e:d[m]! =d[m-1]!
    ·exact e
    ·exact absurd (.inr e) hk
   rw[if_neg (by rw[Lib.keeps_neg hm0 he];decide),List.append_nil];refine⟨h1,fun x=>?_⟩;rw[h2];constructor
   ·rintro⟨j,hj,rfl⟩;exact⟨j,by omega,rfl⟩
   ·rintro⟨j,hj,rfl⟩
    by_cases hjm:j=m
    ·subst hjm;exact⟨j-1,by omega,he.symm⟩
    ·exact⟨j,by omega,rfl⟩
def eO (l:List Int):List Int:=l.mergeSort fun x y=>decide (x≤y)
theorem yg (l:List Int):(eO l).length=l.length:=by simp[eO]
theorem aoa {l:List Int} {x:Int}:x∈eO l↔x∈l:=by simp[eO]
theorem anX (l:List Int):(eO l).Pairwise (· ≤ ·):=by have:=List.pairwise_mergeSort (le:=fun x y:Int=>decide (x≤y)) (fun a b c h1 h2=>by simp only[decide_eq_true_eq]at*;exact Int.le_trans h1 h2) (fun a b=>by simp only[Bool.or_eq_true,decide_eq_true_eq];exact Int.le_total a b) l;exact this.imp fun h=>by simpa using h
theorem uH {l:List Int}:(Lib.compact (eO l)).Pairwise (· < ·)∧∀x,x∈Lib.compact (eO l)↔x∈l:=by
 have hs:∀i j,i≤j→j<(eO l).toArray.size→(eO l).toArray[i]!≤(eO l).toArray[j]!:=fun i j hij hj=>by
  have hj':j<(eO l).length:=by simpa using hj
  rcases Nat.lt_or_ge i j with h|h
  ·have:=List.pairwise_iff_getElem.1 (anX l) i j (by omega) hj' h
   simpa [getElem!_pos,show i<(eO l).length by omega,hj']using this
  ·obtain rfl:i=j:=by omega
   exact Int.le_refl _
 obtain⟨h1,h2⟩:=uw hs (eO l).length (by simp);refine⟨h1,fun x=>?_⟩;unfold Lib.compact;rw[h2,←aoa (l:=l),List.mem_iff_getElem];constructor
 ·rintro⟨j,hj,rfl⟩
  exact⟨j,hj,by simp[getElem!_pos,hj]⟩
 ·rintro⟨j,hj,rfl⟩
  exact⟨j,hj,by simp[getElem!_pos,hj]⟩
theorem zX (l:List Int):(Lib.compact l).length≤l.length:=Lib.compact_length_le l
theorem aiN {l:List W2} {w:ByteArray} {x:Int}:x∈numsOf l w↔∃y∈l,y.1=w∧y.2=x:=by
 unfold numsOf;simp only[List.mem_map,List.mem_filter,decide_eq_true_eq];constructor
 ·rintro⟨y,⟨h1,h2⟩,h3⟩;exact⟨y,h1,h2,h3⟩
 ·rintro⟨y,h1,h2,h3⟩;exact⟨y,⟨h1,h2⟩,h3⟩
theorem acK {l:List W2} (hl:∀x∈l,1≤x.2∧x.2≤999) (w:ByteArray):Lib.compact (eO (numsOf l w))=gK l w:=by
 refine avs uH.1 (kP l w 999) fun x=>?_;rw[uH.2,aiN];unfold gK;rw[om];constructor
 ·rintro⟨y,h1,h2,rfl⟩
  have:=hl y h1;exact⟨⟨this.1,by omega⟩,y,h1,h2,rfl⟩
 ·rintro⟨_,y,h1,h2,h3⟩;exact⟨y,h1,h2,h3⟩
variable {P:Program} {N B:Nat} {w00:World} {k T b r:Nat} {M M1 M2:List En} {m:En} {left:List Value} {G:Nat→Prop} {s:AS} {ops:Array Oper} {J:AS→Fgn→Prop} {j:Nat} {o:Oper} {l:List Oper} {cur:Option (ByteArray×Value)}
theorem ZO.aBJ {σ:Fgn} {f:Nat} {c:Call} {φ:Fun} {ps:List PV} {u:Value} (ho:o.op=.call c) (hc:c.callee=.value (.func f)) (hf:Fnd P f) (hg:o.guard=none) (hd:∀x,o.dst=some x→x<N) (hs:Sound P f φ) (hφ:φ ps=some (.val u))
 (hargs:∀a w,Zt P N B w00 s σ a w→∃Jm:Nat→Prop,(∀i,Jm i→i<w.heap.size)∧bL (lG Jm) w ps (c.args.map a.eval).toList)
 (h:ZO P N B w00 ops (j+1) l J (s.put o.dst (.val u)) σ):ZO P N B w00 ops j (o::l) J s σ:=by
 refine ZO.wV ho hc hf hg hd (fun v σ'=>v=u∧σ'=σ) (fun a w hst=>?_) (fun v σ' e=>by obtain⟨rfl,rfl⟩:=e;exact h);obtain⟨Jm,hJ,hargs⟩:=hargs a w hst;obtain⟨⟨io,w0,g,hr,hC⟩,hM⟩:=hst;refine(hs w Jm ps (c.args.map a.eval) _ hφ hJ ((hr.tab.keep hr.fr fun t ht=>(hr.tab.apart t ht)).io fun _ _ q=>False.elim q) hargs).mono ?_;rintro e w' ⟨v,rfl,hb,hv⟩;have hv1:=hv ⟨fun _ _=>True,fun _=>0,fun _=>0,0,fun _=>False⟩ fun _ _ _=>trivial;simp only[Rep]at hv1;subst hv1;exact⟨v,σ,rfl,⟨rfl,rfl⟩,⟨hb.os,hb.tape,hb.output,hb.size,fun i hi _=>hb.block i hi⟩,fun _ _ q=>q,fun _ q=>q,fun b' q=>Nat.lt_of_lt_of_le (hC.hb b' q) (Nat.le_trans hr.fr.size hb.size),σ.keep w w' (fun i hi=>hb.block i (Nat.lt_of_lt_of_le (hC.hb i hi) hr.fr.size)) hM⟩
def SortI (P:Program) (f:Nat):Prop:=∀(blk cap:Nat) (zs:List Int) (w:World),Holds (Value.int .i64) w blk 0 zs.toArray→blk<w.heap.size→zs.length<4611686018427387904→
 Calls P f #[.slice (some ⟨blk,0,none⟩) zs.length cap] w fun e w'=>e=.returned (.tuple #[])∧∃n os,w'=grow (putRow (Value.int .i64) (Go.Sort.ahead w n) blk 0 (eO zs).toArray) os
def aDV (P:Program) (f:Nat):Prop:=∀(blk cap:Nat) (zs:List Int) (w:World),Holds (Value.int .i64) w blk 0 zs.toArray→zs.length≤9223372036854775807→zs.length≤cap→
 Calls P f #[.slice (some ⟨blk,0,none⟩) zs.length cap] w fun e w'=>e=.returned (.slice (some ⟨blk,0,none⟩) (Lib.compact zs).length cap)∧∃q,w'=putRow (Value.int .i64) (Go.Sort.ahead w q) blk 0 (Lib.compact zs++List.replicate (zs.length-(Lib.compact zs).length) 0).toArray
theorem IxI.at (h:IxI P k T B b r (M1++m::M2) left w00):∃g cap cur,m.v=.slice (some ⟨g,0,none⟩) m.ns.length cap∧m.v.ownBlock=some g∧B≤g∧g≠b∧g≠r∧w00.heap[g]?=some (.cells cur T (0,0))∧m.ns.length≤cap∧cap≤maxLen∧cur.size=cap*1∧Holds (Value.int .i64) w00 g 0 m.ns.toArray:=by
 have hm:m∈M1++m::M2:=by simp
 have hrow:=h.row m hm;obtain⟨g1,e1,e2,e3⟩:=h.own m hm;have hne:m.v≠ .slice none 0 0:=fun e=>by rw[e]at e1;cases e1
 obtain⟨g,cap,ev,q1,q2,q3,q4,q5,q6⟩:=Lib.holds_of_ownsRow (enc:=Value.int .i64) (zs:=m.ns) hrow hne;rcases hrow.2 with⟨e0,_⟩|⟨g',cap',cur,e0,p1,p2,p3,p4,p5,p6⟩
 ·exact absurd e0 hne
 ·rw[ev]at e0
  cases e0;rw[ev]at e1;cases e1;exact⟨g,cap,cur,ev,by rw[ev];rfl,q1,e2,e3,p2,p3,p4,p5,q6⟩
theorem IxI.rep {w:World} (h:IxI P k T B b r M left w) {m:En} (hm:m∈M):∃Jm:Nat→Prop,(∀i,Jm i→i<w.heap.size)∧Rep (lG Jm) w (.lst false 1 (m.ns.map fun n=> .val (.int .i64 n))) m.v:=by
 obtain⟨M1,M2,rfl⟩:=List.append_of_mem hm;obtain⟨g,cap,cu,e1,e2,e3,e4,e5,e6,e7,e8,e9,e10⟩:=h.at
 refine⟨fun i=>i=g,fun i hi=>by rw[hi];exact lt_of_heap e6,?_⟩;rw[e1];simp only[Rep];refine⟨some ⟨g,0,none⟩,cap,by simp,by simpa using e7,by simp only[maxLen]at e8;omega,.inr ⟨g,0,rfl,⟨rfl,rfl⟩,bB.of fun i e he=>?_⟩⟩;rw[List.getElem?_map,Option.map_eq_some_iff]at he;obtain⟨n,hn,rfl⟩:=he;have hi:=(List.getElem?_eq_some_iff.1 hn).1;refine⟨.int .i64 n,by simp[Rep],⟨by simp[Value.cells,Value.oneCell'],fun j hj=>?_⟩,by simp[Value.cells]⟩;have hj0:j=0:=by simp[Value.cells]at hj;exact hj
 subst hj0;have:=(e10 i (by simpa using hi)).1;rw[Nat.zero_add]at this;rw[Nat.zero_add,Nat.mul_one,Nat.add_zero,this];have e:m.ns[i]=n:=by have:=List.getElem?_eq_getElem hi;rw[hn]at this;exact(Option.some.inj this).symm
 simp[getElem!_pos,hi,e,Value.cells]
theorem ZO.aGb {f:Nat} {c:Call} {x:Operand} (ho:o.op=.call c) (hc:c.callee=.value (.func f)) (ha:c.args=#[x]) (hf:Fnd P f) (hg:o.guard=none) (hd:∀y,o.dst=some y→y<N) (hS:SortI P f) (hx:look s.tm x=.val m.v) (hl:m.ns.length≤1000000)
 (h:ZO P N B w00 ops (j+1) l J (s.put o.dst (.val (.tuple #[]))) (ixI P k T B b r G (M1++⟨m.w,m.v,eO m.ns⟩::M2) left cur)):ZO P N B w00 ops j (o::l) J s (ixI P k T B b r G (M1++m::M2) left cur):=by
 refine ZO.wV ho hc hf hg hd (fun v σ'=>v=.tuple #[]∧σ'=ixI P k T B b r G (M1++⟨m.w,m.v,eO m.ns⟩::M2) left cur) (fun a w hst=>?_) (fun v σ' e=>by obtain⟨rfl,rfl⟩:=e;exact h);obtain⟨⟨io,w0,g,hr,hC⟩,⟨⟨hGb,hGm⟩,hGr⟩,hM,hE⟩:=hst;have hX:=hr.look x;rw[hx]at hX;simp only[Rep]at hX;obtain⟨blk,cap,cu,e1,e2,e3,e4,e5,e6,e7,e8,e9,e10⟩:=hM.at
 have hblk:=lt_of_heap e6;have hGk:=hGm m (by simp) blk e2;rw[ha];simp only[List.map_toArray,List.map_cons,List.map_nil,hX];have hcc:=hS blk cap m.ns w e10 hblk (by omega);rw[←e1]at hcc;refine hcc.mono ?_;rintro e w' ⟨rfl,n,os,rfl⟩;have hgr:=grownBy_sorted_i (w:=w) (g:=blk) (n:=n) (os:=os) (eO m.ns).toArray;have hrow:=ownsRow_sorted_i (w:=w) (base:=B) (g:=blk) (cap:=cap) (n:=n) (e:=T) (os:=os) (cur:=cu) (ss:=m.ns) (ts:=eO m.ns) (yg _) e3 e6 e7 e8 e9;refine⟨.tuple #[],_,rfl,⟨rfl,rfl⟩,⟨hgr.os,hgr.tape,hgr.output,hgr.size,fun i hi hn=>hgr.block i hi fun q=>hn (by cases q;exact hGk)⟩,fun _ _ q=>q,fun _ q=>q,fun b' q=>Nat.lt_of_lt_of_le (hC.hb b' q) (Nat.le_trans hr.fr.size hgr.size),⟨⟨⟨hGb,fun m1 hm1 g1 q=>?_⟩,hGr⟩,hM.turn (ns':=eO m.ns) e2 hgr ?_,hE.kept (hgr.block b hM.it.aox.lt ?_) (hgr.block r ?_ ?_)⟩⟩
 ·rcases List.mem_append.1 hm1 with hm1|hm1
  ·exact hGm m1 (by simp[hm1]) g1 q
  ·rcases List.mem_cons.1 hm1 with rfl|hm1
   ·exact hGm m (by simp) g1 q
   ·exact hGm m1 (by simp[hm1]) g1 q
 ·rw[e1,yg]
  exact hrow
 ·exact fun q=>e4 (by cases q;rfl)
 ·exact Nat.lt_of_lt_of_le (hC.hb r hGr) hr.fr.size
 ·exact fun q=>e5 (by cases q;rfl)
theorem ZO.aFS {f d:Nat} {c:Call} {x:Operand} (ho:o.op=.call c) (hc:c.callee=.value (.func f)) (ha:c.args=#[x]) (hf:Fnd P f) (hg:o.guard=none) (hdst:o.dst=some d) (hd:d<N) (hS:aDV P f) (hx:look s.tm x=.val m.v) (hl:m.ns.length≤1000000)
 (h:∀g cap,m.v=.slice (some ⟨g,0,none⟩) m.ns.length cap→ZO P N B w00 ops (j+1) l J (s.put (some d) (.val (.slice (some ⟨g,0,none⟩) (Lib.compact m.ns).length cap))) (ixI P k T B b r G (M1++⟨m.w,m.v,Lib.compact m.ns++List.replicate (m.ns.length-(Lib.compact m.ns).length) 0⟩::M2) left cur)):ZO P N B w00 ops j (o::l) J s (ixI P k T B b r G (M1++m::M2) left cur):=by
 refine ZO.wV ho hc hf hg (fun y hy=>by rw[hdst]at hy;cases hy;exact hd) (fun v σ'=>∃g cap,m.v=.slice (some ⟨g,0,none⟩) m.ns.length cap∧v=.slice (some ⟨g,0,none⟩) (Lib.compact m.ns).length cap∧σ'=ixI P k T B b r G (M1++⟨m.w,m.v,Lib.compact m.ns++List.replicate (m.ns.length-(Lib.compact m.ns).length) 0⟩::M2) left cur) (fun a w hst=>?_) (fun v σ' e=>by obtain⟨g,cap,e1,rfl,rfl⟩:=e;rw[hdst];exact h g cap e1);obtain⟨⟨io,w0,g,hr,hC⟩,⟨⟨hGb,hGm⟩,hGr⟩,hM,hE⟩:=hst;have hX:=hr.look x;rw[hx]at hX;simp only[Rep]at hX;obtain⟨blk,cap,cu,e1,e2,e3,e4,e5,e6,e7,e8,e9,e10⟩:=hM.at
 have hblk:=lt_of_heap e6;have hGk:=hGm m (by simp) blk e2;have hcl:=zX m.ns;have hyl:(Lib.compact m.ns++List.replicate (m.ns.length-(Lib.compact m.ns).length) 0).length=m.ns.length:=by rw[List.length_append,List.length_replicate];omega
 rw[ha];simp only[List.map_toArray,List.map_cons,List.map_nil,hX];have hcc:=hS blk cap m.ns w e10 (by omega) e7;rw[←e1]at hcc;refine hcc.mono ?_;rintro e w' ⟨rfl,q,rfl⟩;have hrow0:=hM.row m (by simp);rw[e1]at hrow0;have hrow:=Lib.ownsRow_putRow (enc:=Value.int .i64) (q:=q) (k:=m.ns.length) (zs:=m.ns) (ys:=Lib.compact m.ns++List.replicate (m.ns.length-(Lib.compact m.ns).length) 0) hrow0 hyl (Nat.le_refl _);rw[List.take_of_length_le (by rw[hyl];exact Nat.le_refl _)]at hrow;generalize Lib.compact m.ns++List.replicate (m.ns.length-(Lib.compact m.ns).length) 0=ys at*;have hgr:w.grownBy (putRow (Value.int .i64) (Go.Sort.ahead w q) blk 0 ys.toArray) (some blk):=⟨rfl,rfl,rfl,by simp[putRow,mapBlock,Go.Sort.ahead],fun i hi hne=>by have:blk≠i:=fun e=>hne (by rw[e]);simp[putRow,mapBlock,Go.Sort.ahead,Array.getElem?_modify,this]⟩
 refine⟨_,_,rfl,⟨blk,cap,e1,rfl,rfl⟩,⟨hgr.os,hgr.tape,hgr.output,hgr.size,fun i hi hn=>hgr.block i hi fun q=>hn (by cases q;exact hGk)⟩,fun _ _ q=>q,fun _ q=>q,fun b' q=>Nat.lt_of_lt_of_le (hC.hb b' q) (Nat.le_trans hr.fr.size hgr.size),⟨⟨⟨hGb,fun m1 hm1 g1 q=>?_⟩,hGr⟩,?_,hE.kept (hgr.block b hM.it.aox.lt ?_) (hgr.block r ?_ ?_)⟩⟩
 ·rcases List.mem_append.1 hm1 with hm1|hm1
  ·exact hGm m1 (by simp[hm1]) g1 q
  ·rcases List.mem_cons.1 hm1 with rfl|hm1
   ·exact hGm m (by simp) g1 q
   ·exact hGm m1 (by simp[hm1]) g1 q
 ·exact hM.turn (ns':=ys) e2 hgr (by rw[e1,hyl];exact hrow)
 ·exact fun q=>e4 (by cases q;rfl)
 ·exact Nat.lt_of_lt_of_le (hC.hb r hGr) hr.fr.size
 ·exact fun q=>e5 (by cases q;rfl)
theorem ZO.aFx {x y z:Operand} {t e n c i:Nat} {g:Nat} {kl:Lit} (ho:o.op=.mapUpdate t x y z) (hdst:o.dst=none) (hg:o.guard=none) (Ky:Go.Maps.Keyed P k) (ht:P.underlying t=some (.map k e)) (hkey:keyOf P k (.string m.w)=some kl) (hx:look s.tm x=.val (.map (some b))) (hy:look s.tm y=.val (.string m.w)) (hz:look s.tm z=.val (.slice (some ⟨g,0,none⟩) i c))
 (hv:m.v=.slice (some ⟨g,0,none⟩) n c) (hn:m.ns.length=n) (hi:i≤n)
 (h:ZO P N B w00 ops (j+1) l J s (ixI P k T B b r G (M1++⟨m.w,.slice (some ⟨g,0,none⟩) i c,m.ns.take i⟩::M2) left none)):ZO P N B w00 ops j (o::l) J s (ixI P k T B b r G (M1++m::M2) left cur):=by
 refine ZO.one hg fun a w hst Kn Q hK=>?_;have hst0:=hst;obtain⟨⟨io,w0,g0,hr,hC⟩,⟨⟨hGb,hGm⟩,hGr⟩,hM,hE⟩:=hst0;have hX:=hr.look x;have hY:=hr.look y;have hZ:=hr.look z;rw[hx]at hX;rw[hy]at hY;rw[hz]at hZ;simp only[Rep]at hX hY hZ;obtain⟨w',k1,k2,k3,k4⟩:=hM.told hv hn hi Ky ht hkey;have hrun:(execOp a.eval o).run P w=.ok .skip w':=by unfold execOp;simp only[ho,hX,hY,hZ,Sem.run_bind,k1,Result.andThen_ok,Sem.run_pure]
 unfold Oper.wp;rw[hrun,Oper.upon_skip,hdst];refine hK _ _ _ _ (hst.jE (σ':=ixI P k T B b r G (M1++⟨m.w,.slice (some ⟨g,0,none⟩) i c,m.ns.take i⟩::M2) left none) ⟨k3.os,k3.tape,k3.output,k3.size,fun i hi hn=>k3.block i hi fun e=>hn (by cases e;exact hGb)⟩ (fun i _ e=>e) (fun i e=>e) (fun b' e=>?_) ⟨⟨⟨hGb,fun m1 hm1 g1 q=>?_⟩,hGr⟩,k2,fun p hp=>by cases hp⟩) h
 ·rw[k4]
  exact Nat.lt_of_lt_of_le (hC.hb b' e) hr.fr.size
 ·rcases List.mem_append.1 hm1 with hm1|hm1
  ·exact hGm m1 (by simp[hm1]) g1 q
  ·rcases List.mem_cons.1 hm1 with rfl|hm1
   ·refine hGm m (by simp) g1 ?_
    rw[hv];exact q
   ·exact hGm m1 (by simp[hm1]) g1 q
end
end
end
end Go.Proofs.YtmmafcjjlbgnkaaGreatDoor
