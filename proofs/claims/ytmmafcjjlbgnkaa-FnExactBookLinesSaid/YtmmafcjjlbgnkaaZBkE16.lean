/- What the proof rests on, part 16: contracts of functions. No condition beyond what each states. -/
import Derived.Test.YtmmafcjjlbgnkaaZBkE15
namespace Go.Proofs.Ytmmafcjjlbgnkaa
open Go.RowKit
set_option linter.all false
set_option maxHeartbeats 32000000
noncomputable section
section
variable {P:Program} {Γ:Ctx} {imm:Md} {ops:Array Oper} {N B:Nat} {w00:World}
def vJ (Γ:Ctx) (imm:Md) (ops:Array Oper) (n:Nat):Bool:=(List.range n).all fun j=>(List.range j).all fun i=>dJ Γ imm ops i j||oD ops ops.size i j
def uw (ops:Array Oper):Bool:=(List.range ops.size).all fun j=>match ops[j]? with|some o=>o.after.all (fun e=> !Region.binds .any e||decide (e.on<j))|none=>true
theorem abW {n:Nat} (h:vJ Γ imm ops n=true) {i j:Nat} (hj:j<n) (hi:i<j):dJ Γ imm ops i j=true∨oD ops ops.size i j=true:=by have h1:=List.all_eq_true.1 (List.all_eq_true.1 h j (List.mem_range.2 hj)) i (List.mem_range.2 hi);simpa [Bool.or_eq_true]using h1
theorem pY (h:uw ops=true) {j:Nat} {o:Oper} (ho:ops[j]?=some o):∀e∈o.after,Region.binds .any e=true→e.on<j:=fun e he hb=>by have hlt:=(Array.getElem?_eq_some_iff.1 ho).1;have h1:=List.all_eq_true.1 h j (List.mem_range.2 hlt);rw[ho]at h1;dsimp only at h1;have h2:=(Array.all_eq_true_iff_forall_mem.1 h1) e he;simpa [hb]using h2
theorem ah2 {io:IoS} {w0:World} (hΓ:eB P Γ io.wr w0) (hio:∀b,io b→b<w0.heap.size) (hd:ops.all (fI N)=true) {n:Nat} (hn:ops.size=n+2) (hp:vJ Γ imm ops n=true) (hed:uw ops=true) (hlast:∀i,i<n+1→oD ops ops.size i (n+1)=true) {Q:Exit→Act→World→Prop} {s':AS}
 (hQ:∀g' a' w',Rel io w0 N g' s' a' w'→wpOp P ops Q (n+1) (Q .normal) a' w'):
 ∀(fuel:Nat) (listed:Array Bool) (rem:List Nat) (g:Gh) (s:AS) (a:Act) (w:World),rem.length+1≤fuel→listed.size=ops.size→(∀i,i∈rem↔i<n∧listed.getD i true=false)→listed.getD n false=true→listed.getD (n+1) true=false→rem.Pairwise (· < ·)→
  (∀j o,ops[j]?=some o→listed.getD j true=true→∀e∈o.after,Region.binds .any e=true→listed.getD e.on false=true)→
  Rel io w0 N g s a w→evL P Γ imm ops rem s=some s'→wpAny P .any ops Q fuel listed a w:=by
 intro fuel
 induction fuel with
 |zero=>intro listed rem g s a w hlen;omega
 |succ fuel ih=>
  intro listed rem g s a w hlen hsz hrem hA hln hpw hcl h he;have hl':∀x,x<n+1→¬x∈rem→listed.getD x false=true:=fun x hx hm=>by
   by_cases hxn:x=n
   ·rw[hxn];exact hA
   ·rw[hrem]at hm
    have hlt':x<listed.size:=by omega
    have:listed.getD x true≠false:=fun h0=>hm ⟨by omega,h0⟩;simp[hlt']at this⊢;exact this
  have hne:Region.ready .any ops listed≠[]:=by
   intro hnil;cases rem with
   |nil=>
    have:n+1∈Region.ready .any ops listed:=by rw[mem_ready];refine⟨hln,ops[n+1],Array.getElem?_eq_getElem (by omega),fun e he hb=>?_⟩;exact hl' _ (pY hed (Array.getElem?_eq_getElem (by omega)) e he hb) (by simp)
    rw[hnil]at this;cases this
   |cons i0 q=>
    obtain⟨hi1,hi2⟩:=(hrem i0).1 (by simp);have:i0∈Region.ready .any ops listed:=by
     rw[mem_ready];refine⟨hi2,ops[i0],Array.getElem?_eq_getElem (by omega),fun e he hb=>?_⟩;have hlt:=pY hed (Array.getElem?_eq_getElem (by omega)) e he hb;refine hl' _ (by omega) fun hm=>?_;rcases List.mem_cons.1 hm with hm|hm
     ·omega
     ·have:=(List.pairwise_cons.1 hpw).1 _ hm
      omega
    rw[hnil]at this;cases this
  refine⟨fun hr=>absurd hr hne,fun i hi=>?_⟩;rw[mem_ready]at hi;obtain⟨h1,o,h2,h3⟩:=hi;have hilt:=(Array.getElem?_eq_some_iff.1 h2).1;by_cases hin:i=n+1
  ·subst hin
   have hnil:rem=[]:=by
    cases rem with
    |nil=>rfl
    |cons i0 q=>
     exfalso;obtain⟨hi1,hi2⟩:=(hrem i0).1 (by simp);have hxl:=dR hcl _ _ _ (hlast i0 (by omega)) (fun o' ho' e he hb=>by rw[h2]at ho';cases ho';exact h3 e he hb);have hlt:i0<listed.size:=by omega
     simp[hlt]at hi2 hxl;rw[hi2]at hxl;cases hxl
   subst hnil;simp only[evL,Option.some.injEq]at he;subst he;refine wpOp_mono (fun a' w' hq=>?_) (hQ g a w h);refine ab8 (fun x hx=>?_) hq fuel;by_cases hxi:x=n+1
   ·subst hxi
    have hlt:n+1<listed.size:=by omega
    simp[hlt]
   ·rw[getD_set_ne true (fun e=>hxi e.symm)]
    have:=hl' x (by omega) (by simp);have hlt:x<listed.size:=by omega
    simp[hlt]at this⊢;exact this
  ·have hin2:i≠n:=fun e=>by
    subst e;have hlt:i<listed.size:=by omega
    simp[hlt]at hA h1;rw[hA]at h1;cases h1
   have hmem:=(hrem i).2 ⟨by omega,h1⟩;obtain⟨p,q,rfl⟩:=List.append_of_mem hmem;have hpi:∀x∈p,dJ Γ imm ops x i=true:=fun x hx=>by
    have hxi:x<i:=by rw[List.pairwise_append]at hpw;exact hpw.2.2 x hx i (by simp)
    rcases(abW hp (show i<n by omega) hxi).symm with ho|ho
    ·exfalso
     have hxl:=dR hcl _ _ _ ho (fun o' ho' e he hb=>by rw[h2]at ho';cases ho';exact h3 e he hb);have:=((hrem x).1 (by simp[hx])).2;have hlt:x<listed.size:=by have:=((hrem x).1 (by simp[hx])).1;omega
     simp[hlt]at this hxl;rw[this]at hxl;cases hxl
    ·exact ho
   have hfr:=gy hpi he;rw[bI,h2]at hfr;dsimp only at hfr;split at hfr
   ·rename_i s1 hs1
    have hdo:fI N o=true:=(Array.all_eq_true_iff_forall_mem.1 hd) o (Array.mem_of_getElem? h2);refine yF h hΓ hio hdo hs1 h2 fun g' a' w' hr=>ih _ (p++q) g' s1 a' w' (by simp at hlen⊢;omega) (by simpa using hsz) (fun j=>?_) ?_ ?_ ?_ ?_ hr hfr
    ·by_cases hji:j=i
     ·subst hji
      have hnp:j∉p++q:=by
       rw[List.pairwise_append]at hpw;intro hm;rcases List.mem_append.1 hm with hm|hm
       ·have:=hpw.2.2 j hm j (by simp)
        omega
       ·have:=(List.pairwise_cons.1 hpw.2.1).1 j hm
        omega
      constructor
      ·intro hm;exact absurd hm hnp
      ·rintro⟨_,hf⟩
       have hlt:j<listed.size:=by omega
       simp[hlt]at hf
     ·rw[getD_set_ne true (fun e=>hji e.symm),←hrem j]
      simp[hji]
    ·exact getD_set_true hA
    ·rw[getD_set_ne true hin]
     exact hln
    ·rw[List.pairwise_append]at hpw⊢
     exact⟨hpw.1,(List.pairwise_cons.1 hpw.2.1).2,fun x hx y hy=>hpw.2.2 x hx y (by simp[hy])⟩
    ·intro j o' ho' hl e he hb
     by_cases hji:j=i
     ·subst hji
      rw[h2]at ho';cases ho';exact getD_set_true (h3 e he hb)
     ·rw[getD_set_ne true (fun e=>hji e.symm)]at hl
      exact getD_set_true (hcl j o' ho' hl e he hb)
   ·cases hfr
def aej (Γ:Ctx) (imm:Md) (ops:Array Oper) (xs:List Nat) (i:Nat):Bool:=match ops[i]? with|some o=> !dN Γ imm o&&(match o.dst with|some d=> !xs.contains d|none=>true)|none=>true
theorem afc {o:Oper} {s s1:AS} (h:dN Γ imm o=false) (he:lV P Γ imm ops o s=some s1):s1.ob=s.ob∧s1.nx=s.nx∧∀t,o.dst≠some t→s1.tm t=s.tm t:=by
 have key:∀p,s1=s.put o.dst p→s1.ob=s.ob∧s1.nx=s.nx∧∀t,o.dst≠some t→s1.tm t=s.tm t:=fun p e=>by subst e;exact⟨mg.1,mg.2,fun t ht=>qJ ht⟩
 unfold lV at he;split at he
 ·unfold aj6 at he
  rw[h]at he;simp only[Bool.false_eq_true,if_false,Option.map_eq_some_iff]at he;obtain⟨p,-,rfl⟩:=he;exact key p rfl
 ·cases he
  exact key _ rfl
 ·cases he
theorem uS {xs:List Nat}:∀{rem:List Nat} {s s':AS},(∀x∈rem,aej Γ imm ops xs x=true)→evL P Γ imm ops rem s=some s'→s'.ob=s.ob∧s'.nx=s.nx∧∀t∈xs,s'.tm t=s.tm t
 |[],s,s',_,h=>by simp only[evL,Option.some.injEq]at h;subst h;exact⟨rfl,rfl,fun _ _=>rfl⟩
 |i::rem,s,s',hf,h=>by
  rw[bI]at h;have h0:=hf i (by simp);have ht:=fun x hx=>hf x (List.mem_cons_of_mem _ hx);unfold aej at h0;cases ho:ops[i]? with
  |none=>rw[ho]at h;exact uS ht h
  |some o=>
   rw[ho]at h h0;dsimp only at h h0;split at h
   ·rename_i s1 hs1
    simp only[Bool.and_eq_true,Bool.not_eq_true']at h0;obtain⟨k1,k2,k3⟩:=afc h0.1 hs1;obtain⟨j1,j2,j3⟩:=uS ht h;refine⟨j1.trans k1,j2.trans k2,fun t hx=>(j3 t hx).trans (k3 t fun e=>?_)⟩;have:=h0.2;rw[e]at this;simp[hx]at this
   ·cases h
def akh (d:Nat) (v:Value):Oper:={dst:=some d,op:=.move (.const v),type:=0,pos:= "",after:=#[],guard:=none}
theorem vW {i n:Nat} {o:Oper} (hn:n<ops.size):∀{rem:List Nat} {s:AS},(∀x∈rem,x<n)→(∀x∈rem,∀o',ops[x]?=some o'→o'.guard=none)→evL P Γ imm (ops.setIfInBounds n o) rem s=evL P Γ imm ops rem s
 |[],_,_,_=>rfl
 |x::rem,s,h,hg=>by
  rw[bI,bI];have hx:=h x (by simp);have e:(ops.setIfInBounds n o)[x]?=ops[x]?:=by rw[Array.getElem?_setIfInBounds,if_neg (by omega)]
  rw[e];cases ho:ops[x]? with
  |none=>exact vW (i:=i) hn (fun y hy=>h y (by simp[hy])) fun y hy=>hg y (by simp[hy])
  |some o'=>
   dsimp only
   have hgd:=hg x (by simp) o' ho;have e2:lV P Γ imm (ops.setIfInBounds n o) o' s=lV P Γ imm ops o' s:=by unfold lV fA;rw[hgd]
   rw[e2];cases lV P Γ imm ops o' s with
   |none=>rfl
   |some s1=>exact vW (i:=i) hn (fun y hy=>h y (by simp[hy])) fun y hy=>hg y (by simp[hy])
theorem uz {n:Nat} {o:Oper} (hn:ops[n]?=some o):∀{rem:List Nat} {s s1 s2:AS},evL P Γ imm ops rem s=some s1→lV P Γ imm ops o s1=some s2→evL P Γ imm ops (rem++[n]) s=some s2
 |[],s,s1,s2,h,h2=>by
  simp only[evL,Option.some.injEq]at h;subst h;rw[List.nil_append,bI,hn];dsimp only
  rw[h2];rfl
 |x::rem,s,s1,s2,h,h2=>by
  rw[List.cons_append,bI];rw[bI]at h;cases ho:ops[x]? with
  |none=>rw[ho]at h;exact uz hn h h2
  |some o'=>
   rw[ho]at h;dsimp only at h⊢;cases he:lV P Γ imm ops o' s with
   |none=>rw[he]at h;cases h
   |some s3=>rw[he]at h;exact uz hn h h2
theorem afN {n d:Nat} {v:Value} (hn:n<ops.size) {rem:List Nat} {s s1:AS} (hlt:∀x∈rem,x<n) (hg:∀x∈rem,∀o',ops[x]?=some o'→o'.guard=none) (hi:∀x∈rem,dJ Γ imm (ops.setIfInBounds n (akh d v)) x n=true) (h:evL P Γ imm ops rem s=some s1):evL P Γ imm ops rem (s.put (some d) (.val v))=some (s1.put (some d) (.val v)):=by
 have hs:∀s:AS,lV P Γ imm (ops.setIfInBounds n (akh d v)) (akh d v) s=some (s.put (some d) (.val v)):=fun s=>rfl;have hnn:(ops.setIfInBounds n (akh d v))[n]?=some (akh d v):=by rw[Array.getElem?_setIfInBounds,if_pos rfl,if_pos hn]
 have h1:evL P Γ imm (ops.setIfInBounds n (akh d v)) rem s=some s1:=by rw[vW (i:=n) hn hlt hg];exact h
 have h2:=uz hnn h1 (hs s1);have h3:=gy (q:=[]) hi h2;rw[List.append_nil,bI,hnn]at h3;dsimp only at h3;rw[hs]at h3;dsimp only at h3;rw[vW (i:=n) hn hlt hg]at h3;exact h3
theorem anz {σ:Fgn} {n d:Nat} (hn:ops.size=n+2) {A:Oper} (hA:ops[n]?=some A) (hAg:A.guard=none) (hd:ops.all (fI N)=true) (hp:vJ Γ imm ops n=true) (hed:uw ops=true) (hlast:∀i,i<n+1→oD ops ops.size i (n+1)=true) {xs:List Nat}
 (hfree:∀i,i<n→oD ops ops.size i n=true∨aej Γ imm ops xs i=true) (hsur:∀v i,i<n→oD ops ops.size i n=true∨dJ Γ imm (ops.setIfInBounds n (akh d v)) i n=true) (hgd:∀i,i<n→∀o',ops[i]?=some o'→o'.guard=none)
 {RA:Value→Fgn→Prop} {Q:Exit→Act→World→Prop} {s':AS}
 (hΓ:∀io w0 g s a w,Rel io w0 N g s a w→HzC io w00 w0 B σ.bk→σ.at_ w→eB P Γ io.wr w0)
 (hΓ':∀v σ',RA v σ'→∀io w0 g s a w,Rel io w0 N g s a w→HzC io w00 w0 B σ'.bk→σ'.at_ w→eB P Γ io.wr w0)
 (hAw:∀s a w,Zt P N B w00 s σ a w→s'.ob=s.ob→s'.nx=s.nx→(∀t∈xs,s'.tm t=s.tm t)→∀(Kn:Act→World→Prop) (Q':Exit→Act→World→Prop),(∀v σ' a' w',Zt P N B w00 (s.put (some d) (.val v)) σ' a' w'→RA v σ'→Kn a' w')→A.wp P a w Kn Q')
 (hU:∀v σ',RA v σ'→∀a' w',Zt P N B w00 (s'.put (some d) (.val v)) σ' a' w'→wpOp P ops Q (n+1) (Q .normal) a' w'):
 ∀(fuel:Nat) (listed:Array Bool) (rem:List Nat) (io:IoS) (w0:World) (g:Gh) (s:AS) (a:Act) (w:World),Rel io w0 N g s a w→HzC io w00 w0 B σ.bk→σ.at_ w→rem.length+2≤fuel→listed.size=ops.size→(∀i,i∈rem↔i<n∧listed.getD i true=false)→listed.getD n true=false→listed.getD (n+1) true=false→rem.Pairwise (· < ·)→
  (∀j o,ops[j]?=some o→listed.getD j true=true→∀e∈o.after,Region.binds .any e=true→listed.getD e.on false=true)→
  evL P Γ imm ops rem s=some s'→wpAny P .any ops Q fuel listed a w:=by
 intro fuel
 induction fuel with
 |zero=>intro listed rem io w0 g s a w _ _ _ hlen;omega
 |succ fuel ih=>
  intro listed rem io w0 g s a w h hC hM hlen hsz hrem hAn hln hpw hcl he;have hl':∀x,x<n→¬x∈rem→listed.getD x false=true:=fun x hx hm=>by
   rw[hrem]at hm;have hlt':x<listed.size:=by omega
   have:listed.getD x true≠false:=fun h0=>hm ⟨hx,h0⟩;simp[hlt']at this⊢;exact this
  have hne:Region.ready .any ops listed≠[]:=by
   intro hnil;cases rem with
   |nil=>
    have:n∈Region.ready .any ops listed:=by rw[mem_ready];refine⟨hAn,A,hA,fun e he hb=>?_⟩;exact hl' _ (pY hed hA e he hb) (by simp)
    rw[hnil]at this;cases this
   |cons i0 q=>
    obtain⟨hi1,hi2⟩:=(hrem i0).1 (by simp);have:i0∈Region.ready .any ops listed:=by
     rw[mem_ready];refine⟨hi2,ops[i0],Array.getElem?_eq_getElem (by omega),fun e he hb=>?_⟩;have hlt:=pY hed (Array.getElem?_eq_getElem (by omega)) e he hb;refine hl' _ (by omega) fun hm=>?_;rcases List.mem_cons.1 hm with hm|hm
     ·omega
     ·have:=(List.pairwise_cons.1 hpw).1 _ hm
      omega
    rw[hnil]at this;cases this
  refine⟨fun hr=>absurd hr hne,fun i hi=>?_⟩;rw[mem_ready]at hi;obtain⟨h1,o,h2,h3⟩:=hi;have hilt:=(Array.getElem?_eq_some_iff.1 h2).1;have hordl:∀x,oD ops ops.size x i=true→x<n→¬x∈rem:=fun x hox hxn hm=>by
   have hxl:=dR hcl _ _ _ hox (fun o' ho' e he hb=>by rw[h2]at ho';cases ho';exact h3 e he hb);have:=((hrem x).1 hm).2;have hlt:x<listed.size:=by omega
   simp[hlt]at this hxl;rw[this]at hxl;cases hxl
  by_cases hiU:i=n+1
  ·exfalso
   subst hiU;have hxl:=dR hcl _ _ _ (hlast n (by omega)) (fun o' ho' e he hb=>by rw[h2]at ho';cases ho';exact h3 e he hb);have hlt:n<listed.size:=by omega
   simp[hlt]at hAn hxl;rw[hAn]at hxl;cases hxl
  ·by_cases hin:i=n
   ·subst hin
    rw[hA]at h2;cases h2;have hrl:∀x∈rem,x<i:=fun x hx=>((hrem x).1 hx).1;have hrf:∀x∈rem,aej Γ imm ops xs x=true:=fun x hx=>by
     rcases hfree x (hrl x hx)with q|q
     ·exact absurd hx (hordl x q (hrl x hx))
     ·exact q
    obtain⟨k1,k2,k3⟩:=uS hrf he;unfold wpOp;simp only[hA];have hw:Region.wanted A (yielded ops a.tmps)=true:=by simp[Region.wanted,hAg]
    rw[hw];simp only[if_true];left;refine hAw s a w ⟨⟨io,w0,g,h,hC⟩,hM⟩ k1 k2 k3 _ _ fun v σ' a' w' hz hR=>?_;obtain⟨⟨io',w0',g',hr',hC'⟩,hM'⟩:=hz;have he2:=afN (d:=d) (v:=v) (by omega) hrl (fun x hx=>hgd x (hrl x hx)) (fun x hx=>by
     rcases hsur v x (hrl x hx)with q|q
     ·exact absurd hx (hordl x q (hrl x hx))
     ·exact q) he
    have hrun:=hΓ' v σ' hR io' w0' g' _ a' w' hr' hC' hM';refine ah2 hrun hC'.lt hd hn hp hed hlast (s':=s'.put (some d) (.val v)) (fun g2 a2 w2 hr2=>hU v σ' hR a2 w2 ⟨⟨io',w0',g2,hr2,hC'⟩,Fgn.same hC' hr' hr2 hM'⟩) fuel _ rem g' _ a' w' (by omega) (by simpa using hsz) (fun j=>?_) ?_ ?_ hpw ?_ hr' he2
    ·by_cases hji:j=i
     ·subst hji
      constructor
      ·intro hm;exact absurd (hrl j hm) (by omega)
      ·rintro⟨hf,_⟩;omega
     ·rw[getD_set_ne true (fun e=>hji e.symm),←hrem j]
    ·have hlt:i<listed.size:=by omega
     simp[hlt]
    ·rw[getD_set_ne true (by omega)]
     exact hln
    ·intro j o' ho' hl e he hb
     by_cases hji:j=i
     ·subst hji
      rw[hA]at ho';cases ho';exact getD_set_true (h3 e he hb)
     ·rw[getD_set_ne true (fun e=>hji e.symm)]at hl
      exact getD_set_true (hcl j o' ho' hl e he hb)
   ·have hmem:=(hrem i).2 ⟨by omega,h1⟩
    obtain⟨p,q,rfl⟩:=List.append_of_mem hmem;have hpi:∀x∈p,dJ Γ imm ops x i=true:=fun x hx=>by
     have hxi:x<i:=by rw[List.pairwise_append]at hpw;exact hpw.2.2 x hx i (by simp)
     rcases(abW hp (show i<n by omega) hxi).symm with ho|ho
     ·exact absurd (by simp[hx]) (hordl x ho (by omega))
     ·exact ho
    have hfr:=gy hpi he;rw[bI,h2]at hfr;dsimp only at hfr;split at hfr
    ·rename_i s1 hs1
     have hdo:fI N o=true:=(Array.all_eq_true_iff_forall_mem.1 hd) o (Array.mem_of_getElem? h2);refine yF h (hΓ io w0 g s a w h hC hM) hC.lt hdo hs1 h2 fun g' a' w' hr=>ih _ (p++q) io w0 g' s1 a' w' hr hC (Fgn.same hC h hr hM) (by simp at hlen⊢;omega) (by simpa using hsz) (fun j=>?_) ?_ ?_ ?_ ?_ hfr
     ·by_cases hji:j=i
      ·subst hji
       have hnp:j∉p++q:=by
        rw[List.pairwise_append]at hpw;intro hm;rcases List.mem_append.1 hm with hm|hm
        ·have:=hpw.2.2 j hm j (by simp)
         omega
        ·have:=(List.pairwise_cons.1 hpw.2.1).1 j hm
         omega
       constructor
       ·intro hm;exact absurd hm hnp
       ·rintro⟨_,hf⟩
        have hlt:j<listed.size:=by omega
        simp[hlt]at hf
      ·rw[getD_set_ne true (fun e=>hji e.symm),←hrem j]
       simp[hji]
     ·rw[getD_set_ne true hin]
      exact hAn
     ·rw[getD_set_ne true hiU]
      exact hln
     ·rw[List.pairwise_append]at hpw⊢
      exact⟨hpw.1,(List.pairwise_cons.1 hpw.2.1).2,fun x hx y hy=>hpw.2.2 x hx y (by simp[hy])⟩
     ·intro j o' ho' hl e he hb
      by_cases hji:j=i
      ·subst hji
       rw[h2]at ho';cases ho';exact getD_set_true (h3 e he hb)
      ·rw[getD_set_ne true (fun e=>hji e.symm)]at hl
       exact getD_set_true (hcl j o' ho' hl e he hb)
    ·cases hfr
variable {c:Code} {K:X→AS→Fgn→Prop} {s:AS} {σ:Fgn}
theorem HZ.arP {id d:Nat} (n:Nat) {os pre:List Oper} {A U:Oper} {xs:List Nat} {RA:Value→Fgn→Prop} (hm:P.follows .mixedOrders=true) (h1:os.take n=pre) (h2:os.drop n=[A,U]) {gs:List (Option Nat)} (hgs:os.map (·.dst)=gs) (hnl:pre.length=n) (hAg:A.guard=none) (hUg:U.guard=none) (hgd:pre.all (fun o=>o.guard.isNone)=true) (hd:os.toArray.all (fI N)=true) (hp:vJ Γ imm os.toArray n=true) (hed:uw os.toArray=true) (hlast:(List.range (n+1)).all (fun i=>oD os.toArray os.toArray.size i (n+1))=true)
 (hfree:(List.range n).all (fun i=>oD os.toArray os.toArray.size i n||aej Γ imm os.toArray xs i)=true) (hsur:∀v,(List.range n).all (fun i=>oD os.toArray os.toArray.size i n||dJ Γ imm (os.toArray.setIfInBounds n (akh d v)) i n)=true)
 (hΓ:∀io w0 g s a w,Rel io w0 N g s a w→HzC io w00 w0 B σ.bk→σ.at_ w→eB P Γ io.wr w0)
 (hwq:wq P Γ imm gs pre (fun s1=>(∀v σ',RA v σ'→∀io w0 g s a w,Rel io w0 N g s a w→HzC io w00 w0 B σ'.bk→σ'.at_ w→eB P Γ io.wr w0)∧
   (∀s a w,Zt P N B w00 s σ a w→s1.ob=s.ob→s1.nx=s.nx→(∀t∈xs,s1.tm t=s.tm t)→∀(Kn:Act→World→Prop) (Q':Exit→Act→World→Prop),(∀v σ' a' w',Zt P N B w00 (s.put (some d) (.val v)) σ' a' w'→RA v σ'→Kn a' w')→A.wp P a w Kn Q')∧
   (∀v σ',RA v σ'→∀a w,Zt P N B w00 (s1.put (some d) (.val v)) σ' a w→∀(Kn:Act→World→Prop) (Q':Exit→Act→World→Prop),(∀s2 σ2 a' w',Zt P N B w00 s2 σ2 a' w'→K .normal s2 σ2→Kn a' w')→U.wp P a w Kn Q')) s.tm s.ob s.nx):HZ P N B w00 (.region id os.toArray true) K s σ:=HZ.mk fun a w hs Q hQ=>by
 obtain⟨⟨io,w0,g,hr,hC⟩,hM⟩:=hs;subst hgs;rw[show os.map (·.dst)=os.toArray.toList.map (·.dst) by simp,←j5]at hwq;obtain⟨s1,e1,q1,q2,q3⟩:=nJ _ _ hwq;have hops:os=pre++[A,U]:=by rw[←h1,←h2,List.take_append_drop]
 have hsz:os.toArray.size=n+2:=by show os.length=n+2;rw[hops,List.length_append,hnl];rfl
 have hlen2:os.length=n+2:=hsz;have hAn:os.toArray[n]?=some A:=by
  have:os[n]?=some A:=by rw[hops,←hnl];simp
  simpa using this
 have hUn:os.toArray[n+1]?=some U:=by
  have:os[n+1]?=some U:=by rw[hops,←hnl,List.getElem?_append_right (by omega)];simp
  simpa using this
 refine wp_region_any hm ?_;have hdrew:Rel io w0 N g s a {w with drawn:=w.drawn+1}:=⟨hr.nt,hr.df,fun t=>Rep.mono (w:=w) (w':={w with drawn:=w.drawn+1}) (g:=g) (g':=g) (Gh.le_refl g) (fun _ _ _=>rfl) _ _ (hr.tm t),fun o c ho=>by obtain⟨k1,k2,k3,k4⟩:=hr.ob o c ho;exact⟨k1,k2,k3,mO.mono (w:=w) (w':={w with drawn:=w.drawn+1}) (g:=g) (g':=g) k4 (Gh.le_refl g) k1 (fun _ _ _=>rfl) rfl⟩,hr.inj,hr.nx,hr.lt,hr.new,⟨hr.fr.os,hr.fr.tape,hr.fr.output,hr.fr.size,hr.fr.block⟩,hr.old,hr.fix,hr.hl,hr.tab⟩
 have hall:∀{f:Nat→Bool} {m:Nat},(List.range m).all f=true→∀i,i<m→f i=true:=fun h i hi=>(List.all_eq_true.1 h) i (by simpa using hi);refine anz (A:=A) (d:=d) (xs:=xs) (RA:=RA) hsz hAn hAg hd hp hed (fun i hi=>hall hlast i hi) (fun i hi=>by simpa [Bool.or_eq_true]using hall hfree i hi) (fun v i hi=>by simpa [Bool.or_eq_true]using hall (hsur v) i hi) (fun i hi o' ho'=>?_) (s':=s1) hΓ q1 q2 (fun v σ' hR a' w' hz=>?_) os.toArray.size _ (List.range n) io w0 g s a _ hdrew hC (σ.keep w _ (fun _ _=>rfl) hM) (by simp;omega) (by simp) (fun i=>?_) (by simp[hsz]) (by simp[hsz]) List.pairwise_lt_range (fun j o ho hl=>?_) ?_
 ·have ho2:os[i]?=some o':=by simpa using ho'
  rw[hops,List.getElem?_append_left (by omega)]at ho2;have:=(List.all_eq_true.1 hgd) o' (List.mem_of_getElem? ho2);simpa using this
 ·unfold wpOp
  simp only[hUn];have hw:Region.wanted U (yielded os.toArray a'.tmps)=true:=by simp[Region.wanted,hUg]
  rw[hw];simp only[if_true];left;exact q3 v σ' hR a' w' hz _ _ fun s2 σ2 a2 w2 hz2 hk=>hQ .normal s2 σ2 a2 w2 hz2 hk
 ·simp only[List.mem_range]
  constructor
  ·intro hi;exact⟨hi,by have:i<os.length:=(by omega);simp[this]⟩
  ·exact fun hi=>hi.1
 ·have hlt:=(Array.getElem?_eq_some_iff.1 ho).1
  simp at hlt;simp[hlt]at hl
 ·have:=aaR (P:=P) (Γ:=Γ) (imm:=imm) (ops:=os.toArray) (l2:=[A,U]) pre 0 s (by rw[List.drop_zero];exact hops)
  rw[List.range_eq_range',←hnl,this];exact e1
end
section
variable {P:Program} {N B:Nat} {w00:World} {s:AS} {σ:Fgn} {ops:Array Oper} {J:AS→Fgn→Prop} {j:Nat} {o:Oper} {l:List Oper}
theorem Zt.weak {a:Act} {w:World} {t:Nat} {p:PV} (h:Zt P N B w00 s σ a w) (hp:∀(g:Gh) (w:World) (v:Value),Rep g w (s.tm t) v→Rep g w p v):Zt P N B w00 ⟨upd s.tm t p,s.ob,s.nx⟩ σ a w:=by
 obtain⟨⟨io,w0,g,hr,hC⟩,hM⟩:=h;refine⟨⟨io,w0,g,⟨hr.nt,hr.df,fun t'=>?_,hr.ob,hr.inj,hr.nx,hr.lt,hr.new,hr.fr,hr.old,hr.fix,hr.hl,hr.tab⟩,hC⟩,hM⟩;show Rep g w (upd s.tm t p t') _;unfold upd;split
 ·rename_i e
  subst e;exact hp g w _ (hr.tm t')
 ·exact hr.tm t'
theorem ZO.weak {t:Nat} {p:PV} (hp:∀(g:Gh) (w:World) (v:Value),Rep g w (s.tm t) v→Rep g w p v) (h:ZO P N B w00 ops j l J ⟨upd s.tm t p,s.ob,s.nx⟩ σ):ZO P N B w00 ops j l J s σ:=ZO.mk fun hl a w hs Q hQ=>h.go hl a w (hs.weak hp) Q hQ
theorem Zt.apR {f d:Nat} {c:Call} {φ:Fun} {ps:List PV} {u:Value} (ho:o.op=.call c) (hc:c.callee=.value (.func f)) (hf:Fnd P f) (hdst:o.dst=some d) (hd:d<N) (hs:Sound P f φ) (hφ:φ ps=some (.val u)) {a:Act} {w:World} (hst:Zt P N B w00 s σ a w) {Jm:Nat→Prop} (hJ:∀i,Jm i→i<w.heap.size) (hargs:bF (jF Jm) w ps (c.args.map a.eval).toList) {Kn:Act→World→Prop} {Q:Exit→Act→World→Prop} (h:∀a' w',Zt P N B w00 (s.put (some d) (.val u)) σ a' w'→Kn a' w'):o.wp P a w Kn Q:=by
 have hst0:=hst;obtain⟨⟨io,w0,g,hr,hC⟩,hM⟩:=hst0;obtain⟨fn,hfn,hname,hbody⟩:=hf;have hrun:(execOp a.eval o).run P w=.ok (.enter f (c.args.map a.eval)) w:=by unfold execOp;simp only[ho,resolve,hc,Act.eval,Deferred.ofValue,Sem.run_bind,Sem.run_pure,Result.andThen_ok,invoke,callFunc,run_program,hfn];simp[hname,hbody]
 unfold Oper.wp;rw[hrun,Oper.upon_enter];refine(hs w Jm ps (c.args.map a.eval) _ hφ hJ ((hr.tab.keep hr.fr fun t ht=>(hr.tab.apart t ht)).io fun _ _ q=>False.elim q) hargs).mono ?_;rintro e w' ⟨v,rfl,hb,hv⟩;have hv1:=hv ⟨fun _ _=>True,fun _=>0,fun _=>0,0,fun _=>False⟩ fun _ _ _=>trivial;simp only[Rep]at hv1;subst hv1;rw[hdst];exact h _ _ ((hst.mR (σ':=σ) ⟨hb.os,hb.tape,hb.output,hb.size,fun i hi _=>hb.block i hi⟩ (fun _ _ q=>q) (fun _ q=>q) (fun b' q=>Nat.lt_of_lt_of_le (hC.hb b' q) (Nat.le_trans hr.fr.size hb.size)) (σ.keep w w' (fun i hi=>hb.block i (Nat.lt_of_lt_of_le (hC.hb i hi) hr.fr.size)) hM)).put (fun x e=>by cases e;exact hd) fun g w=>by simp[Rep])
theorem acn.rep {T1 T2:Nat} {vo vp:Value} {vs:List Value} {p:List LS} {q:LS} {x y z:Int} {w:World} (h:acn T1 T2 vo vs vp p q w):Rep (jF fun i=>i<w.heap.size) w (pQ p q x y z) (bkV vo vp x y z):=by refine⟨_,rfl,_,_,rfl,h.ss.rep fun i hi=>h.ss.lt hi,_,_,rfl,h.row.aue fun g hg=>h.row.lt hg,?_⟩;simp[bF,Rep]
theorem al3 {vo vp:Value} {x y z:Int} (g:Gh) (w:World) (v:Value) (h:Rep g w (.val (bkV vo vp x y z)) v):Rep g w (bkQ vo vp x y z) v:=by simp only[Rep]at h;subst h;simp[Rep,bF]
theorem kK {vo vp:Value} {x y z:Int} {g:Gh} {w:World} {v:Value} (h:Rep g w (bkQ vo vp x y z) v):v=bkV vo vp x y z:=by simp only[Rep,bF]at h;obtain⟨l,rfl,v1,l1,h1,rfl,v2,l2,rfl,rfl,v3,l3,rfl,rfl,v4,l4,rfl,rfl,v5,l5,rfl,rfl,rfl⟩:=h;obtain⟨ll⟩:=l;simp only at h1;rw[h1]
end
theorem ak2 {l:LS} {left:Int} (h:0≤szS left l) (h0:0≤left):szS left l+l.length≤left:=by
 unfold szS at h⊢;split at h
 ·omega
 ·rename_i h1
  rw[if_neg h1];have:=ou (l:=l.map (·.size)) (left:=left-l.length) (by omega);omega
theorem yT:∀{l:List LS} {left:Int},0≤nY left l→0≤left→(oN l:Int)≤left
 |[],left,h,h0=>by simp[oN];exact h0
 |p::l,left,h,h0=>by
  unfold nY at h;split at h
  ·omega
  ·rename_i h1
   have h2:=ak2 (l:=p) (left:=left) (by omega) h0;have h3:=yT (l:=l) h (by omega);unfold oN at h3⊢;simp only[List.map_cons,List.sum_cons];omega
theorem aiM {p:List LS} {q:LS} (h:0≤ajQ p q):qc p∧alF p q∧oN p≤1048576:=by
 unfold ajQ at h;split at h
 ·omega
 ·split at h
  ·omega
  ·rename_i h1 h2
   have h3:=ad7 (l:=p);have hq:lU q:=aki (by omega) (by omega) h3;have h4:p.length≤1048576∧0≤nY (1048576-p.length) p:=by
    unfold acA at h1;split at h1
    ·omega
    ·exact⟨by omega,by omega⟩
   have h5:=ach h4.2 (by omega) (by omega);have h6:∀i:Nat,lU (p[i]?.getD []):=fun i=>by
    by_cases hi:i<p.length
    ·rw[List.getElem?_eq_getElem hi,Option.getD_some]
     exact h5 _ (List.getElem_mem hi)
    ·rw[List.getElem?_eq_none (by omega)]
     exact⟨Nat.zero_le _,fun i=>by simp⟩
   have h7:=yT h4.2 (by omega);exact⟨⟨h4.1,List.all_eq_true.2 fun w hw=>decide_eq_true (h5 w hw).1⟩,⟨h4.1,h6,hq⟩,by omega⟩
section
variable {P:Program} {N B:Nat} {w00:World} {s:AS} {σ:Fgn} {o:Oper}
theorem Zt.get {a:Act} {w:World} (h:Zt P N B w00 s σ a w):∃g:Gh,(∀x:Operand,Rep g w (look s.tm x) (a.eval x))∧(∀(x:Operand) (q:PV),reify false 0 s.ob fuel (look s.tm x)=some q→Rep (jF fun i=>i<w.heap.size) w q (a.eval x))∧σ.at_ w:=by obtain⟨⟨io,w0,g,hr,hC⟩,hM⟩:=h;exact⟨g,fun x=>hr.look x,fun x q hq=>hr.arV hq,hM⟩
theorem Zt.aum {t d:Nat} {x:Operand} {b:Bool} (ho:o.op=.unOp .not t x) (hdst:o.dst=some d) (hd:d<N) (hx:look s.tm x=.val (.bool b)) {a:Act} {w:World} (hst:Zt P N B w00 s σ a w) {Kn:Act→World→Prop} {Q:Exit→Act→World→Prop} (h:∀a' w',Zt P N B w00 (s.put (some d) (.val (.bool !b))) σ a' w'→Kn a' w'):o.wp P a w Kn Q:=by
 have hst0:=hst;obtain⟨⟨io,w0,g,hr,hC⟩,hM⟩:=hst0;have hX:=hr.look x;rw[hx]at hX;simp only[Rep]at hX;have hrun:(execOp a.eval o).run P w=.ok (.value (.bool !b)) w:=by simp[execOp,ho,hX,Op.unary]
 unfold Oper.wp;rw[hrun,Oper.upon_value,hdst];exact h _ _ (hst.put (d:=some d) (fun y hy=>by cases hy;exact hd) fun g w=>by simp[Rep])
end
def abv:Fun:=anE 1 aaZ
def pX:Fun:=anE 1 zK
theorem afU {a b:LS} (h:a.length≤1048576) (h2:b.length≤1048576):abv [.lst false 1 (a.map fun s=> .val (.string s)),.lst false 1 (b.map fun s=> .val (.string s))]=some (.val (.bool (decide (a=b)))):=pV h h2
theorem adn:abv [.val (.slice none 0 0),.lst false 1 []]=some (.val (.bool true)):=pV (a:=[]) (b:=[]) (by simp) (by simp)
theorem aar {k:Int} {n:Nat} (hn:n≤1048576) (hk:0<k) (hk2:k≤1099511627776):pX [.lst false 1 ((iN k n).map fun s=> .val (.string s)),.val (.int .i64 k)]=some (.val (.int .i64 (k+n))):=sH hn hk hk2
theorem xJ:pX [.val (.slice none 0 0),.val (.int .i64 1)]=some (.val (.int .i64 1)):=sH (k:=1) (n:=0) (by simp) (by simp) (by simp)
def aa7:Fun:=anE 1 amn
def pO:Fun:=anE 1 aaO
theorem agt {a b:List Int} (h:a.length≤1048576) (h2:b.length≤1048576):aa7 [.lst false 1 (a.map fun n=> .val (.int .i64 n)),.lst false 1 (b.map fun n=> .val (.int .i64 n))]=some (.val (.bool (decide (a=b)))):=aa2 h h2
theorem adB:aa7 [.val (.slice none 0 0),.lst false 1 []]=some (.val (.bool true)):=aa2 (a:=[]) (b:=[]) (by simp) (by simp)
theorem aaC {k:Int} {n:Nat} (hn:n≤1048576) (hk:0<k) (hk2:k≤1099511627776):pO [.lst false 1 ((j6 k n).map fun n=> .val (.int .i64 n)),.val (.int .i64 k)]=some (.val (.int .i64 (k+n))):=sS hn hk hk2
theorem wK {k:Int} (h:0<k) (h2:k≤1099511627776):pO [.val (.slice none 0 0),.val (.int .i64 k)]=some (.val (.int .i64 k)):=by have:=sS (k:=k) (n:=0) (by simp) h h2;rw[show k+((0:Nat):Int)=k by omega]at this;exact this
def abq:Fun:=F1 jm fun b=>if zl b.1∧ajX b.2.1 then some (bv true)else none
def adw:Ctx:={fn:=aZ [(4,o9),(6,pG),(5,φBl),(8,abv),(9,aa7),(14,pX),(15,pO)],io:=aZ [(7,(vQ ΨBl)),(12,rC),(13,vZ)]}
theorem aA:au Try.prog adw:=okΓ (fC Try.func4 afB (fC Try.func6 aeX (fC Try.func5 ae7 (fC Try.func8 (jZ.nil 1) (fC Try.func9 (aeO.nil 1) (fC Try.func14 (rP.nil 1) (fC Try.func15 (z8.nil 1) aj))))))) (fD Try.func7 qK.lift (fD Try.func12 abS (fD Try.func13 aip aj)))
def ajr:=ah (Γ:=adw) (f:=4) (φ:=o9) rfl
def ajV:=ah (Γ:=adw) (f:=6) (φ:=pG) rfl
def akf:=ah (Γ:=adw) (f:=5) (φ:=φBl) rfl
def ajB:=ah (Γ:=adw) (f:=8) (φ:=abv) rfl
def ajE:=ah (Γ:=adw) (f:=9) (φ:=aa7) rfl
def afY:=ah (Γ:=adw) (f:=14) (φ:=pX) rfl
def aeV:=ah (Γ:=adw) (f:=15) (φ:=pO) rfl
theorem ajy:adw.io 7=some (vQ ΨBl):=rfl
theorem agU:adw.io 12=some rC:=rfl
theorem afJ:adw.io 13=some vZ:=rfl
set_option maxRecDepth 20000 in
theorem lawBkE_ok:Sound Try.prog 3 abq:=by
 refine HZ.sound (N:=133) (rs:=[.tmp 2]) Try.func3 rfl rfl rfl fun ps r hr=>?_;obtain⟨⟨p,q,x,y,z⟩,rfl,hq⟩:=bJ hr;clear hr;split at hq
 case isFalse=>cases hq
 case isTrue hpre=>
 cases hq;refine⟨by simp,fun B w00=>HZ.start ?_⟩;simp only[dIs,dUs,dSs,bQ,bU,bP,bT,aL,bS,aQ,aO,aR,aP];(try dsimp only at hpre⊢);show HZ _ _ _ _ _ _ ⟨(bM [pQ p q x y z]).tm,fun _=>none,0⟩ _;have ap1:=@zV p q x y z hpre.1 hpre.2;clear hpre;by_cases hneg:ajQ p q<0
 ·have gbkf_c4:=ajr;have gbkf_c6:=ajV;have gbkf_c5:=akf;have gbkf_c7:=ajy;have gbkf_c8:=ajB;have gbkf_c9:=ajE;have gbkf_c14:=afY;have gbkf_c15:=aeV;have gbkf_c12:=agU;have gbkf_c13:=afJ
  refine HZ.seq (HZ.eng mixed aA (by kernel_rfl) ?_);(try dsimp only);(refine wlk ?_;intros);(try dsimp only[X.out]);(try simp only[↓reduceIte]);refine HZ.seq (HZ.eng mixed aA (by kernel_rfl) ?_);(try dsimp only);(refine wlk ?_;intros);(try dsimp only[X.out]);(try simp only[↓reduceIte]);refine HZ.seq (HZ.eng mixed aA (by kernel_rfl) ?_);(try dsimp only);(refine wlk ?_;intros);(try dsimp only[X.out]);(try simp only[↓reduceIte]);refine HZ.seq (HZ.eng mixed aA (by kernel_rfl) ?_);(try dsimp only);(refine wlk ?_;intros);(try dsimp only[X.out]);(try simp only[↓reduceIte]);refine⟨by simp,⟨_,fun g w v h=>h,by(simp(disch:=(first|omega|(simp only[push_cast];first|done|omega))) only[push_cast,↓reduceIte,Nat.reduceEqDiff,Nat.reduceBEq,Nat.reduceAdd,Nat.reduceSub,Int.reduceToNat, *]<;>with_reducible exact rfl)⟩,fun i e=>False.elim e⟩
 obtain⟨hs,hb,hlt⟩:=aiM (p:=p) (q:=q) (by omega);have hss:asQ p:=⟨hb.1,fun k=>(hb.2.1 k).1⟩;have ap2:=@aav p q x y z hs hb.2.2.1;have ap3:=alB (x:=x) (y:=y) (z:=z) hb;have hqs:=hb.2.2.1;generalize ajQ p q=sz at*;have gbkf_c4:=ajr;have gbkf_c6:=ajV;have gbkf_c5:=akf;have gbkf_c7:=ajy;have gbkf_c8:=ajB;have gbkf_c9:=ajE;have gbkf_c14:=afY;have gbkf_c15:=aeV;have gbkf_c12:=agU;have gbkf_c13:=afJ;refine HZ.seq (HZ.eng mixed aA (by kernel_rfl) ?_);(try dsimp only);(refine wlk ?_;intros);(try dsimp only[X.out]);(try simp only[↓reduceIte]);refine HZ.seq (HZ.eng mixed aA (by kernel_rfl) ?_);(try dsimp only);(refine wlk ?_;intros);(try dsimp only[X.out]);(try simp only[↓reduceIte]);refine HZ.seq (HZ.eng mixed aA (by kernel_rfl) ?_);(try dsimp only);(refine wlk ?_;intros);(try dsimp only[X.out]);(try simp only[↓reduceIte]);refine HZ.seq (HZ.eng mixed aA (by kernel_rfl) ?_);(try dsimp only);(refine wlk ?_;intros);(try dsimp only[X.out]);(try simp only[↓reduceIte]);refine HZ.seq (HZ.eng mixed aA (by kernel_rfl) ?_);(try dsimp only);(refine wlk ?_;intros);(try dsimp only[X.out]);(try simp only[↓reduceIte]);refine HZ.seq (HZ.each ?_);refine ZO.pre (imm:=⟨[],[],[]⟩) 1 aA (by kernel_rfl) (by simp only[List.take_succ_cons,List.take_zero]<;>exact rfl) (by simp only[List.drop_succ_cons,List.drop_zero]<;>exact rfl) (by simp only[List.map_cons,List.map_nil]<;>exact rfl) ?_;(try dsimp only);(refine wlk ?_;intros);(try dsimp only);refine ZO.xS rfl rfl ⟨_,Try.func6,rfl,rfl⟩ rfl (by rintro y ⟨⟩;decide) (fun v σ'=>∃a n c a2 n2 c2 vs,v=bkV (.slice a n c) (.slice a2 n2 c2) x y z∧σ'=acR 23 9 (.slice a n c) vs (.slice a2 n2 c2) p q∧∀i,(o7 (.slice a n c) vs i∨(Value.slice a2 n2 c2).ownBlock=some i)→B≤i) (fun a w1 hst=>?_) (fun v σ' ⟨a1,n1,c1,a2,n2,c2,vs,e1,e2,hbo⟩=>?_)
 ·obtain⟨⟨io,w0,g,hr,hC⟩,hM⟩:=hst
  simp only[List.map_toArray,List.map_cons,List.map_nil];have hrep:=hr.arV (x:=.tmp 29) (q:=pQ p q x y z) (by(simp(disch:=(first|omega|(simp only[push_cast];first|done|omega))) only[push_cast,↓reduceIte,Nat.reduceEqDiff,Nat.reduceBEq,Nat.reduceAdd,Nat.reduceSub,Int.reduceToNat, *]<;>with_reducible exact rfl));have hT1:jc w1 fun _=>False:=(hr.tab.keep hr.fr fun t ht=>(hr.tab.apart t ht)).io fun _ _ q=>False.elim q;refine(acB hss hqs (fun b hb=>hb) hT1 ⟨_,_,rfl,hrep,rfl⟩).mono ?_;rintro e w' ⟨vo,vs,vp,rfl,hf,hM2,hb2⟩;have hsz:=Nat.le_trans hC.sz hr.fr.size;obtain⟨a1,n1,c1,rfl⟩:=hM2.ss.out.sl;obtain⟨a2,n2,c2,rfl⟩:=hM2.row.sl;exact⟨_,_,rfl,⟨a1,n1,c1,a2,n2,c2,vs,rfl,rfl,fun i hi=>Nat.le_trans hsz (hb2 i hi)⟩,⟨hf.os,hf.tape,hf.output,hf.size,fun i hi _=>hf.block i hi fun e=>e⟩,fun i hi e=>by have:=hb2 i e;omega,fun i e=>False.elim e,fun i e=>hM2.lt e,hM2⟩
 subst e1 e2;have hc1:bA (bkQ (.slice a1 n1 c1) (.slice a2 n2 c2) x y z)=some [.val (.slice a1 n1 c1),.val (.slice a2 n2 c2),.val (.int .i64 x),.val (.int .i64 y),.val (.int .i64 z)]:=rfl;dsimp only[AS.put];refine ZO.weak (t:=30) (p:=bkQ (.slice a1 n1 c1) (.slice a2 n2 c2) x y z) (fun g w v h=>al3 g w v h) ?_;(try dsimp only);refine ZO.pre (imm:=⟨[],[],[]⟩) 2 aA (by kernel_rfl) (by simp only[List.take_succ_cons,List.take_zero]<;>exact rfl) (by simp only[List.drop_succ_cons,List.drop_zero]<;>exact rfl) (by simp only[List.map_cons,List.map_nil]<;>exact rfl) ?_;(try dsimp only);(refine wlk ?_;intros);(try dsimp only);refine ZO.nil ?_;(try dsimp only);refine HZ.seq (HZ.each ?_);refine ZO.pre (imm:=⟨[],[],[]⟩) 1 aA (by kernel_rfl) (by simp only[List.take_succ_cons,List.take_zero]<;>exact rfl) (by simp only[List.drop_succ_cons,List.drop_zero]<;>exact rfl) (by simp only[List.map_cons,List.map_nil]<;>exact rfl) ?_;(try dsimp only);(refine wlk ?_;intros);(try dsimp only);by_cases h0:(blL p q x y z).length=0
 ·refine ZO.aje (Ψ:=ΨBl) (ps:=[pQ p q x y z]) (r:=.tup [.val (.slice none 0 0),.val (.slice none 0 0),bv (blB p q x y z)]) (r':=.tup [.val (.slice none 0 0),.val (.slice none 0 0),bv (blB p q x y z)]) (cs':=[]) (cs2:=[]) rfl rfl ⟨_,Try.func7,rfl,rfl⟩ rfl (by rintro y ⟨⟩;decide) qK ((aeA (A:=jm) (p,q,x,y,z)).trans ((if_pos hb).trans (by dsimp only;rw[if_neg (by omega)]))) rfl rfl (fun a w1 hst=>?_) ?_
  ·obtain⟨⟨io,w0,g,hr,hC⟩,hM⟩:=hst
   have hM1:acn 23 9 (.slice a1 n1 c1) vs (.slice a2 n2 c2) p q w1:=hM;have hX:=hr.look (.tmp 32);rw[show look _ (.tmp 32)=bkQ (.slice a1 n1 c1) (.slice a2 n2 c2) x y z from by(simp(disch:=(first|omega|(simp only[push_cast];first|done|omega))) only[push_cast,↓reduceIte,Nat.reduceEqDiff,Nat.reduceBEq,Nat.reduceAdd,Nat.reduceSub,Int.reduceToNat, *]<;>with_reducible exact rfl)]at hX;have hv:=kK hX;refine⟨fun i=>i<w1.heap.size,fun i hi=>hi,?_⟩;simp only[List.map_toArray,List.map_cons,List.map_nil];rw[hv];exact⟨_,_,rfl,hM1.rep,rfl⟩
  (try dsimp only[AS.put]);rw[yV];have hΨ:ΨBl [pQ p q x y z]=some (.tup [.val (.slice none 0 0),.val (.slice none 0 0),bv (blB p q x y z)],[]):=(aeA (A:=jm) (p,q,x,y,z)).trans ((if_pos hb).trans (by dsimp only;rw[if_neg (by omega)]));replace hΨ:=Lib.hid hΨ;rw[(aiG h0).1,List.eq_nil_of_length_eq_zero h0]at ap3⊢;generalize blB p q x y z=b at*;have ap5:=adn;have ap6:=adB;refine ZO.pre (imm:=⟨[],[],[]⟩) 7 aA (by kernel_rfl) (by simp only[List.take_succ_cons,List.take_zero]<;>exact rfl) (by simp only[List.drop_succ_cons,List.drop_zero]<;>exact rfl) (by simp only[List.map_cons,List.map_nil]<;>exact rfl) ?_;(try dsimp only);(refine wlk ?_;intros);(try dsimp only);refine ZO.nil ?_;(try dsimp only);refine HZ.seq (HZ.eng mixed aA (by kernel_rfl) ?_);(try dsimp only);(refine wlk ?_;intros);(try dsimp only[X.out]);(try simp only[↓reduceIte]);have hLK:True:=trivial;refine HZ.seq (HZ.seq ?_);refine HZ.arP (Γ:=adw) (imm:=⟨[],[52,53],[0,1]⟩) (xs:=[52,54]) (d:=55) (RA:=fun v σ'=>v=.bool true∧σ'=acR 23 9 (.slice a1 n1 c1) vs (.slice a2 n2 c2) p q) 3 mixed (by simp only[List.take_succ_cons,List.take_zero]<;>exact rfl) (by simp only[List.drop_succ_cons,List.drop_zero]<;>exact rfl) (by simp only[List.map_cons,List.map_nil]<;>exact rfl) rfl rfl rfl rfl (by kernel_rfl) (by kernel_rfl) (by kernel_rfl) (by kernel_rfl) (by kernel_rfl) (fun v=>by kernel_rfl) (fun io w0 g s a w hr hC hM=>aA.w) ?_;(try dsimp only);(refine wlk ?_;intros);(try dsimp only);refine⟨?_,fun s a w hz e1 e2 e3 Kn Q' hK=>?_,?_⟩
  ·rintro v σ' ⟨rfl,rfl⟩ io w0 g s a w hr hC hM
   exact aA.w
  ·have hA:bF (jF fun i=>i<w.heap.size) w [pQ p q x y z,pQ p q x y z] [a.eval (.tmp 52),a.eval (.tmp 54)]:=by
    have h52:s.tm 52=bkQ (.slice a1 n1 c1) (.slice a2 n2 c2) x y z:=(e3 52 (by decide)).symm.trans (by(simp(disch:=(first|omega|(simp only[push_cast];first|done|omega))) only[push_cast,↓reduceIte,Nat.reduceEqDiff,Nat.reduceBEq,Nat.reduceAdd,Nat.reduceSub,Int.reduceToNat, *]<;>with_reducible exact rfl));have h54:reify false 0 s.ob fuel (look s.tm (.tmp 54))=some (pQ p q x y z):=by rw[show look s.tm (.tmp 54)=s.tm 54 from rfl,←e3 54 (by decide),←e1];(simp(disch:=(first|omega|(simp only[push_cast];first|done|omega))) only[push_cast,↓reduceIte,Nat.reduceEqDiff,Nat.reduceBEq,Nat.reduceAdd,Nat.reduceSub,Int.reduceToNat, *]<;>with_reducible exact rfl)
    clear e1 e2 e3 hK;obtain⟨g,hlk,hall,hM⟩:=Zt.get hz;have hM1:acn 23 9 (.slice a1 n1 c1) vs (.slice a2 n2 c2) p q w:=hM;have hX:=hlk (.tmp 52);rw[show look s.tm (.tmp 52)=s.tm 52 from rfl,h52]at hX;have hv:=kK hX;rw[hv];exact⟨_,_,rfl,hM1.rep,_,_,rfl,hall (.tmp 54) _ h54,rfl⟩
   exact Zt.apR (ps:=[pQ p q x y z,pQ p q x y z]) (u:=.bool true) rfl rfl ⟨_,Try.func10,rfl,rfl⟩ rfl (by decide) xQ (@rz p q x y z hs hqs) hz (Jm:=fun i=>i<w.heap.size) (fun i hi=>hi) (by simp only[List.map_toArray,List.map_cons,List.map_nil];exact hA) (fun a' w' hz'=>hK _ _ a' w' hz' ⟨rfl,rfl⟩)
  rintro v σ' ⟨rfl,rfl⟩ a w hz Kn Q' hK;refine Zt.aum (x:=.tmp 55) (b:=true) rfl rfl (by decide) ?_ hz (fun a' w' hz'=>hK _ _ a' w' hz' ?_)
  ·dsimp only[AS.put]
   (simp(disch:=(first|omega|(simp only[push_cast];first|done|omega))) only[push_cast,↓reduceIte,Nat.reduceEqDiff,Nat.reduceBEq,Nat.reduceAdd,Nat.reduceSub,Int.reduceToNat, *]<;>with_reducible exact rfl)
  dsimp only[AS.put,X.out];clear hz hK;refine HZ.eng mixed aA (by kernel_rfl) ?_;(try dsimp only);(refine wlk ?_;intros);(try dsimp only[X.out]);(try simp only[↓reduceIte]);refine HZ.seq (HZ.eng mixed aA (by kernel_rfl) ?_);(try dsimp only);(refine wlk ?_;intros);(try dsimp only[X.out]);(try simp only[↓reduceIte]);refine HZ.seq (HZ.each ?_);refine ZO.pre (imm:=⟨[],[],[]⟩) 2 aA (by kernel_rfl) (by simp only[List.take_succ_cons,List.take_zero]<;>exact rfl) (by simp only[List.drop_succ_cons,List.drop_zero]<;>exact rfl) (by simp only[List.map_cons,List.map_nil]<;>exact rfl) ?_;(try dsimp only);(refine wlk ?_;intros);(try dsimp only);refine ZO.xS rfl rfl ⟨_,Try.func11,rfl,rfl⟩ rfl (by rintro y ⟨⟩;decide) (fun v σ'=>v=.int .i64 (1+oN p+q.length)∧σ'=asL (.slice a1 n1 c1) vs (.slice a2 n2 c2)) (fun a w1 hst=>?_) (fun v σ' ⟨e1,e2⟩=>?_)
  ·have hst0:=hst
   obtain⟨g,hlk,hall,hM⟩:=hst0.get;have hM1:acn 23 9 (.slice a1 n1 c1) vs (.slice a2 n2 c2) p q w1:=hM;have hX:=hlk (.tmp 57);have hY:=hlk (.tmp 58);rw[show look _ (.tmp 57)=bkQ (.slice a1 n1 c1) (.slice a2 n2 c2) x y z from by(simp(disch:=(first|omega|(simp only[push_cast];first|done|omega))) only[push_cast,↓reduceIte,Nat.reduceEqDiff,Nat.reduceBEq,Nat.reduceAdd,Nat.reduceSub,Int.reduceToNat, *]<;>with_reducible exact rfl)]at hX;rw[show look _ (.tmp 58)=.val (.int .i64 1)from by(simp(disch:=(first|omega|(simp only[push_cast];first|done|omega))) only[push_cast,↓reduceIte,Nat.reduceEqDiff,Nat.reduceBEq,Nat.reduceAdd,Nat.reduceSub,Int.reduceToNat, *]<;>with_reducible exact rfl)]at hY;have hv:=kK hX;simp only[Rep]at hY;obtain⟨⟨io,w0,g2,hr,hC⟩,_⟩:=hst;have hT1:jc w1 fun i=>o7 (.slice a1 n1 c1) vs i∨(Value.slice a2 n2 c2).ownBlock=some i:=(hr.tab.keep hr.fr fun t ht=>(hr.tab.apart t ht)).io fun t ht q=>(hC.tk t ht).2 q;refine(oI (x:=x) (y:=y) (z:=z) (k0:=1) hM1 hlt hb.1 hqs (by decide) (by decide) hT1 ?_).mono ?_
   ·simp only[List.map_toArray,List.map_cons,List.map_nil]
    rw[hv,hY]
   rintro e w' ⟨rfl,hf⟩;exact⟨_,_,rfl,⟨rfl,rfl⟩,hf,fun i hi e=>e,fun i e=>e,fun i e=>Nat.lt_of_lt_of_le (hM1.lt e) hf.size,trivial⟩
  subst e1 e2;dsimp only[AS.put];refine ZO.pre (imm:=⟨[],[],[]⟩) 1 aA (by kernel_rfl) (by simp only[List.take_succ_cons,List.take_zero]<;>exact rfl) (by simp only[List.drop_succ_cons,List.drop_zero]<;>exact rfl) (by simp only[List.map_cons,List.map_nil]<;>exact rfl) ?_;(try dsimp only);(refine wlk ?_;intros);(try dsimp only);refine ZO.nil ?_;(try dsimp only);have ap7:=pI.2 1;have ap7b:=aa0.2 1;have ap8:=xJ;have ap8b:=wK (k:=1) (by omega) (by omega);refine HZ.seq (HZ.eng mixed aA (by kernel_rfl) ?_);(try dsimp only);(refine wlk ?_;intros);(try dsimp only[X.out]);(try simp only[↓reduceIte]);refine HZ.seq (HZ.eng mixed aA (by kernel_rfl) ?_);(try dsimp only);(refine wlk ?_;intros);(try dsimp only[X.out]);(try simp only[↓reduceIte]);refine HZ.seq (HZ.eng mixed aA (by kernel_rfl) ?_);(try dsimp only);(refine wlk ?_;intros);(try dsimp only[X.out]);(try simp only[↓reduceIte]);refine HZ.seq (HZ.eng mixed aA (by kernel_rfl) ?_);(try dsimp only);(refine wlk ?_;intros);(try dsimp only[X.out]);(try simp only[↓reduceIte]);refine HZ.seq (HZ.eng mixed aA (by kernel_rfl) ?_);(try dsimp only);(refine wlk ?_;intros);(try dsimp only[X.out]);(try simp only[↓reduceIte]);refine HZ.seq (HZ.eng mixed aA (by kernel_rfl) ?_);(try dsimp only);(refine wlk ?_;intros);(try dsimp only[X.out]);(try simp only[↓reduceIte]);refine HZ.seq (HZ.eng mixed aA (by kernel_rfl) ?_);(try dsimp only);(refine wlk ?_;intros);(try dsimp only[X.out]);(try simp only[↓reduceIte]);refine HZ.seq (HZ.eng mixed aA (by kernel_rfl) ?_);(try dsimp only);(refine wlk ?_;intros);(try dsimp only[X.out]);(try simp only[↓reduceIte]);refine HZ.seq (HZ.eng mixed aA (by kernel_rfl) ?_);(try dsimp only);(refine wlk ?_;intros);(try dsimp only[X.out]);(try simp only[↓reduceIte]);refine HZ.seq (HZ.eng mixed aA (by kernel_rfl) ?_);(try dsimp only);(refine wlk ?_;intros);(try dsimp only[X.out]);(try simp only[↓reduceIte]);refine HZ.seq (HZ.each ?_);refine ZO.pre (imm:=⟨[],[],[]⟩) 2 aA (by kernel_rfl) (by simp only[List.take_succ_cons,List.take_zero]<;>exact rfl) (by simp only[List.drop_succ_cons,List.drop_zero]<;>exact rfl) (by simp only[List.map_cons,List.map_nil]<;>exact rfl) ?_;(try dsimp only);(refine wlk ?_;intros);(try dsimp only);refine ZO.aje (Ψ:=ΨBl) (ps:=[pQ p q x y z]) (r:=.tup [.val (.slice none 0 0),.val (.slice none 0 0),bv b]) (r':=.tup [.val (.slice none 0 0),.val (.slice none 0 0),bv b]) (cs':=[]) (cs2:=[]) rfl rfl ⟨_,Try.func7,rfl,rfl⟩ rfl (by rintro y ⟨⟩;decide) qK hΨ.out rfl rfl (fun a w1 hst=>?_) ?_
  ·obtain⟨g,hlk,hall,hM⟩:=hst.get
   refine⟨fun i=>i<w1.heap.size,fun i hi=>hi,?_⟩;simp only[List.map_toArray,List.map_cons,List.map_nil];exact⟨_,_,rfl,hall (.tmp 100) (pQ p q x y z) (by(simp(disch:=(first|omega|(simp only[push_cast];first|done|omega))) only[push_cast,↓reduceIte,Nat.reduceEqDiff,Nat.reduceBEq,Nat.reduceAdd,Nat.reduceSub,Int.reduceToNat, *]<;>with_reducible exact rfl)),rfl⟩
  (try dsimp only[AS.put]);rw[yV];refine ZO.pre (imm:=⟨[],[],[]⟩) 7 aA (by kernel_rfl) (by simp only[List.take_succ_cons,List.take_zero]<;>exact rfl) (by simp only[List.drop_succ_cons,List.drop_zero]<;>exact rfl) (by simp only[List.map_cons,List.map_nil]<;>exact rfl) ?_;(try dsimp only);(refine wlk ?_;intros);(try dsimp only);refine ZO.nil ?_;(try dsimp only);refine HZ.seq (HZ.eng mixed aA (by kernel_rfl) ?_);(try dsimp only);(refine wlk ?_;intros);(try dsimp only[X.out]);(try simp only[↓reduceIte]);refine HZ.seq (HZ.eng mixed aA (by kernel_rfl) ?_);(try dsimp only);(refine wlk ?_;intros);(try dsimp only[X.out]);(try simp only[↓reduceIte]);refine HZ.seq (HZ.eng mixed aA (by kernel_rfl) ?_);(try dsimp only);(refine wlk ?_;intros);(try dsimp only[X.out]);(try simp only[↓reduceIte]);refine HZ.seq (HZ.eng mixed aA (by kernel_rfl) ?_);(try dsimp only);(refine wlk ?_;intros);(try dsimp only[X.out]);(try simp only[↓reduceIte]);refine HZ.seq (HZ.eng mixed aA (by kernel_rfl) ?_);(try dsimp only);(refine wlk ?_;intros);(try dsimp only[X.out]);(try simp only[↓reduceIte]);refine HZ.seq (HZ.eng mixed aA (by kernel_rfl) ?_);(try dsimp only);(refine wlk ?_;intros);(try dsimp only[X.out]);(try simp only[↓reduceIte]);refine HZ.seq (HZ.eng mixed aA (by kernel_rfl) ?_);(try dsimp only);(refine wlk ?_;intros);(try dsimp only[X.out]);(try simp only[↓reduceIte]);refine HZ.eng mixed aA (by kernel_rfl) ?_;(try dsimp only);(refine wlk ?_;intros);(try dsimp only[X.out]);(try simp only[↓reduceIte]);refine⟨by simp,⟨_,fun g w v h=>h,by(simp(disch:=(first|omega|(simp only[push_cast];first|done|omega))) only[push_cast,↓reduceIte,Nat.reduceEqDiff,Nat.reduceBEq,Nat.reduceAdd,Nat.reduceSub,Int.reduceToNat, *]<;>with_reducible exact rfl)⟩,fun i hi=>hbo i hi⟩
 ·refine ZO.aje (Ψ:=ΨBl) (ps:=[pQ p q x y z]) (r:=.tup [.row 0 1 0 (blL p q x y z).length,.row 1 1 0 (blC p q x y z).length,bv (blB p q x y z)]) (r':=.tup [.row 2 1 0 (blL p q x y z).length,.row 3 1 0 (blC p q x y z).length,bv (blB p q x y z)]) (cs':=[(9,1,(blL p q x y z).map fun s=> .val (.string s)),(3,1,(blC p q x y z).map fun n=> .val (.int .i64 n))]) (cs2:=[(9,1,(blL p q x y z).map fun s=> .val (.string s)),(3,1,(blC p q x y z).map fun n=> .val (.int .i64 n))]) rfl rfl ⟨_,Try.func7,rfl,rfl⟩ rfl (by rintro y ⟨⟩;decide) qK ((aeA (A:=jm) (p,q,x,y,z)).trans ((if_pos hb).trans (by dsimp only;rw[if_pos (by omega)]))) rfl (by rw[mapM_cons',gU,Option.bind_some,mapM_cons',gU,Option.bind_some,mapM_nil'];rfl) (fun a w1 hst=>?_) ?_
  ·obtain⟨⟨io,w0,g,hr,hC⟩,hM⟩:=hst
   have hM1:acn 23 9 (.slice a1 n1 c1) vs (.slice a2 n2 c2) p q w1:=hM;have hX:=hr.look (.tmp 32);rw[show look _ (.tmp 32)=bkQ (.slice a1 n1 c1) (.slice a2 n2 c2) x y z from by(simp(disch:=(first|omega|(simp only[push_cast];first|done|omega))) only[push_cast,↓reduceIte,Nat.reduceEqDiff,Nat.reduceBEq,Nat.reduceAdd,Nat.reduceSub,Int.reduceToNat, *]<;>with_reducible exact rfl)]at hX;have hv:=kK hX;refine⟨fun i=>i<w1.heap.size,fun i hi=>hi,?_⟩;simp only[List.map_toArray,List.map_cons,List.map_nil];rw[hv];exact⟨_,_,rfl,hM1.rep,rfl⟩
  (try dsimp only[AS.put]);rw[yX];have hB:blB p q x y z=true:=by
   cases hB:blB p q x y z with
   |true=>rfl
   |false=>unfold blL at h0;rw[if_neg (by rw[hB];decide)]at h0;simp at h0
  have hl60:=amz (p:=p) (q:=q) (x:=x) (y:=y) (z:=z) (by unfold blB iM at hB;simp only[Bool.and_eq_true,decide_eq_true_eq]at hB;exact hB.1.2.1)
  clear hB;have hΨ:ΨBl [pQ p q x y z]=some (.tup [.row 0 1 0 (blL p q x y z).length,.row 1 1 0 (blC p q x y z).length,bv (blB p q x y z)],[(9,1,(blL p q x y z).map fun s=> .val (.string s)),(3,1,(blC p q x y z).map fun n=> .val (.int .i64 n))]):=(aeA (A:=jm) (p,q,x,y,z)).trans ((if_pos hb).trans (by dsimp only;rw[if_pos (by omega)]));replace hΨ:=Lib.hid hΨ;generalize blL p q x y z=A at*;generalize blC p q x y z=C at*;generalize blB p q x y z=b at*;have ap5:=afU (a:=A) (b:=A) (by omega) (by omega);have ap6:=agt (a:=C) (b:=C) (by omega) (by omega);refine ZO.pre (imm:=⟨[],[],[]⟩) 7 aA (by kernel_rfl) (by simp only[List.take_succ_cons,List.take_zero]<;>exact rfl) (by simp only[List.drop_succ_cons,List.drop_zero]<;>exact rfl) (by simp only[List.map_cons,List.map_nil]<;>exact rfl) ?_;(try dsimp only);(refine wlk ?_;intros);(try dsimp only);refine ZO.nil ?_;(try dsimp only);refine HZ.seq (HZ.eng mixed aA (by kernel_rfl) ?_);(try dsimp only);(refine wlk ?_;intros);(try dsimp only[X.out]);(try simp only[↓reduceIte]);have hLK:True:=trivial;refine HZ.seq (HZ.seq ?_);refine HZ.arP (Γ:=adw) (imm:=⟨[],[52,53],[0,1]⟩) (xs:=[52,54]) (d:=55) (RA:=fun v σ'=>v=.bool true∧σ'=acR 23 9 (.slice a1 n1 c1) vs (.slice a2 n2 c2) p q) 3 mixed (by simp only[List.take_succ_cons,List.take_zero]<;>exact rfl) (by simp only[List.drop_succ_cons,List.drop_zero]<;>exact rfl) (by simp only[List.map_cons,List.map_nil]<;>exact rfl) rfl rfl rfl rfl (by kernel_rfl) (by kernel_rfl) (by kernel_rfl) (by kernel_rfl) (by kernel_rfl) (fun v=>by kernel_rfl) (fun io w0 g s a w hr hC hM=>aA.w) ?_;(try dsimp only);(refine wlk ?_;intros);(try dsimp only);refine⟨?_,fun s a w hz e1 e2 e3 Kn Q' hK=>?_,?_⟩
  ·rintro v σ' ⟨rfl,rfl⟩ io w0 g s a w hr hC hM
   exact aA.w
  ·have hA:bF (jF fun i=>i<w.heap.size) w [pQ p q x y z,pQ p q x y z] [a.eval (.tmp 52),a.eval (.tmp 54)]:=by
    have h52:s.tm 52=bkQ (.slice a1 n1 c1) (.slice a2 n2 c2) x y z:=(e3 52 (by decide)).symm.trans (by(simp(disch:=(first|omega|(simp only[push_cast];first|done|omega))) only[push_cast,↓reduceIte,Nat.reduceEqDiff,Nat.reduceBEq,Nat.reduceAdd,Nat.reduceSub,Int.reduceToNat, *]<;>with_reducible exact rfl));have h54:reify false 0 s.ob fuel (look s.tm (.tmp 54))=some (pQ p q x y z):=by rw[show look s.tm (.tmp 54)=s.tm 54 from rfl,←e3 54 (by decide),←e1];(simp(disch:=(first|omega|(simp only[push_cast];first|done|omega))) only[push_cast,↓reduceIte,Nat.reduceEqDiff,Nat.reduceBEq,Nat.reduceAdd,Nat.reduceSub,Int.reduceToNat, *]<;>with_reducible exact rfl)
    clear e1 e2 e3 hK;obtain⟨g,hlk,hall,hM⟩:=Zt.get hz;have hM1:acn 23 9 (.slice a1 n1 c1) vs (.slice a2 n2 c2) p q w:=hM;have hX:=hlk (.tmp 52);rw[show look s.tm (.tmp 52)=s.tm 52 from rfl,h52]at hX;have hv:=kK hX;rw[hv];exact⟨_,_,rfl,hM1.rep,_,_,rfl,hall (.tmp 54) _ h54,rfl⟩
   exact Zt.apR (ps:=[pQ p q x y z,pQ p q x y z]) (u:=.bool true) rfl rfl ⟨_,Try.func10,rfl,rfl⟩ rfl (by decide) xQ (@rz p q x y z hs hqs) hz (Jm:=fun i=>i<w.heap.size) (fun i hi=>hi) (by simp only[List.map_toArray,List.map_cons,List.map_nil];exact hA) (fun a' w' hz'=>hK _ _ a' w' hz' ⟨rfl,rfl⟩)
  rintro v σ' ⟨rfl,rfl⟩ a w hz Kn Q' hK;refine Zt.aum (x:=.tmp 55) (b:=true) rfl rfl (by decide) ?_ hz (fun a' w' hz'=>hK _ _ a' w' hz' ?_)
  ·dsimp only[AS.put]
   (simp(disch:=(first|omega|(simp only[push_cast];first|done|omega))) only[push_cast,↓reduceIte,Nat.reduceEqDiff,Nat.reduceBEq,Nat.reduceAdd,Nat.reduceSub,Int.reduceToNat, *]<;>with_reducible exact rfl)
  dsimp only[AS.put,X.out];clear hz hK;refine HZ.eng mixed aA (by kernel_rfl) ?_;(try dsimp only);(refine wlk ?_;intros);(try dsimp only[X.out]);(try simp only[↓reduceIte]);refine HZ.seq (HZ.eng mixed aA (by kernel_rfl) ?_);(try dsimp only);(refine wlk ?_;intros);(try dsimp only[X.out]);(try simp only[↓reduceIte]);refine HZ.seq (HZ.each ?_);refine ZO.pre (imm:=⟨[],[],[]⟩) 2 aA (by kernel_rfl) (by simp only[List.take_succ_cons,List.take_zero]<;>exact rfl) (by simp only[List.drop_succ_cons,List.drop_zero]<;>exact rfl) (by simp only[List.map_cons,List.map_nil]<;>exact rfl) ?_;(try dsimp only);(refine wlk ?_;intros);(try dsimp only);refine ZO.xS rfl rfl ⟨_,Try.func11,rfl,rfl⟩ rfl (by rintro y ⟨⟩;decide) (fun v σ'=>v=.int .i64 (1+oN p+q.length)∧σ'=asL (.slice a1 n1 c1) vs (.slice a2 n2 c2)) (fun a w1 hst=>?_) (fun v σ' ⟨e1,e2⟩=>?_)
  ·have hst0:=hst
   obtain⟨g,hlk,hall,hM⟩:=hst0.get;have hM1:acn 23 9 (.slice a1 n1 c1) vs (.slice a2 n2 c2) p q w1:=hM;have hX:=hlk (.tmp 57);have hY:=hlk (.tmp 58);rw[show look _ (.tmp 57)=bkQ (.slice a1 n1 c1) (.slice a2 n2 c2) x y z from by(simp(disch:=(first|omega|(simp only[push_cast];first|done|omega))) only[push_cast,↓reduceIte,Nat.reduceEqDiff,Nat.reduceBEq,Nat.reduceAdd,Nat.reduceSub,Int.reduceToNat, *]<;>with_reducible exact rfl)]at hX;rw[show look _ (.tmp 58)=.val (.int .i64 1)from by(simp(disch:=(first|omega|(simp only[push_cast];first|done|omega))) only[push_cast,↓reduceIte,Nat.reduceEqDiff,Nat.reduceBEq,Nat.reduceAdd,Nat.reduceSub,Int.reduceToNat, *]<;>with_reducible exact rfl)]at hY;have hv:=kK hX;simp only[Rep]at hY;obtain⟨⟨io,w0,g2,hr,hC⟩,_⟩:=hst;have hT1:jc w1 fun i=>o7 (.slice a1 n1 c1) vs i∨(Value.slice a2 n2 c2).ownBlock=some i:=(hr.tab.keep hr.fr fun t ht=>(hr.tab.apart t ht)).io fun t ht q=>(hC.tk t ht).2 q;refine(oI (x:=x) (y:=y) (z:=z) (k0:=1) hM1 hlt hb.1 hqs (by decide) (by decide) hT1 ?_).mono ?_
   ·simp only[List.map_toArray,List.map_cons,List.map_nil]
    rw[hv,hY]
   rintro e w' ⟨rfl,hf⟩;exact⟨_,_,rfl,⟨rfl,rfl⟩,hf,fun i hi e=>e,fun i e=>e,fun i e=>Nat.lt_of_lt_of_le (hM1.lt e) hf.size,trivial⟩
  subst e1 e2;dsimp only[AS.put];refine ZO.pre (imm:=⟨[],[],[]⟩) 1 aA (by kernel_rfl) (by simp only[List.take_succ_cons,List.take_zero]<;>exact rfl) (by simp only[List.drop_succ_cons,List.drop_zero]<;>exact rfl) (by simp only[List.map_cons,List.map_nil]<;>exact rfl) ?_;(try dsimp only);(refine wlk ?_;intros);(try dsimp only);refine ZO.nil ?_;(try dsimp only);have ap7:=pI.1 A 1 (by omega) (by omega) (by omega);have ap7b:=aa0.1 C (1+A.length) (by omega) (by omega) (by omega);have ap8:=aar (k:=1) (n:=A.length) (by omega) (by omega) (by omega);have ap8b:=aaC (k:=1+A.length) (n:=C.length) (by omega) (by omega) (by omega);have hml:=dV 1 A.length;have hml2:=gQ (1+A.length) C.length;refine HZ.seq (HZ.eng mixed aA (by kernel_rfl) ?_);(try dsimp only);(refine wlk ?_;intros);(try dsimp only[X.out]);(try simp only[↓reduceIte]);refine HZ.seq (HZ.eng mixed aA (by kernel_rfl) ?_);(try dsimp only);(refine wlk ?_;intros);(try dsimp only[X.out]);(try simp only[↓reduceIte]);refine HZ.seq (HZ.eng mixed aA (by kernel_rfl) ?_);(try dsimp only);(refine wlk ?_;intros);(try dsimp only[X.out]);(try simp only[↓reduceIte]);refine HZ.seq (HZ.eng mixed aA (by kernel_rfl) ?_);(try dsimp only);(refine wlk ?_;intros);(try dsimp only[X.out]);(try simp only[↓reduceIte]);refine HZ.seq (HZ.eng mixed aA (by kernel_rfl) ?_);(try dsimp only);(refine wlk ?_;intros);(try dsimp only[X.out]);(try simp only[↓reduceIte]);refine HZ.seq (HZ.eng mixed aA (by kernel_rfl) ?_);(try dsimp only);(refine wlk ?_;intros);(try dsimp only[X.out]);(try simp only[↓reduceIte]);refine HZ.seq (HZ.eng mixed aA (by kernel_rfl) ?_);(try dsimp only);(refine wlk ?_;intros);(try dsimp only[X.out]);(try simp only[↓reduceIte]);refine HZ.seq (HZ.eng mixed aA (by kernel_rfl) ?_);(try dsimp only);(refine wlk ?_;intros);(try dsimp only[X.out]);(try simp only[↓reduceIte]);refine HZ.seq (HZ.eng mixed aA (by kernel_rfl) ?_);(try dsimp only);(refine wlk ?_;intros);(try dsimp only[X.out]);(try simp only[↓reduceIte]);refine HZ.seq (HZ.eng mixed aA (by kernel_rfl) ?_);(try dsimp only);(refine wlk ?_;intros);(try dsimp only[X.out]);(try simp only[↓reduceIte]);refine HZ.seq (HZ.each ?_);refine ZO.pre (imm:=⟨[],[],[]⟩) 2 aA (by kernel_rfl) (by simp only[List.take_succ_cons,List.take_zero]<;>exact rfl) (by simp only[List.drop_succ_cons,List.drop_zero]<;>exact rfl) (by simp only[List.map_cons,List.map_nil]<;>exact rfl) ?_;(try dsimp only);(refine wlk ?_;intros);(try dsimp only);refine ZO.aje (Ψ:=ΨBl) (ps:=[pQ p q x y z]) (r:=.tup [.row 0 1 0 A.length,.row 1 1 0 C.length,bv b]) (r':=.tup [.row 4 1 0 A.length,.row 5 1 0 C.length,bv b]) (cs':=[(9,1,A.map fun s=> .val (.string s)),(3,1,C.map fun n=> .val (.int .i64 n))]) (cs2:=[(9,1,A.map fun s=> .val (.string s)),(3,1,C.map fun n=> .val (.int .i64 n))]) rfl rfl ⟨_,Try.func7,rfl,rfl⟩ rfl (by rintro y ⟨⟩;decide) qK hΨ.out rfl (by rw[mapM_cons',gU,Option.bind_some,mapM_cons',gU,Option.bind_some,mapM_nil'];rfl) (fun a w1 hst=>?_) ?_
  ·obtain⟨g,hlk,hall,hM⟩:=hst.get
   refine⟨fun i=>i<w1.heap.size,fun i hi=>hi,?_⟩;simp only[List.map_toArray,List.map_cons,List.map_nil];exact⟨_,_,rfl,hall (.tmp 100) (pQ p q x y z) (by(simp(disch:=(first|omega|(simp only[push_cast];first|done|omega))) only[push_cast,↓reduceIte,Nat.reduceEqDiff,Nat.reduceBEq,Nat.reduceAdd,Nat.reduceSub,Int.reduceToNat, *]<;>with_reducible exact rfl)),rfl⟩
  (try dsimp only[AS.put]);rw[yX];refine ZO.pre (imm:=⟨[],[],[]⟩) 7 aA (by kernel_rfl) (by simp only[List.take_succ_cons,List.take_zero]<;>exact rfl) (by simp only[List.drop_succ_cons,List.drop_zero]<;>exact rfl) (by simp only[List.map_cons,List.map_nil]<;>exact rfl) ?_;(try dsimp only);(refine wlk ?_;intros);(try dsimp only);refine ZO.nil ?_;(try dsimp only);refine HZ.seq (HZ.eng mixed aA (by kernel_rfl) ?_);(try dsimp only);(refine wlk ?_;intros);(try dsimp only[X.out]);(try simp only[↓reduceIte]);refine HZ.seq (HZ.eng mixed aA (by kernel_rfl) ?_);(try dsimp only);(refine wlk ?_;intros);(try dsimp only[X.out]);(try simp only[↓reduceIte]);refine HZ.seq (HZ.eng mixed aA (by kernel_rfl) ?_);(try dsimp only);(refine wlk ?_;intros);(try dsimp only[X.out]);(try simp only[↓reduceIte]);refine HZ.seq (HZ.eng mixed aA (by kernel_rfl) ?_);(try dsimp only);(refine wlk ?_;intros);(try dsimp only[X.out]);(try simp only[↓reduceIte]);refine HZ.seq (HZ.eng mixed aA (by kernel_rfl) ?_);(try dsimp only);(refine wlk ?_;intros);(try dsimp only[X.out]);(try simp only[↓reduceIte]);refine HZ.seq (HZ.eng mixed aA (by kernel_rfl) ?_);(try dsimp only);(refine wlk ?_;intros);(try dsimp only[X.out]);(try simp only[↓reduceIte]);refine HZ.seq (HZ.eng mixed aA (by kernel_rfl) ?_);(try dsimp only);(refine wlk ?_;intros);(try dsimp only[X.out]);(try simp only[↓reduceIte]);refine HZ.eng mixed aA (by kernel_rfl) ?_;(try dsimp only);(refine wlk ?_;intros);(try dsimp only[X.out]);(try simp only[↓reduceIte]);refine⟨by simp,⟨_,fun g w v h=>h,by(simp(disch:=(first|omega|(simp only[push_cast];first|done|omega))) only[push_cast,↓reduceIte,Nat.reduceEqDiff,Nat.reduceBEq,Nat.reduceAdd,Nat.reduceSub,Int.reduceToNat, *]<;>with_reducible exact rfl)⟩,fun i hi=>hbo i hi⟩
section
open Go.ChangeShapes Go.WideShapes Go.ChangeAt Go.RowKit
open Go.ChangeMaps (open_string shut_string)
theorem own:ownKnob Try.prog.godebug=none:=by kernel_rfl
theorem laidOut:laidOutB Try.prog=true:=by kernel_rfl
theorem agV {x:Int} (h:(Lit.int .i64 x).wf=true):-9223372036854775808≤x∧x≤9223372036854775807:=by simpa [Lit.wf,IntKind.min,IntKind.max,IntKind.signed,IntKind.bits]using h
theorem addr_add (b off i:Nat):(⟨b,off,none⟩:Addr).add i=⟨b,off+i,none⟩:=by unfold Addr.add;by_cases h:i=0<;>simp[h]
theorem alV {w:World} {a:Addr} {v:Value} (h:w.cell? a=some v):a.block<w.heap.size:=by
 unfold World.cell? at h;by_cases hb:a.block<w.heap.size
 ·exact hb
 ·rw[Array.getElem?_eq_none (by omega)]at h
  cases a.spot<;>simp at h
abbrev gW (W:World):Gh:=jF fun b=>b<W.heap.size
section
variable {H:Type} {enc:TypeId×Value→H} {P:Program} {W:World} {base:Nat} {α β γ δ ε:Type}
def OpC (enc:TypeId×Value→H) (P:Program) (W:World) (base:Nat) (t:TypeId) (A:Dec α) (ok:α→Prop):Prop:=
 ∀fuel cs x,DataW.trod enc P W base (fun _=>true) true fuel t cs=some x→∃a v,ok a∧Rep (gW W) W (A.e a) v∧v.cells.toList=cs∧v.cells.all (·.oneCell')=true
theorem opI {t:TypeId} (ht:P.underlying t=some (.int .i64)):OpC enc P W base t dI okI:=fun fuel cs x h=>by obtain⟨n,rfl,_,hw⟩:=DataW.trod_int ht h;exact⟨n,.int .i64 n,agV hw,rfl,rfl,by simp[Value.cells,Value.oneCell']⟩
theorem opS {t:TypeId} (ht:P.underlying t=some .string):OpC enc P W base t dS okS:=fun fuel cs x h=>by obtain⟨s,rfl,_,hs⟩:=DataW.trod_string ht h;exact⟨s,.string s,hs,rfl,rfl,by simp[Value.cells,Value.oneCell']⟩
theorem akq {n:Nat} {p:Nat→α→Prop} (h:∀i,i<n→∃x,p i x):∃l:List α,l.length=n∧∀i a,l[i]?=some a→p i a:=by
 induction n with
 |zero=>exact⟨[],rfl,fun i a h=>by simp at h⟩
 |succ n ih=>
  obtain⟨l,hl,hp⟩:=ih fun i hi=>h i (by omega);obtain⟨x,hx⟩:=h n (by omega);refine⟨l++[x],by simp[hl],fun i a hi=>?_⟩;rw[List.getElem?_append]at hi;split at hi
  ·exact hp i a hi
  ·rename_i hlt
   have:i-l.length=0:=by
    by_cases h0:i-l.length=0
    ·exact h0
    ·rw[List.getElem?_eq_none (by simp;omega)]at hi
     cases hi
   rw[this]at hi;simp at hi;subst hi;have:i=n:=by omega
   subst this;exact hx
theorem opL {t e:TypeId} {A:Dec α} {ok:α→Prop} (sz:Nat) (ht:P.underlying t=some (.slice e)) (hs:P.cellsOf e=sz) (h0:0<sz) (hA:OpC enc P W base e A ok):OpC enc P W base t (dL sz A) (okL ok):=fun fuel cs x h=>by
 rcases Go.Deep.open_slice ht h with⟨rfl,_⟩|⟨x,len,cap,m,n,D,Pl,rfl,hb,hl,hm,hmm,_,hx⟩
 ·exact⟨[],.slice none 0 0,⟨by simp,by simp⟩,⟨none,0,rfl,by simp,by simp,.inl rfl⟩,rfl,by simp[Value.cells,Value.oneCell']⟩
 have hm2:m=cap:=by simpa using hmm
 have hcap:cap≤9223372036854775807:=hm;obtain⟨l,hlen,hp⟩:=akq (n:=len) (p:=fun i a=>ok a∧∃v,Rep (gW W) W (A.e a) v∧v.cells.size=sz∧v.cells.all (·.oneCell')=true∧∀j,j<sz→W.cell? ((x.add (i*sz)).add j)=v.cells[j]?) (fun i hi=>by
  obtain⟨cs',h1,h2⟩:=hx i (by omega);obtain⟨a,v,h3,h4,h5,h6⟩:=hA _ _ _ h2;obtain⟨_,h7,h8⟩:=World.cells?_some h1;rw[hs]at h7 h8;refine⟨a,h3,v,h4,?_,h6,fun j hj=>?_⟩
  ·rw[←h7,←h5];simp
  ·rw[h8 j hj,←h5];simp)
 refine⟨l,.slice (some x) len cap,⟨by omega,fun a ha=>?_⟩,?_,rfl,by simp[Value.cells,Value.oneCell']⟩
 ·obtain⟨i,hi,rfl⟩:=List.getElem_of_mem ha
  exact(hp i _ (by simp[hi])).1
 ·refine⟨some x,cap,by simp[hlen],by simp[hlen];omega,hcap,?_⟩
  by_cases hn:l=[]
  ·exact .inl (by simp[hn])
  right;have hl0:0<l.length:=List.length_pos_iff.2 hn;obtain⟨_,v,h4,h5,h6,h7⟩:=hp 0 l[0] (by simp[hl0]);have h8:=h7 0 h0;have h9:v.cells[0]?=some v.cells[0]:=by simp
  rw[h9]at h8;have hspot:=World.cell?_spot h8;have hlt:=alV h8;obtain⟨b,off,spot⟩:=x;simp only[Nat.zero_mul,Addr.add,if_true]at hspot hlt;subst hspot;refine⟨b,off,rfl,⟨rfl,hlt⟩,bn.of fun i p hi=>?_⟩;rw[List.getElem?_map,Option.map_eq_some_iff]at hi;obtain⟨a,ha,rfl⟩:=hi;obtain⟨_,v,h4,h5,h6,h7⟩:=hp i a ha;refine⟨v,h4,⟨h6,fun j hj=>?_⟩,h5⟩;have:=h7 j (by omega)
  rwa[addr_add,addr_add]at this
theorem opF {t:TypeId} {A:Dec α} {ok:α→Prop} {n:Nat} {cs:List Value} {y:DataW H×List MemPlace} (hA:OpC enc P W base t A ok) (h1:∀a,kJ (A.e a)=true)
 (h:DataW.trod enc P W base (fun _=>true) true n t cs=some y):∃a v,ok a∧Rep (gW W) W (A.e a) v∧v.oneCell'=true∧cs=[v]:=by
 obtain⟨a,v,h3,h4,h5,h6⟩:=hA _ _ _ h;have:=uy h4 (h1 a);exact⟨a,v,h3,h4,this,by rw[←h5,nE this]⟩
theorem auE {t:TypeId} {f0 f1 f2 f3 f4:Field} {A:Dec α} {B:Dec β} {C:Dec γ} {D:Dec δ} {E:Dec ε} {ok0:α→Prop} {ok1:β→Prop} {ok2:γ→Prop} {ok3:δ→Prop} {ok4:ε→Prop} (hs:P.underlying t=some (.struct #[f0,f1,f2,f3,f4])) (hone:Go.Deep.oneCellFields P #[f0,f1,f2,f3,f4]=true) (hC:P.cellsOf t=5)
 (h0:OpC enc P W base f0.type A ok0) (o0:∀a,kJ (A.e a)=true) (h1:OpC enc P W base f1.type B ok1) (o1:∀a,kJ (B.e a)=true) (h2:OpC enc P W base f2.type C ok2) (o2:∀a,kJ (C.e a)=true) (h3:OpC enc P W base f3.type D ok3) (o3:∀a,kJ (D.e a)=true) (h4:OpC enc P W base f4.type E ok4) (o4:∀a,kJ (E.e a)=true):
 OpC enc P W base t (dA5 A B C D E) (fun p=>ok0 p.1∧ok1 p.2.1∧ok2 p.2.2.1∧ok3 p.2.2.2.1∧ok4 p.2.2.2.2):=fun fuel cs x h=>by
 obtain⟨xs,n,_,_,hl,hlen,hf⟩:=DataW.trod_struct hs h;rw[hC]at hl
 match cs,hl with
 |[c0,c1,c2,c3,c4],_=>
  obtain⟨y0,hy0⟩:∃y,xs[0]?=some y:=⟨_,List.getElem?_eq_getElem (by rw[hlen];show 0<5;omega)⟩;obtain⟨q0,k0⟩:=Go.Deep.hone_of hone 0 f0 rfl;have t0:=hf 0 f0 rfl;rw[q0,k0,hy0]at t0;obtain⟨a0,v0,e0,r0,u0,z0⟩:=opF h0 o0 t0;have z0':c0=v0:=by simpa using z0
  subst z0';obtain⟨y1,hy1⟩:∃y,xs[1]?=some y:=⟨_,List.getElem?_eq_getElem (by rw[hlen];show 1<5;omega)⟩;obtain⟨q1,k1⟩:=Go.Deep.hone_of hone 1 f1 rfl;have t1:=hf 1 f1 rfl;rw[q1,k1,hy1]at t1;obtain⟨a1,v1,e1,r1,u1,z1⟩:=opF h1 o1 t1;have z1':c1=v1:=by simpa using z1
  subst z1';obtain⟨y2,hy2⟩:∃y,xs[2]?=some y:=⟨_,List.getElem?_eq_getElem (by rw[hlen];show 2<5;omega)⟩;obtain⟨q2,k2⟩:=Go.Deep.hone_of hone 2 f2 rfl;have t2:=hf 2 f2 rfl;rw[q2,k2,hy2]at t2;obtain⟨a2,v2,e2,r2,u2,z2⟩:=opF h2 o2 t2;have z2':c2=v2:=by simpa using z2
  subst z2';obtain⟨y3,hy3⟩:∃y,xs[3]?=some y:=⟨_,List.getElem?_eq_getElem (by rw[hlen];show 3<5;omega)⟩;obtain⟨q3,k3⟩:=Go.Deep.hone_of hone 3 f3 rfl;have t3:=hf 3 f3 rfl;rw[q3,k3,hy3]at t3;obtain⟨a3,v3,e3,r3,u3,z3⟩:=opF h3 o3 t3;have z3':c3=v3:=by simpa using z3
  subst z3';obtain⟨y4,hy4⟩:∃y,xs[4]?=some y:=⟨_,List.getElem?_eq_getElem (by rw[hlen];show 4<5;omega)⟩;obtain⟨q4,k4⟩:=Go.Deep.hone_of hone 4 f4 rfl;have t4:=hf 4 f4 rfl;rw[q4,k4,hy4]at t4;obtain⟨a4,v4,e4,r4,u4,z4⟩:=opF h4 o4 t4;have z4':c4=v4:=by simpa using z4
  subst z4';exact⟨(a0,a1,a2,a3,a4),.agg #[c0,c1,c2,c3,c4],⟨e0,e1,e2,e3,e4⟩,⟨_,rfl,⟨c0,[c1,c2,c3,c4],rfl,r0,⟨c1,[c2,c3,c4],rfl,r1,⟨c2,[c3,c4],rfl,r2,⟨c3,[c4],rfl,r3,⟨c4,[],rfl,r4,rfl⟩⟩⟩⟩⟩⟩,rfl,by simp[Value.cells,u0,u1,u2,u3,u4]⟩
theorem opT {t:TypeId} {A:Dec α} {ok:α→Prop} {cs:Array Value} {d:DataW H} {p:List MemPlace} (hA:OpC enc P W base t A ok) (h1:∀a,∃ps,A.e a=.agg ps)
 (h:DataW.Trod enc P W base (fun _=>true) true t (.agg cs) d p):∃a,ok a∧Rep (gW W) W (A.e a) (.agg cs):=by
 obtain⟨fuel,hf⟩:=h;obtain⟨a,u,h3,h4,h5,h6⟩:=hA _ _ _ hf;obtain⟨ps,hps⟩:=h1 a;have h7:=h4;rw[hps]at h7;obtain⟨us,rfl,_⟩:=h7;have:us=cs:=by have h5':us.toList=cs.toList:=h5;cases us;cases cs;simp_all
 subst this;exact⟨a,h3,h4⟩
theorem amJ {f:Nat} {φ:Fun} {ps:List PV} {args:Array Value} (h:Sound P f φ) (hT:jc W fun _=>False) (ha:φ ps=some (bv true)) (hr:bF (gW W) W ps args.toList):
 Calls P f args W fun e w'=>e=.returned (.bool true)∧Below W.heap.size W w':=by
 refine(h W (fun b=>b<W.heap.size) ps args _ ha (fun b hb=>hb) hT hr).mono ?_;rintro e w' ⟨v,rfl,hb,hv⟩;have:=hv {I:=fun _ _=>True,β:=fun _=>0,κ:=fun _=>0,nx:=0} fun b _ _=>trivial;have hv2:v=.bool true:=this;subst hv2;exact⟨rfl,hb⟩
end
end
end
end Go.Proofs.Ytmmafcjjlbgnkaa
