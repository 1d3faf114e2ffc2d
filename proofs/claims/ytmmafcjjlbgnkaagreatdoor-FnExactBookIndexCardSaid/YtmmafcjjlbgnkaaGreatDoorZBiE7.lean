/- What the proof rests on, part 7: contracts of functions. No condition beyond what each states. -/
import Derived.Test.YtmmafcjjlbgnkaaGreatDoorZBiE6
namespace Go.Proofs.YtmmafcjjlbgnkaaGreatDoor
open Go.RowKit
open Nat renaming reduceEqDiff→Rq,reduceBEq→Rb,reduceAdd→Ra,reduceSub→Rs
open Int renaming reduceToNat→Rt
set_option linter.all false
set_option maxHeartbeats 32000000
noncomputable section
abbrev yU:=List PV→Option (PV×List aS)
def fQ (P:Program) (f:Nat) (Ψ:yU):Prop:=eT P f fun ps cs=>if cs=[]then Ψ ps else none
def jW (nm:Nat→Nat):Nat→PV→Option PV
 |0,_=>none
 |n+1,p=>match p with
  | .val v=>some (.val v)
  | .dead=>some .dead
  | .lst k sz es=>if k=false∧es≠[]then none else(es.mapM (jW nm n)).map (.lst k sz)
  | .ptr k e o=>if k=false then none else(jW nm n e).map (.ptr k · o)
  | .own o sz i f=>some (.own (nm o) sz i f)
  | .row o sz i m=>some (.row (nm o) sz i m)
  | .agg cs=>(cs.mapM (jW nm n)).map .agg
  | .tup cs=>(cs.mapM (jW nm n)).map .tup
theorem Rep.jW {nm:Nat→Nat} {g g':Gh} {w:World} (hI:∀b,g.I true b→g'.I true b) (ho:∀o,g.D o→g'.β (nm o)=g.β o∧g'.κ (nm o)=g.κ o∧g'.D (nm o)):
 ∀(f:Nat) (p q:PV) (v:Value),Rep g w p v→Proofs.YtmmafcjjlbgnkaaGreatDoor.jW nm f p=some q→Rep g' w q v
 |0,p,q,v,h,hr=>by simp[Proofs.YtmmafcjjlbgnkaaGreatDoor.jW]at hr
 |f+1,p,q,v,h,hr=>by
  cases p with
  |val u=>simp only[Proofs.YtmmafcjjlbgnkaaGreatDoor.jW,Option.some.injEq]at hr;subst hr;simpa [Rep]using h
  |dead=>simp only[Proofs.YtmmafcjjlbgnkaaGreatDoor.jW,Option.some.injEq]at hr;subst hr;simp[Rep]
  |lst k sz es=>
   simp only[Proofs.YtmmafcjjlbgnkaaGreatDoor.jW]at hr;split at hr
   ·cases hr
   ·rename_i hk
    simp only[Option.map_eq_some_iff]at hr;obtain⟨es',h1,rfl⟩:=hr;have hl:=(bg h1).1;simp only[Rep]at h⊢;obtain⟨a,cap,rfl,h2,h3,h4⟩:=h;refine⟨a,cap,by rw[hl],by omega,h3,?_⟩;rcases h4 with rfl|⟨b,off,rfl,h5,h6⟩
    ·left;exact List.eq_nil_of_length_eq_zero (by simpa using hl)
    ·by_cases hnil:es=[]
     ·left;subst hnil;exact List.eq_nil_of_length_eq_zero (by simpa using hl)
     ·right
      cases k with
      |false=>simp[hnil]at hk
      |true=>exact⟨b,off,rfl,hI _ h5,bB.conv (g:=g) (g':=g') (Rep.jW hI ho f) h6 h1⟩
  |ptr k e o=>
   simp only[Proofs.YtmmafcjjlbgnkaaGreatDoor.jW]at hr;split at hr
   ·cases hr
   ·rename_i hk
    simp only[Option.map_eq_some_iff]at hr;obtain⟨e',h1,rfl⟩:=hr;simp only[Rep]at h⊢;obtain⟨b,off,rfl,h2,u,h3,h4⟩:=h;cases k with
    |false=>simp at hk
    |true=>exact⟨b,off,rfl,hI _ h2,u,Rep.jW hI ho f e e' u h3 h1,h4⟩
  |own o sz i f'=>simp only[Proofs.YtmmafcjjlbgnkaaGreatDoor.jW,Option.some.injEq]at hr;subst hr;simp only[Rep]at h⊢;obtain⟨e1,_,e3⟩:=ho o h.2;exact⟨by rw[e1];exact h.1,e3⟩
  |row o sz i m=>simp only[Proofs.YtmmafcjjlbgnkaaGreatDoor.jW,Option.some.injEq]at hr;subst hr;simp only[Rep]at h⊢;obtain⟨c,h1,h2,h3,h4,h5⟩:=h;obtain⟨e1,e2,e3⟩:=ho o h5;exact⟨c,by rw[e1];exact h1,h2,h3,by rw[e2];exact h4,e3⟩
  |agg cs=>simp only[Proofs.YtmmafcjjlbgnkaaGreatDoor.jW,Option.map_eq_some_iff]at hr;obtain⟨cs',h1,rfl⟩:=hr;simp only[Rep]at h⊢;obtain⟨vs,rfl,h2⟩:=h;exact⟨vs,rfl,bL.conv (g:=g) (g':=g') (Rep.jW hI ho f) h2 h1⟩
  |tup cs=>simp only[Proofs.YtmmafcjjlbgnkaaGreatDoor.jW,Option.map_eq_some_iff]at hr;obtain⟨cs',h1,rfl⟩:=hr;simp only[Rep]at h⊢;obtain⟨vs,rfl,h2⟩:=h;exact⟨vs,rfl,bL.conv (g:=g) (g':=g') (Rep.jW hI ho f) h2 h1⟩
def ng (nm:Nat→Nat) (f:Nat) (c:aS):Option aS:=(c.2.2.mapM (jW nm f)).map fun es=>(c.1,c.2.1,es)
def qQ (Ψ:yU):jh:=fun ps cs=>(ps.mapM (reify false 0 (fun o=>cs[o]?) fuel)).bind fun qs=>(Ψ qs).bind fun rc=>(jW (cs.length+ ·) fuel rc.1).bind fun r=>(rc.2.mapM (ng (cs.length+ ·) fuel)).map fun cs'=>(r,cs++cs')
theorem fQ.lift {P:Program} {f:Nat} {Ψ:yU} (h:fQ P f Ψ):eT P f (qQ Ψ):=by
 intro w J β κ ps cs args r cs2 hr hJ hO hT hargs;unfold qQ at hr;simp only[Option.bind_eq_some_iff,Option.map_eq_some_iff]at hr;obtain⟨qs,h1,⟨r0,cs0⟩,h2,r1,h3,cs1,h4,h5⟩:=hr;simp only[Prod.mk.injEq]at h5;obtain⟨rfl,rfl⟩:=h5;dsimp only at h3 h4
 let n:=cs.length
 let J':Bool→Nat→Prop:=fun k b=>k=false∧((∃k',J k' b)∨∃o,o<n∧b=β o)
 have hJ':∀k b,J' k b→b<w.heap.size:=fun k b hb=>by
  rcases hb.2 with⟨k',hk⟩|⟨o,ho,rfl⟩
  ·exact hJ k' b hk
  ·exact(hO.lt o ho).1
 have hargs':bL (dH J' (fun _=>0) (fun _=>0) 0) w qs args.toList:=by
  refine bL.conv (g:=dH J β κ n) (g':=dH J' (fun _=>0) (fun _=>0) 0) (Rep.seen (fr:=false) (n:=0) (s:=yL ps cs) (g:=dH J β κ n) (g':=dH J' (fun _=>0) (fun _=>0) 0) (fun o c ho=>hO.at_ o c ho) ⟨fun _=>⟨fun k b hb=>⟨rfl,.inl ⟨k,hb⟩⟩,fun o ho=>?_⟩,fun e=>by cases e⟩ fuel) hargs h1
  obtain⟨c,hc⟩:=Option.isSome_iff_exists.1 ho;exact⟨rfl,.inr ⟨o,(List.getElem?_eq_some_iff.1 hc).1,rfl⟩⟩
 have hO':uG J' w (fun _=>0) (fun _=>0) []:=⟨fun o ho=>by simp at ho,fun o o' ho=>by simp at ho,fun o c ho=>by simp at ho⟩;refine(h w J' (fun _=>0) (fun _=>0) qs [] args r0 cs0 (by simpa using h2) hJ' hO' (hT.io fun t _ ⟨o,ho,_⟩=>by simp at ho) hargs').mono ?_;rintro e w' ⟨v,β',κ',M,rfl,hfr,_,_,hnew,hM,hO2,hrep⟩;have hfr':∀b,b<w.heap.size→w'.heap[b]?=w.heap[b]?:=fun b hb=>hfr.block b hb (fun⟨o,ho,_⟩=>by simp at ho);have hl1:=(bg h4).1
 let β2:Nat→Nat:=fun o=>if o<n then β o else β' (o-n)
 let κ2:Nat→Nat:=fun o=>if o<n then κ o else κ' (o-n)
 have hTI:∀b,(dH (addN J' M) β' κ' cs0.length).I true b→(dH (addN J M) β2 κ2 (cs++cs1).length).I true b:=fun b hb=>by
  rcases hb with⟨h6,_⟩|⟨_,h6⟩
  ·cases h6
  ·exact .inr ⟨rfl,h6⟩
 have hTo:∀o,(dH (addN J' M) β' κ' cs0.length).D o→(dH (addN J M) β2 κ2 (cs++cs1).length).β (n+o)=(dH (addN J' M) β' κ' cs0.length).β o∧(dH (addN J M) β2 κ2 (cs++cs1).length).κ (n+o)=(dH (addN J' M) β' κ' cs0.length).κ o∧(dH (addN J M) β2 κ2 (cs++cs1).length).D (n+o):=fun o ho=>by
  have h6:o<cs0.length:=ho.1;refine⟨?_,?_,⟨?_,fun q=>q⟩⟩
  ·simp only[dH,β2];rw[if_neg (by omega)];congr 1;omega
  ·simp only[dH,κ2];rw[if_neg (by omega)];congr 1;omega
  ·simp only[dH,List.length_append];omega
 have hblk:∀i,i<cs0.length→w.heap.size≤β' i∧β' i<w'.heap.size∧∀k,¬addN J' M k (β' i):=fun i hi=>⟨hnew i (Nat.zero_le _) hi,(hO2.lt i hi).1,(hO2.lt i hi).2⟩;refine⟨v,β2,κ2,M,rfl,⟨hfr.os,hfr.tape,hfr.output,hfr.size,fun b hb _=>hfr' b hb⟩,by simp,fun o ho=>⟨by simp only[β2];rw[if_pos ho],by simp only[κ2];rw[if_pos ho]⟩,fun o h6 h7=>?_,hM,⟨fun o ho=>?_,fun o o' ho ho' he=>?_,fun o c hc=>?_⟩,Rep.jW (g:=dH (addN J' M) β' κ' cs0.length) hTI hTo fuel _ _ _ hrep h3⟩
 ·simp only[β2]
  rw[if_neg (by omega)];rw[List.length_append]at h7;exact(hblk (o-n) (by omega)).1
 ·rw[List.length_append]at ho
  simp only[β2];split
  ·rename_i hlt
   refine⟨Nat.lt_of_lt_of_le (hO.lt o hlt).1 hfr.size,fun k hb=>?_⟩;rcases hb with hb|⟨_,hb⟩
   ·exact(hO.lt o hlt).2 k hb
   ·have:=(hM _ hb).1
    have:=(hO.lt o hlt).1;omega
  ·rename_i hlt
   obtain⟨k1,k2,k3⟩:=hblk (o-n) (by omega);refine⟨k2,fun k hb=>?_⟩;rcases hb with hb|⟨hk,hb⟩
   ·have:=hJ k _ hb
    omega
   ·exact k3 true (.inr ⟨rfl,hb⟩)
 ·rw[List.length_append]at ho ho'
  simp only[β2]at he;split at he
  ·rename_i hlt
   split at he
   ·rename_i hlt'
    exact hO.inj o o' hlt hlt' he
   ·rename_i hlt'
    have:=(hblk (o'-n) (by omega)).1;have:=(hO.lt o hlt).1;omega
  ·rename_i hlt
   split at he
   ·rename_i hlt'
    have:=(hblk (o-n) (by omega)).1;have:=(hO.lt o' hlt').1;omega
   ·rename_i hlt'
    have:=hO2.inj (o-n) (o'-n) (by omega) (by omega) he;omega
 ·by_cases hlt:o<n
  ·have hc0:cs[o]?=some c:=by rwa[List.getElem?_append_left hlt]at hc
   have h6:=hO.at_ o c hc0;refine h6.mono (g:=dH J β κ n) (g':=dH (addN J M) β2 κ2 (cs++cs1).length) ⟨fun k b hb=> .inl hb,fun o1 ho1=>⟨?_,fun q=>q⟩,fun o1 ho1=>?_,fun o1 ho1=>?_⟩ ⟨hlt,fun q=>q⟩ (fun k b hb=>hfr' b (hJ k b hb)) (hfr' _ (hO.lt o hlt).1)
   ·have h7:o1<n:=ho1.1
    simp only[dH,List.length_append];omega
   ·have h7:o1<n:=ho1.1
    simp only[dH,β2];rw[if_pos h7]
   ·have h7:o1<n:=ho1.1
    simp only[dH,κ2];rw[if_pos h7]
  ·have hc1:cs1[o-n]?=some c:=by rwa[List.getElem?_append_right (by omega)]at hc
   obtain⟨c0,hc0,hrc⟩:=mapM_at h4 hc1;obtain⟨⟨arr,m1,m2⟩,m3,m4⟩:=hO2.at_ (o-n) c0 hc0;unfold ng at hrc;rw[Option.map_eq_some_iff]at hrc;obtain⟨es,h6,rfl⟩:=hrc;have hl:=(bg h6).1;have e1:β2 o=β' (o-n):=by simp only[β2];rw[if_neg hlt]
   have e2:κ2 o=κ' (o-n):=by simp only[κ2];rw[if_neg hlt]
   refine⟨⟨arr,by simp only[dH,e1];exact m1,by simp only[dH,e2];exact m2⟩,by simp only[dH,e2,hl];exact m3,?_⟩;simp only[dH,e1];exact bB.conv (g:=dH (addN J' M) β' κ' cs0.length) (g':=dH (addN J M) β2 κ2 (cs++cs1).length) (Rep.jW (g:=dH (addN J' M) β' κ' cs0.length) hTI hTo fuel) m4 h6
def aeM (Ψ:yU):Fun:=fun ps=>(Ψ ps).bind fun rc=>reify true 0 (fun o=>rc.2[o]?) fuel rc.1
theorem fQ.pure {P:Program} {f:Nat} {Ψ:yU} (h:fQ P f Ψ):Sound P f (aeM Ψ):=by
 intro w J ps args r hr hJ hT hargs;unfold aeM at hr;simp only[Option.bind_eq_some_iff]at hr;obtain⟨⟨r0,cs0⟩,h2,h3⟩:=hr;dsimp only at h3
 let J':Bool→Nat→Prop:=fun k b=>k=false∧J b
 have hO':uG J' w (fun _=>0) (fun _=>0) []:=⟨fun o ho=>by simp at ho,fun o o' ho=>by simp at ho,fun o c ho=>by simp at ho⟩;refine(h w J' (fun _=>0) (fun _=>0) ps [] args r0 cs0 (by simpa using h2) (fun k b hb=>hJ b hb.2) hO' (hT.io fun t _ ⟨o,ho,_⟩=>by simp at ho) hargs).mono ?_;rintro e w' ⟨v,β',κ',M,rfl,hfr,_,_,hnew,hM,hO2,hrep⟩;refine⟨v,rfl,⟨hfr.os,hfr.tape,hfr.output,hfr.size,fun b hb=>hfr.block b hb (fun⟨o,ho,_⟩=>by simp at ho)⟩,fun g' hg=>?_⟩;refine Rep.seen (fr:=true) (n:=0) (s:=yL ps cs0) (g:=dH (addN J' M) β' κ' cs0.length) (g':=g') (fun o c ho=>hO2.at_ o c ho) ⟨fun e=>(by cases e),fun _=>⟨fun b hb=>?_,fun o ho _=>?_⟩⟩ fuel _ _ _ hrep h3
 ·rcases hb with⟨h6,_⟩|⟨_,h6⟩
  ·cases h6
  ·exact hg b (hM b h6).1 (hM b h6).2
 ·obtain⟨c,hc⟩:=Option.isSome_iff_exists.1 ho
  have hlt:=(List.getElem?_eq_some_iff.1 hc).1;exact hg _ (hnew o (Nat.zero_le _) hlt) (hO2.lt o hlt).1
section
variable {P:Program} {Γ:Ctx}
theorem qw (hm:P.follows .mixedOrders=true) {f:Nat} {fn:Func} {c:Code} {Ψ:yU} (hΓ:au P Γ) (hf:P.funcs[f]?=some fn) (hb:fn.body=some c) (N:Nat) (hN:fn.ntmps=N) (rs:List ResultVar) (hrs:fn.results.toList=rs) (hc:codeOk Γ true N c=true)
 (h:∀ps r cs',Ψ ps=some (r,cs')→ps.length≤N∧pq P Γ N c (kH P rs 0 r cs') (bX ps).tm lY 0):fQ P f Ψ:=by
 refine amE hm hΓ hf hb N hN rs hrs hc fun ps cs r cs' hr=>?_;split at hr
 ·rename_i hcs
  exact⟨hcs,h ps r cs' hr⟩
 ·cases hr
end
section
variable {α β γ δ ρ:Type} {A:Dec α} {B:Dec β} {C:Dec γ} {D:Dec δ} {ps:List PV} {r:ρ}
def G1 (A:Dec α) (F:α→Option ρ) (ps:List PV):Option ρ:=match ps with|[p]=>(A.d p).bind F|_=>none
def G2 (A:Dec α) (B:Dec β) (F:α→β→Option ρ) (ps:List PV):Option ρ:=match ps with|[p,q]=>(A.d p).bind fun a=>(B.d q).bind fun b=>F a b|_=>none
def G4 (A:Dec α) (B:Dec β) (C:Dec γ) (D:Dec δ) (F:α→β→γ→δ→Option ρ) (ps:List PV):Option ρ:=match ps with|[p,q,r,s]=>(A.d p).bind fun a=>(B.d q).bind fun b=>(C.d r).bind fun c=>(D.d s).bind fun d=>F a b c d|_=>none
theorem wh {F:α→Option ρ} (h:G1 A F ps=some r):∃a,ps=[A.e a]∧F a=some r:=by
 unfold G1 at h;split at h
 ·rw[Option.bind_eq_some_iff]at h
  obtain⟨a,h1,h2⟩:=h;exact⟨a,by rw[A.h _ _ h1],h2⟩
 ·cases h
theorem aef {F:α→β→γ→δ→Option ρ} (h:G4 A B C D F ps=some r):∃a b c d,ps=[A.e a,B.e b,C.e c,D.e d]∧F a b c d=some r:=by
 unfold G4 at h;split at h
 ·simp only[Option.bind_eq_some_iff]at h
  obtain⟨a,h1,b,h2,c,h3,d,h4,h5⟩:=h;exact⟨a,b,c,d,by rw[A.h _ _ h1,B.h _ _ h2,C.h _ _ h3,D.h _ _ h4],h5⟩
 ·cases h
theorem yX {F:α→Option ρ} (a:α):G1 A F [A.e a]=F a:=by simp[G1,A.h']
theorem awV {F:α→β→γ→δ→Option ρ} (a:α) (b:β) (c:γ) (d:δ):G4 A B C D F [A.e a,B.e b,C.e c,D.e d]=F a b c d:=by simp[G4,A.h',B.h',C.h',D.h']
end
def nC (T sz:Nat) (es:List PV):List aS:=match es with|[]=>[]|_::_=>[(T,sz,es)]
theorem zF {T sz:Nat}:nC T sz []=[]:=rfl
theorem ahi {T sz:Nat} {es:List PV} (h:0<es.length):nC T sz es=[(T,sz,es)]:=by
 cases es with
 |nil=>simp at h
 |cons e es=>rfl
section
variable {Ψ:yU} {α:Type} {g:α→Value} {l:List α} {T sz:Nat}
theorem vH {ps qs:List PV} {cs cs0 cs1:List aS} {r r1:PV} (h1:ps.mapM (reify false 0 (fun o=>cs[o]?) fuel)=some qs) (h2:Ψ qs=some (r,cs0)) (h3:jW (cs.length+ ·) fuel r=some r1) (h4:cs0.mapM (ng (cs.length+ ·) fuel)=some cs1):qQ Ψ ps cs=some (r1,cs++cs1):=by
 unfold qQ;rw[h1,Option.bind_some,h2,Option.bind_some];dsimp only
 rw[h3,Option.bind_some,h4];rfl
theorem qx {ps:List PV} {cs0:List aS} {r r1:PV} (h2:Ψ ps=some (r,cs0)) (h3:reify true 0 (fun o=>cs0[o]?) fuel r=some r1):aeM Ψ ps=some r1:=by unfold aeM;rw[h2,Option.bind_some,h3]
theorem acY {nm:Nat→Nat}:∀{f:Nat} {p:PV},fB f p=true→jW nm f p=some p
 |0,_,h=>by simp[fB]at h
 |f+1,p,h=>by
  cases p with
  |val v=>rfl
  |dead=>rfl
  |agg cs=>
   have h2:∀c∈cs,fB f c=true:=by simpa [fB]using h
   simp only[Proofs.YtmmafcjjlbgnkaaGreatDoor.jW];rw[dP fun c hc=>acY (h2 c hc)];rfl
  |_=>simp[fB]at h
theorem ajn {β:Type} {nm:Nat→Nat} {f:Nat} {g:β→PV} {l:List β} (h:∀x,fB 2 (g x)=true):(l.map g).mapM (jW nm (f+2))=some (l.map g):=
 dP fun e he=>by obtain⟨x,_,rfl⟩:=List.mem_map.1 he;exact acY (kT (by omega) (h x))
theorem lq {nm:Nat→Nat}:ng nm fuel (T,sz,l.map fun x=>PV.val (g x))=some (T,sz,l.map fun x=>PV.val (g x)):=by unfold ng;show((l.map fun x=>PV.val (g x)).mapM (jW nm (6+2))).map _=_;rw[ajn fun _=>rfl];rfl
theorem awo {ob:bG} {nx o T T2 sz sz2:Nat} {es es2:List PV} {r:PV}:ioR [o] ob nx (some (r,[(T,sz,es),(T2,sz2,es2)]))=(fq (uL [o] nx) fuel r).bind fun r'=>(es.mapM (fq (uL [o] nx) fuel)).bind fun es'=>(es2.mapM (fq (uL [o] nx) fuel)).map fun es2'=>(r',upd (upd ob o (some (T,sz,es'))) nx (some (T2,sz2,es2')),nx+1):=by
 unfold ioR;simp only[mapM_cons',mapM_nil',agq];cases fq (uL [o] nx) fuel r with
 |none=>rfl
 |some r'=>
  cases es.mapM (fq (uL [o] nx) fuel)with
  |none=>rfl
  |some es'=>
   cases es2.mapM (fq (uL [o] nx) fuel)with
   |none=>rfl
   |some es2'=>simp only[Option.map_some,Option.bind_some,List.length_cons,List.length_nil,Nat.zero_add,Ra,Rs,Option.some.injEq,Prod.mk.injEq,true_and,and_true];show kM ob [(p9 [o] nx 0,_),(p9 [o] nx 1,_)]=_;simp only[kM,p9,List.length_cons,List.length_nil,Nat.zero_add,Nat.lt_one_iff,if_true,Nat.one_ne_zero,if_false,Nat.sub_self,Nat.add_zero,List.getD_cons_zero]
end
theorem an2 {nm:Nat→Option Nat} {l:List PV}:l.mapM (fq nm fuel)=l.mapM (fq nm 8):=rfl
attribute[push_cast]
 awo an2
section
variable {P:Program} {Γ:Ctx}
theorem ala (hm:P.follows .mixedOrders=true) {f:Nat} {fn:Func} {c:Code} (hΓ:au P Γ) (hf:P.funcs[f]?=some fn) (hb:fn.body=some c) (N:Nat) (hN:fn.ntmps=N) (rs:List ResultVar) (hrs:fn.results.toList=rs) (hc:codeOk Γ true N c=true)
 (D:List PV→List aS→Prop) (R:List PV→List aS→PV→List aS→Prop) (hlen:∀ps cs,D ps cs→ps.length≤N)
 (h:∀ps cs,D ps cs→pq P Γ N c (fun x s'=>∃r cs',R ps cs r cs'∧kH P rs cs.length r cs' x s') (bX ps).tm (fun o=>cs[o]?) cs.length):∃Φ:jh,eT P f Φ∧∀ps cs,D ps cs→∃r cs',Φ ps cs=some (r,cs')∧R ps cs r cs':=by
 classical
 subst hN hrs
 let Z:List PV→List aS→PV×List aS→Prop:=fun ps cs r=>D ps cs∧R ps cs r.1 r.2∧∃x s',Ev P Γ fn.ntmps c (yL ps cs) x s'∧kH P fn.results.toList cs.length r.1 r.2 x s'
 let Φ:jh:=fun ps cs=>if h:∃r,Z ps cs r then some (Classical.choose h)else none
 have hΦ:∀ps cs r,Φ ps cs=some r→Z ps cs r:=fun ps cs r hr=>by
  simp only[Φ]at hr;split at hr
  ·rename_i hz
   cases hr;exact Classical.choose_spec hz
  ·cases hr
 refine⟨Φ,qO hΓ hf hb (fun ps cs r hr=>hlen ps cs (hΦ ps cs r hr).1) fun ps cs r cs' hr=>?_,fun ps cs hd=>?_⟩
 ·obtain⟨_,_,x,s',h1,h2,news,h3,h4,h5,h6⟩:=hΦ ps cs (r,cs') hr
  rw[Option.bind_eq_some_iff]at h5;obtain⟨qs,h8,h9⟩:=h5;refine⟨x,s',qs,List.range cs.length++news,h1,h2,h8,h9,by simp,fun o ho=>?_,?_,h6⟩
  ·rw[List.getElem?_append_left (by simpa using ho),List.getElem?_range ho]
  ·rw[List.nodup_append]
   exact⟨List.nodup_range,h4,fun a ha b hb e=>by have:=h3 b hb;have:=List.mem_range.1 ha;omega⟩
 ·obtain⟨x,s',h1,r,cs',h2,h3⟩:=adz (mixed:=true) (fun _=>hm) c _ _ hc (h ps cs hd)
  have hz:∃r,Z ps cs r:=⟨(r,cs'),hd,h2,x,s',h1,h3⟩;have he:Φ ps cs=some (Classical.choose hz):=by simp only[Φ];rw[dif_pos hz]
  exact⟨(Classical.choose hz).1,(Classical.choose hz).2,he,(hΦ ps cs _ he).2.1⟩
end
section
variable {P:Program} {tm:Nat→PV} {ob:bG} {nx:Nat} {rs:List ResultVar} {r:PV} {c':aS} {x:X} {R:PV→List aS→Prop}
theorem aDU (hx:x=.normal∨x=.ret) (h1:((fU P ⟨tm,ob,nx⟩ rs).bind fun qs=>dA [0] ob fuel (gM qs))=some r) (h2:oW [0] ob fuel 0=some c') (hR:R r [c']):∃r cs',R r cs'∧kH P rs 1 r cs' x ⟨tm,ob,nx⟩:=⟨r,[c'],hR,aCX hx h1 h2⟩
theorem aDI (hx:x=.normal∨x=.ret) (h1:((fU P ⟨tm,ob,nx⟩ rs).bind fun qs=>dA [] ob fuel (gM qs))=some r) (hR:R r []):∃r cs',R r cs'∧kH P rs 0 r cs' x ⟨tm,ob,nx⟩:=⟨r,[],hR,iF hx h1⟩
end
section
set_option linter.unusedVariables false
def inB (n a b:Int):Bool:=decide (a≤n)&&decide (n≤b)
theorem aD {n a b:Int}:inB n a b=true↔a≤n∧n≤b:=by simp[inB]
theorem ae8 {a w:World} {o:Obj} (h:Below a.heap.size a w):Below a.heap.size a (w.alloc o):=h.alloc h.size o
end
section
set_option linter.unusedVariables false
def xI (zs:List Int) (i:Nat):Bool:=inB (zs[i]?.getD 0) 1 999&&(i==0||decide (zs[i-1]?.getD 0<zs[i]?.getD 0))
def j4 (zs:List Int) (k:Nat):Bool:=(List.range k).all (xI zs)
def iA (zs:List Int):Bool:=j4 zs zs.length&&decide (zs.length≤30)
theorem uj (zs:List Int) (k:Nat):j4 zs (k+1)=(j4 zs k&&xI zs k):=by simp[j4,List.range_succ]
theorem adO {zs:List Int} {k n:Nat} (h:k<n) (hk:xI zs k=false):j4 zs n=false:=by simp only[j4,List.all_eq_false];exact⟨k,by simpa using h,by simp[hk]⟩
end
def GE:Ctx:={fn:=aT [],io:=aT []}
theorem bV:au Tryz.prog GE:=okΓ aj aj
def φIn:Fun:=F3 dI dI dI fun n a b=>some (bv (inB n a b))
theorem bI (n a b:Int):φIn [.val (.int .i64 n),.val (.int .i64 a),.val (.int .i64 b)]=some (.val (.bool (inB n a b))):=rfl
theorem fK:Sound Tryz.prog 34 φIn:=by
 refine ak mixed bV Tryz.func34 rfl 15 rfl [.tmp 6] rfl (by kernel_rfl) fun ps r hr=>?_;obtain⟨n,a,b,rfl,hr⟩:=ad5 hr;cases hr;refine⟨by simp,?_⟩;simp only[dIs,dUs,dSs,bP,bS,bQ,bT,aP,bR,aQ,aO,aR,aL];(refine wlkX6 ?_ ?_ ?_ ?_ ?_ ?_<;>intros<;>try with_reducible exact trivial);all_goals(refine fnG ?_;try with_reducible exact trivial)
 all_goals(first|(simp_all [inB];done)|(simp_all [inB];omega))
theorem sD:Sound Tryz.prog 64 φIn:=by
 refine ak mixed bV Tryz.func64 rfl 15 rfl [.tmp 6] rfl (by kernel_rfl) fun ps r hr=>?_;obtain⟨n,a,b,rfl,hr⟩:=ad5 hr;cases hr;refine⟨by simp,?_⟩;simp only[dIs,dUs,dSs,bP,bS,bQ,bT,aP,bR,aQ,aO,aR,aL];(refine wlkX6 ?_ ?_ ?_ ?_ ?_ ?_<;>intros<;>try with_reducible exact trivial);all_goals(refine fnG ?_;try with_reducible exact trivial)
 all_goals(first|(simp_all [inB];done)|(simp_all [inB];omega))
def bY (s:ByteArray):Bool:=(List.range s.size).all (fun k=>inB (at8 s k) 97 122)&&inB s.size 1 20
theorem aha {s:ByteArray} {k:Nat} (h:k<s.size) (hb:¬(97≤at8 s k∧at8 s k≤122)):bY s=false:=by
 unfold bY;have:(List.range s.size).all (fun k=>inB (at8 s k) 97 122)=false:=by rw[List.all_eq_false];exact⟨k,List.mem_range.2 h,by rw[aD];exact hb⟩
 rw[this];rfl
theorem yK {s:ByteArray} (h:∀j,j<s.size→97≤at8 s j∧at8 s j≤122):bY s=inB s.size 1 20:=by
 unfold bY;have:(List.range s.size).all (fun k=>inB (at8 s k) 97 122)=true:=by rw[List.all_eq_true];intro k hk;exact aD.2 (h k (List.mem_range.1 hk))
 rw[this];rfl
def fu:Fun:=F1 dS fun s=>if s.size≤1099511627776 then some (bv (bY s))else none
theorem fV {s:ByteArray} (h:s.size≤1099511627776):fu [.val (.string s)]=some (.val (.bool (bY s))):=
 (dY (A:=dS) s).trans (if_pos h)
def nk:Fun:=F1 dU fun n=>some (bv (inB n 97 122))
theorem sK (n:Int):nk [.val (.int .u8 n)]=some (.val (.bool (inB n 97 122))):=rfl
theorem tq:Sound Tryz.prog 111 nk:=by
 refine ak mixed bV Tryz.func111 rfl 9 rfl [.tmp 2] rfl (by kernel_rfl) fun ps r hr=>?_;obtain⟨n,rfl,hr⟩:=bC hr;cases hr;refine⟨by simp,?_⟩;simp only[dIs,dUs,dSs,bP,bS,bQ,bT,aP,bR,aQ,aO,aR,aL];(refine wlkX6 ?_ ?_ ?_ ?_ ?_ ?_<;>intros<;>try with_reducible exact trivial);all_goals(refine fnG ?_;try with_reducible exact trivial)
 all_goals(first|(simp_all [inB];done)|(simp_all [inB];omega))
def GWv:Ctx:={fn:=aT [(111,nk),(64,φIn)],io:=aT []}
theorem aAI:au Tryz.prog GWv:=okΓ (fC Tryz.func111 tq (fC Tryz.func64 sD aj)) aj
def awI:=ah (Γ:=GWv) (f:=111) (φ:=nk) rfl
def aBD:=ah (Γ:=GWv) (f:=64) (φ:=φIn) rfl
theorem d9:Sound Tryz.prog 81 fu:=by
 refine ak mixed aAI Tryz.func81 rfl 18 rfl [.tmp 2] rfl (by kernel_rfl) fun ps r hr=>?_;obtain⟨s,rfl,hq⟩:=bC hr;clear hr;split at hq
 case isFalse=>cases hq
 case isTrue hlen=>
 cases hq;refine⟨by simp,?_⟩;simp only[dIs,dUs,dSs,bP,bS,bQ,bT,aP,bR,aQ,aO,aR,aL];have gwv_c111:=awI;have gwv_c64:=aBD;have ap:=sK;have ap2:=bI;(refine wlkX6 ?_ ?_ ?_ ?_ ?_ ?_<;>intros<;>try with_reducible exact trivial);refine aB (α:=Nat) mixed (fun k=>[(0,sv s),(5,iv s.size),(6,iv k)]) (fun _=>[]) (fun _=>0)
  (fun k=>k≤s.size∧∀j,j<k→97≤at8 s j∧at8 s j≤122) (fun k=>s.size-k) (by kernel_rfl) 0 ⟨Nat.zero_le _,fun j hj=>by omega⟩ ?_ trivial rfl ?_
 ·simp only[push_cast,↓reduceIte,Rq,Rb,Ra,Rs,Rt]
 ·intro k ⟨hk,hok⟩
  have hrk:=iM s k;(refine wlkX6 ?_ ?_ ?_ ?_ ?_ ?_<;>intros<;>try with_reducible exact trivial);all_goals try(refine fnG ?_;try with_reducible exact trivial)
  ·rw[aha (s:=s) (k:=k) (by omega) (by(simp_all [inB];try omega))]
  ·refine⟨k+1,⟨by omega,fun j hj=>?_⟩,by dsimp only;omega,by simp only[push_cast,↓reduceIte,Rq,Rb,Ra,Rs,Rt],trivial,rfl⟩
   by_cases h1:j<k
   ·exact hok j h1
   ·have:j=k:=by omega
    subst this;simp_all [inB]
  ·rw[yK fun j hj=>hok j (by omega)]
def GWs:Ctx:={fn:=aT [(34,φIn)],io:=aT []}
theorem aAM:au Tryz.prog GWs:=okΓ (fC Tryz.func34 fK aj) aj
def aD6:=ah (Γ:=GWs) (f:=34) (φ:=φIn) rfl
theorem eG:Sound Tryz.prog 68 fu:=by
 refine ak mixed aAM Tryz.func68 rfl 23 rfl [.tmp 2] rfl (by kernel_rfl) fun ps r hr=>?_;obtain⟨s,rfl,hq⟩:=bC hr;clear hr;split at hq
 case isFalse=>cases hq
 case isTrue hlen=>
 cases hq;refine⟨by simp,?_⟩;simp only[dIs,dUs,dSs,bP,bS,bQ,bT,aP,bR,aQ,aO,aR,aL];have gws_c34:=aD6;have ap2:=bI;(refine wlkX ?_;intros);refine aB (α:=Nat) mixed (fun k=>[(0,sv s),(3,iv k)]) (fun _=>[]) (fun _=>0)
  (fun k=>k≤s.size∧∀j,j<k→97≤at8 s j∧at8 s j≤122) (fun k=>s.size-k) (by kernel_rfl) 0 ⟨Nat.zero_le _,fun j hj=>by omega⟩ ?_ trivial rfl ?_
 ·simp only[push_cast,↓reduceIte,Rq,Rb,Ra,Rs,Rt]
 ·intro k ⟨hk,hok⟩
  have hrk:=iM s k;(refine wlkX6 ?_ ?_ ?_ ?_ ?_ ?_<;>intros<;>try with_reducible exact trivial);all_goals try(refine fnG ?_;try with_reducible exact trivial)
  all_goals try(rw[aha (s:=s) (k:=k) (by omega) (by omega)];done)
  all_goals try(rw[yK fun j hj=>hok j (by omega)];done)
  all_goals
   refine⟨k+1,⟨by omega,fun j hj=>?_⟩,by dsimp only;omega,by simp only[push_cast,↓reduceIte,Rq,Rb,Ra,Rs,Rt],trivial,rfl⟩;by_cases h1:j<k
   ·exact hok j h1
   ·have:j=k:=by omega
    subst this;simp_all;try omega
def aae:Fun:=F1 dI fun n=>some (bv (inB n 1 999))
theorem acG (n:Int):aae [.val (.int .i64 n)]=some (.val (.bool (inB n 1 999))):=rfl
def GPg:Ctx:={fn:=aT [(64,φIn)],io:=aT []}
theorem aAo:au Tryz.prog GPg:=okΓ (fC Tryz.func64 sD aj) aj
def aDK:=ah (Γ:=GPg) (f:=64) (φ:=φIn) rfl
theorem adv:Sound Tryz.prog 82 aae:=by refine ak mixed aAo Tryz.func82 rfl 5 rfl [.tmp 2] rfl (by kernel_rfl) fun ps r hr=>?_;obtain⟨n,rfl,hr⟩:=bC hr;cases hr;refine⟨by simp,?_⟩;simp only[dIs,dUs,dSs,bP,bS,bQ,bT,aP,bR,aQ,aO,aR,aL];have gpg_c64:=aDK;have ap:=bI;(refine wlkX ?_;intros);all_goals(exact fnF)
def af5 (x:W2):Bool:= !bY x.1|| !inB x.2 1 999
def af9:Fun:=F1 dW2 fun x=>if x.1.size≤1099511627776 then some (bv (af5 x))else none
theorem amQ {s:ByteArray} {n:Int} (h:s.size≤1099511627776):af9 [.agg [.val (.string s),.val (.int .i64 n)]]=some (.val (.bool (af5 (s,n)))):=
 (dY (A:=dW2) (s,n)).trans (if_pos h)
def GIc:Ctx:={fn:=aT [(81,fu),(82,aae)],io:=aT []}
theorem azV:au Tryz.prog GIc:=okΓ (fC Tryz.func81 d9 (fC Tryz.func82 adv aj)) aj
def aBx:=ah (Γ:=GIc) (f:=81) (φ:=fu) rfl
def aEf:=ah (Γ:=GIc) (f:=82) (φ:=aae) rfl
theorem ajl:Sound Tryz.prog 80 af9:=by
 refine ak mixed azV Tryz.func80 rfl 13 rfl [.tmp 2] rfl (by kernel_rfl) fun ps r hr=>?_;obtain⟨⟨s,n⟩,rfl,hq⟩:=bC hr;clear hr;split at hq
 case isFalse=>cases hq
 case isTrue hlen=>
 cases hq;dsimp only at hlen;refine⟨by simp,?_⟩;simp only[dIs,dUs,dSs,bP,bS,bQ,bT,aP,bR,aQ,aO,aR,aL];have gic_c81:=aBx;have gic_c82:=aEf;have ap:=@fV;have ap2:=acG;(refine wlkX6 ?_ ?_ ?_ ?_ ?_ ?_<;>intros<;>try with_reducible exact trivial);all_goals(refine fnG ?_;try with_reducible exact trivial)
 all_goals simp_all [af5]
def jL {α:Type} (p:α→Bool) (zs:List α):Int:=match zs.findIdx? p with|some i=>i|none=>-1
theorem zl {α:Type} {d:α} {p:α→Bool} {zs:List α} {k:Nat} (h:∀j,j<k→p (zs[j]?.getD d)=false) (hk:k<zs.length) (hp:p (zs[k]?.getD d)=true):jL p zs=k:=by
 have:zs.findIdx? p=some k:=by rw[List.findIdx?_eq_some_iff_getElem];refine⟨hk,by simpa [hk]using hp,fun j hj=>?_⟩;have:=h j hj;simpa [show j<zs.length by omega]using this
 simp[jL,this]
theorem aaY {α:Type} {d:α} {p:α→Bool} {zs:List α} (h:∀j,j<zs.length→p (zs[j]?.getD d)=false):jL p zs=-1:=by
 have:zs.findIdx? p=none:=by rw[List.findIdx?_eq_none_iff];intro x hx;obtain⟨j,hj,rfl⟩:=List.getElem_of_mem hx;simpa [hj]using h j hj
 simp[jL,this]
theorem acX {α:Type} (p:α→Bool) (zs:List α):decide (0≤jL p zs)=zs.any p:=by
 unfold jL;split
 ·rename_i i h
  rw[List.findIdx?_eq_some_iff_getElem]at h;obtain⟨h1,h2,_⟩:=h;have:zs.any p=true:=List.any_eq_true.2 ⟨_,List.getElem_mem h1,h2⟩;simp[this]
 ·rename_i h
  rw[List.findIdx?_eq_none_iff]at h;have:zs.any p=false:=by rw[List.any_eq_false];intro x hx;simp[h x hx]
  simp[this]
theorem ai1 {α:Type} {d:α} {zs:List α} {p:α→Bool} {k:Nat} (hk:k<zs.length) (hp:p (zs[k]?.getD d)=true):zs.any p=true:=
 List.any_eq_true.2 ⟨zs[k],List.getElem_mem hk,by simpa [hk]using hp⟩
theorem amG {α:Type} {d:α} {zs:List α} {p:α→Bool} (h:∀j,j<zs.length→p (zs[j]?.getD d)=false):zs.any p=false:=by rw[List.any_eq_false];intro x hx;obtain⟨j,hj,rfl⟩:=List.getElem_of_mem hx;simpa [hj]using h j hj
abbrev okW (l:List W2):Prop:=l.length≤1099511627776∧∀i:Nat,(l[i]?.getD w0).1.size≤1099511627776
instance (l:List W2):Decidable (okW l):=Classical.propDecidable _
abbrev dWs:Dec (List W2):=dL 2 dW2
abbrev pvW (x:W2):PV:=.agg [.val (.string x.1),.val (.int .i64 x.2)]
def ahe:Fun:=F2 dWs (dFn 80) fun l _=>if okW l then some (iv (jL af5 l))else none
def GXw:Ctx:={fn:=aT [(80,af9)],io:=aT []}
theorem aCO:au Tryz.prog GXw:=okΓ (fC Tryz.func80 ajl aj) aj
def aBG:=ah (Γ:=GXw) (f:=80) (φ:=af9) rfl
theorem auN:Sound Tryz.prog 110 ahe:=by
 refine ak mixed aCO Tryz.func110 rfl 19 rfl [.tmp 4] rfl (by kernel_rfl) fun ps r hr=>?_;obtain⟨l,u,rfl,hq⟩:=iD hr;clear hr;split at hq
 case isFalse=>cases hq
 case isTrue hok=>
 cases hq;obtain⟨hlen,hsz⟩:=hok;refine⟨by simp,?_⟩;simp only[dIs,dUs,dSs,bP,bS,bQ,bT,aP,bR,aQ,aO,aR,aL];have gxw_c80:=aBG;(refine wlkX6 ?_ ?_ ?_ ?_ ?_ ?_<;>intros<;>try with_reducible exact trivial);refine aB (α:=Nat) mixed (fun k=>[(0,.lst false 2 (l.map fun x=> .agg [.val (.string x.1),.val (.int .i64 x.2)])),(1,.val (.func (.func 80) #[] #[])),(7,iv l.length),(8,iv k)]) (fun _=>[]) (fun _=>0)
  (fun k=>k≤l.length∧∀j,j<k→af5 (l[j]?.getD w0)=false) (fun k=>l.length-k) (by kernel_rfl) 0 ⟨Nat.zero_le _,fun j hj=>by omega⟩ ?_ trivial rfl ?_
 ·simp only[push_cast,↓reduceIte,Rq,Rb,Ra,Rs,Rt]
 ·intro k ⟨hk,hok⟩
  have ap:=@amQ _ (l[k]?.getD w0).2 (hsz k);clear hsz;(refine wlkX6 ?_ ?_ ?_ ?_ ?_ ?_<;>intros<;>try with_reducible exact trivial);all_goals try(refine fnG ?_;try with_reducible exact trivial)
  ·rw[zl (d:=w0) hok (by omega) (by simp_all)]
  ·refine⟨k+1,⟨by omega,fun j hj=>?_⟩,by dsimp only;omega,by simp only[push_cast,↓reduceIte,Rq,Rb,Ra,Rs,Rt],trivial,rfl⟩
   by_cases h1:j<k
   ·exact hok j h1
   ·have:j=k:=by omega
    subst this;simp_all
  ·rw[aaY (d:=w0) fun j hj=>hok j (by omega)]
theorem akm {l:List W2} (h:okW l):ahe [.lst false 2 (l.map fun x=> .agg [.val (.string x.1),.val (.int .i64 x.2)]),.val (.func (.func 80) #[] #[])]=some (.val (.int .i64 (jL af5 l))):=
 (fZ (A:=dWs) (B:=dFn 80) l ()).trans (if_pos h)
def agb:Fun:=F2 dWs (dFn 80) fun l _=>if okW l then some (bv (l.any af5))else none
theorem anW {l:List W2} (h:okW l):agb [.lst false 2 (l.map fun x=> .agg [.val (.string x.1),.val (.int .i64 x.2)]),.val (.func (.func 80) #[] #[])]=some (.val (.bool (l.any af5))):=
 (fZ (A:=dWs) (B:=dFn 80) l ()).trans (if_pos h)
def GCw:Ctx:={fn:=aT [(110,ahe)],io:=aT []}
theorem azY:au Tryz.prog GCw:=okΓ (fC Tryz.func110 auN aj) aj
def avR:=ah (Γ:=GCw) (f:=110) (φ:=ahe) rfl
theorem ays:Sound Tryz.prog 79 agb:=by
 refine ak mixed azY Tryz.func79 rfl 9 rfl [.tmp 4] rfl (by kernel_rfl) fun ps r hr=>?_;obtain⟨l,u,rfl,hq⟩:=iD hr;clear hr;split at hq
 case isFalse=>cases hq
 case isTrue hok=>
 cases hq;have ap:=akm hok;clear hok;refine⟨by simp,?_⟩;simp only[dIs,dUs,dSs,bP,bS,bQ,bT,aP,bR,aQ,aO,aR,aL];have gcw_c110:=avR;(refine wlkX6 ?_ ?_ ?_ ?_ ?_ ?_<;>intros<;>try with_reducible exact trivial);all_goals(refine fnG ?_;try with_reducible exact trivial)
 all_goals rw[acX]
def indexB (l:List W2):Bool:=decide (l.length≤30)&& !l.any af5
def dV:Fun:=F1 dWs fun l=>if okW l then some (bv (indexB l))else none
theorem gU {l:List W2} (h:okW l):dV [.lst false 2 (l.map fun x=> .agg [.val (.string x.1),.val (.int .i64 x.2)])]=some (.val (.bool (indexB l))):=
 (dY (A:=dWs) l).trans (if_pos h)
def GIi:Ctx:={fn:=aT [(79,agb)],io:=aT []}
theorem aBW:au Tryz.prog GIi:=okΓ (fC Tryz.func79 ays aj) aj
def aA0:=ah (Γ:=GIi) (f:=79) (φ:=agb) rfl
theorem lg:Sound Tryz.prog 45 dV:=by
 refine ak mixed aBW Tryz.func45 rfl 11 rfl [.tmp 2] rfl (by kernel_rfl) fun ps r hr=>?_;obtain⟨l,rfl,hq⟩:=bC hr;clear hr;split at hq
 case isFalse=>cases hq
 case isTrue hok=>
 cases hq;have hlen:=hok.1;have ap:=anW hok;clear hok;refine⟨by simp,?_⟩;simp only[dIs,dUs,dSs,bP,bS,bQ,bT,aP,bR,aQ,aO,aR,aL];have gii_c79:=aA0;(refine wlkX6 ?_ ?_ ?_ ?_ ?_ ?_<;>intros<;>try with_reducible exact trivial);all_goals(refine fnG ?_;try with_reducible exact trivial)
 all_goals(simp_all [indexB];try omega)
def GIs:Ctx:={fn:=aT [(68,fu),(34,φIn)],io:=aT []}
theorem aBb:au Tryz.prog GIs:=okΓ (fC Tryz.func68 eG (fC Tryz.func34 fK aj)) aj
def aBZ:=ah (Γ:=GIs) (f:=68) (φ:=fu) rfl
def aBm:=ah (Γ:=GIs) (f:=34) (φ:=φIn) rfl
theorem sF:Sound Tryz.prog 87 dV:=by
 refine ak mixed aBb Tryz.func87 rfl 29 rfl [.tmp 2] rfl (by kernel_rfl) fun ps r hr=>?_;obtain⟨l,rfl,hq⟩:=bC hr;clear hr;split at hq
 case isFalse=>cases hq
 case isTrue hok=>
 cases hq;obtain⟨hlen,hsz⟩:=hok;refine⟨by simp,?_⟩;simp only[dIs,dUs,dSs,bP,bS,bQ,bT,aP,bR,aQ,aO,aR,aL];have gis_c68:=aBZ;have gis_c34:=aBm;(refine wlkX6 ?_ ?_ ?_ ?_ ?_ ?_<;>intros<;>try with_reducible exact trivial);refine aB (α:=Nat) mixed (fun k=>[(0,.lst false 2 (l.map fun x=> .agg [.val (.string x.1),.val (.int .i64 x.2)])),(3,iv k)]) (fun _=>[]) (fun _=>0)
  (fun k=>k≤l.length∧∀j,j<k→af5 (l[j]?.getD w0)=false) (fun k=>l.length-k) (by kernel_rfl) 0 ⟨Nat.zero_le _,fun j hj=>by omega⟩ ?_ trivial rfl ?_
 ·simp only[push_cast,↓reduceIte,Rq,Rb,Ra,Rs,Rt]
 ·intro k ⟨hk,hok⟩
  have ap:=@fV (l[k]?.getD w0).1 (hsz k);have ap2:=bI;clear hsz;have hb:af5 (l[k]?.getD w0)=(!bY (l[k]?.getD w0).1|| !inB (l[k]?.getD w0).2 1 999):=rfl;(refine wlkX6 ?_ ?_ ?_ ?_ ?_ ?_<;>intros<;>try with_reducible exact trivial);all_goals try(refine fnG ?_;try with_reducible exact trivial)
  all_goals try(rw[show indexB l=false from by(unfold indexB;rw[ai1 (d:=w0) (k:=k) (by omega) (by simp_all)];simp)];done)
  all_goals try(rw[show indexB l=decide (l.length≤30)from by(unfold indexB;rw[amG (d:=w0) fun j hj=>hok j (by omega)];simp)];simp;omega)
  all_goals
   refine⟨k+1,⟨by omega,fun j hj=>?_⟩,by dsimp only;omega,by simp only[push_cast,↓reduceIte,Rq,Rb,Ra,Rs,Rt],trivial,rfl⟩;by_cases h1:j<k
   ·exact hok j h1
   ·have:j=k:=by omega
    subst this;simp_all
def j5:Int→List Nat→Int
 |left,[]=>left
 |left,n::l=>if left-n<0 then-1 else j5 (left-n) l
theorem wU:∀{l:List Nat} {left:Int},0≤j5 left l→0≤left→∀n∈l,(n:Int)≤left
 |[],left,h,h0,n,hn=>by simp at hn
 |m::l,left,h,h0,n,hn=>by
  unfold j5 at h;split at h
  ·omega
  ·rename_i h1
   rcases List.mem_cons.1 hn with rfl|h2
   ·omega
   ·have:=wU h (by omega) n h2
    omega
end
end Go.Proofs.YtmmafcjjlbgnkaaGreatDoor
