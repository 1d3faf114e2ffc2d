/- What the proof rests on, part 22: contracts of functions. No condition beyond what each states. -/
import Derived.Test.YtmmafcjjlbgnkaaGreatDoorZBi21
namespace Go.Proofs.YtmmafcjjlbgnkaaGreatDoor
open Go.RowKit
open Nat renaming reduceEqDiff→Rq,reduceBEq→Rb,reduceAdd→Ra,reduceSub→Rs
open Int renaming reduceToNat→Rt
set_option linter.all false
set_option maxHeartbeats 32000000
noncomputable section
def φBi:Fun:=F1 sD fun b=>if ab8 b.1 b.2.1 then some (.tup [.lst true 1 ((biV b.1 b.2.1 b.2.2.1 b.2.2.2.1 b.2.2.2.2).map fun s=> .val (.string s)),bv (biB b.1 b.2.1 b.2.2.1 b.2.2.2.1 b.2.2.2.2)])else none
theorem auN {p:List LS} {q:LS} {x y z:Int} (h:ab8 p q):φBi [bkP p q x y z]=some (.tup [.lst true 1 ((biV p q x y z).map fun s=> .val (.string s)),.val (.bool (biB p q x y z))]):=
 (fM (A:=sD) (p,q,x,y,z)).trans (if_pos h)
theorem zl {R:LS} {c j:Nat} (h:c≤j) (h2:j<R.length):(R.take (j+1)).drop c=(R.take j).drop c++[R[j]?.getD .empty]:=by rw[List.take_succ_eq_append_getElem h2,List.drop_append_of_le_length (by rw[List.length_take];omega),List.getElem?_eq_getElem h2,Option.getD_some]
def lwI (V:List LS) (k:Nat) (R:LS) (c j:Nat):List W2:=swI V k++((R.take j).drop c).map fun s=>(s,(k:Int)+1)
theorem arG {l:LS} (h:aGb l):apC [.lst false 1 (l.map fun s=> .val (.string s))]=some (.lst true 1 ((rJ l).map fun s=> .val (.string s))):=(fM (A:=dSs) l).trans (if_pos h)
def aEt:Ctx:={fn:=aT [(8,φBp),(47,apC),(48,φIx)],io:=aT []}
theorem ayi:ak Tryz.prog aEt:=okΓ (fC Tryz.func8 amE (fC Tryz.func47 ail (fC Tryz.func48 anz aj))) aj
def as8:=ah (Γ:=aEt) (f:=8) (φ:=φBp) rfl
def alN:=ah (Γ:=aEt) (f:=47) (φ:=apC) rfl
def akw:=ah (Γ:=aEt) (f:=48) (φ:=φIx) rfl
set_option maxRecDepth 20000 in
theorem alU:Sound Tryz.prog 14 φBi:=by
 refine au mixed ayi Tryz.func14 rfl 110 rfl [.tmp 2,.tmp 3] rfl (by kernel_rfl) fun ps r hr=>?_;obtain⟨⟨p,q,x,y,z⟩,rfl,hpre,rfl⟩:=jy hr;refine⟨by simp,?_⟩;simp only[dIs,dUs,dSs,dw,dx,dh,dA,aS,dz,aQ,aR,aO,aP];(try dsimp only at hpre⊢);have hp1:=hpre.1;have hpk:∀k:Nat,(p[k]?.getD []).length≤1048576:=fun k=>(hpre.2.1 k).1;have apb:=alI (x:=x) (y:=y) (z:=z) hpre;cases hb:bpB p q x y z with
 |false=>
  have hB:biB p q x y z=false:=by unfold biB;rw[hb];rfl
  have hV:biV p q x y z=[]:=if_neg (by rw[hB];decide);rw[hb,aj6 hb,List.map_nil]at apb;rw[hB,hV,List.map_nil];clear hB hV hb hpk hpre;have gbis_c8:=as8;have gbis_c47:=alN;have gbis_c48:=akw;(refine wlk ?_;intros);refine aD (α:=Unit) mixed (fun _=>[(1,.own 0 5 0 0),(4,.lst true 1 []),(5,.val (.bool false)),(6,.row 1 2 0 0),(7,iv 0),(8,iv 0)]) (fun _=>[(0,26,5,[bkP p q x y z]),(1,71,2,[])]) (fun _=>2) (fun _=>True) (fun _=>0) (by kernel_rfl) () trivial ?_ ?_ rfl ?_
  ·exact agr
   try rfl
  ·exact agr
   try rfl
  rintro _ _;(refine wlk ?_;intros);refine aD (α:=Unit) mixed (fun _=>[(1,.own 0 5 0 0),(5,.val (.bool false)),(6,.row 1 2 0 0),(13,.row 2 1 0 0),(14,iv 0)]) (fun _=>[(0,26,5,[bkP p q x y z]),(1,71,2,[]),(2,9,1,[])]) (fun _=>3) (fun _=>True) (fun _=>0) (by kernel_rfl) () trivial ?_ ?_ rfl ?_
  ·exact agr
   try rfl
  ·exact agr
   try rfl
  rintro _ _;exact wlkS
 |true=>
  have hF:=aak hpre hb;rw[hb]at apb;have hVe:biV p q x y z=if p.flatten.length≤30 then dX (idW (bpV p q x y z))else []:=by
   unfold biV biB;rw[hb,Bool.true_and];by_cases h:p.flatten.length≤30
   ·rw[if_pos h,if_pos (decide_eq_true h)]
   ·rw[if_neg h,if_neg (by rw[decide_eq_false h];decide)]
  have hBe:biB p q x y z=decide (p.flatten.length≤30):=by unfold biB;rw[hb,Bool.true_and]
  rw[hVe,hBe];clear hVe hBe hb;generalize bpV p q x y z=V at*;have apx:=awG (ag0 hpre hF);have hdone:=ayg hF;have hcm:=fun i (h:i<V.length)=>cnt_mono hF.ok h;have hcl:=fun k (h:k≤V.length)=>anm hF.ok h;have hcb:=fun k (h:k≤V.length)=>hF.mono h;have hfl:=fun k=>qV (l:=V) k;have hwl:=fun k=>arG (hF.wl k);have hlast:=hF.last;have hV30:=hF.len;have hVt:=hF.tot;have hpl:=hF.pl;have htf:=fun k (h:k<V.length)=>nU (V:=V) h;have hpf:=fun k=>qV (l:=p) k;have hpt:=fun k (h:k<p.length)=>nU (V:=p) h;clear hF hpre;replace apx:=Lib.hid apx;replace hdone:=Lib.hid hdone;replace hcm:=Lib.hid hcm;replace hcl:=Lib.hid hcl;replace hcb:=Lib.hid hcb;replace hfl:=Lib.hid hfl;replace hwl:=Lib.hid hwl;replace hlast:=Lib.hid hlast;replace htf:=Lib.hid htf;replace hpf:=Lib.hid hpf;replace hpt:=Lib.hid hpt;replace hpk:=Lib.hid hpk;have gbis_c8:=as8;have gbis_c47:=alN;have gbis_c48:=akw;(refine wlk ?_;intros);refine aD (α:=Nat×Nat×Nat) mixed (fun i=>[(1,.own 0 5 0 0),(4,.lst true 1 (V.map fB)),(5,.val (.bool true)),(6,.row i.2.1 2 0 (kX V i.1)),(7,iv (kX V i.1)),(8,iv i.1)]) (fun i=>[(0,26,5,[bkP p q x y z]),(i.2.1,71,2,(swI V i.1).map pvW)]) (fun i=>i.2.2) (fun i=>i.1≤V.length∧0<i.2.1∧i.2.1<i.2.2) (fun i=>V.length-i.1) (by kernel_rfl) (0,1,2) ⟨Nat.zero_le _,by decide,by decide⟩ ?_ ?_ rfl ?_
  ·have z0:kX V 0=0:=rfl
   (try dsimp only);rw[z0];exact agr;try rfl
  ·have z0:swI V 0=[]:=rfl
   (try dsimp only);rw[z0];exact agr;try rfl
  rintro⟨k,o,y'⟩ ⟨hk,ho,hoy⟩;dsimp only at hk ho hoy;clear apb;by_cases hkl:k<V.length
  ·have h1:=hcl.out k hk
   (try dsimp only);(refine wlk ?_;intros);refine aD (α:=Nat×Nat×Nat) mixed (fun i=>[(1,.own 0 5 0 0),(4,.lst true 1 (V.map fB)),(5,.val (.bool true)),(6,.row o 2 0 (kX V k)),(7,iv (kX V k)),(8,iv k),(9,.row i.2.1 1 0 ((V.take i.1).flatten).length),(10,iv i.1)]) (fun i=>[(0,26,5,[bkP p q x y z]),(o,71,2,(swI V k).map pvW),(i.2.1,9,1,((V.take i.1).flatten).map fun s=> .val (.string s))]) (fun i=>i.2.2) (fun i=>i.1≤k+1∧o<i.2.1∧i.2.1<i.2.2) (fun i=>k+1-i.1) (by kernel_rfl) (0,y',y'+1) ⟨Nat.zero_le _,hoy,Nat.lt_succ_self _⟩ ?_ ?_ rfl ?_
   ·(try dsimp only)
    rw[List.take_zero,List.flatten_nil];exact agr;try rfl
   ·(try dsimp only)
    rw[List.take_zero,List.flatten_nil];exact agr;try rfl
   rintro⟨j,a,y2⟩ ⟨hj,hoa,hay⟩;dsimp only at hj hoa hay;by_cases hjk:j≤k
   ·have h2:=hfl.out j
    have h3:=htf.out j (by omega);have h4:=hfl.out (j+1);have h5:((V.take j).flatten).length+(V[j]?.getD []).length≤30:=by rw[h3,List.length_append]at h4;omega
    have hjV:j<V.length:=by omega
    have e1:¬a=0:=by omega
    have e2:¬a=o:=by omega
    clear h4;replace h3:=Lib.hid h3;generalize(V.take j).flatten=B at*;(try dsimp only);(refine wlk ?_;intros);refine⟨(j+1,y2,y2+1),⟨by dsimp only;omega,by dsimp only;omega,by dsimp only;omega⟩,by dsimp only;omega,?_,?_,rfl⟩
    ·(try dsimp only)
     rw[h3.out,List.length_append];exact agi
    ·(try dsimp only)
     rw[h3.out];exact agr
   ·obtain rfl:j=k+1:=by omega
    have apw:=hwl.out (k+1);have hR:(rJ ((V.take (k+1)).flatten)).length=kX V (k+1):=rfl;have hc1:=hcm.out k hkl;have hc2:=hcb.out (k+1) (by omega);have hfk:=hfl.out (k+1);have hsw:∀j,j=(rJ ((V.take (k+1)).flatten)).length→lwI V k (rJ ((V.take (k+1)).flatten)) (kX V k) j=swI V (k+1):=fun j h=>by unfold lwI;rw[List.take_of_length_le (by omega)];rfl
    have hs0:lwI V k (rJ ((V.take (k+1)).flatten)) (kX V k) (kX V k)=swI V k:=by unfold lwI;rw[List.drop_eq_nil_of_le (by rw[List.length_take];omega),List.map_nil,List.append_nil]
    have hs1:∀j,kX V k≤j→j<kX V (k+1)→lwI V k (rJ ((V.take (k+1)).flatten)) (kX V k) (j+1)=lwI V k (rJ ((V.take (k+1)).flatten)) (kX V k) j++[((rJ ((V.take (k+1)).flatten))[j]?.getD .empty,(k:Int)+1)]:=fun j h h2=>by unfold lwI;rw[zl h (by omega),List.map_append,List.append_assoc];rfl
    have hs2:∀j,kX V k≤j→j≤kX V (k+1)→(lwI V k (rJ ((V.take (k+1)).flatten)) (kX V k) j).length=j:=fun j h h2=>by unfold lwI;rw[List.length_append,h1,List.length_map,List.length_drop,List.length_take];omega
    replace hsw:=Lib.hid (hsw (kX V (k+1)) hR.symm);replace hs0:=Lib.hid hs0;replace hs1:=Lib.hid hs1;replace hs2:=Lib.hid hs2;replace hcl:=Lib.hid (show True from trivial);have hc0:kX V k≤6291456:=by omega
    generalize lwI V k (rJ ((V.take (k+1)).flatten)) (kX V k)=LW at*;(try dsimp only);generalize(V.take (k+1)).flatten=B at*;(refine wlk ?_;intros);replace hwl:=Lib.hid (show True from trivial);clear apw;generalize rJ B=R at*;refine aD (α:=Nat×Nat×Nat) mixed (fun i=>[(1,.own 0 5 0 0),(4,.lst true 1 (V.map fB)),(5,.val (.bool true)),(6,.row i.2.1 2 0 i.1),(8,iv k),(11,.lst true 1 (R.map fun s=> .val (.string s))),(12,iv i.1)]) (fun i=>[(0,26,5,[bkP p q x y z]),(i.2.1,71,2,(LW i.1).map pvW)]) (fun i=>i.2.2) (fun i=>(kX V k≤i.1∧i.1≤kX V (k+1))∧0<i.2.1∧i.2.1<i.2.2) (fun i=>kX V (k+1)-i.1) (by kernel_rfl) (kX V k,o,y2) ⟨⟨Nat.le_refl _,hc1⟩,ho,by dsimp only;omega⟩ ?_ ?_ rfl ?_
    ·(try dsimp only)
     exact agr;try rfl
    ·(try dsimp only)
     rw[hs0.out];exact agr;try rfl
    rintro⟨j,o2,y3⟩ ⟨⟨hj1,hj2⟩,ho2,hoy3⟩;dsimp only at hj1 hj2 ho2 hoy3;by_cases hjc:j<kX V (k+1)
    ·have h6:=hs1.out j hj1 hjc
     have h7:=hs2.out j hj1 hj2;have hjR:j<R.length:=by omega
     replace h6:=Lib.hid h6;(try dsimp only);(refine wlk ?_;intros);refine⟨(j+1,y3+1,y3+1+1),⟨⟨by dsimp only;omega,by dsimp only;omega⟩,by dsimp only;omega,by dsimp only;omega⟩,by dsimp only;omega,?_,?_,rfl⟩
     ·(try dsimp only)
      exact agi
     ·(try dsimp only)
      rw[h6.out];exact agr
    ·obtain rfl:j=kX V (k+1):=by omega
     have hR2:=hR;rw[hsw.out];clear hs1 hs2 hs0;(try dsimp only);(refine wlk ?_;intros);refine⟨(k+1,o2,y3),⟨by dsimp only;omega,by dsimp only;omega,by dsimp only;omega⟩,by dsimp only;omega,?_,?_,rfl⟩
     ·(try dsimp only)
      exact agi
     ·(try dsimp only)
      exact agr
  ·obtain rfl:k=V.length:=by omega
   have hWl:=hcl.out V.length (Nat.le_refl _);have hstl:=fun j=>aaP (swI V V.length) p.flatten j;have hst0:stW (swI V V.length) p.flatten 0=swI V V.length:=rfl;have hst1:∀j,stW (swI V V.length) p.flatten (j+1)=(stW (swI V V.length) p.flatten j).set j (p.flatten[j]?.getD .empty,((stW (swI V V.length) p.flatten j)[j]?.getD w0).2):=fun j=>by rw[stW,auc (Nat.le_refl _)]
   replace hdone:=hdone.out;rw[hWl]at hdone hstl;rw[hlast.out]at hWl hdone hstl⊢;clear hcm hcb hfl hwl htf hcl;generalize stW (swI V V.length) p.flatten=SW at*;generalize swI V V.length=W at*;replace hdone:=Lib.hid hdone;replace hst0:=Lib.hid hst0;replace hst1:=Lib.hid hst1;replace hstl:=Lib.hid hstl;(try dsimp only);(refine wlk ?_;intros);refine aD (α:=Nat×Nat×Nat) mixed (fun i=>[(1,.own 0 5 0 0),(5,.val (.bool true)),(6,.row o 2 0 p.flatten.length),(13,.row i.2.1 1 0 ((p.take i.1).flatten).length),(14,iv i.1)]) (fun i=>[(0,26,5,[bkP p q x y z]),(o,71,2,W.map pvW),(i.2.1,9,1,((p.take i.1).flatten).map fun s=> .val (.string s))]) (fun i=>i.2.2) (fun i=>i.1≤p.length∧o<i.2.1∧i.2.1<i.2.2) (fun i=>p.length-i.1) (by kernel_rfl) (0,y',y'+1) ⟨Nat.zero_le _,hoy,Nat.lt_succ_self _⟩ ?_ ?_ rfl ?_
   ·(try dsimp only)
    rw[List.take_zero,List.flatten_nil];exact agr;try rfl
   ·(try dsimp only)
    rw[List.take_zero,List.flatten_nil];exact agr;try rfl
   rintro⟨j,b,y2⟩ ⟨hj,hob,hby⟩;dsimp only at hj hob hby;by_cases hjp:j<p.length
   ·have h2:=hpf.out j
    have h3:=hpt.out j hjp;have h4:=hpk.out j;have e1:¬b=0:=by omega
    have e2:¬b=o:=by omega
    replace h3:=Lib.hid h3;generalize(p.take j).flatten=B at*;(try dsimp only);(refine wlk ?_;intros);refine⟨(j+1,y2,y2+1),⟨by dsimp only;omega,by dsimp only;omega,by dsimp only;omega⟩,by dsimp only;omega,?_,?_,rfl⟩
    ·(try dsimp only)
     rw[h3.out,List.length_append];exact agi
    ·(try dsimp only)
     rw[h3.out];exact agr
   ·obtain rfl:j=p.length:=by omega
    rw[List.take_length];clear hpf hpt hpk;by_cases h30:p.flatten.length≤30
    ·have apx:=apx.out
     rw[if_pos h30,decide_eq_true h30];generalize p.flatten=TX at*;(try dsimp only);(refine wlk ?_;intros);refine aD (α:=Nat) mixed (fun i=>[(6,.row o 2 0 TX.length),(13,.row b 1 0 TX.length),(15,iv i)]) (fun i=>[(o,71,2,(SW i).map pvW),(b,9,1,TX.map fun s=> .val (.string s))]) (fun _=>y2) (fun i=>i≤TX.length) (fun i=>TX.length-i) (by kernel_rfl) 0 (Nat.zero_le _) ?_ ?_ rfl ?_
     ·exact agr
      try rfl
     ·(try dsimp only)
      rw[hst0.out];exact agr;try rfl
     rintro j hj;by_cases hjt:j<TX.length
     ·have h6:=hst1.out j
      have h7:=hstl.out j;replace h6:=Lib.hid h6;(try dsimp only);(refine wlk ?_;intros);refine⟨j+1,by omega,by dsimp only;omega,?_,?_,rfl⟩
      ·(try dsimp only)
       exact agi
      ·(try dsimp only)
       rw[h6.out];exact agr
     ·obtain rfl:j=TX.length:=by omega
      have h7:=hstl.out TX.length;rw[hdone.out]at h7⊢;(try dsimp only);exact wlkS
    ·rw[if_neg h30,decide_eq_false h30,List.map_nil]
     (try dsimp only);exact wlkS
section
variable {P:Program} {N B:Nat} {w00:World}
variable {ops:Array Oper} {J:AS→Fgn→Prop} {s:AS} {σ:Fgn}
theorem ZO.ay4 {o:Oper} {j:Nat} {l:List Oper} {f:Nat} {c:Call} (ho:o.op=.call c) (hc:c.callee=.value (.func f)) (hf:Fnd P f) (hg:o.guard=none) (hd:∀x,o.dst=some x→x<N) (R:Value→Fgn→Prop)
 (hcall:∀a w,Zt P N B w00 s σ a w→Calls P f (c.args.map a.eval) w fun e w'=>∃v σ',e=.returned v∧R v σ'∧Fr σ'.bk w w'∧(∀i,i<w.heap.size→σ'.bk i→σ.bk i)∧(∀i,σ.bk i→σ'.bk i)∧(∀b,σ'.bk b→b<w'.heap.size)∧σ'.at_ w')
 (h:∀v σ',R v σ'→ZO P N B w00 ops (j+1) l J (s.put o.dst (.val v)) σ'):ZO P N B w00 ops j (o::l) J s σ:=by
 refine ZO.one hg fun a w hst Kn Q hK=>?_;obtain⟨fn,hfn,hname,hbody⟩:=hf;have hrun:(execOp a.eval o).run P w=.ok (.enter f (c.args.map a.eval)) w:=by unfold execOp;simp only[ho,resolve,hc,Act.eval,Deferred.ofValue,Sem.run_bind,Sem.run_pure,Result.andThen_ok,invoke,callFunc,run_program,hfn];simp[hname,hbody]
 unfold Oper.wp;rw[hrun,Oper.upon_enter];refine(hcall a w hst).mono ?_;rintro e w' ⟨v,σ',rfl,hR,h1,h2,h3,h4,h5⟩;exact hK _ _ _ _ ((hst.lJ h1 h2 h3 h4 h5).put hd fun g w=>by simp[Rep]) (h v σ' hR)
end
section
variable {P:Program} {Γ:Ctx} {imm:Md} {ops:Array Oper} {N B:Nat} {w00:World}
def aaN (Γ:Ctx) (imm:Md) (ops:Array Oper) (n:Nat):Bool:=(List.range n).all fun j=>(List.range j).all fun i=>fP Γ imm ops i j||uy ops ops.size i j
def aaT (ops:Array Oper):Bool:=(List.range ops.size).all fun j=>match ops[j]? with|some o=>o.after.all (fun e=> !Region.binds .any e||decide (e.on<j))|none=>true
theorem afO {n:Nat} (h:aaN Γ imm ops n=true) {i j:Nat} (hj:j<n) (hi:i<j):fP Γ imm ops i j=true∨uy ops ops.size i j=true:=by have h1:=List.all_eq_true.1 (List.all_eq_true.1 h j (List.mem_range.2 hj)) i (List.mem_range.2 hi);simpa [Bool.or_eq_true]using h1
theorem vI (h:aaT ops=true) {j:Nat} {o:Oper} (ho:ops[j]?=some o):∀e∈o.after,Region.binds .any e=true→e.on<j:=fun e he hb=>by have hlt:=(Array.getElem?_eq_some_iff.1 ho).1;have h1:=List.all_eq_true.1 h j (List.mem_range.2 hlt);rw[ho]at h1;dsimp only at h1;have h2:=(Array.all_eq_true_iff_forall_mem.1 h1) e he;simpa [hb]using h2
theorem asU {io:IoS} {w0:World} (hΓ:gT P Γ io.wr w0) (hio:∀b,io b→b<w0.heap.size) (hd:ops.all (iO N)=true) {n:Nat} (hn:ops.size=n+2) (hp:aaN Γ imm ops n=true) (hed:aaT ops=true) (hlast:∀i,i<n+1→uy ops ops.size i (n+1)=true) {Q:Exit→Act→World→Prop} {s':AS}
 (hQ:∀g' a' w',Rel io w0 N g' s' a' w'→wpOp P ops Q (n+1) (Q .normal) a' w'):
 ∀(fuel:Nat) (listed:Array Bool) (rem:List Nat) (g:Gh) (s:AS) (a:Act) (w:World),rem.length+1≤fuel→listed.size=ops.size→(∀i,i∈rem↔i<n∧listed.getD i true=false)→listed.getD n false=true→listed.getD (n+1) true=false→rem.Pairwise (· < ·)→
  (∀j o,ops[j]?=some o→listed.getD j true=true→∀e∈o.after,Region.binds .any e=true→listed.getD e.on false=true)→
  Rel io w0 N g s a w→evL P Γ imm ops rem s=some s'→wpAny P .any ops Q fuel listed a w:=by
 intro fuel
 induction fuel with
 |zero=>intro listed rem g s a w hlen;omega
 |succ fuel ih=>
  intro listed rem g s a w hlen hsz hrem hA hln hpw hcl h he;have hl':∀x,x<n+1→¬x∈rem→listed.getD x false=true:=fun x hx hm=>by
   by_cases hxn:x=n
   ·rw[hxn];exact hA
   ·rw[hrem]at hm
    have hlt':x<listed.size:=by omega
    have:listed.getD x true≠false:=fun h0=>hm ⟨by omega,h0⟩;simp[hlt']at this⊢;exact this
  have hne:Region.ready .any ops listed≠[]:=by
   intro hnil;cases rem with
   |nil=>
    have:n+1∈Region.ready .any ops listed:=by rw[mem_ready];refine⟨hln,ops[n+1],Array.getElem?_eq_getElem (by omega),fun e he hb=>?_⟩;exact hl' _ (vI hed (Array.getElem?_eq_getElem (by omega)) e he hb) (by simp)
    rw[hnil]at this;cases this
   |cons i0 q=>
    obtain⟨hi1,hi2⟩:=(hrem i0).1 (by simp);have:i0∈Region.ready .any ops listed:=by
     rw[mem_ready];refine⟨hi2,ops[i0],Array.getElem?_eq_getElem (by omega),fun e he hb=>?_⟩;have hlt:=vI hed (Array.getElem?_eq_getElem (by omega)) e he hb;refine hl' _ (by omega) fun hm=>?_;rcases List.mem_cons.1 hm with hm|hm
     ·omega
     ·have:=(List.pairwise_cons.1 hpw).1 _ hm
      omega
    rw[hnil]at this;cases this
  refine⟨fun hr=>absurd hr hne,fun i hi=>?_⟩;rw[mem_ready]at hi;obtain⟨h1,o,h2,h3⟩:=hi;have hilt:=(Array.getElem?_eq_some_iff.1 h2).1;by_cases hin:i=n+1
  ·subst hin
   have hnil:rem=[]:=by
    cases rem with
    |nil=>rfl
    |cons i0 q=>
     exfalso;obtain⟨hi1,hi2⟩:=(hrem i0).1 (by simp);have hxl:=gP hcl _ _ _ (hlast i0 (by omega)) (fun o' ho' e he hb=>by rw[h2]at ho';cases ho';exact h3 e he hb);have hlt:i0<listed.size:=by omega
     simp[hlt]at hi2 hxl;rw[hi2]at hxl;cases hxl
   subst hnil;simp only[evL,Option.some.injEq]at he;subst he;refine wpOp_mono (fun a' w' hq=>?_) (hQ g a w h);refine ah6 (fun x hx=>?_) hq fuel;by_cases hxi:x=n+1
   ·subst hxi
    have hlt:n+1<listed.size:=by omega
    simp[hlt]
   ·rw[getD_set_ne true (fun e=>hxi e.symm)]
    have:=hl' x (by omega) (by simp);have hlt:x<listed.size:=by omega
    simp[hlt]at this⊢;exact this
  ·have hin2:i≠n:=fun e=>by
    subst e;have hlt:i<listed.size:=by omega
    simp[hlt]at hA h1;rw[hA]at h1;cases h1
   have hmem:=(hrem i).2 ⟨by omega,h1⟩;obtain⟨p,q,rfl⟩:=List.append_of_mem hmem;have hpi:∀x∈p,fP Γ imm ops x i=true:=fun x hx=>by
    have hxi:x<i:=by rw[List.pairwise_append]at hpw;exact hpw.2.2 x hx i (by simp)
    rcases(afO hp (show i<n by omega) hxi).symm with ho|ho
    ·exfalso
     have hxl:=gP hcl _ _ _ ho (fun o' ho' e he hb=>by rw[h2]at ho';cases ho';exact h3 e he hb);have:=((hrem x).1 (by simp[hx])).2;have hlt:x<listed.size:=by have:=((hrem x).1 (by simp[hx])).1;omega
     simp[hlt]at this hxl;rw[this]at hxl;cases hxl
    ·exact ho
   have hfr:=jm hpi he;rw[dN,h2]at hfr;dsimp only at hfr;split at hfr
   ·rename_i s1 hs1
    have hdo:iO N o=true:=(Array.all_eq_true_iff_forall_mem.1 hd) o (Array.mem_of_getElem? h2);refine adp h hΓ hio hdo hs1 h2 fun g' a' w' hr=>ih _ (p++q) g' s1 a' w' (by simp at hlen⊢;omega) (by simpa using hsz) (fun j=>?_) ?_ ?_ ?_ ?_ hr hfr
    ·by_cases hji:j=i
     ·subst hji
      have hnp:j∉p++q:=by
       rw[List.pairwise_append]at hpw;intro hm;rcases List.mem_append.1 hm with hm|hm
       ·have:=hpw.2.2 j hm j (by simp)
        omega
       ·have:=(List.pairwise_cons.1 hpw.2.1).1 j hm
        omega
      constructor
      ·intro hm;exact absurd hm hnp
      ·rintro⟨_,hf⟩
       have hlt:j<listed.size:=by omega
       simp[hlt]at hf
     ·rw[getD_set_ne true (fun e=>hji e.symm),←hrem j]
      simp[hji]
    ·exact getD_set_true hA
    ·rw[getD_set_ne true hin]
     exact hln
    ·rw[List.pairwise_append]at hpw⊢
     exact⟨hpw.1,(List.pairwise_cons.1 hpw.2.1).2,fun x hx y hy=>hpw.2.2 x hx y (by simp[hy])⟩
    ·intro j o' ho' hl e he hb
     by_cases hji:j=i
     ·subst hji
      rw[h2]at ho';cases ho';exact getD_set_true (h3 e he hb)
     ·rw[getD_set_ne true (fun e=>hji e.symm)]at hl
      exact getD_set_true (hcl j o' ho' hl e he hb)
   ·cases hfr
def amD (Γ:Ctx) (imm:Md) (ops:Array Oper) (xs:List Nat) (i:Nat):Bool:=match ops[i]? with|some o=> !fA Γ imm o&&(match o.dst with|some d=> !xs.contains d|none=>true)|none=>true
theorem amR {o:Oper} {s s1:AS} (h:fA Γ imm o=false) (he:qA P Γ imm ops o s=some s1):s1.ob=s.ob∧s1.nx=s.nx∧∀t,o.dst≠some t→s1.tm t=s.tm t:=by
 have key:∀p,s1=s.put o.dst p→s1.ob=s.ob∧s1.nx=s.nx∧∀t,o.dst≠some t→s1.tm t=s.tm t:=fun p e=>by subst e;exact⟨qN.1,qN.2,fun t ht=>xB ht⟩
 unfold qA at he;split at he
 ·unfold as1 at he
  rw[h]at he;simp only[Bool.false_eq_true,if_false,Option.map_eq_some_iff]at he;obtain⟨p,-,rfl⟩:=he;exact key p rfl
 ·cases he
  exact key _ rfl
 ·cases he
theorem ab3 {xs:List Nat}:∀{rem:List Nat} {s s':AS},(∀x∈rem,amD Γ imm ops xs x=true)→evL P Γ imm ops rem s=some s'→s'.ob=s.ob∧s'.nx=s.nx∧∀t∈xs,s'.tm t=s.tm t
 |[],s,s',_,h=>by simp only[evL,Option.some.injEq]at h;subst h;exact⟨rfl,rfl,fun _ _=>rfl⟩
 |i::rem,s,s',hf,h=>by
  rw[dN]at h;have h0:=hf i (by simp);have ht:=fun x hx=>hf x (List.mem_cons_of_mem _ hx);unfold amD at h0;cases ho:ops[i]? with
  |none=>rw[ho]at h;exact ab3 ht h
  |some o=>
   rw[ho]at h h0;dsimp only at h h0;split at h
   ·rename_i s1 hs1
    simp only[Bool.and_eq_true,Bool.not_eq_true']at h0;obtain⟨k1,k2,k3⟩:=amR h0.1 hs1;obtain⟨j1,j2,j3⟩:=ab3 ht h;refine⟨j1.trans k1,j2.trans k2,fun t hx=>(j3 t hx).trans (k3 t fun e=>?_)⟩;have:=h0.2;rw[e]at this;simp[hx]at this
   ·cases h
def at6 (d:Nat) (v:Value):Oper:={dst:=some d,op:=.move (.const v),type:=0,pos:= "",after:=#[],guard:=none}
theorem aby {i n:Nat} {o:Oper} (hn:n<ops.size):∀{rem:List Nat} {s:AS},(∀x∈rem,x<n)→(∀x∈rem,∀o',ops[x]?=some o'→o'.guard=none)→evL P Γ imm (ops.setIfInBounds n o) rem s=evL P Γ imm ops rem s
 |[],_,_,_=>rfl
 |x::rem,s,h,hg=>by
  rw[dN,dN];have hx:=h x (by simp);have e:(ops.setIfInBounds n o)[x]?=ops[x]?:=by rw[Array.getElem?_setIfInBounds,if_neg (by omega)]
  rw[e];cases ho:ops[x]? with
  |none=>exact aby (i:=i) hn (fun y hy=>h y (by simp[hy])) fun y hy=>hg y (by simp[hy])
  |some o'=>
   dsimp only
   have hgd:=hg x (by simp) o' ho;have e2:qA P Γ imm (ops.setIfInBounds n o) o' s=qA P Γ imm ops o' s:=by unfold qA iM;rw[hgd]
   rw[e2];cases qA P Γ imm ops o' s with
   |none=>rfl
   |some s1=>exact aby (i:=i) hn (fun y hy=>h y (by simp[hy])) fun y hy=>hg y (by simp[hy])
theorem aaZ {n:Nat} {o:Oper} (hn:ops[n]?=some o):∀{rem:List Nat} {s s1 s2:AS},evL P Γ imm ops rem s=some s1→qA P Γ imm ops o s1=some s2→evL P Γ imm ops (rem++[n]) s=some s2
 |[],s,s1,s2,h,h2=>by
  simp only[evL,Option.some.injEq]at h;subst h;rw[List.nil_append,dN,hn];dsimp only
  rw[h2];rfl
 |x::rem,s,s1,s2,h,h2=>by
  rw[List.cons_append,dN];rw[dN]at h;cases ho:ops[x]? with
  |none=>rw[ho]at h;exact aaZ hn h h2
  |some o'=>
   rw[ho]at h;dsimp only at h⊢;cases he:qA P Γ imm ops o' s with
   |none=>rw[he]at h;cases h
   |some s3=>rw[he]at h;exact aaZ hn h h2
theorem ak7 {n d:Nat} {v:Value} (hn:n<ops.size) {rem:List Nat} {s s1:AS} (hlt:∀x∈rem,x<n) (hg:∀x∈rem,∀o',ops[x]?=some o'→o'.guard=none) (hi:∀x∈rem,fP Γ imm (ops.setIfInBounds n (at6 d v)) x n=true) (h:evL P Γ imm ops rem s=some s1):evL P Γ imm ops rem (s.put (some d) (.val v))=some (s1.put (some d) (.val v)):=by
 have hs:∀s:AS,qA P Γ imm (ops.setIfInBounds n (at6 d v)) (at6 d v) s=some (s.put (some d) (.val v)):=fun s=>rfl;have hnn:(ops.setIfInBounds n (at6 d v))[n]?=some (at6 d v):=by rw[Array.getElem?_setIfInBounds,if_pos rfl,if_pos hn]
 have h1:evL P Γ imm (ops.setIfInBounds n (at6 d v)) rem s=some s1:=by rw[aby (i:=n) hn hlt hg];exact h
 have h2:=aaZ hnn h1 (hs s1);have h3:=jm (q:=[]) hi h2;rw[List.append_nil,dN,hnn]at h3;dsimp only at h3;rw[hs]at h3;dsimp only at h3;rw[aby (i:=n) hn hlt hg]at h3;exact h3
theorem awT {σ:Fgn} {n d:Nat} (hn:ops.size=n+2) {A:Oper} (hA:ops[n]?=some A) (hAg:A.guard=none) (hd:ops.all (iO N)=true) (hp:aaN Γ imm ops n=true) (hed:aaT ops=true) (hlast:∀i,i<n+1→uy ops ops.size i (n+1)=true) {xs:List Nat}
 (hfree:∀i,i<n→uy ops ops.size i n=true∨amD Γ imm ops xs i=true) (hsur:∀v i,i<n→uy ops ops.size i n=true∨fP Γ imm (ops.setIfInBounds n (at6 d v)) i n=true) (hgd:∀i,i<n→∀o',ops[i]?=some o'→o'.guard=none)
 {RA:Value→Fgn→Prop} {Q:Exit→Act→World→Prop} {s':AS}
 (hΓ:∀io w0 g s a w,Rel io w0 N g s a w→HzC io w00 w0 B σ.bk→σ.at_ w→gT P Γ io.wr w0)
 (hΓ':∀v σ',RA v σ'→∀io w0 g s a w,Rel io w0 N g s a w→HzC io w00 w0 B σ'.bk→σ'.at_ w→gT P Γ io.wr w0)
 (hAw:∀s a w,Zt P N B w00 s σ a w→s'.ob=s.ob→s'.nx=s.nx→(∀t∈xs,s'.tm t=s.tm t)→∀(Kn:Act→World→Prop) (Q':Exit→Act→World→Prop),(∀v σ' a' w',Zt P N B w00 (s.put (some d) (.val v)) σ' a' w'→RA v σ'→Kn a' w')→A.wp P a w Kn Q')
 (hU:∀v σ',RA v σ'→∀a' w',Zt P N B w00 (s'.put (some d) (.val v)) σ' a' w'→wpOp P ops Q (n+1) (Q .normal) a' w'):
 ∀(fuel:Nat) (listed:Array Bool) (rem:List Nat) (io:IoS) (w0:World) (g:Gh) (s:AS) (a:Act) (w:World),Rel io w0 N g s a w→HzC io w00 w0 B σ.bk→σ.at_ w→rem.length+2≤fuel→listed.size=ops.size→(∀i,i∈rem↔i<n∧listed.getD i true=false)→listed.getD n true=false→listed.getD (n+1) true=false→rem.Pairwise (· < ·)→
  (∀j o,ops[j]?=some o→listed.getD j true=true→∀e∈o.after,Region.binds .any e=true→listed.getD e.on false=true)→
  evL P Γ imm ops rem s=some s'→wpAny P .any ops Q fuel listed a w:=by
 intro fuel
 induction fuel with
 |zero=>intro listed rem io w0 g s a w _ _ _ hlen;omega
 |succ fuel ih=>
  intro listed rem io w0 g s a w h hC hM hlen hsz hrem hAn hln hpw hcl he;have hl':∀x,x<n→¬x∈rem→listed.getD x false=true:=fun x hx hm=>by
   rw[hrem]at hm;have hlt':x<listed.size:=by omega
   have:listed.getD x true≠false:=fun h0=>hm ⟨hx,h0⟩;simp[hlt']at this⊢;exact this
  have hne:Region.ready .any ops listed≠[]:=by
   intro hnil;cases rem with
   |nil=>
    have:n∈Region.ready .any ops listed:=by rw[mem_ready];refine⟨hAn,A,hA,fun e he hb=>?_⟩;exact hl' _ (vI hed hA e he hb) (by simp)
    rw[hnil]at this;cases this
   |cons i0 q=>
    obtain⟨hi1,hi2⟩:=(hrem i0).1 (by simp);have:i0∈Region.ready .any ops listed:=by
     rw[mem_ready];refine⟨hi2,ops[i0],Array.getElem?_eq_getElem (by omega),fun e he hb=>?_⟩;have hlt:=vI hed (Array.getElem?_eq_getElem (by omega)) e he hb;refine hl' _ (by omega) fun hm=>?_;rcases List.mem_cons.1 hm with hm|hm
     ·omega
     ·have:=(List.pairwise_cons.1 hpw).1 _ hm
      omega
    rw[hnil]at this;cases this
  refine⟨fun hr=>absurd hr hne,fun i hi=>?_⟩;rw[mem_ready]at hi;obtain⟨h1,o,h2,h3⟩:=hi;have hilt:=(Array.getElem?_eq_some_iff.1 h2).1;have hordl:∀x,uy ops ops.size x i=true→x<n→¬x∈rem:=fun x hox hxn hm=>by
   have hxl:=gP hcl _ _ _ hox (fun o' ho' e he hb=>by rw[h2]at ho';cases ho';exact h3 e he hb);have:=((hrem x).1 hm).2;have hlt:x<listed.size:=by omega
   simp[hlt]at this hxl;rw[this]at hxl;cases hxl
  by_cases hiU:i=n+1
  ·exfalso
   subst hiU;have hxl:=gP hcl _ _ _ (hlast n (by omega)) (fun o' ho' e he hb=>by rw[h2]at ho';cases ho';exact h3 e he hb);have hlt:n<listed.size:=by omega
   simp[hlt]at hAn hxl;rw[hAn]at hxl;cases hxl
  ·by_cases hin:i=n
   ·subst hin
    rw[hA]at h2;cases h2;have hrl:∀x∈rem,x<i:=fun x hx=>((hrem x).1 hx).1;have hrf:∀x∈rem,amD Γ imm ops xs x=true:=fun x hx=>by
     rcases hfree x (hrl x hx)with q|q
     ·exact absurd hx (hordl x q (hrl x hx))
     ·exact q
    obtain⟨k1,k2,k3⟩:=ab3 hrf he;unfold wpOp;simp only[hA];have hw:Region.wanted A (yielded ops a.tmps)=true:=by simp[Region.wanted,hAg]
    rw[hw];simp only[if_true];left;refine hAw s a w ⟨⟨io,w0,g,h,hC⟩,hM⟩ k1 k2 k3 _ _ fun v σ' a' w' hz hR=>?_;obtain⟨⟨io',w0',g',hr',hC'⟩,hM'⟩:=hz;have he2:=ak7 (d:=d) (v:=v) (by omega) hrl (fun x hx=>hgd x (hrl x hx)) (fun x hx=>by
     rcases hsur v x (hrl x hx)with q|q
     ·exact absurd hx (hordl x q (hrl x hx))
     ·exact q) he
    have hrun:=hΓ' v σ' hR io' w0' g' _ a' w' hr' hC' hM';refine asU hrun hC'.lt hd hn hp hed hlast (s':=s'.put (some d) (.val v)) (fun g2 a2 w2 hr2=>hU v σ' hR a2 w2 ⟨⟨io',w0',g2,hr2,hC'⟩,Fgn.same hC' hr' hr2 hM'⟩) fuel _ rem g' _ a' w' (by omega) (by simpa using hsz) (fun j=>?_) ?_ ?_ hpw ?_ hr' he2
    ·by_cases hji:j=i
     ·subst hji
      constructor
      ·intro hm;exact absurd (hrl j hm) (by omega)
      ·rintro⟨hf,_⟩;omega
     ·rw[getD_set_ne true (fun e=>hji e.symm),←hrem j]
    ·have hlt:i<listed.size:=by omega
     simp[hlt]
    ·rw[getD_set_ne true (by omega)]
     exact hln
    ·intro j o' ho' hl e he hb
     by_cases hji:j=i
     ·subst hji
      rw[hA]at ho';cases ho';exact getD_set_true (h3 e he hb)
     ·rw[getD_set_ne true (fun e=>hji e.symm)]at hl
      exact getD_set_true (hcl j o' ho' hl e he hb)
   ·have hmem:=(hrem i).2 ⟨by omega,h1⟩
    obtain⟨p,q,rfl⟩:=List.append_of_mem hmem;have hpi:∀x∈p,fP Γ imm ops x i=true:=fun x hx=>by
     have hxi:x<i:=by rw[List.pairwise_append]at hpw;exact hpw.2.2 x hx i (by simp)
     rcases(afO hp (show i<n by omega) hxi).symm with ho|ho
     ·exact absurd (by simp[hx]) (hordl x ho (by omega))
     ·exact ho
    have hfr:=jm hpi he;rw[dN,h2]at hfr;dsimp only at hfr;split at hfr
    ·rename_i s1 hs1
     have hdo:iO N o=true:=(Array.all_eq_true_iff_forall_mem.1 hd) o (Array.mem_of_getElem? h2);refine adp h (hΓ io w0 g s a w h hC hM) hC.lt hdo hs1 h2 fun g' a' w' hr=>ih _ (p++q) io w0 g' s1 a' w' hr hC (Fgn.same hC h hr hM) (by simp at hlen⊢;omega) (by simpa using hsz) (fun j=>?_) ?_ ?_ ?_ ?_ hfr
     ·by_cases hji:j=i
      ·subst hji
       have hnp:j∉p++q:=by
        rw[List.pairwise_append]at hpw;intro hm;rcases List.mem_append.1 hm with hm|hm
        ·have:=hpw.2.2 j hm j (by simp)
         omega
        ·have:=(List.pairwise_cons.1 hpw.2.1).1 j hm
         omega
       constructor
       ·intro hm;exact absurd hm hnp
       ·rintro⟨_,hf⟩
        have hlt:j<listed.size:=by omega
        simp[hlt]at hf
      ·rw[getD_set_ne true (fun e=>hji e.symm),←hrem j]
       simp[hji]
     ·rw[getD_set_ne true hin]
      exact hAn
     ·rw[getD_set_ne true hiU]
      exact hln
     ·rw[List.pairwise_append]at hpw⊢
      exact⟨hpw.1,(List.pairwise_cons.1 hpw.2.1).2,fun x hx y hy=>hpw.2.2 x hx y (by simp[hy])⟩
     ·intro j o' ho' hl e he hb
      by_cases hji:j=i
      ·subst hji
       rw[h2]at ho';cases ho';exact getD_set_true (h3 e he hb)
      ·rw[getD_set_ne true (fun e=>hji e.symm)]at hl
       exact getD_set_true (hcl j o' ho' hl e he hb)
    ·cases hfr
variable {c:Code} {K:X→AS→Fgn→Prop} {s:AS} {σ:Fgn}
theorem HZ.aEQ {id d:Nat} (n:Nat) {os pre:List Oper} {A U:Oper} {xs:List Nat} {RA:Value→Fgn→Prop} (hm:P.follows .mixedOrders=true) (h1:os.take n=pre) (h2:os.drop n=[A,U]) {gs:List (Option Nat)} (hgs:os.map (·.dst)=gs) (hnl:pre.length=n) (hAg:A.guard=none) (hUg:U.guard=none) (hgd:pre.all (fun o=>o.guard.isNone)=true) (hd:os.toArray.all (iO N)=true) (hp:aaN Γ imm os.toArray n=true) (hed:aaT os.toArray=true) (hlast:(List.range (n+1)).all (fun i=>uy os.toArray os.toArray.size i (n+1))=true)
 (hfree:(List.range n).all (fun i=>uy os.toArray os.toArray.size i n||amD Γ imm os.toArray xs i)=true) (hsur:∀v,(List.range n).all (fun i=>uy os.toArray os.toArray.size i n||fP Γ imm (os.toArray.setIfInBounds n (at6 d v)) i n)=true)
 (hΓ:∀io w0 g s a w,Rel io w0 N g s a w→HzC io w00 w0 B σ.bk→σ.at_ w→gT P Γ io.wr w0)
 (hwq:wq P Γ imm gs pre (fun s1=>(∀v σ',RA v σ'→∀io w0 g s a w,Rel io w0 N g s a w→HzC io w00 w0 B σ'.bk→σ'.at_ w→gT P Γ io.wr w0)∧
   (∀s a w,Zt P N B w00 s σ a w→s1.ob=s.ob→s1.nx=s.nx→(∀t∈xs,s1.tm t=s.tm t)→∀(Kn:Act→World→Prop) (Q':Exit→Act→World→Prop),(∀v σ' a' w',Zt P N B w00 (s.put (some d) (.val v)) σ' a' w'→RA v σ'→Kn a' w')→A.wp P a w Kn Q')∧
   (∀v σ',RA v σ'→∀a w,Zt P N B w00 (s1.put (some d) (.val v)) σ' a w→∀(Kn:Act→World→Prop) (Q':Exit→Act→World→Prop),(∀s2 σ2 a' w',Zt P N B w00 s2 σ2 a' w'→K .normal s2 σ2→Kn a' w')→U.wp P a w Kn Q')) s.tm s.ob s.nx):HZ P N B w00 (.region id os.toArray true) K s σ:=HZ.mk fun a w hs Q hQ=>by
 obtain⟨⟨io,w0,g,hr,hC⟩,hM⟩:=hs;subst hgs;rw[show os.map (·.dst)=os.toArray.toList.map (·.dst) by simp,←mK]at hwq;obtain⟨s1,e1,q1,q2,q3⟩:=pF _ _ hwq;have hops:os=pre++[A,U]:=by rw[←h1,←h2,List.take_append_drop]
 have hsz:os.toArray.size=n+2:=by show os.length=n+2;rw[hops,List.length_append,hnl];rfl
 have hlen2:os.length=n+2:=hsz;have hAn:os.toArray[n]?=some A:=by
  have:os[n]?=some A:=by rw[hops,←hnl];simp
  simpa using this
 have hUn:os.toArray[n+1]?=some U:=by
  have:os[n+1]?=some U:=by rw[hops,←hnl,List.getElem?_append_right (by omega)];simp
  simpa using this
 refine wp_region_any hm ?_;have hdrew:Rel io w0 N g s a {w with drawn:=w.drawn+1}:=⟨hr.nt,hr.df,fun t=>Rep.mono (w:=w) (w':={w with drawn:=w.drawn+1}) (g:=g) (g':=g) (Gh.le_refl g) (fun _ _ _=>rfl) _ _ (hr.tm t),fun o c ho=>by obtain⟨k1,k2,k3,k4⟩:=hr.ob o c ho;exact⟨k1,k2,k3,qm.mono (w:=w) (w':={w with drawn:=w.drawn+1}) (g:=g) (g':=g) k4 (Gh.le_refl g) k1 (fun _ _ _=>rfl) rfl⟩,hr.inj,hr.nx,hr.lt,hr.new,⟨hr.fr.os,hr.fr.tape,hr.fr.output,hr.fr.size,hr.fr.block⟩,hr.old,hr.fix,hr.hl,hr.tab⟩
 have hall:∀{f:Nat→Bool} {m:Nat},(List.range m).all f=true→∀i,i<m→f i=true:=fun h i hi=>(List.all_eq_true.1 h) i (by simpa using hi);refine awT (A:=A) (d:=d) (xs:=xs) (RA:=RA) hsz hAn hAg hd hp hed (fun i hi=>hall hlast i hi) (fun i hi=>by simpa [Bool.or_eq_true]using hall hfree i hi) (fun v i hi=>by simpa [Bool.or_eq_true]using hall (hsur v) i hi) (fun i hi o' ho'=>?_) (s':=s1) hΓ q1 q2 (fun v σ' hR a' w' hz=>?_) os.toArray.size _ (List.range n) io w0 g s a _ hdrew hC (σ.keep w _ (fun _ _=>rfl) hM) (by simp;omega) (by simp) (fun i=>?_) (by simp[hsz]) (by simp[hsz]) List.pairwise_lt_range (fun j o ho hl=>?_) ?_
 ·have ho2:os[i]?=some o':=by simpa using ho'
  rw[hops,List.getElem?_append_left (by omega)]at ho2;have:=(List.all_eq_true.1 hgd) o' (List.mem_of_getElem? ho2);simpa using this
 ·unfold wpOp
  simp only[hUn];have hw:Region.wanted U (yielded os.toArray a'.tmps)=true:=by simp[Region.wanted,hUg]
  rw[hw];simp only[if_true];left;exact q3 v σ' hR a' w' hz _ _ fun s2 σ2 a2 w2 hz2 hk=>hQ .normal s2 σ2 a2 w2 hz2 hk
 ·simp only[List.mem_range]
  constructor
  ·intro hi;exact⟨hi,by have:i<os.length:=(by omega);simp[this]⟩
  ·exact fun hi=>hi.1
 ·have hlt:=(Array.getElem?_eq_some_iff.1 ho).1
  simp at hlt;simp[hlt]at hl
 ·have:=aei (P:=P) (Γ:=Γ) (imm:=imm) (ops:=os.toArray) (l2:=[A,U]) pre 0 s (by rw[List.drop_zero];exact hops)
  rw[List.range_eq_range',←hnl,this];exact e1
end
structure En where
 w:ByteArray
 v:Value
 ns:List Int
def En.kv (m:En):Value×Value:=(.string m.w,m.v)
def abJ (l:List Int):List Value:=l.map (Value.int .i64)
theorem kJ {w w':World} {B e n:Nat} {v:Value} {xs:List Value} (h:w.ownsRow B e 1 v n xs) (hs:∀g,v.ownBlock=some g→w'.heap[g]?=w.heap[g]?):w'.ownsRow B e 1 v n xs:=by
 refine⟨h.1,?_⟩;rcases h.2 with h0|⟨g,cap,cur,rfl,h1,h2,h3⟩
 ·exact .inl h0
 ·exact .inr ⟨g,cap,cur,rfl,h1,(hs g rfl).trans h2,h3⟩
structure IxA (P:Program) (k T B b:Nat) (M:List En) (w:World):Prop where
 map:jK P k w b (M.map En.kv)
 row:∀m∈M,w.ownsRow B T 1 m.v m.ns.length (abJ m.ns)
 own:∀m∈M,∃g,m.v.ownBlock=some g∧g≠b
 dis:M.Pairwise fun x y=>x.v.ownBlock≠y.v.ownBlock
def inG (G:Nat→Prop) (b:Nat) (M:List En):Prop:=G b∧∀m∈M,∀g,m.v.ownBlock=some g→G g
section
variable {P:Program} {k T B b:Nat} {M:List En} {w w':World} {G:Nat→Prop}
theorem IxA.same (h:IxA P k T B b M w) (hb:w'.heap[b]?=w.heap[b]?) (hs:∀m∈M,∀g,m.v.ownBlock=some g→w'.heap[g]?=w.heap[g]?):IxA P k T B b M w':=
 ⟨h.map.same hb,fun m hm=>kJ (h.row m hm) (hs m hm),h.own,h.dis⟩
def ixF (P:Program) (k T B b:Nat) (G:Nat→Prop) (M:List En):Fgn:=⟨G,fun w=>inG G b M∧IxA P k T B b M w,fun w w' h hM=>⟨hM.1,hM.2.same (h b hM.1.1) fun m hm g hg=>h g (hM.1.2 m hm g hg)⟩⟩
theorem IxA.lt (h:IxA P k T B b M w) {m:En} (hm:m∈M) {g:Nat} (hg:m.v.ownBlock=some g):B≤g∧g<w.heap.size:=(h.row m hm).lt g hg
theorem IxA.made (w:World):IxA P k T B w.heap.size [] (w.alloc (.map #[] 0)):=⟨jK.made w,by simp,by simp,by simp⟩
structure IxH (P:Program) (k T B b:Nat) (M:List En) (m':En) (w:World):Prop where
 map:jK P k w b (M.map En.kv)
 row:∀m∈M,m.w≠m'.w→w.ownsRow B T 1 m.v m.ns.length (abJ m.ns)
 own:∀m∈M,∃g,m.v.ownBlock=some g∧g≠b
 dis:M.Pairwise fun x y=>x.v.ownBlock≠y.v.ownBlock
 new:w.ownsRow B T 1 m'.v m'.ns.length (abJ m'.ns)
 news:∃g,m'.v.ownBlock=some g∧g≠b
 newd:∀m∈M,m.w≠m'.w→m.v.ownBlock≠m'.v.ownBlock
theorem IxH.same {m':En} (h:IxH P k T B b M m' w) (hb:w'.heap[b]?=w.heap[b]?) (hs:∀m∈M,∀g,m.v.ownBlock=some g→w'.heap[g]?=w.heap[g]?) (hn:∀g,m'.v.ownBlock=some g→w'.heap[g]?=w.heap[g]?):IxH P k T B b M m' w':=
 ⟨h.map.same hb,fun m hm hw=>kJ (h.row m hm hw) (hs m hm),h.own,h.dis,kJ h.new hn,h.news,h.newd⟩
def ixH (P:Program) (k T B b:Nat) (G:Nat→Prop) (M:List En) (m':En):Fgn:=⟨G,fun w=>(inG G b M∧∀g,m'.v.ownBlock=some g→G g)∧IxH P k T B b M m' w,fun w w' h hM=>⟨hM.1,hM.2.same (h b hM.1.1.1) (fun m hm g hg=>h g (hM.1.1.2 m hm g hg)) fun g hg=>h g (hM.1.2 g hg)⟩⟩
def u7:List En→En→List En
 |[],m'=>[m']
 |m::M,m'=>if m.w=m'.w then m'::M else m::u7 M m'
theorem asz {M:List En} {m' m:En} (h:m∈u7 M m'):m=m'∨m∈M:=by
 induction M with
 |nil=>exact .inl (by simpa [u7]using h)
 |cons x M ih=>
  unfold u7 at h;split at h
  ·rcases List.mem_cons.1 h with h|h
   ·exact .inl h
   ·exact .inr (by simp[h])
  ·rcases List.mem_cons.1 h with h|h
   ·exact .inr (by simp[h])
   ·exact(ih h).imp id fun q=>by simp[q]
theorem abf:∀{M:List En} {m':En},(∀m∈M,m.w≠m'.w)→u7 M m'=M++[m']
 |[],m',h=>rfl
 |m::M,m',h=>by unfold u7;rw[if_neg (h m (by simp)),abf fun x hx=>h x (by simp[hx])];rfl
theorem ahq:∀{M1 M2:List En} {m m':En},(∀x∈M1,x.w≠m'.w)→m.w=m'.w→u7 (M1++m::M2) m'=M1++m'::M2
 |[],M2,m,m',h,e=>by simp[u7,e]
 |x::M1,M2,m,m',h,e=>by rw[List.cons_append,u7,if_neg (h x (by simp)),ahq (fun y hy=>h y (by simp[hy])) e];rfl
theorem aoA {M:List En} {s:ByteArray}:(∀m∈M,m.w≠s)∨∃M1 m M2,M=M1++m::M2∧m.w=s∧∀x∈M1,x.w≠s:=by
 induction M with
 |nil=>exact .inl (by simp)
 |cons x M ih=>
  by_cases h:x.w=s
  ·exact .inr ⟨[],x,M,rfl,h,by simp⟩
  ·rcases ih with h2|⟨M1,m,M2,rfl,h2,h3⟩
   ·exact .inl fun m hm=>by
     rcases List.mem_cons.1 hm with rfl|hm
     ·exact h
     ·exact h2 m hm
   ·exact .inr ⟨x::M1,m,M2,rfl,h2,fun y hy=>by
     rcases List.mem_cons.1 hy with rfl|hy
     ·exact h
     ·exact h3 y hy⟩
theorem jK.uniq {M1 M2:List En} {m:En} (h:jK P k w b ((M1++m::M2).map En.kv)):∀x,x∈M1∨x∈M2→x.w≠m.w:=by
 obtain⟨es,clock,_,H⟩:=h;have hk:=H.keys;rw[List.map_map,List.map_append,List.map_cons,List.nodup_append]at hk;obtain⟨k1,k2,k3⟩:=hk;rw[List.nodup_cons]at k2;intro x hx e;rcases hx with hx|hx
 ·exact k3 _ (List.mem_map.2 ⟨x,hx,rfl⟩) _ (List.mem_cons_self ..) (by simp[En.kv,e])
 ·exact k2.1 (List.mem_map.2 ⟨x,hx,by simp[En.kv,e]⟩)
theorem IxH.upd {m':En} {t e:TypeId} {kl:Lit} (h:IxH P k T B b M m' w) (K:Go.Maps.Keyed P k) (ht:P.underlying t=some (.map k e)) (hkey:keyOf P k (.string m'.w)=some kl):
 ∃w',(Instr.mapUpdate t (.map (some b)) (.string m'.w) m'.v).run P w=.ok () w'∧IxA P k T B b (u7 M m') w'∧w.grownBy w' (some b)∧w'.heap.size=w.heap.size:=by
 rcases aoA (M:=M) (s:=m'.w)with hn|⟨M1,m,M2,rfl,hm,h1⟩
 ·obtain⟨w',k1,k2,k3,k4⟩:=h.map.alc (v:=m'.v) K ht hkey (fun p hp=>by
   obtain⟨x,hx,rfl⟩:=List.mem_map.1 hp;intro e;cases e2:x with
   |mk a v n=>subst e2;simp only[En.kv,Value.string.injEq]at e;exact hn _ hx e)
  rw[abf hn];refine⟨w',k1,⟨by simpa [En.kv]using k2,fun x hx=>?_,fun x hx=>?_,?_⟩,k3,k4⟩
  ·rcases List.mem_append.1 hx with hx|hx
   ·obtain⟨g,hg,hgb⟩:=h.own x hx
    exact(h.row x hx (hn x hx)).kept k3 (.inr (by rw[hg];simpa using hgb))
   ·rw[List.mem_singleton.1 hx]
    obtain⟨g,hg,hgb⟩:=h.news;exact h.new.kept k3 (.inr (by rw[hg];simpa using hgb))
  ·rcases List.mem_append.1 hx with hx|hx
   ·exact h.own x hx
   ·rw[List.mem_singleton.1 hx];exact h.news
  ·rw[List.pairwise_append]
   exact⟨h.dis,by simp,fun x hx y hy=>by rw[List.mem_singleton.1 hy];exact h.newd x hx (hn x hx)⟩
 ·have hu:=jK.uniq h.map
  have hmap:=h.map;rw[List.map_append,List.map_cons,show m.kv=(.string m'.w,m.v) by rw[En.kv,hm]]at hmap;obtain⟨w',k1,k2,k3,k4⟩:=hmap.amq (v:=m'.v) K ht hkey;have hne:∀x,x∈M1∨x∈M2→x.w≠m'.w:=fun x hx=>hm▸hu x hx;have hin:∀x,x∈M1∨x∈M2→x∈M1++m::M2:=fun x hx=>by rcases hx with hx|hx<;>simp[hx]
  have hcase:∀x∈M1++m'::M2,x=m'∨(x∈M1∨x∈M2):=fun x hx=>by
   rcases List.mem_append.1 hx with hx|hx
   ·exact .inr (.inl hx)
   ·exact(List.mem_cons.1 hx).imp id .inr
  rw[ahq h1 hm];refine⟨w',k1,⟨by simpa [En.kv]using k2,fun x hx=>?_,fun x hx=>?_,?_⟩,k3,k4⟩
  ·rcases hcase x hx with rfl|hx
   ·obtain⟨g,hg,hgb⟩:=h.news
    exact h.new.kept k3 (.inr (by rw[hg];simpa using hgb))
   ·obtain⟨g,hg,hgb⟩:=h.own x (hin x hx)
    exact(h.row x (hin x hx) (hne x hx)).kept k3 (.inr (by rw[hg];simpa using hgb))
  ·rcases hcase x hx with rfl|hx
   ·exact h.news
   ·exact h.own x (hin x hx)
  ·have hd:=h.dis
   rw[List.pairwise_append,List.pairwise_cons]at hd⊢;refine⟨hd.1,⟨fun y hy=>fun e=>h.newd y (hin y (.inr hy)) (hne y (.inr hy)) e.symm,hd.2.1.2⟩,fun x hx y hy=>?_⟩;rcases List.mem_cons.1 hy with rfl|hy
   ·exact h.newd x (hin x (.inl hx)) (hne x (.inl hx))
   ·exact hd.2.2 x hx y (by simp[hy])
end
section
variable {P:Program} {N B:Nat} {w00:World} {σ:Fgn} {Γ:Ctx} {imm:Md} {c:Code} {K:X→AS→Fgn→Prop} {s:AS} {k T b:Nat} {M:List En} {G:Nat→Prop}
def atS (P:Program) (N B:Nat) (w00:World) (Γ:Ctx) (σ:Fgn):Prop:=∀io w0 g s a w,Rel io w0 N g s a w→HzC io w00 w0 B σ.bk→σ.at_ w→gT P Γ io.wr w0
theorem ar9 {Mo:MpO} {L:VL} (hΓ:ak P Γ) (hat:∀w,σ.at_ w→σ.bk Mo.b∧jK P k w Mo.b L) (hans:∀key c p,Mo.ans key c=some p→∀(w:World) (g:Gh),jK P k w Mo.b L→∃v,(Instr.lookup Mo.t (.map (some Mo.b)) key c).run P w=.ok v w∧Rep g w p v):atS P N B w00 (Γ.see Mo) σ:=by intro io w0 g s a w hr hC hM;refine⟨hΓ.1,hΓ.2.1,fun M' hM'=>?_⟩;cases hM';have hb:=(hat w hM).1;refine⟨hC.hb _ hb,fun q=>hC.ne _ (.inl q) hb,fun key c p hp w1 g1 he=>hans key c p hp w1 g1 ((hat w hM).2.same ?_)⟩;rw[he];exact(hr.fr.block _ (hC.hb _ hb) fun q=>hC.ne _ (.inl q) hb).symm
variable {ops:Array Oper} {J:AS→Fgn→Prop} {j:Nat} {o:Oper} {l l1 l2:List Oper}
theorem ZO.aGG {os:List Oper} (n:Nat) (hΓ:atS P N B w00 Γ σ) (hd:os.toArray.all (iO N)=true) (h1:l.take n=l1) (h2:l.drop n=l2) {gs:List (Option Nat)} (hg:os.map (·.dst)=gs) (hp:wq P Γ imm gs l1 (fun s1=>ZO P N B w00 os.toArray (j+l1.length) l2 J s1 σ) s.tm s.ob s.nx):ZO P N B w00 os.toArray j l J s σ:=ZO.mk fun hl a w hs Q hQ=>by
 obtain⟨⟨io,w0,g,hr,hC⟩,hM⟩:=hs;have hl12:l=l1++l2:=by rw[←h1,←h2,List.take_append_drop]
 subst hg;rw[show os.map (·.dst)=os.toArray.toList.map (·.dst) by simp,←mK]at hp;obtain⟨s1,e1,e2⟩:=pF _ _ hp;rw[hl12]at hl⊢;refine aeQ (hΓ io w0 g s a w hr hC hM) (fun b hb=>hC.lt b hb) (fun o ho=>(Array.all_eq_true_iff_forall_mem.1 hd) o (by simpa using ho)) l1 j hl hr e1 fun g' a' w' hr'=>?_;refine e2.go ?_ a' w' ⟨⟨io,w0,g',hr',hC⟩,Fgn.same hC hr hr' hM⟩ Q hQ;rw[←List.drop_drop,hl];simp
theorem ZO.aFI {t d:Nat} (ho:o.op=.makeMap t none) (hdst:o.dst=some d) (hd:d<N) (hg:o.guard=none) (h:∀b,B≤b→ZO P N B w00 ops (j+1) l J (s.put (some d) (.val (.map (some b)))) (ixF P k T B b (fun i=>i=b) [])):ZO P N B w00 ops j (o::l) J s Fgn.no:=by
 refine ZO.one hg fun a w hs Kn Q hK=>?_;have hs0:=hs;obtain⟨⟨io,w0,g,hr,hC⟩,hM⟩:=hs0;have hrun:(execOp a.eval o).run P w=.ok (.value (.map (some w.heap.size))) (w.alloc (.map #[] 0)):=by simp[execOp,ho,run_makeMap]
 unfold Oper.wp;rw[hrun,Oper.upon_value,hdst];have hg1:=World.grownBy_alloc w (.map #[] 0) none;have hz:=hs.lJ (σ':=ixF P k T B w.heap.size (fun i=>i=w.heap.size) []) (w':=w.alloc (.map #[] 0)) ⟨hg1.os,hg1.tape,hg1.output,hg1.size,fun i hi _=>hg1.block i hi (by simp)⟩ (fun i hi e=>by have:i=w.heap.size:=e;omega) (fun i e=>False.elim e) (fun b' e=>by have e:b'=w.heap.size:=e;rw[e];simp) ⟨⟨rfl,by simp⟩,IxA.made w⟩;exact hK _ _ _ _ (hz.put (fun x e=>by cases e;exact hd) fun g w=>by simp[Rep]) (h _ (Nat.le_trans hC.sz hr.fr.size))
theorem aEA {M:List En} (h:M.Pairwise fun x y=>x.v.ownBlock≠y.v.ownBlock):∀x∈M,∀y∈M,x.w≠y.w→x.v.ownBlock≠y.v.ownBlock:=by
 induction M with
 |nil=>simp
 |cons z M ih=>
  rw[List.pairwise_cons]at h;intro x hx y hy hw;rcases List.mem_cons.1 hx with e1|h1
  ·rcases List.mem_cons.1 hy with e2|h2
   ·rw[e1,e2]at hw
    exact absurd rfl hw
   ·rw[e1]
    exact h.1 y h2
  ·rcases List.mem_cons.1 hy with e2|h2
   ·rw[e2]
    exact fun e=>h.1 x h1 e.symm
   ·exact ih h.2 x h1 y h2 hw
def awL (M:List En) (wd:ByteArray) (v:Value) (ns:List Int):Prop:=(v=.slice none 0 0∧ns=[]∧∀m∈M,m.w≠wd)∨∃m∈M,m.w=wd∧m.v=v∧m.ns=ns
theorem awL.ans {t e:TypeId} {wd:ByteArray} {v0:Value} {ns:List Int} {kl:Lit} (hF:awL M wd v0 ns) (Ky:Go.Maps.Keyed P k) (ht:P.underlying t=some (.map k e)) (hkey:keyOf P k (.string wd)=some kl) (hz:∀w,(zeroValue e).run P w=.ok (.slice none 0 0) w):∀key c p,pG false (.string wd) (.val v0) key c=some p→∀(w:World) (g:Gh),jK P k w b (M.map En.kv)→∃v,(Instr.lookup t (.map (some b)) key c).run P w=.ok v w∧Rep g w p v:=by
 intro key c p hp w g hm;obtain⟨rfl,rfl,rfl⟩:=qh hp;refine⟨v0,?_,by simp[Rep]⟩;rcases hF with⟨rfl,_,h0⟩|⟨m,hm0,hw,rfl,_⟩
 ·exact hm.al3 Ky ht false hkey (hz w) fun q hq=>by
   obtain⟨m,hm1,rfl⟩:=List.mem_map.1 hq;intro e;cases e2:m with
   |mk a v n=>subst e2;simp only[En.kv,Value.string.injEq]at e;exact h0 _ hm1 e
 ·exact hm.aa5 Ky ht false hkey (List.mem_map.2 ⟨m,hm0,by rw[En.kv,hw]⟩)
theorem Zt.append {x y:Operand} {cl:Call} {t by_:Nat} {z:Value} {wd:ByteArray} {v0:Value} {ns:List Int} {p:Int} {d:Nat} (ho:o.op=.call cl) (hcl:cl={callee:=.builtin .append,args:=#[x,y],argTypes:=#[t,t]}) (hdst:o.dst=some d) (hdN:d<N)
 (he:dR P t=some T) (hz:zeroOf P T=some z) (hs1:bB P T=some 1) (hb:eH P T=some by_) (hzs:z.cells.size=1) (hx:look s.tm x=.val v0) (h2:bH s.ob 1 (look s.tm y)=some [.val (.int .i64 p)]) (hF:awL M wd v0 ns) (h63:ns.length+1≤1000000) (hby:by_≤8)
 {a:Act} {w:World} (hst:Zt P N B w00 s (ixF P k T B b G M) a w) {Kn:Act→World→Prop} {Q:Exit→Act→World→Prop}
 (h:∀v' G' a' w',Zt P N B w00 (s.put (some d) (.val v')) (ixH P k T B b G' M ⟨wd,v',ns++[p]⟩) a' w'→(∀i,G i→G' i)→(∀i,G' i→G i∨B≤i)→Kn a' w'):o.wp P a w Kn Q:=by
 have hst0:=hst;obtain⟨⟨io,w0,g,hr,hC⟩,⟨hGb,hGm⟩,hM⟩:=hst0;have hu:=oh he;obtain⟨i,hi,hib⟩:=qI hb;have hisz:=q8 hi hs1;have hiz:=qE hi hz;have hX:=hr.look x;rw[hx]at hX;simp only[Rep]at hX;obtain⟨ad,cap2,hY,q1,q2⟩:=jY hr (hr.look y) h2;rcases q2 with q2|⟨b2,off,rfl,q3⟩
 ·cases q2
 obtain⟨news,n1,n2,n3,n4⟩:=q3.news;have hnews:news=[.int .i64 p]:=by
  obtain⟨u,m1,m2,m3,m4⟩:=n4 0 _ rfl;simp only[Rep]at m1;subst m1;have:=m4 0 (by decide)
  match news,n1,this with
  |[x],_,e=>simpa [Value.cells]using e
 subst hnews;have hBw:B≤w.heap.size:=Nat.le_trans hC.sz hr.fr.size;have hown:w.ownsRow B T 1 v0 ns.length (abJ ns):=by
  rcases hF with⟨rfl,rfl,_⟩|⟨m,hm,_,rfl,rfl⟩
  ·exact World.ownsRow_nil _ _ _ _
  ·exact hM.row m hm
 obtain⟨v',w',k1,k2,k3,k4,k5⟩:=run_append_own_at (P:=P) w B t o.type T i z 1 by_ hu hi hiz hisz hib hzs (by decide) v0 ns.length (abJ ns) hown ⟨b2,off,none⟩ 1 cap2 [.int .i64 p] (by simp) (fun j u hj=>by rw[Addr.add_mid];exact n2 j u hj) n3 (by simp only[maxLen];omega) (by have:(ns.length+1)*by_≤1000000*8:=Nat.mul_le_mul h63 hby;omega) hBw
 have hrun:(execOp a.eval o).run P w=.ok (.value v') w':=by unfold execOp;simp only[ho,hcl,resolve,invoke,builtin,Sem.run_bind,Sem.run_pure,Result.andThen_ok,List.map_toArray,List.map_cons,List.map_nil,hX,hY,List.length_cons,List.length_nil,k1]
 unfold Oper.wp;rw[hrun,Oper.upon_value,hdst];have hbw:b<w.heap.size:=hM.map.lt;have hv0:∀g0,v0.ownBlock=some g0→G g0∧g0≠b:=fun g0 hg0=>by
  rcases hF with⟨rfl,_,_⟩|⟨m,hm,_,rfl,_⟩
  ·cases hg0
  ·obtain⟨g1,e1,e2⟩:=hM.own m hm
   rw[e1]at hg0;cases hg0;exact⟨hGm m hm _ e1,e2⟩
 obtain⟨g',hg',hg'b,hg'w,hg'G⟩:∃g',v'.ownBlock=some g'∧B≤g'∧g'<w'.heap.size∧(G g'∧v0.ownBlock=some g'∨g'=w.heap.size):=by
  have hne:v'≠ .slice none 0 0:=fun e=>by have:=(k4.1 e).2;omega
  rcases k2.2 with⟨e,_⟩|⟨g',cap,cur,rfl,e1,e2,_⟩
  ·exact absurd e hne
  ·refine⟨g',rfl,e1,(Array.getElem?_eq_some_iff.1 e2).1,?_⟩
   rcases k5 with k5|k5
   ·exact .inl ⟨(hv0 g' k5.symm).1,k5.symm⟩
   ·exact .inr (by simpa [Value.ownBlock]using k5)
 have hmne:∀m∈M,m.w≠wd→m.v.ownBlock=none∨m.v.ownBlock≠v0.ownBlock:=fun m hm hw=>by
  rcases hF with⟨rfl,_,_⟩|⟨m0,hm0,rfl,rfl,_⟩
  ·obtain⟨g1,e1,_⟩:=hM.own m hm
   exact .inr (by rw[e1];simp[Value.ownBlock])
  ·exact .inr (aEA hM.dis m hm m0 hm0 hw)
 refine h v' (fun i=>G i∨i=g') _ _ ((hst.lJ (σ':=ixH P k T B b (fun i=>G i∨i=g') M ⟨wd,v',ns++[p]⟩) ⟨k3.os,k3.tape,k3.output,k3.size,fun i hi hn=>k3.block i hi fun e=>hn (.inl (hv0 i e.symm).1)⟩ (fun i hi e=>?_) (fun i e=> .inl e) (fun b' e=>?_) ⟨⟨⟨.inl hGb,fun m hm g1 e=> .inl (hGm m hm g1 e)⟩,fun g1 e=> .inr (by rw[hg']at e;cases e;rfl)⟩,?_⟩).put (fun x e=>by cases e;exact hdN) fun g w=>by simp[Rep]) (fun i e=> .inl e) fun i e=>?_
 ·rcases e with e|rfl
  ·exact e
  ·rcases hg'G with⟨e,_⟩|e
   ·exact e
   ·omega
 ·rcases e with e|rfl
  ·exact Nat.lt_of_lt_of_le (hC.hb b' e) (Nat.le_trans hr.fr.size k3.size)
  ·exact hg'w
 ·refine⟨hM.map.kept k3 fun e=>(hv0 b e.symm).2 rfl,fun m hm hw=>(hM.row m hm).kept k3 (hmne m hm hw),hM.own,hM.dis,by simpa [abJ]using k2,⟨g',hg',?_⟩,fun m hm hw e=>?_⟩
  ·rcases hg'G with⟨_,e⟩|e
   ·exact(hv0 g' e).2
   ·omega
  ·dsimp only at e
   rw[hg']at e;rcases hg'G with⟨_,e2⟩|e2
   ·rcases hmne m hm hw with e3|e3
    ·rw[e3]at e;cases e
    ·exact e3 (by rw[e,e2])
   ·have:=(hM.lt hm e).2
    omega
 ·rcases e with e|rfl
  ·exact .inl e
  ·exact .inr hg'b
theorem Zt.told {x y z:Operand} {t e:TypeId} {m':En} {kl:Lit} (ho:o.op=.mapUpdate t x y z) (hdst:o.dst=none) (Ky:Go.Maps.Keyed P k) (ht:P.underlying t=some (.map k e)) (hkey:keyOf P k (.string m'.w)=some kl) (hx:look s.tm x=.val (.map (some b))) (hy:look s.tm y=.val (.string m'.w)) (hz:look s.tm z=.val m'.v)
 {a:Act} {w:World} (hst:Zt P N B w00 s (ixH P k T B b G M m') a w) {Kn:Act→World→Prop} {Q:Exit→Act→World→Prop} (h:∀a' w',Zt P N B w00 s (ixF P k T B b G (u7 M m')) a' w'→Kn a' w'):o.wp P a w Kn Q:=by
 have hst0:=hst;obtain⟨⟨io,w0,g,hr,hC⟩,⟨⟨hGb,hGm⟩,hGn⟩,hM⟩:=hst0;have hX:=hr.look x;have hY:=hr.look y;have hZ:=hr.look z;rw[hx]at hX;rw[hy]at hY;rw[hz]at hZ;simp only[Rep]at hX hY hZ;obtain⟨w',k1,k2,k3,k4⟩:=hM.upd Ky ht hkey;have hrun:(execOp a.eval o).run P w=.ok .skip w':=by unfold execOp;simp only[ho,hX,hY,hZ,Sem.run_bind,k1,Result.andThen_ok,Sem.run_pure]
 unfold Oper.wp;rw[hrun,Oper.upon_skip,hdst];refine h _ _ (hst.lJ (σ':=ixF P k T B b G (u7 M m')) ⟨k3.os,k3.tape,k3.output,k3.size,fun i hi hn=>k3.block i hi fun e=>hn (by cases e;exact hGb)⟩ (fun i _ e=>e) (fun i e=>e) (fun b' e=>?_) ⟨⟨hGb,fun m hm g1 e=>?_⟩,k2⟩)
 ·rw[k4]
  exact Nat.lt_of_lt_of_le (hC.hb b' e) hr.fr.size
 ·rcases asz hm with rfl|hm
  ·exact hGn g1 e
  ·exact hGm m hm g1 e
end
def numsOf (l:List W2) (w:ByteArray):List Int:=(l.filter fun x=>decide (x.1=w)).map (·.2)
structure GrI (l:List W2) (M:List En):Prop where
 ns:∀m∈M,m.ns=numsOf l m.w
 all:∀x∈l,∃m∈M,m.w=x.1
 of:∀m∈M,∃x∈l,x.1=m.w
 nd:(M.map (·.w)).Nodup
theorem yD (l:List W2) (x:W2) (w:ByteArray):numsOf (l++[x]) w=numsOf l w++(if x.1=w then [x.2]else []):=by unfold numsOf;rw[List.filter_append,List.map_append];by_cases h:x.1=w<;>simp[h]
theorem zO (l:List W2) (w:ByteArray):(numsOf l w).length≤l.length:=by unfold numsOf;rw[List.length_map];exact List.length_filter_le _ _
theorem GrI.len {l:List W2} {M:List En} {wd:ByteArray} {v:Value} {ns:List Int} (h:GrI l M) (hF:awL M wd v ns):ns.length≤l.length:=by
 rcases hF with⟨_,rfl,_⟩|⟨m,hm,_,_,rfl⟩
 ·exact Nat.zero_le _
 ·rw[h.ns m hm]
  exact zO _ _
theorem aBb {M:List En} {m':En} (h:∃m∈M,m.w=m'.w):(u7 M m').map (·.w)=M.map (·.w):=by
 induction M with
 |nil=>obtain⟨m,hm,_⟩:=h;cases hm
 |cons x M ih=>
  unfold u7;split
  ·rename_i hx
   simp[hx]
  ·rename_i hx
   rw[List.map_cons,List.map_cons,ih];obtain⟨m,hm,e⟩:=h;rcases List.mem_cons.1 hm with rfl|hm
   ·exact absurd e hx
   ·exact⟨m,hm,e⟩
theorem GrI.nil:GrI [] []:=⟨by simp,by simp,by simp,by simp⟩
theorem aq4 {M:List En} {m':En}:m'∈u7 M m':=by
 induction M with
 |nil=>simp[u7]
 |cons x M ih=>
  unfold u7;split
  ·simp
  ·simp[ih]
theorem amy {M:List En} {m m':En} (h:m∈M) (hw:m.w≠m'.w):m∈u7 M m':=by
 induction M with
 |nil=>cases h
 |cons x M ih=>
  unfold u7;split
  ·rename_i hx
   rcases List.mem_cons.1 h with rfl|h
   ·exact absurd hx hw
   ·simp[h]
  ·rcases List.mem_cons.1 h with rfl|h
   ·simp
   ·simp[ih h]
theorem acO {M:List En} {m m':En} (hn:(M.map (·.w)).Nodup) (h:m∈u7 M m'):m=m'∨(m∈M∧m.w≠m'.w):=by
 induction M with
 |nil=>exact .inl (by simpa [u7]using h)
 |cons x M ih=>
  rw[List.map_cons,List.nodup_cons]at hn;unfold u7 at h;split at h
  ·rename_i hx
   rcases List.mem_cons.1 h with h|h
   ·exact .inl h
   ·exact .inr ⟨by simp[h],fun e=>hn.1 (List.mem_map.2 ⟨m,h,by rw[e,hx]⟩)⟩
  ·rename_i hx
   rcases List.mem_cons.1 h with rfl|h
   ·exact .inr ⟨by simp,hx⟩
   ·exact(ih hn.2 h).imp id fun q=>⟨by simp[q.1],q.2⟩
theorem GrI.step {l:List W2} {M:List En} {x:W2} {v0 v':Value} {ns:List Int} (h:GrI l M) (hF:awL M x.1 v0 ns):GrI (l++[x]) (u7 M ⟨x.1,v',ns++[x.2]⟩):=by
 have hns:ns=numsOf l x.1:=by
  rcases hF with⟨_,rfl,h0⟩|⟨m,hm,e,_,rfl⟩
  ·unfold numsOf
   have:(l.filter fun y=>decide (y.1=x.1))=[]:=List.filter_eq_nil_iff.2 fun y hy e=>by obtain⟨m,hm,e2⟩:=h.all y hy;exact h0 m hm (e2.trans (by simpa using e))
   rw[this];rfl
  ·rw[h.ns m hm,e]
 refine⟨fun m hm=>?_,fun y hy=>?_,fun m hm=>?_,?_⟩
 ·rcases acO h.nd hm with rfl|⟨h1,h2⟩
  ·dsimp only
   rw[yD,if_pos rfl,hns]
  ·rw[yD,if_neg (fun e=>h2 e.symm),List.append_nil]
   exact h.ns m h1
 ·by_cases hw:y.1=x.1
  ·exact⟨_,aq4,hw.symm⟩
  ·rcases List.mem_append.1 hy with hy|hy
   ·obtain⟨m,hm,e⟩:=h.all y hy
    exact⟨m,amy hm (by rw[e];exact hw),e⟩
   ·rw[List.mem_singleton.1 hy]at hw
    exact absurd rfl hw
 ·rcases acO h.nd hm with rfl|⟨h1,h2⟩
  ·exact⟨x,by simp,rfl⟩
  ·obtain⟨y,hy,e⟩:=h.of m h1
   exact⟨y,by simp[hy],e⟩
 ·rcases hF with⟨_,_,h0⟩|⟨m,hm,e,_⟩
  ·rw[abf (fun m hm=>h0 m hm),List.map_append,List.nodup_append]
   refine⟨h.nd,by simp,fun a ha b hb=>?_⟩;obtain⟨m,hm,rfl⟩:=List.mem_map.1 ha;have hb:b=x.1:=by simpa using hb
   rw[hb];exact h0 m hm
  ·rw[aBb ⟨m,hm,e⟩]
   exact h.nd
structure IxI (P:Program) (k T B b r:Nat) (M:List En) (left:List Value) (w:World):Prop where
 it:lU P k w r b (M.map En.kv) left
 row:∀m∈M,w.ownsRow B T 1 m.v m.ns.length (abJ m.ns)
 own:∀m∈M,∃g,m.v.ownBlock=some g∧g≠b∧g≠r
 dis:M.Pairwise fun x y=>x.v.ownBlock≠y.v.ownBlock
def apV (P:Program) (b r:Nat) (cur:Option (ByteArray×Value)) (w:World):Prop:=∀p,cur=some p→∀w2:World,w2.heap[r]?=w.heap[r]?→w2.heap[b]?=w.heap[b]?→(Instr.entry (.pointer (some ⟨r,0,none⟩))).run P w2=.ok (.tuple #[.string p.1,p.2]) w2
section
variable {P:Program} {k T B b r:Nat} {M:List En} {left:List Value} {w w':World} {G:Nat→Prop}
theorem lU.same {L:VL} (h:lU P k w r b L left) (hb:w'.heap[b]?=w.heap[b]?) (hr:w'.heap[r]?=w.heap[r]?):lU P k w' r b L left:=by obtain⟨es,clock,since,seen,c0,h1,H,h2,rest⟩:=h;exact⟨es,clock,since,seen,c0,hb.trans h1,H,hr.trans h2,rest⟩
theorem IxI.same (h:IxI P k T B b r M left w) (hb:w'.heap[b]?=w.heap[b]?) (hr:w'.heap[r]?=w.heap[r]?) (hs:∀m∈M,∀g,m.v.ownBlock=some g→w'.heap[g]?=w.heap[g]?):IxI P k T B b r M left w':=
 ⟨h.it.same hb hr,fun m hm=>kJ (h.row m hm) (hs m hm),h.own,h.dis⟩
def ixI (P:Program) (k T B b r:Nat) (G:Nat→Prop) (M:List En) (left:List Value) (cur:Option (ByteArray×Value)):Fgn:=⟨G,fun w=>(inG G b M∧G r)∧IxI P k T B b r M left w∧apV P b r cur w,fun w w' h hM=>⟨hM.1,hM.2.1.same (h b hM.1.1.1) (h r hM.1.2) (fun m hm g hg=>h g (hM.1.1.2 m hm g hg)),fun p hp w2 h1 h2=>hM.2.2 p hp w2 (h1.trans (h r hM.1.2)) (h2.trans (h b hM.1.1.1))⟩⟩
variable {N:Nat} {w00:World} {s:AS} {ops:Array Oper} {J:AS→Fgn→Prop} {j:Nat} {o:Oper} {l:List Oper}
theorem ZO.aD7 {x:Operand} {t e:TypeId} {d:Nat} (ho:o.op=.range t x) (hdst:o.dst=some d) (hd:d<N) (hg:o.guard=none) (ht:P.underlying t=some (.map k e)) (hx:look s.tm x=.val (.map (some b)))
 (h:∀r,B≤r→ZO P N B w00 ops (j+1) l J (s.put (some d) (.val (.pointer (some ⟨r,0,none⟩)))) (ixI P k T B b r (fun i=>G i∨i=r) M ((M.map En.kv).map Prod.fst) none)):ZO P N B w00 ops j (o::l) J s (ixF P k T B b G M):=by
 refine ZO.one hg fun a w hs Kn Q hK=>?_;have hs0:=hs;obtain⟨⟨io,w0,g,hr,hC⟩,⟨hGb,hGm⟩,hM⟩:=hs0;have hX:=hr.look x;rw[hx]at hX;simp only[Rep]at hX;obtain⟨w',k1,k2,k3,k4⟩:=hM.map.range ht;have hrun:(execOp a.eval o).run P w=.ok (.value (.pointer (some ⟨w.heap.size,0,none⟩))) w':=by unfold execOp;simp only[ho,hX,Sem.run_bind,k1,Result.andThen_ok,Sem.run_pure]
 unfold Oper.wp;rw[hrun,Oper.upon_value,hdst];have hlt:∀i,G i→i<w.heap.size:=fun i e=>Nat.lt_of_lt_of_le (hC.hb i e) hr.fr.size;have hz:=hs.lJ (σ':=ixI P k T B b w.heap.size (fun i=>G i∨i=w.heap.size) M ((M.map En.kv).map Prod.fst) none) (w':=w') ⟨k3.os,k3.tape,k3.output,k3.size,fun i hi _=>k3.block i hi (by simp)⟩ (fun i hi e=>e.elim id fun e=>by omega) (fun i e=> .inl e) (fun b' e=>by
  rw[k4];rcases e with e|rfl
  ·have:=hlt b' e;omega
  ·omega) ⟨⟨⟨.inl hGb,fun m hm g1 e=> .inl (hGm m hm g1 e)⟩,.inr rfl⟩,⟨k2,fun m hm=>(hM.row m hm).kept k3 (by
   obtain⟨g1,e1,_⟩:=hM.own m hm;exact .inr (by rw[e1];simp)),fun m hm=>by obtain⟨g1,e1,e2⟩:=hM.own m hm;exact⟨g1,e1,e2,fun e=>by have:=hlt g1 (hGm m hm g1 e1);omega⟩,hM.dis⟩,fun p hp=>by cases hp⟩
 exact hK _ _ _ _ (hz.put (fun x e=>by cases e;exact hd) fun g w=>by simp[Rep]) (h _ (Nat.le_trans hC.sz hr.fr.size))
theorem ZO.aFT {x:Operand} {d:Nat} {cur:Option (ByteArray×Value)} (ho:o.op=.next x false) (hdst:o.dst=some d) (hd:d<N) (hg:o.guard=none) (hx:look s.tm x=.val (.pointer (some ⟨r,0,none⟩)))
 (h0:left=[]→ZO P N B w00 ops (j+1) l J (s.put (some d) (.tup [.val (.bool false)])) (ixI P k T B b r G M left cur))
 (h1:∀m∈M,Value.string m.w∈left→∀left',(∀x,x∈left'↔x∈left∧x≠ .string m.w)→left'.length<left.length→ZO P N B w00 ops (j+1) l J (s.put (some d) (.tup [.val (.bool true),.val (.string m.w),.val m.v])) (ixI P k T B b r G M left' (some (m.w,m.v)))):ZO P N B w00 ops j (o::l) J s (ixI P k T B b r G M left cur):=by
 refine ZO.one hg fun a w hs Kn Q hK=>?_;have hs0:=hs;obtain⟨⟨io,w0,g,hr,hC⟩,⟨⟨hGb,hGm⟩,hGr⟩,hM,hE⟩:=hs0;have hX:=hr.look x;rw[hx]at hX;simp only[Rep]at hX;have hlt:∀i,G i→i<w.heap.size:=fun i e=>Nat.lt_of_lt_of_le (hC.hb i e) hr.fr.size;rcases hM.it.next o.type with⟨hl,k1⟩|⟨key,v,w',left',q1,q2,k1,k2,k3,k4,k5,k6,k7⟩
 ·have hrun:(execOp a.eval o).run P w=.ok (.value (.tuple #[.bool false])) w:=by unfold execOp;simp only[ho,hX,Sem.run_bind,k1,Result.andThen_ok,Sem.run_pure]
  unfold Oper.wp;rw[hrun,Oper.upon_value,hdst];exact hK _ _ _ _ (hs.put (fun x e=>by cases e;exact hd) fun g w=>by simp[Rep,cZ]) (h0 hl)
 ·obtain⟨m,hm,e⟩:=List.mem_map.1 q2
  have e1:Value.string m.w=key:=congrArg Prod.fst e;have e2:m.v=v:=congrArg Prod.snd e;subst e1 e2;have hrun:(execOp a.eval o).run P w=.ok (.value (.tuple #[.bool true,.string m.w,m.v])) w':=by unfold execOp;simp only[ho,hX,Sem.run_bind,k1,Result.andThen_ok,Sem.run_pure]
  unfold Oper.wp;rw[hrun,Oper.upon_value,hdst];have hz:=hs.lJ (σ':=ixI P k T B b r G M left' (some (m.w,m.v))) (w':=w') ⟨k5.os,k5.tape,k5.output,k5.size,fun i hi hn=>k5.block i hi fun e=>hn (by cases e;exact hGr)⟩ (fun i _ e=>e) (fun i e=>e) (fun b' e=>by rw[k6];exact hlt b' e) ⟨⟨⟨hGb,hGm⟩,hGr⟩,⟨k2,fun m1 hm1=>(hM.row m1 hm1).kept k5 (by obtain⟨g1,e1,_,e3⟩:=hM.own m1 hm1;exact .inr (by rw[e1];simpa using e3)),hM.own,hM.dis⟩,fun p hp w2 g1 g2=>by cases hp;exact k7 w2 g1 g2⟩
  exact hK _ _ _ _ (hz.put (fun x e=>by cases e;exact hd) fun g w=>by simp[Rep,cZ]) (h1 m hm q1 left' k3 k4)
theorem ZO.azM {x:Operand} {d:Nat} {p:ByteArray×Value} (ho:o.op=.entry x) (hdst:o.dst=some d) (hd:d<N) (hg:o.guard=none) (hx:look s.tm x=.val (.pointer (some ⟨r,0,none⟩)))
 (h:ZO P N B w00 ops (j+1) l J (s.put (some d) (.tup [.val (.string p.1),.val p.2])) (ixI P k T B b r G M left (some p))):ZO P N B w00 ops j (o::l) J s (ixI P k T B b r G M left (some p)):=by
 refine ZO.one hg fun a w hs Kn Q hK=>?_;have hs0:=hs;obtain⟨⟨io,w0,g,hr,hC⟩,_,hM,hE⟩:=hs0;have hX:=hr.look x;rw[hx]at hX;simp only[Rep]at hX;have k1:=hE p rfl w rfl rfl;have hrun:(execOp a.eval o).run P w=.ok (.value (.tuple #[.string p.1,p.2])) w:=by unfold execOp;simp only[ho,hX,Sem.run_bind,k1,Result.andThen_ok,Sem.run_pure]
 unfold Oper.wp;rw[hrun,Oper.upon_value,hdst];exact hK _ _ _ _ (hs.put (fun x e=>by cases e;exact hd) fun g w=>by simp[Rep,cZ]) h
end
section
variable {P:Program} {k T B b r:Nat} {M M1 M2:List En} {m:En} {left:List Value} {w w':World} {G:Nat→Prop}
theorem IxI.turn {g:Nat} {ns':List Int} (h:IxI P k T B b r (M1++m::M2) left w) (hg:m.v.ownBlock=some g) (hw:w.grownBy w' (some g)) (ho:w'.ownsRow B T 1 m.v ns'.length (abJ ns')):IxI P k T B b r (M1++⟨m.w,m.v,ns'⟩::M2) left w':=by
 have hm:m∈M1++m::M2:=by simp
 obtain⟨g1,e1,e2,e3⟩:=h.own m hm;rw[hg]at e1;cases e1;have hd:=h.dis;rw[List.pairwise_append,List.pairwise_cons]at hd;have hne:∀x,x∈M1∨x∈M2→x.v.ownBlock≠some g:=fun x hx=>by
  rcases hx with hx|hx
  ·rw[←hg];exact hd.2.2 x hx m (by simp)
  ·rw[←hg];exact fun e=>hd.2.1.1 x hx e.symm
 have hin:∀x,x∈M1∨x∈M2→x∈M1++m::M2:=fun x hx=>by rcases hx with hx|hx<;>simp[hx]
 have hcase:∀x∈M1++(⟨m.w,m.v,ns'⟩:En)::M2,x=⟨m.w,m.v,ns'⟩∨(x∈M1∨x∈M2):=fun x hx=>by
  rcases List.mem_append.1 hx with hx|hx
  ·exact .inr (.inl hx)
  ·exact(List.mem_cons.1 hx).imp id .inr
 refine⟨?_,fun x hx=>?_,fun x hx=>?_,?_⟩
 ·have:=h.it.kept hw (by simpa using fun e=>e2 e.symm) (by simpa using fun e=>e3 e.symm)
  simpa [En.kv]using this
 ·rcases hcase x hx with rfl|hx
  ·exact ho
  ·exact(h.row x (hin x hx)).kept hw (.inr (hne x hx))
 ·rcases hcase x hx with rfl|hx
  ·exact⟨g,hg,e2,e3⟩
  ·exact h.own x (hin x hx)
 ·rw[List.pairwise_append,List.pairwise_cons]
  refine⟨hd.1,hd.2.1,fun x hx y hy=>?_⟩;rcases List.mem_cons.1 hy with rfl|hy
  ·exact hd.2.2 x hx m (by simp)
  ·exact hd.2.2 x hx y (by simp[hy])
theorem apV.kept {cur:Option (ByteArray×Value)} (h:apV P b r cur w) (hb:w'.heap[b]?=w.heap[b]?) (hr:w'.heap[r]?=w.heap[r]?):apV P b r cur w':=fun p hp w2 h1 h2=>h p hp w2 (h1.trans hr) (h2.trans hb)
theorem afm {e g n c j:Nat} {xs:List Value} (h:w.ownsRow B e 1 (.slice (some ⟨g,0,none⟩) n c) n xs) (hj:j≤n):w.ownsRow B e 1 (.slice (some ⟨g,0,none⟩) j c) j (xs.take j):=by
 obtain⟨h1,h2⟩:=h;rcases h2 with⟨e0,_⟩|⟨g',cap,cur,e0,k1,k2,k3,k4,k5,k6⟩
 ·cases e0
 ·cases e0
  refine⟨by rw[List.length_take,h1];omega,.inr ⟨g,c,cur,rfl,k1,k2,by omega,k4,k5,?_⟩⟩;rw[←k6,List.take_take];congr 1;omega
theorem IxI.told {t e:TypeId} {kl:Lit} {g n c j:Nat} (h:IxI P k T B b r (M1++m::M2) left w) (hv:m.v=.slice (some ⟨g,0,none⟩) n c) (hn:m.ns.length=n) (hj:j≤n) (K:Go.Maps.Keyed P k) (ht:P.underlying t=some (.map k e)) (hkey:keyOf P k (.string m.w)=some kl):
 ∃w',(Instr.mapUpdate t (.map (some b)) (.string m.w) (.slice (some ⟨g,0,none⟩) j c)).run P w=.ok () w'∧IxI P k T B b r (M1++⟨m.w,.slice (some ⟨g,0,none⟩) j c,m.ns.take j⟩::M2) left w'∧w.grownBy w' (some b)∧w'.heap.size=w.heap.size:=by
 have hm:m∈M1++m::M2:=by simp
 obtain⟨g1,e1,e2,e3⟩:=h.own m hm;have hg1:g1=g:=by rw[hv]at e1;cases e1;rfl
 subst hg1;have hmap:=h.it;rw[List.map_append,List.map_cons,show m.kv=(.string m.w,m.v)from rfl]at hmap;obtain⟨w',k1,k2,k3,k4⟩:=hmap.upd (v:=.slice (some ⟨g1,0,none⟩) j c) K ht hkey;have hin:∀x,x∈M1∨x∈M2→x∈M1++m::M2:=fun x hx=>by rcases hx with hx|hx<;>simp[hx]
 have hcase:∀x∈M1++(⟨m.w,.slice (some ⟨g1,0,none⟩) j c,m.ns.take j⟩:En)::M2,x=⟨m.w,.slice (some ⟨g1,0,none⟩) j c,m.ns.take j⟩∨(x∈M1∨x∈M2):=fun x hx=>by
  rcases List.mem_append.1 hx with hx|hx
  ·exact .inr (.inl hx)
  ·exact(List.mem_cons.1 hx).imp id .inr
 refine⟨w',k1,⟨by simpa [En.kv]using k2,fun x hx=>?_,fun x hx=>?_,?_⟩,k3,k4⟩
 ·rcases hcase x hx with rfl|hx
  ·have h1:=h.row m hm
   rw[hv,hn]at h1;have h2:=afm h1 hj;dsimp only
   rw[List.length_take,hn,Nat.min_eq_left hj];refine World.ownsRow.kept ?_ k3 (.inr (by simpa [Value.ownBlock]using e2));simpa [abJ,List.map_take]using h2
  ·obtain⟨g2,q1,q2,_⟩:=h.own x (hin x hx)
   exact(h.row x (hin x hx)).kept k3 (.inr (by rw[q1];simpa using q2))
 ·rcases hcase x hx with rfl|hx
  ·exact⟨g1,rfl,e2,e3⟩
  ·exact h.own x (hin x hx)
 ·have hd:=h.dis
  rw[List.pairwise_append,List.pairwise_cons]at hd⊢;have hb1:m.v.ownBlock=(Value.slice (some ⟨g1,0,none⟩) j c).ownBlock:=by rw[hv];rfl
  refine⟨hd.1,⟨fun y hy=>?_,hd.2.1.2⟩,fun x hx y hy=>?_⟩
  ·dsimp only
   rw[←hb1];exact hd.2.1.1 y hy
  ·rcases List.mem_cons.1 hy with rfl|hy
   ·dsimp only
    rw[←hb1];exact hd.2.2 x hx m (by simp)
   ·exact hd.2.2 x hx y (by simp[hy])
end
end
end Go.Proofs.YtmmafcjjlbgnkaaGreatDoor
