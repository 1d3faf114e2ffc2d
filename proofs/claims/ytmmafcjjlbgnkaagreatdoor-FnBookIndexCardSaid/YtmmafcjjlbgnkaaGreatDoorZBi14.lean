/- What the proof rests on, part 14: contracts of functions. No condition beyond what each states. -/
import Derived.Test.YtmmafcjjlbgnkaaGreatDoorZBi13
namespace Go.Proofs.YtmmafcjjlbgnkaaGreatDoor
open Go.RowKit
open Nat renaming reduceEqDiff→Rq,reduceBEq→Rb,reduceAdd→Ra,reduceSub→Rs
open Int renaming reduceToNat→Rt
set_option linter.all false
set_option maxHeartbeats 32000000
noncomputable section
theorem wu {g:Gh} {w:World}:∀{cs:List PV} {vs:List Value},iY cs=some vs→cZ g w cs vs
 |[],vs,h=>by simp only[iY,Option.some.injEq]at h;subst h;simp[cZ]
 | .val v::cs,vs,h=>by simp only[iY,Option.map_eq_some_iff]at h;obtain⟨us,h1,rfl⟩:=h;simp only[cZ];exact⟨v,us,rfl,by simp[Rep],wu h1⟩
 | .dead::_,_,h| .lst .. ::_,_,h| .ptr .. ::_,_,h| .own .. ::_,_,h| .row .. ::_,_,h| .agg _::_,_,h| .tup _::_,_,h=>by simp[iY]at h
theorem xC {g:Gh} {w:World} {p:PV} {v:Value} (h:toVal p=some v):Rep g w p v:=by
 cases p with
 |val u=>simp only[toVal,Option.some.injEq]at h;subst h;simp[Rep]
 |agg cs=>simp only[toVal,Option.map_eq_some_iff]at h;obtain⟨vs,h1,rfl⟩:=h;simp only[Rep];exact⟨_,rfl,by simpa using wu h1⟩
 |_=>simp[toVal]at h
theorem afW {g:Gh} {w:World} {p1 p2:PV} {v1 v2:Value} (h1:Rep g w p1 v1) (h2:Rep g w p2 v2):Rep g w (.tup [p1,p2]) (.tuple #[v1,v2]):=by simp only[Rep,cZ];exact⟨_,rfl,_,_,rfl,h1,_,_,rfl,h2,rfl⟩
def pG (c0:Bool) (k0:Value) (p:PV):Value→Bool→Option PV:=open Classical in fun key c=>if key=k0∧c=c0 then some p else none
theorem qh {c0 c:Bool} {k0 key:Value} {p q:PV} (h:pG c0 k0 p key c=some q):key=k0∧c=c0∧q=p:=by
 unfold pG at h;split at h
 ·rename_i hc;cases h;exact⟨hc.1,hc.2,rfl⟩
 ·cases h
theorem afU {Γ:Ctx} {t b:Nat} {c:Bool} {k0:Value} {p:PV}:lkP (Γ.see ⟨t,b,pG c k0 p⟩).mp t (.val (.map (some b))) (some k0) c=some p:=by simp[Ctx.see,lkP,pG]
section
variable {P:Program} {k:TypeId} {N B:Nat} {w00:World} {Γ:Ctx} {imm:Md} {ops:Array Oper} {io:IoS} {w0:World}
theorem aei {l2:List Oper}:∀(l:List Oper) (j:Nat) (s:AS),ops.toList.drop j=l++l2→evL P Γ imm ops (List.range' j l.length) s=je P Γ imm ops l s
 |[],j,s,hl=>rfl
 |o::l,j,s,hl=>by
  have hk:ops[j]?=some o:=by have:=congrArg (·[0]?) hl;simpa using this
  have hl':ops.toList.drop (j+1)=l++l2:=by rw[←List.drop_drop,hl];rfl
  simp only[List.length_cons,List.range'_succ,evL,hk,je];cases qA P Γ imm ops o s with
  |none=>rfl
  |some s'=>exact aei l (j+1) s' hl'
theorem ah6 {Q:Exit→Act→World→Prop} {a:Act} {w:World} {listed:Array Bool} (h:∀i,i<ops.size→listed.getD i true=true) (hQ:Q .normal a w):∀fuel,wpAny P .any ops Q fuel listed a w:=by
 have hnil:Region.ready .any ops listed=[]:=by
  cases hr:Region.ready .any ops listed with
  |nil=>rfl
  |cons i l=>
   have hm:i∈Region.ready .any ops listed:=by rw[hr];simp
   rw[mem_ready]at hm;obtain⟨h1,o,h2,_⟩:=hm;rw[h i (Array.getElem?_eq_some_iff.1 h2).1]at h1;cases h1
 intro fuel;cases fuel with
 |zero=>exact⟨hnil,hQ⟩
 |succ fuel=>exact⟨fun _=>hQ,fun i hi=>by rw[hnil]at hi;cases hi⟩
theorem aqz (hΓ:gT P Γ io.wr w0) (hio:∀b,io b→b<w0.heap.size) (hd:ops.all (iO N)=true) {n:Nat} (hn:ops.size=n+1) (hok:qB Γ imm ops=true) (hlast:∀i,i<n→uy ops ops.size i n=true) {Q:Exit→Act→World→Prop} {s':AS}
 (hQ:∀g' a' w',Rel io w0 N g' s' a' w'→wpOp P ops Q n (Q .normal) a' w'):
 ∀(fuel:Nat) (listed:Array Bool) (rem:List Nat) (g:Gh) (s:AS) (a:Act) (w:World),rem.length+1≤fuel→listed.size=ops.size→(∀i,i∈rem↔i<n∧listed.getD i true=false)→listed.getD n true=false→rem.Pairwise (· < ·)→
  (∀j o,ops[j]?=some o→listed.getD j true=true→∀e∈o.after,Region.binds .any e=true→listed.getD e.on false=true)→
  Rel io w0 N g s a w→evL P Γ imm ops rem s=some s'→wpAny P .any ops Q fuel listed a w:=by
 have hfacts:=mU hok;have hon:ops[n]?=some ops[n]:=Array.getElem?_eq_getElem (by omega);intro fuel
 induction fuel with
 |zero=>intro listed rem g s a w hlen;omega
 |succ fuel ih=>
  intro listed rem g s a w hlen hsz hrem hln hpw hcl h he;have hl':∀x,x<n→¬x∈rem→listed.getD x false=true:=fun x hx hm=>by
   rw[hrem]at hm;have hlt':x<listed.size:=by omega
   have:listed.getD x true≠false:=fun h0=>hm ⟨hx,h0⟩;simp[hlt']at this⊢;exact this
  have hne:Region.ready .any ops listed≠[]:=by
   intro hnil;cases rem with
   |nil=>
    have:n∈Region.ready .any ops listed:=by rw[mem_ready];refine⟨hln,ops[n],hon,fun e he hb=>?_⟩;exact hl' _ ((hfacts n (by omega)).2 _ hon e he hb) (by simp)
    rw[hnil]at this;cases this
   |cons i0 q=>
    obtain⟨hi1,hi2⟩:=(hrem i0).1 (by simp);have:i0∈Region.ready .any ops listed:=by
     rw[mem_ready];refine⟨hi2,ops[i0],Array.getElem?_eq_getElem (by omega),fun e he hb=>?_⟩;have hlt:=(hfacts i0 (by omega)).2 _ (Array.getElem?_eq_getElem (by omega)) e he hb;refine hl' _ (by omega) fun hm=>?_;rcases List.mem_cons.1 hm with hm|hm
     ·omega
     ·have:=(List.pairwise_cons.1 hpw).1 _ hm
      omega
    rw[hnil]at this;cases this
  refine⟨fun hr=>absurd hr hne,fun i hi=>?_⟩;rw[mem_ready]at hi;obtain⟨h1,o,h2,h3⟩:=hi;have hilt:=(Array.getElem?_eq_some_iff.1 h2).1;by_cases hin:i=n
  ·subst hin
   have hnil:rem=[]:=by
    cases rem with
    |nil=>rfl
    |cons i0 q=>
     exfalso;obtain⟨hi1,hi2⟩:=(hrem i0).1 (by simp);have hxl:=gP hcl _ _ _ (hlast i0 hi1) (fun o' ho' e he hb=>by rw[h2]at ho';cases ho';exact h3 e he hb);have hlt:i0<listed.size:=by omega
     simp[hlt]at hi2 hxl;rw[hi2]at hxl;cases hxl
   subst hnil;simp only[evL,Option.some.injEq]at he;subst he;refine wpOp_mono (fun a' w' hq=>?_) (hQ g a w h);refine ah6 (fun x hx=>?_) hq fuel;by_cases hxi:x=i
   ·subst hxi
    have hlt:x<listed.size:=by omega
    simp[hlt]
   ·rw[getD_set_ne true (fun e=>hxi e.symm)]
    have:=hl' x (by omega) (by simp);have hlt:x<listed.size:=by omega
    simp[hlt]at this⊢;exact this
  ·have hmem:=(hrem i).2 ⟨by omega,h1⟩
   obtain⟨p,q,rfl⟩:=List.append_of_mem hmem;have hp:∀x∈p,fP Γ imm ops x i=true:=fun x hx=>by
    have hxi:x<i:=by rw[List.pairwise_append]at hpw;exact hpw.2.2 x hx i (by simp)
    rcases((hfacts i hilt).1 x hxi).symm with ho|ho
    ·exfalso
     have hxl:=gP hcl _ _ _ ho (fun o' ho' e he hb=>by rw[h2]at ho';cases ho';exact h3 e he hb);have:=((hrem x).1 (by simp[hx])).2;have hlt:x<listed.size:=by have:=((hrem x).1 (by simp[hx])).1;omega
     simp[hlt]at this hxl;rw[this]at hxl;cases hxl
    ·exact ho
   have hfr:=jm hp he;rw[dN,h2]at hfr;dsimp only at hfr;split at hfr
   ·rename_i s1 hs1
    have hdo:iO N o=true:=(Array.all_eq_true_iff_forall_mem.1 hd) o (Array.mem_of_getElem? h2);refine adp h hΓ hio hdo hs1 h2 fun g' a' w' hr=>ih _ (p++q) g' s1 a' w' (by simp at hlen⊢;omega) (by simpa using hsz) (fun j=>?_) ?_ ?_ ?_ hr hfr
    ·by_cases hji:j=i
     ·subst hji
      have hnp:j∉p++q:=by
       rw[List.pairwise_append]at hpw;intro hm;rcases List.mem_append.1 hm with hm|hm
       ·have:=hpw.2.2 j hm j (by simp)
        omega
       ·have:=(List.pairwise_cons.1 hpw.2.1).1 j hm
        omega
      constructor
      ·intro hm;exact absurd hm hnp
      ·rintro⟨_,hf⟩
       have hlt:j<listed.size:=by omega
       simp[hlt]at hf
     ·rw[getD_set_ne true (fun e=>hji e.symm),←hrem j]
      simp[hji]
    ·rw[getD_set_ne true hin]
     exact hln
    ·rw[List.pairwise_append]at hpw⊢
     exact⟨hpw.1,(List.pairwise_cons.1 hpw.2.1).2,fun x hx y hy=>hpw.2.2 x hx y (by simp[hy])⟩
    ·intro j o' ho' hl e he hb
     by_cases hji:j=i
     ·subst hji
      rw[h2]at ho';cases ho';exact getD_set_true (h3 e he hb)
     ·rw[getD_set_ne true (fun e=>hji e.symm)]at hl
      exact getD_set_true (hcl j o' ho' hl e he hb)
   ·cases hfr
variable {c:Code} {K:X→AS→Sg→Prop} {J:AS→Sg→Prop} {s:AS} {σ:Sg} {b:Nat} {L:VL}
inductive Upd (L:VL) (key val:Value):VL→Prop
 |new (h:∀p∈L,p.1≠key):Upd L key val (L++[(key,val)])
 |old {L1 L2:VL} {v0:Value} (h:L=L1++(key,v0)::L2):Upd L key val (L1++(key,val)::L2)
theorem jK.upd {t e:TypeId} {w:World} {key val:Value} {kl:Lit} (h:jK P k w b L) (Ky:Go.Maps.Keyed P k) (ht:P.underlying t=some (.map k e)) (hkey:keyOf P k key=some kl):
 ∃w' L',(Instr.mapUpdate t (.map (some b)) key val).run P w=.ok () w'∧jK P k w' b L'∧w.grownBy w' (some b)∧Upd L key val L':=by
 by_cases hm:∃v0,(key,v0)∈L
 ·obtain⟨v0,hm⟩:=hm
  obtain⟨L1,L2,rfl⟩:=List.append_of_mem hm;obtain⟨w',q1,q2,q3,_⟩:=h.amq (v:=val) Ky ht hkey;exact⟨w',_,q1,q2,q3,.old rfl⟩
 ·have hm':∀p∈L,p.1≠key:=fun p hp e1=>hm ⟨p.2,by rw[←e1];exact hp⟩
  obtain⟨w',q1,q2,q3,_⟩:=h.alc (v:=val) Ky ht hkey hm';exact⟨w',_,q1,q2,q3,.new hm'⟩
theorem atH {o:Oper} {t e:TypeId} {x y z:Operand} {key val:Value} {kl:Lit} (Ky:Go.Maps.Keyed P k) (ht:P.underlying t=some (.map k e)) (ho:o.op=.mapUpdate t x y z) (hdst:o.dst=none) (hx:look s.tm x=.val (.map (some b))) (hy:toVal (look s.tm y)=some key) (hz:toVal (look s.tm z)=some val) (hkey:keyOf P k key=some kl)
 {a:Act} {w:World} (hs:St P k N B w00 s (some (b,L)) a w) {Kn:Act→World→Prop} {Q:Exit→Act→World→Prop} (hK:∀L' w',St P k N B w00 s (some (b,L')) a w'→Upd L key val L'→Kn a w'):o.wp P a w Kn Q:=by
 have hs0:=hs;obtain⟨⟨io,w0,g,hr,hC⟩,hM⟩:=hs;have ex:=hr.look x;rw[hx]at ex;simp only[Rep]at ex;have ey:=fG (hr.look y) hy;have ez:=fG (hr.look z) hz;obtain⟨w',L',q1,q2,q3,q4⟩:=(hM _ _ rfl).upd (val:=val) Ky ht hkey;have hrun:(execOp a.eval o).run P w=.ok .skip w':=by unfold execOp;simp only[ho,ex,ey,ez,Sem.run_bind,q1,Result.andThen_ok,Sem.run_pure]
 unfold Oper.wp;rw[hrun,Oper.upon_skip,hdst];exact hK L' w' (hs0.lJ q3 q2) q4
theorem HO.upd {o:Oper} {j:Nat} {l:List Oper} {t e:TypeId} {x y z:Operand} {key val:Value} {kl:Lit} (Ky:Go.Maps.Keyed P k) (ht:P.underlying t=some (.map k e)) (ho:o.op=.mapUpdate t x y z) (hdst:o.dst=none) (hg:o.guard=none) (hx:look s.tm x=.val (.map (some b))) (hy:toVal (look s.tm y)=some key) (hz:toVal (look s.tm z)=some val) (hkey:keyOf P k key=some kl)
 (h:∀L',Upd L key val L'→HO P k N B w00 ops (j+1) l J s (some (b,L'))):HO P k N B w00 ops j (o::l) J s (some (b,L)):=
 HO.one hg fun a w hs Kn Q hK=>atH Ky ht ho hdst hx hy hz hkey hs fun L' w' hs' hu=>hK s _ a w' hs' (h L' hu)
theorem HY.aGZ {id n:Nat} {o:Oper} {pre:List Oper} {t e:TypeId} {x y z:Operand} (hm:P.follows .mixedOrders=true) (hΓ:ak P Γ) (Ky:Go.Maps.Keyed P k) (ht:P.underlying t=some (.map k e)) (hd:ops.all (iO N)=true) (hok:qB Γ imm ops=true) (hlast:(List.range n).all (fun i=>uy ops ops.size i n)=true)
 (hops:ops.toList=pre++[o]) (hn:pre.length=n) (ho:o.op=.mapUpdate t x y z) (hdst:o.dst=none) (hg:o.guard=none) {gs:List (Option Nat)} (hgs:ops.toList.map (·.dst)=gs)
 (hp:wq P Γ imm gs pre (fun s1=>∃key val kl,look s1.tm x=.val (.map (some b))∧toVal (look s1.tm y)=some key∧toVal (look s1.tm z)=some val∧keyOf P k key=some kl∧∀L',Upd L key val L'→K .normal s1 (some (b,L'))) s.tm s.ob s.nx):HY P k N B w00 (.region id ops true) K s (some (b,L)):=HY.mk fun a w hs Q hQ=>by
 obtain⟨⟨io,w0,g,hr,hC⟩,hM⟩:=hs;subst hgs;rw[←mK]at hp;obtain⟨s1,e1,key,val,kl,h1,h2,h3,h4,h5⟩:=pF _ _ hp;have hsz:ops.size=n+1:=by rw[←Array.length_toList,hops,List.length_append,hn];rfl
 have hon:ops[n]?=some o:=by
  have:ops.toList[n]?=some o:=by rw[hops,←hn];simp
  simpa using this
 refine wp_region_any hm ?_;have hdrew:Rel io w0 N g s a {w with drawn:=w.drawn+1}:=⟨hr.nt,hr.df,fun t=>Rep.mono (w:=w) (w':={w with drawn:=w.drawn+1}) (g:=g) (g':=g) (Gh.le_refl g) (fun _ _ _=>rfl) _ _ (hr.tm t),fun o c ho=>by obtain⟨k1,k2,k3,k4⟩:=hr.ob o c ho;exact⟨k1,k2,k3,qm.mono (w:=w) (w':={w with drawn:=w.drawn+1}) (g:=g) (g':=g) k4 (Gh.le_refl g) k1 (fun _ _ _=>rfl) rfl⟩,hr.inj,hr.nx,hr.lt,hr.new,⟨hr.fr.os,hr.fr.tape,hr.fr.output,hr.fr.size,hr.fr.block⟩,hr.old,hr.fix,hr.hl,hr.tab⟩
 refine aqz hΓ.w (fun b hb=>hC.lt b hb) hd hsz hok (fun i hi=>(List.all_eq_true.1 hlast) i (by simpa using hi)) (s':=s1) (fun g' a' w' hr'=>?_) ops.size _ (List.range n) g s a _ (by simp;omega) (by simp) (fun i=>?_) (by simp[hsz]) List.pairwise_lt_range (fun j o ho hl=>?_) hdrew ?_
 ·unfold wpOp
  simp only[hon];have hw:Region.wanted o (yielded ops a'.tmps)=true:=by simp[Region.wanted,hg]
  rw[hw];simp only[if_true];left;exact atH Ky ht ho hdst h1 h2 h3 h4 ⟨⟨io,w0,g',hr',hC⟩,apP hC hr hr' hM⟩ fun L' w2 hs' hu=>hQ .normal s1 _ a' w2 hs' (h5 L' hu)
 ·simp only[List.mem_range]
  constructor
  ·intro hi;exact⟨hi,by have:i<ops.size:=(by omega);simp[this]⟩
  ·exact fun hi=>hi.1
 ·have hlt:=(Array.getElem?_eq_some_iff.1 ho).1
  simp[hlt]at hl
 ·have:=aei (P:=P) (Γ:=Γ) (imm:=imm) (ops:=ops) (l2:=[o]) pre 0 s (by rw[List.drop_zero];exact hops)
  rw[List.range_eq_range',←hn,this];exact e1
theorem HY.cut {Lf:List (Nat×PV)} {O:List (Nat×Nat×Nat×List PV)} {x:Nat} (h1:agree s.tm Lf) (h2:jF s.ob O) (h3:s.nx=x) (h:HY P k N B w00 c K ⟨lk Lf,lo O,x⟩ σ):HY P k N B w00 c K s σ:=
 HY.forget (s':=mkS Lf O x) (jC (iU h1) (gQ h2) h3) h
theorem HY.zf {α:Type} (Lf:α→List (Nat×PV)) (O:α→List (Nat×Nat×Nat×List PV)) (XX:α→Nat) (I:α→Sg→Prop) (μ:α→Nat) (i:α) (hi:I i σ) (h1:agree s.tm (Lf i)) (h2:jF s.ob (O i)) (h3:s.nx=XX i)
 (h:∀i σ,I i σ→HY P k N B w00 c (fun x s' σ'=>match x with| .normal=>∃j,I j σ'∧μ j<μ i∧agree s'.tm (Lf j)∧jF s'.ob (O j)∧s'.nx=XX j| .exit id=>K (.exit id) s' σ'| .ret=>K .ret s' σ') ⟨lk (Lf i),lo (O i),XX i⟩ σ):HY P k N B w00 (.loop c) K s σ:=by
 refine HY.loop (fun i=>mkS (Lf i) (O i) (XX i)) I μ i hi (jC (iU h1) (gQ h2) h3) fun i σ hi=>⟨fun a w hs Q hQ=>(h i σ hi).go a w hs Q fun x s' σ' a' w' hs' hk=>hQ x s' σ' a' w' hs' ?_⟩;cases x with
 |normal=>obtain⟨j,k1,k2,k3,k4,k5⟩:=hk;exact⟨j,k1,k2,jC (iU k3) (gQ k4) k5⟩
 |exit id=>exact hk
 |ret=>exact hk
theorem HY.start {ps:List PV} (h:HY P k N B w00 c K ⟨(dG ps).tm,fun _=>none,0⟩ σ):HY P k N B w00 c K (dG ps) σ:=h
theorem ae4 {fn:Func} {ps:List PV} {args:Array Value} {w:World} {Jm:Nat→Prop} (hJ:∀b,Jm b→b<w.heap.size) (hT:tZ w (fun _=>False)) (hargs:cZ (zT Jm) w ps args.toList) (hle:ps.length≤fn.ntmps):
 Rel ⟨fun _=>False,Jm,0,fun _=>0,fun _=>0,fun _=>False,fun _=>False⟩ w fn.ntmps (zT Jm) (dG ps) {tmps:=args++Array.replicate (fn.ntmps-args.size) undef,defers:=[]} w:=by
 have hsz:args.size=ps.length:=by simpa using hargs.get.1
 refine⟨by simp;omega,rfl,fun t=>?_,fun o c ho=>(by cases ho),fun o o' ho=>(by cases ho),rfl,fun k b hi=>hJ b hi.2,fun b hi=>(by cases hi.1),Fr.refl _ _,fun b hi=>hi.2,⟨fun o ho=>(Nat.not_lt_zero o ho).elim,fun o ho=>(Nat.not_lt_zero o ho).elim⟩,fun o ho=>False.elim ho,hT⟩;simp only[dG];cases hp:ps[t]? with
 |none=>
  have hge:ps.length≤t:=by simpa using hp
  have:(args++Array.replicate (fn.ntmps-args.size) undef).getD t undef=undef:=by simp only[Array.getD_eq_getD_getElem?];rw[Array.getElem?_append_right (by omega)];simp only[Array.getElem?_replicate];split<;>rfl
  rw[this];simp[Rep]
 |some p=>
  obtain⟨v,hv,hrep⟩:=hargs.get.2 t p hp;have hlt:t<args.size:=by have:=(List.getElem?_eq_some_iff.1 hp).1;omega
  have:(args++Array.replicate (fn.ntmps-args.size) undef).getD t undef=v:=by
   simp only[Array.getD_eq_getD_getElem?];rw[Array.getElem?_append_left hlt];have:args[t]?=some v:=by simpa using hv
   simp[this]
  rw[this];exact hrep
theorem aor {w:World} {io:Nat→Prop} (hT:tZ w io):∀t∈tks,t<w.heap.size:=fun t ht=>hT.lt t ht
theorem HY.calls {f:Nat} {fn:Func} {rs:List ResultVar} {ps:List PV} {args:Array Value} {w:World} {Jm:Nat→Prop} {R:PV→VL→Prop} (hf:P.funcs[f]?=some fn) (hb:fn.body=some c) (hN:fn.ntmps=N) (hrs:fn.results.toList=rs) (hlen:ps.length≤N)
 (hJ:∀i,Jm i→i<w.heap.size∧i≠b) (hargs:cZ (zT Jm) w ps args.toList) (hM:jK P k w b L) (hT:tZ w (fun i=>i=b))
 (h:HY P k N w.heap.size w c (fun x s' σ'=>(x=.normal∨x=.ret)∧∃p v L',((gV P s' rs).map iJ)=some p∧toVal p=some v∧σ'=some (b,L')∧R p L') (dG ps) (some (b,L))):
 Calls P f args w fun e w'=>∃p v L',e=.returned v∧(∀(g:Gh) (w:World),Rep g w p v)∧w.grownBy w' (some b)∧jK P k w' b L'∧R p L':=by
 subst hN hrs;have hb1:∀i,i≠b→some i≠some b:=fun i h e=>h (by cases e;rfl);refine calls_of_wp hf hb (CWp.wp (h.go _ _ ⟨⟨_,w,_,ae4 (fun i hi=>(hJ i hi).1) (hT.io fun _ _ q=>q) hargs hlen,⟨fun i hi=>?_,fun i hi=>?_,fun i hi=>False.elim hi,fun b' e=>?_,Nat.le_refl _,Fr.refl _ _,fun t ht=>⟨aor hT t ht,hb1 _ (hT.apart t ht)⟩⟩⟩,fun b' L2 e=>?_⟩ _ fun x s' σ' a' w' hs' hk=>?_))
 ·rcases hi with hi|hi|hi
  ·exact False.elim hi
  ·exact hb1 _ (hJ i hi).2
  ·exact False.elim hi
 ·rcases hi with hi|hi<;>exact False.elim hi
 ·cases e;exact hM.lt
 ·cases e;exact hM
 ·obtain⟨hx,p,v,L',h1,h2,rfl,h3⟩:=hk
  obtain⟨⟨io,w0,g,hr,hC⟩,hM'⟩:=hs';rw[Option.map_eq_some_iff]at h1;obtain⟨qs,h1,rfl⟩:=h1;obtain⟨u,e1,e2⟩:=jh hr h1;have huv:=fG e2 h2;have hpv:∀(g:Gh) (w:World),Rep g w (iJ qs) v:=fun g w=>xC h2;have hgr:w.grownBy w' (some b):=by
   have hf1:Fr (fun i=>some i=some b∨w.heap.size≤i) w0 w':=⟨hr.fr.os,hr.fr.tape,hr.fr.output,hr.fr.size,fun i hi hn=>hr.fr.block i hi fun q=>hn (.inr (hC.lo i (.inl q)))⟩;refine⟨hf1.os.trans hC.fr.os,hf1.tape.trans hC.fr.tape,hf1.output.trans hC.fr.output,Nat.le_trans hC.fr.size hf1.size,fun i hi hn=>?_⟩;have hn':¬(some i=some b∨w.heap.size≤i):=fun q=>q.elim hn fun q=>by omega
   exact(hf1.block i (Nat.lt_of_lt_of_le hi hC.fr.size) hn').trans (hC.fr.block i hi hn')
  have hend:a'.defers=[]∧∃v,(results fn a'.tmps).run P w'=.ok v w'∧∃p u L',Ending.returned v=.returned u∧(∀(g:Gh) (w:World),Rep g w p u)∧w.grownBy w' (some b)∧jK P k w' b L'∧R p L':=
   ⟨hr.df,u,e1,iJ qs,u,L',rfl,huv▸hpv,hgr,hM' _ _ rfl,h3⟩
  rcases hx with rfl|rfl<;>exact hend
theorem HY.sound {f:Nat} {fn:Func} {rs:List ResultVar} {φ:Fun} (hf:P.funcs[f]?=some fn) (hb:fn.body=some c) (hN:fn.ntmps=N) (hrs:fn.results.toList=rs)
 (h:∀ps r,φ ps=some r→ps.length≤N∧∀B w00,HY P k N B w00 c (fun x s' σ'=>(x=.normal∨x=.ret)∧(∃r',(∀(g:Gh) (w:World) (v:Value),Rep g w r' v→Rep g w r v)∧((gV P s' rs).bind fun qs=>reify true 0 s'.ob fuel (iJ qs))=some r')∧∀b L,σ'=some (b,L)→B≤b) (dG ps) none):Sound P f φ:=by
 intro w Jm ps args r hr hJ hT hargs;subst hN hrs;obtain⟨hlen,h⟩:=h ps r hr;refine calls_of_wp hf hb (CWp.wp ((h w.heap.size w).go _ _ ⟨⟨_,w,_,ae4 hJ hT hargs hlen,⟨fun i hi e=>(by cases e),fun i hi=>?_,fun i hi=>False.elim hi,fun b' e=>(by cases e),Nat.le_refl _,Fr.refl _ _,fun t ht=>⟨aor hT t ht,fun e=>(by cases e)⟩⟩⟩,fun b' L2 e=>(by cases e)⟩ _ fun x s' σ' a' w' hs' hk=>?_))
 ·rcases hi with hi|hi<;>exact False.elim hi
 ·obtain⟨hx,⟨r',hle,hres⟩,hbb⟩:=hk
  obtain⟨⟨io,w0,g,hrel,hC⟩,hM'⟩:=hs';rw[Option.bind_eq_some_iff]at hres;obtain⟨qs,hres,hreify⟩:=hres;have hbel:Below w.heap.size w w':=by
   have hf1:Fr (fun i=>w.heap.size≤i) w0 w':=⟨hrel.fr.os,hrel.fr.tape,hrel.fr.output,hrel.fr.size,fun i hi hn=>hrel.fr.block i hi fun q=>hn (hC.lo i (.inl q))⟩;refine⟨hf1.os.trans hC.fr.os,hf1.tape.trans hC.fr.tape,hf1.output.trans hC.fr.output,Nat.le_trans hC.fr.size hf1.size,fun i hi=>?_⟩;refine(hf1.block i (Nat.lt_of_lt_of_le hi hC.fr.size) (by omega)).trans (hC.fr.block i hi fun q=>q.elim (fun q=>?_) fun q=>by omega);cases σ' with
   |none=>cases q
   |some bl=>obtain⟨b',L'⟩:=bl;have:=hbb b' L' rfl;cases q;omega
  have hend:a'.defers=[]∧∃v,(results fn a'.tmps).run P w'=.ok v w'∧((∃v',Ending.returned v=.returned v'∧Below w.heap.size w w'∧∀g'':Gh,(∀b,w.heap.size≤b→b<w'.heap.size→g''.I true b)→Rep g'' w' r v')):=by
   obtain⟨v,h1,h2⟩:=jh hrel hres;refine⟨hrel.df,v,h1,v,rfl,hbel,fun g'' hg=>hle _ _ _ ?_⟩;refine Rep.seen (fun o c ho=>(hrel.ob o c ho).2.2.2) ⟨fun hh=>(by cases hh),fun _=>⟨fun b hb=>hg b ?_ (hrel.lt true b hb),fun o ho _=>?_⟩⟩ fuel _ _ _ h2 hreify
   ·rcases hrel.new b hb with⟨q,_⟩|q
    ·exact Nat.le_trans hC.sz q
    ·exact hC.lo b (.inr q)
   ·obtain⟨c,hc⟩:=Option.isSome_iff_exists.1 ho
    obtain⟨q1,q2,q3⟩:=hC.gJ hrel hc;exact hg _ q3 q1
  rcases hx with rfl|rfl<;>exact hend
end
section
variable {P:Program} {k:TypeId} {N B:Nat} {w00:World} {c:Code}
theorem HY.akW {f:Nat} {fn:Func} {rs:List ResultVar} {Ψ:alC} (hf:P.funcs[f]?=some fn) (hb:fn.body=some c) (hN:fn.ntmps=N) (hrs:fn.results.toList=rs)
 (hpure:∀ps r cs',Ψ ps=some (r,cs')→ps.mapM (reify false 0 l7 fuel)=some ps∧nN id fuel r=some r∧cs'.mapM (wS id fuel)=some cs')
 (h:∀ps r cs',Ψ ps=some (r,cs')→ps.length≤N∧∀B w00,HY P k N B w00 c (fun x s' σ'=>iI P rs 0 r cs' x s'∧∀b L,σ'=some (b,L)→B≤b) (dG ps) none):qP P f Ψ:=by
 intro w J β κ ps cs args r cs' hr hJ hO hT hargs;subst hN hrs;replace hr:(if cs=[]then Ψ ps else none)=some (r,cs'):=hr;split at hr
 case isFalse=>cases hr
 case isTrue hcs=>
 subst hcs;obtain⟨hp1,hp2,hp3⟩:=hpure ps r cs' hr;obtain⟨hlen,h⟩:=h ps r cs' hr;have hJ':∀b,(∃k,J k b)→b<w.heap.size:=fun b ⟨k,hk⟩=>hJ k b hk;have hT':tZ w (fun _=>False):=hT.io fun _ _ q=>False.elim q;have hargs':cZ (zT fun b=>∃k,J k b) w ps args.toList:=by refine cZ.conv (g:=kI J β κ 0) (Rep.seen (fr:=false) (n:=0) (g':=zT fun b=>∃k,J k b) (s:=⟨fun _=> .dead,l7,0⟩) (fun o c ho=>by cases ho) ⟨fun _=>⟨fun k b hb=>⟨rfl,k,hb⟩,fun o ho=>by cases ho⟩,fun e=>by cases e⟩ fuel) hargs hp1
 refine calls_of_wp hf hb (CWp.wp ((h w.heap.size w).go _ _ ⟨⟨_,w,_,ae4 hJ' hT' hargs' hlen,⟨fun i hi e=>(by cases e),fun i hi=>?_,fun i hi=>False.elim hi,fun b' e=>(by cases e),Nat.le_refl _,Fr.refl _ _,fun t ht=>⟨aor hT' t ht,fun e=>(by cases e)⟩⟩⟩,fun b' L2 e=>(by cases e)⟩ _ fun x s' σ' a' w' hs' hk=>?_))
 ·rcases hi with hi|hi<;>exact False.elim hi
 ·obtain⟨⟨hx,news,hn0,hnd,hres,hobs0⟩,hbb⟩:=hk
  obtain⟨⟨io,w0,g',hrel,hC⟩,hM'⟩:=hs';rw[Option.bind_eq_some_iff]at hres;obtain⟨qs,hres,hren⟩:=hres;simp only[List.range_zero,List.nil_append]at hren hobs0;have hocs:cs'.length=news.length:=(bL hobs0).1;have hobs:∀(i o:Nat),news[i]?=some o→∃T sz es es',s'.ob o=some (T,sz,es)∧es.mapM (bX news s'.ob fuel)=some es'∧cs'[i]?=some (T,sz,es'):=fun i o hi=>by obtain⟨c1,h1,h2⟩:=(bL hobs0).2 i o hi;unfold lg at h2;simp only[Option.bind_eq_some_iff,Option.map_eq_some_iff]at h2;obtain⟨⟨T,sz,es⟩,h3,es',h4,rfl⟩:=h2;exact⟨T,sz,es,es',h3,h4,h1⟩
  have hget:∀i,i<news.length→news[i]?=some (news.getD i 0):=fun i hi=>by simp[hi]
  have hsome:∀i,i<news.length→(s'.ob (news.getD i 0)).isSome:=fun i hi=>by obtain⟨T,sz,es,es',h1,_⟩:=hobs i _ (hget i hi);rw[h1];rfl
  have hinjO:∀i j,i<news.length→j<news.length→g'.β (news.getD i 0)=g'.β (news.getD j 0)→i=j:=fun i j hi hj he=>by have:=hrel.inj _ _ (hsome i hi) (hsome j hj) he;have e1:=hget i hi;have e2:=hget j hj;rw[this]at e1;have e1:=e1.trans e2.symm;exact(List.getElem?_inj hi hnd).1 e1
  have hinn:∀o1 o2,inn news o1=some o2→o2<news.length∧news.getD o2 0=o1:=fun o1 o2 hi=>by
   unfold inn at hi;split at hi
   ·rename_i hm
    cases hi;have hlt:=List.idxOf_lt_length_of_mem hm;exact⟨hlt,by simp[List.getD,hlt]⟩
   ·cases hi
  have hfrm:Fr (fun b=>∃o,o<([]:List aL).length∧b=β o) w w':=by
   have hf1:Fr (fun i=>w.heap.size≤i) w0 w':=⟨hrel.fr.os,hrel.fr.tape,hrel.fr.output,hrel.fr.size,fun i hi hn=>hrel.fr.block i hi fun q=>hn (hC.lo i (.inl q))⟩;refine⟨hf1.os.trans hC.fr.os,hf1.tape.trans hC.fr.tape,hf1.output.trans hC.fr.output,Nat.le_trans hC.fr.size hf1.size,fun i hi _=>?_⟩;refine(hf1.block i (Nat.lt_of_lt_of_le hi hC.fr.size) (by omega)).trans (hC.fr.block i hi fun q=>q.elim (fun q=>?_) fun q=>by omega);cases σ' with
   |none=>cases q
   |some bl=>obtain⟨b',L'⟩:=bl;have:=hbb b' L' rfl;cases q;omega
  have hend:a'.defers=[]∧∃v,(results fn a'.tmps).run P w'=.ok v w'∧(∃v' β' κ' M,Ending.returned v=.returned v'∧Fr (fun b=>∃o,o<([]:List aL).length∧b=β o) w w'∧([]:List aL).length≤cs'.length∧
   (∀o,o<([]:List aL).length→β' o=β o∧κ' o=κ o)∧(∀o,([]:List aL).length≤o→o<cs'.length→w.heap.size≤β' o)∧(∀b,M b→w.heap.size≤b∧b<w'.heap.size)∧
   yQ (addN J M) w' β' κ' cs'∧Rep (kI (addN J M) β' κ' cs'.length) w' r v'):=by
   obtain⟨v,h1,h2⟩:=jh hrel hres
   let M:Nat→Prop:=fun b=>w.heap.size≤b∧b<w'.heap.size∧∀i,i<news.length→b≠g'.β (news.getD i 0)
   let G1:Gh:=kI (fun kk b=>kk=false∨M b) (fun i=>g'.β (news.getD i 0)) (fun i=>g'.κ (news.getD i 0)) cs'.length
   let G:Gh:=kI (addN J M) (fun i=>g'.β (news.getD i 0)) (fun i=>g'.κ (news.getD i 0)) cs'.length
   have hnewb:∀b,g'.I true b→w.heap.size≤b:=fun b hb=>by
    rcases hrel.new b hb with⟨q,_⟩|q
    ·exact Nat.le_trans hC.sz q
    ·exact hC.lo b (.inr q)
   have hI:∀k b,g'.I k b→G1.I k b:=fun k b hi=>by
    cases k with
    |false=>exact .inl rfl
    |true=>refine .inr ⟨hnewb b hi,hrel.lt true b hi,fun i hil he=>?_⟩;obtain⟨T,sz,es,es',k1,_⟩:=hobs i _ (hget i hil);exact(hrel.ob _ _ k1).2.2.1 true (he▸hi)
   have hom:∀o o',inn news o=some o'→G1.β o'=g'.β o∧G1.κ o'=g'.κ o∧G1.D o':=fun o o' ho=>by obtain⟨k1,k2⟩:=hinn o o' ho;exact⟨by simp only[G1,kI,k2],by simp only[G1,kI,k2],⟨by simp only[G1,kI];omega,fun q=>q⟩⟩
   have hfz:∀o,(s'.ob o).isSome→inn news o=none→G1.I true (g'.β o):=fun o ho hn=>by
    obtain⟨c,hc⟩:=Option.isSome_iff_exists.1 ho;have hno:o∉news:=fun hm=>by simp[inn,hm]at hn
    obtain⟨q1,q2,q3⟩:=hC.gJ hrel hc;refine .inr ⟨q3,q1,fun i hi he=>hno ?_⟩;rw[hrel.inj o _ (by rw[hc];rfl) (hsome i hi) he];exact List.mem_of_getElem? (hget i hi)
   have hobA:∀o c,s'.ob o=some c→qm g' w' o c:=fun o c ho=>(hrel.ob o c ho).2.2.2;have hI2:∀b,G1.I true b→G.I true b:=fun b hb=>by
    rcases hb with hb|hb
    ·cases hb
    ·exact .inr ⟨rfl,hb⟩
   refine⟨hrel.df,v,h1,v,fun i=>g'.β (news.getD i 0),fun i=>g'.κ (news.getD i 0),M,rfl,hfrm,Nat.zero_le _,fun o ho=>(Nat.not_lt_zero o ho).elim,fun o h3 h4=>?_,fun b hb=>⟨hb.1,hb.2.1⟩,⟨fun o ho=>?_,fun o o' ho ho' he=>hinjO o o' (by omega) (by omega) he,fun o c hc=>?_⟩,
    Rep.nN (g:=G1) (g':=G) hI2 (fun o ho=>⟨rfl,rfl,ho⟩) fuel _ _ _ (Rep.hand (g:=g') (g':=G1) hI hom hobA hfz fuel _ _ _ h2 hren) hp2⟩
   ·obtain⟨T,sz,es,es',k1,_⟩:=hobs o _ (hget o (by omega))
    exact(hC.gJ hrel k1).2.2
   ·obtain⟨T,sz,es,es',k1,_⟩:=hobs o _ (hget o (by omega))
    obtain⟨_,_,k3,⟨arr,k4,_⟩,_⟩:=hrel.ob _ _ k1;refine⟨lt_of_heap k4,fun k hj=>?_⟩;rcases hj with hj|⟨_,hj⟩
    ·have:=(hC.gJ hrel k1).2.2
     have:=hJ _ _ hj;omega
    ·exact hj.2.2 o (by omega) rfl
   ·have ho:o<cs'.length:=(List.getElem?_eq_some_iff.1 hc).1
    obtain⟨T,sz,es,es',k1,k2,k3⟩:=hobs o _ (hget o (by omega));rw[k3]at hc;cases hc;obtain⟨_,_,_,⟨arr,m1,m2⟩,m3,m4⟩:=hrel.ob _ _ k1;have hl:=(bL k2).1;have hes:es'.mapM (nN id fuel)=some es':=by obtain⟨c2,e1,e2⟩:=(bL hp3).2 o _ k3;unfold wS at e2;simp only[Option.map_eq_some_iff]at e2;obtain⟨es2,e3,rfl⟩:=e2;rw[k3]at e1;cases e1;exact e3
    exact⟨⟨arr,m1,m2⟩,by rw[hl];exact m3,bO.conv (g:=G1) (g':=G) (Rep.nN (g:=G1) (g':=G) hI2 (fun o ho=>⟨rfl,rfl,ho⟩) fuel) (bO.conv (g:=g') (g':=G1) (Rep.hand (g:=g') (g':=G1) hI hom hobA hfz fuel) m4 k2) hes⟩
  rcases hx with rfl|rfl<;>exact hend
end
section
variable {P:Program} {k:TypeId} {N B:Nat} {w00:World} {ops:Array Oper} {J:AS→Sg→Prop} {s:AS} {b:Nat} {L:VL}
theorem HO.aGP {o:Oper} {j:Nat} {l:List Oper} {t e d:Nat} {x:Operand} (ht:P.underlying t=some (.map k e)) (ho:o.op=.call {callee:=.builtin .len,args:=#[x],argTypes:=#[t]}) (hg:o.guard=none) (hd:o.dst=some d) (hdN:d<N) (hx:look s.tm x=.val (.map (some b)))
 (h:HO P k N B w00 ops (j+1) l J (s.put (some d) (.val (.int .i64 L.length))) (some (b,L))):HO P k N B w00 ops j (o::l) J s (some (b,L)):=by
 refine HO.one hg fun a w hs Kn Q hK=>?_;have hs0:=hs;obtain⟨⟨io,w0,g,hr,hC⟩,hM⟩:=hs;have ex:=hr.look x;rw[hx]at ex;simp only[Rep]at ex;obtain⟨es,clock,hb,H⟩:=hM _ _ rfl;have ht':P.underlying t=some (.map (P.mapKeyOf t) (P.mapElemOf t)):=by
  have h1:P.mapKeyOf t=k:=by simp[Program.mapKeyOf,ht]
  have h2:P.mapElemOf t=e:=by simp[Program.mapElemOf,ht]
  rw[h1,h2];exact ht
 have hsz:es.size=L.length:=by rw[←H.list,List.length_map,Array.length_toList]
 have hrun:(execOp a.eval o).run P w=.ok (.value (.int .i64 L.length)) w:=by unfold execOp;simp only[ho,resolve,Sem.run_bind,Sem.run_pure,Result.andThen_ok,invoke];simp only[builtin,List.map_toArray,List.map_cons,List.map_nil,ex,Sem.run_bind,run_len_map w t _ b es clock ht' hb,Result.andThen_ok,Sem.run_pure,hsz];rfl
 unfold Oper.wp;rw[hrun,Oper.upon_value,hd];exact hK _ _ _ _ (hs0.put (fun x e=>by cases e;exact hdN) fun g w=>by simp[Rep]) h
def ata (L:VL):Value→Bool→Option PV:=open Classical in fun key c=>if h:∃v,(key,v)∈L then(if c=true then none else some (.val h.choose))else none
theorem ano {L:VL} {key:Value} {c:Bool} {p:PV} (h:ata L key c=some p):c=false∧∃v,(key,v)∈L∧p=.val v:=by
 unfold ata at h;split at h
 ·rename_i hv
  split at h
  ·cases h
  ·rename_i hc
   cases h;exact⟨by simpa using hc,_,hv.choose_spec,rfl⟩
 ·cases h
theorem aoV {L:VL} (hn:(L.map Prod.fst).Nodup) {key v:Value} (h:(key,v)∈L):ata L key false=some (.val v):=by unfold ata;have hv:∃v,(key,v)∈L:=⟨v,h⟩;rw[dif_pos hv,if_neg (by simp),adH hn hv.choose_spec h]
end
theorem arS (o:Int):∀gs:List I4,(∀g∈gs,GOk g)→(0≤(mO gs o).1∧(mO gs o).1≤1000*gs.length)∧(0≤(mO gs o).2.1∧(mO gs o).2.1≤1000*gs.length)∧(0≤(mO gs o).2.2.1∧(mO gs o).2.2.1≤1000*gs.length):=by
 refine jH ?_ ?_
 ·intro _
  exact⟨⟨Int.le_refl _,by simp[mO]⟩,⟨Int.le_refl _,by simp[mO]⟩,Int.le_refl _,by simp[mO]⟩
 ·intro gs g ih hg
  obtain⟨i1,i2,i3⟩:=ih fun x hx=>hg x (List.mem_append.2 (.inl hx));have gk:=hg g (by simp);obtain⟨w,st,sh,od⟩:=g;obtain⟨g1,g2,g3,g4⟩:=gk;dsimp only at g1 g2 g3 g4;rw[iQ,List.length_append,List.length_singleton];generalize mO gs o=t at*;obtain⟨tw,ts,th,tod⟩:=t;dsimp only at i1 i2 i3;dsimp only
  push_cast
  refine⟨by omega,?_,by omega⟩;split<;>omega
theorem zq {l:List I4} {k:Nat} (h:k<l.length):l.take (k+1)=l.take k++[l[k]?.getD i40]:=by rw[List.take_succ_eq_append_getElem h,List.getElem?_eq_getElem h];rfl
def av1:Fun:=F1 (dL 4 dI4) fun gs=>open Classical in if(∀g∈gs,GOk g)∧gs.length≤61 then some (pvG (kK gs))else none
theorem agB {gs:List I4} (h:∀g∈gs,GOk g) (h2:gs.length≤61):av1 [.lst false 4 (gs.map pvG)]=some (pvG (kK gs)):=(fM (A:=dL 4 dI4) gs).trans (if_pos ⟨h,h2⟩)
open Classical in
set_option maxHeartbeats 16000000 in
theorem ajE:Sound Tryz.prog 240 av1:=by
 refine au mixed iL Tryz.func240 rfl 55 rfl [.cell 2 60] rfl (by kernel_rfl) fun ps r hr=>?_;obtain⟨gs,rfl,hpre,rfl⟩:=jy hr;refine⟨by simp,?_⟩;simp only[dIs,dUs,dSs,dw,dx,dh,dA,aS,dz,aQ,aR,aO,aP];obtain⟨hg,hl⟩:=hpre;show pq _ _ _ _ _ (dG [.lst false 4 (gs.map pvG)]).tm _ _;rw[(auX gs hg).1];have hat:∀k,k<gs.length→GOk (gs[k]?.getD i40):=fun k hk=>by rw[List.getElem?_eq_getElem hk,Option.getD_some];exact hg _ (List.getElem_mem hk)
 have htk:∀k,∀g∈gs.take k,GOk g:=fun k g h=>hg g (List.mem_of_mem_take h);clear hg;(refine wlk ?_;intros);refine aD (α:=Nat) mixed (fun k=>[(0,.lst false 4 (gs.map pvG)),(2,.own 0 4 0 0),(3,.own 1 4 0 0),(8,.lst false 4 (gs.map pvG)),(9,iv gs.length),(10,iv k)])
  (fun k=>[(0,60,4,[pvG g40]),(1,60,4,[pvG (0,0,0,yZ (gs.take k))])]) (fun k=>2+k)
  (fun k=>k≤gs.length) (fun k=>gs.length-k) (by kernel_rfl) 0 (Nat.zero_le _) ?_ ?_ rfl ?_
 ·exact agr
 ·simp(disch:=(first|omega|(simp only[push_cast];first|done|omega))) only[push_cast,↓reduceIte,Rq,Rb,Ra,Rs,Rt,List.take_zero,yZ,List.any_nil,Bool.false_eq_true,if_false,g40, *]
 intro k hk;by_cases h0:k<gs.length
 ·have hs:yZ (gs.take (k+1))=if yZ (gs.take k)=1∨((gs[k]?.getD i40).2.2.2=1∧0<(gs[k]?.getD i40).2.1)then 1 else 0:=by rw[zq h0,adi]
  have ho:=amP (gs.take k);obtain⟨g1,g2,g3,g4⟩:=hat k h0;clear hat htk;generalize hx:gs[k]?.getD i40=x at*;obtain⟨w,st,sh,od⟩:=x;dsimp only at hs g1 g2 g3 g4;by_cases hc:od=1∧0<st
  ·rw[if_pos (.inr hc)]at hs
   replace hs:=Lib.hid hs;generalize yZ (gs.take k)=o at*;obtain⟨rfl,hc2⟩:=hc;clear g4 ho;(refine wlk ?_;intros);refine⟨k+1,by omega,by dsimp only;omega,?_,?_,?_⟩
   ·exact agr
   ·dsimp only
    rw[hs.out];exact agr
   ·first|rfl|(dsimp only;omega)
  ·have hs2:yZ (gs.take (k+1))=yZ (gs.take k):=by
    rw[hs];rcases ho with h|h
    ·rw[h,if_neg (by omega)]
    ·rw[h,if_pos (.inl rfl)]
   replace hs2:=Lib.hid hs2;clear hs;generalize yZ (gs.take k)=o at*;by_cases hd:od=1
   ·subst hd
    have hst:¬0<st:=fun h=>hc ⟨rfl,h⟩;clear hc g4 ho;(refine wlk ?_;intros);refine⟨k+1,by omega,by dsimp only;omega,?_,?_,?_⟩
    ·exact agr
    ·dsimp only
     rw[hs2.out];exact agr
    ·first|rfl|(dsimp only;omega)
   ·clear hc g4 ho
    (refine wlk ?_;intros);refine⟨k+1,by omega,by dsimp only;omega,?_,?_,?_⟩
    ·exact agr
    ·dsimp only
     rw[hs2.out];exact agr
    ·first|rfl|(dsimp only;omega)
 ·obtain rfl:k=gs.length:=by omega
  rw[List.take_of_length_le (Nat.le_refl _)];generalize yZ gs=o at*;(refine wlk ?_;intros);refine aD (α:=Nat) mixed (fun k=>[(2,.own 0 4 0 0),(3,.own 1 4 0 0),(24,.lst false 4 (gs.map pvG)),(25,iv gs.length),(26,iv k)])
   (fun k=>[(0,60,4,[pvG g40]),(1,60,4,[pvG (mO (gs.take k) o)])]) (fun k=>2+gs.length+k)
   (fun k=>k≤gs.length) (fun k=>gs.length-k) (by kernel_rfl) 0 (Nat.zero_le _) ?_ ?_ ?_ ?_
  ·exact agr
  ·simp(disch:=(first|omega|(simp only[push_cast];first|done|omega))) only[push_cast,↓reduceIte,Rq,Rb,Ra,Rs,Rt,List.take_zero,mO,List.foldl_nil,g40, *]
  ·first|rfl|(dsimp only;omega)
  intro k hk;have hod:=ak5 (gs.take k) o;obtain⟨r1,r2,r3⟩:=arS o (gs.take k) (htk k);have hkl:(gs.take k).length=k:=by rw[List.length_take];omega
  rw[hkl]at r1 r2 r3;by_cases h0:k<gs.length
  ·have hs:mO (gs.take (k+1)) o=((mO (gs.take k) o).1+(gs[k]?.getD i40).1,(if(gs[k]?.getD i40).2.2.2=o then(mO (gs.take k) o).2.1+(gs[k]?.getD i40).2.1 else(mO (gs.take k) o).2.1),(mO (gs.take k) o).2.2.1+(gs[k]?.getD i40).2.2.1,o):=by rw[zq h0,iQ]
   obtain⟨g1,g2,g3,g4⟩:=hat k h0;clear hat htk hkl;generalize hx:gs[k]?.getD i40=x at*;generalize ht:mO (gs.take k) o=t at*;obtain⟨w,st,sh,od⟩:=x;obtain⟨tw,ts,th,tod⟩:=t;dsimp only at hs g1 g2 g3 g4 r1 r2 r3 hod;subst hod;by_cases hd:od=tod
   ·rw[if_pos hd]at hs
    replace hs:=Lib.hid hs;subst hd;(refine wlk ?_;intros);refine⟨k+1,by omega,by dsimp only;omega,?_,?_,?_⟩
    ·exact agr
    ·dsimp only
     rw[hs.out];exact agr
    ·first|rfl|(dsimp only;omega)
   ·rw[if_neg hd]at hs
    replace hs:=Lib.hid hs;(refine wlk ?_;intros);refine⟨k+1,by omega,by dsimp only;omega,?_,?_,?_⟩
    ·exact agr
    ·dsimp only
     rw[hs.out];exact agr
    ·first|rfl|(dsimp only;omega)
  ·obtain rfl:k=gs.length:=by omega
   rw[List.take_of_length_le (Nat.le_refl _)]at*;clear hat htk hkl;generalize mO gs o=t at*;obtain⟨tw,ts,th,tod⟩:=t;exact wlkF
def aGv:Ctx:={fn:=aT [(124,φLi)],io:=aT []}
theorem ays:ak Tryz.prog aGv:=okΓ (fC Tryz.func124 adu aj) aj
def apH:=ah (Γ:=aGv) (f:=124) (φ:=φLi) rfl
def akH:Fun:=F3 pz dI dI fun l n m=>open Classical in if axn l n m then some (.lst true 1 ((if eY l (n+1).toNat m.toNat=true then o8 l (aG l (n+1).toNat) m.toNat else []).map fun n=> .val (.int .i64 n)))else none
theorem afY {l:List It} {a en:Nat} (h:aZ l=true) (h2:a≤en) (h3:en<l.length):akH [iw l,.val (.int .i64 ((a:Int)-1)),.val (.int .i64 en)]=some (.lst true 1 ((if eY l a en=true then o8 l (aG l a) en else []).map fun n=> .val (.int .i64 n))):=
 (acf (A:=pz) (B:=dI) (C:=dI) l ((a:Int)-1) en).trans ((if_pos ⟨h,by omega,by omega,by omega⟩).trans (by rw[show((a:Int)-1+1).toNat=a by omega,Int.toNat_natCast]))
theorem ajU:Sound Tryz.prog 93 akH:=by refine au mixed ays Tryz.func93 rfl 17 rfl [.tmp 6] rfl (by kernel_rfl) fun ps r hr=>?_;obtain⟨l,n,m,rfl,hpre,rfl⟩:=aaX hr;refine⟨by simp,?_⟩;simp only[dIs,dUs,dSs,dw,dx,dh,dA,aS,dz,aQ,aR,aO,aP];obtain⟨hB,hn0,hn1,hn2⟩:=hpre;obtain⟨a,rfl⟩:∃a:Nat,n=(a:Int)-1:=⟨(n+1).toNat,by omega⟩;obtain⟨en,rfl⟩:∃en:Nat,m=en:=⟨m.toNat,by omega⟩;show pq _ _ _ _ _ (dG [iw l,.val (.int .i64 ((a:Int)-1)),.val (.int .i64 en)]).tm _ _;rw[show((a:Int)-1+1).toNat=a by omega,Int.toNat_natCast];have ap:=aoD hB (show a≤en by omega) (by omega);generalize(if eY l a en=true then o8 l (aG l a) en else [])=q at*;generalize eY l a en=b at*;have gli2_c124:=apH;exact wlkF
def φLa:Fun:=F3 pz dI dI fun l wd most=>if ajj l then some (bv (aZ l&&(decide (0<l.length)&&(inB wd 0 1000&&inB most 0 10000))))else none
theorem aww {l:List It} {wd most:Int} (h:ajj l):φLa [iw l,.val (.int .i64 wd),.val (.int .i64 most)]=some (.val (.bool (aZ l&&(decide (0<l.length)&&(inB wd 0 1000&&inB most 0 10000))))):=(acf (A:=pz) (B:=dI) (C:=dI) l wd most).trans (if_pos h)
def GLa:Ctx:={fn:=aT [(175,abq),(64,φIn),(72,qF)],io:=aT []}
theorem aAG:ak Tryz.prog GLa:=okΓ (fC Tryz.func175 zK (fC Tryz.func64 qR (fC Tryz.func72 qG aj))) aj
def axR:=ah (Γ:=GLa) (f:=175) (φ:=abq) rfl
def aDn:=ah (Γ:=GLa) (f:=64) (φ:=φIn) rfl
def aAp:=ah (Γ:=GLa) (f:=72) (φ:=qF) rfl
theorem al7:Sound Tryz.prog 122 φLa:=by refine au mixed aAG Tryz.func122 rfl 22 rfl [.tmp 6] rfl (by kernel_rfl) fun ps r hr=>?_;obtain⟨l,wd,most,rfl,hpre,rfl⟩:=aaX hr;refine⟨by simp,?_⟩;simp only[dIs,dUs,dSs,dw,dx,dh,dA,aS,dz,aQ,aR,aO,aP];have hl:l.length≤1000:=hpre;show pq _ _ _ _ _ (dG [iw l,.val (.int .i64 wd),.val (.int .i64 most)]).tm _ _;have ap1:=abt hpre;have ap2:=bM;have ap3:=oK;clear hpre;generalize aZ l=b1 at*;have gla_c175:=axR;have gla_c64:=aDn;have gla_c72:=aAp;((refine wlk6 ?_ ?_ ?_ ?_ ?_ ?_<;>intros<;>try with_reducible exact trivial)<;>(refine fnG ?_;try with_reducible exact trivial));all_goals((refine congrArg (fun z=>some (PV.val (Value.bool z))) ?_);first|(simp_all;done)|(simp_all;omega))
def agT:Fun:=axr 4 av1
theorem adg {gs:List I4} (h:∀g∈gs,GOk g) (h2:gs.length≤61):agT [.lst false 4 (gs.map pvG)]=some (pvG (kK gs)):=agB h h2
theorem ajQ:agT [.val (.slice none 0 0)]=some (pvG (kK [])):=agB (gs:=[]) (by simp) (by simp)
def lgR (l:List It) (a en:Nat):I4:=if eY l a en=true then kK (ahK l a en)else(0,0,0,0)
def φLg:Fun:=F3 pz dI dI fun l n m=>open Classical in if axn l n m then some (.tup [pvG (lgR l (n+1).toNat m.toNat),bv (eY l (n+1).toNat m.toNat)])else none
theorem auD {l:List It} {a en:Nat} (h:aZ l=true) (h2:a≤en) (h3:en<l.length):φLg [iw l,.val (.int .i64 ((a:Int)-1)),.val (.int .i64 en)]=some (.tup [pvG (lgR l a en),.val (.bool (eY l a en))]):=
 (acf (A:=pz) (B:=dI) (C:=dI) l ((a:Int)-1) en).trans ((if_pos ⟨h,by omega,by omega,by omega⟩).trans (by rw[show((a:Int)-1+1).toNat=a by omega,Int.toNat_natCast]))
theorem aiH {l:List Int} {k:Nat} (h:k<l.length):l.take (k+1)=l.take k++[l[k]?.getD 0]:=by rw[List.take_succ_eq_append_getElem h,List.getElem?_eq_getElem h];rfl
def GLg:Ctx:={fn:=aT [(124,φLi),(240,agT)],io:=aT []}
theorem azZ:ak Tryz.prog GLg:=okΓ (fC Tryz.func124 adu (fC Tryz.func240 (ajE.nil 4) aj)) aj
def aom:=ah (Γ:=GLg) (f:=124) (φ:=φLi) rfl
def alT:=ah (Γ:=GLg) (f:=240) (φ:=agT) rfl
theorem akj:Sound Tryz.prog 236 φLg:=by
 refine au mixed azZ Tryz.func236 rfl 54 rfl [.cell 6 60,.tmp 7] rfl (by kernel_rfl) fun ps r hr=>?_;obtain⟨l,n,m,rfl,hpre,rfl⟩:=aaX hr;refine⟨by simp,?_⟩;simp only[dIs,dUs,dSs,dw,dx,dh,dA,aS,dz,aQ,aR,aO,aP];obtain⟨hB,hn0,hn1,hn2⟩:=hpre;obtain⟨a,rfl⟩:∃a:Nat,n=(a:Int)-1:=⟨(n+1).toNat,by omega⟩;obtain⟨en,rfl⟩:∃en:Nat,m=en:=⟨m.toNat,by omega⟩;have hl:=bP hB;have hae:a≤en:=by omega
 have hel:en<l.length:=by omega
 show pq _ _ _ _ _ (dG [iw l,.val (.int .i64 ((a:Int)-1)),.val (.int .i64 en)]).tm _ _;rw[show((a:Int)-1+1).toNat=a by omega,Int.toNat_natCast];have ap:=aoD hB hae hel;unfold lgR;clear hn0 hn1 hn2;cases hq:eY l a en with
 |false=>rw[hq,if_neg (by decide)]at ap;rw[if_neg (by decide)];clear hq hB;have glg_c124:=aom;have glg_c240:=alT;exact wlkF
 |true=>
  rw[hq,if_pos rfl]at ap;rw[if_pos rfl];have hst:aG l a≤en:=(gH.1 hq).2.2.2.1;have hG:ahK l a en=rX l (aG l a) en++(if(gI l en).kd=3 then [(gI l en).gl]else []):=rfl;have hgo:=afe (b:=aG l a) hB (show en≤l.length by omega);have hgl:=ab0 l (aG l a) en;have hio:=(iR hB hel).gl;have him:=@vB l (aG l a) en;have h0l:rX l (aG l a) en=(o8 l (aG l a) en).map fun n:Int=>(gI l n.toNat).gl:=rfl;rw[hG];clear hG hq hB;rw[h0l]at hgo hgl⊢;rw[List.length_map]at hgl;generalize o8 l (aG l a) en=L at*;clear h0l;have hLl:L.length≤60:=by omega
  have hLk:∀k,k<L.length→0≤L[k]?.getD 0∧L[k]?.getD 0<en:=fun k hk=>by rw[List.getElem?_eq_getElem hk,Option.getD_some];have:=him _ (List.getElem_mem hk);omega
  clear him;have glg_c124:=aom;have glg_c240:=alT;(refine wlk ?_;intros);refine aD (α:=Nat×Nat×Nat) mixed (fun z=>[(0,iw l),(2,iv en),(6,.own 0 4 0 0),(10,nP 4 (((L.take z.1).map fun n:Int=>(gI l n.toNat).gl).map pvG) z.2.1),(23,.lst true 1 (L.map pvN)),(24,iv L.length),(25,iv z.1)])
   (fun z=>(0,60,4,[pvG g40])::nO 60 4 (((L.take z.1).map fun n:Int=>(gI l n.toNat).gl).map pvG) z.2.1) (fun z=>z.2.2)
   (fun z=>z.1≤L.length∧0<z.2.2∧(0<z.1→0<z.2.1∧z.2.1<z.2.2)) (fun z=>L.length-z.1) (by kernel_rfl) (0,0,1) ⟨Nat.zero_le _,by simp,by simp⟩ ?_ ?_ rfl ?_
  ·simp(disch:=(first|omega|(simp only[push_cast];first|done|omega))) only[push_cast,↓reduceIte,Rq,Rb,Ra,Rs,Rt,List.take_zero,List.map_nil, *]
  ·simp(disch:=(first|omega|(simp only[push_cast];first|done|omega))) only[push_cast,↓reduceIte,Rq,Rb,Ra,Rs,Rt,List.take_zero,List.map_nil,g40, *]
  rintro⟨k,x,y⟩ ⟨hk,hy,hxy⟩;dsimp only at hk hy hxy;have hGl:((L.take k).map fun n:Int=>(gI l n.toNat).gl).length=k:=by rw[List.length_map,List.length_take];omega
  by_cases h0:k<L.length
  ·obtain⟨q1,q2⟩:=hLk k h0
   have hn:(L.take (k+1)).map (fun n:Int=>(gI l n.toNat).gl)=(L.take k).map (fun n:Int=>(gI l n.toNat).gl)++[(l[(L[k]?.getD 0).toNat]?.getD it0).gl]:=by rw[aiH h0,List.map_append];rfl
   have hGb:k≤60:=by omega
   clear hLk hgo hgl hio;generalize hx9:l[(L[k]?.getD 0).toNat]?.getD it0=it at*;obtain⟨kd,w9,c,d,e,cost,g⟩:=it;generalize hG9:(L.take k).map (fun n:Int=>(gI l n.toNat).gl)=G at*;replace hn:(L.take (k+1)).map (fun n:Int=>(gI l n.toNat).gl)=G++[(w9,c,d,e)]:=hn;replace hn:=Lib.hid hn;by_cases hz:G.length=0
   ·obtain rfl:G=[]:=List.eq_nil_of_length_eq_zero hz
    clear hGl hz hG9 hxy;(refine wlk ?_;intros);refine⟨(k+1,y+1,y+2),⟨by dsimp only;omega,by dsimp only;omega,fun _=>by dsimp only;omega⟩,by dsimp only;omega,?_,?_,rfl⟩
    ·dsimp only
     rw[hn.out];exact agr
    ·dsimp only
     rw[hn.out];exact agr
   ·obtain⟨hx0,hxy⟩:=hxy (by omega)
    have hap:0<(G.map pvG).length:=by rw[List.length_map];omega
    have hGc:G.length≤60:=by omega
    clear hz hG9 hGl;have hap3:0<((G++[(w9,c,d,e)]).map pvG).length:=by simp
    simp only[ay hap,aB hap,List.length_map];(refine wlk ?_;intros);refine⟨(k+1,y+1,y+2),⟨by dsimp only;omega,by dsimp only;omega,fun _=>by dsimp only;omega⟩,by dsimp only;omega,?_,?_,rfl⟩
    ·dsimp only
     rw[hn.out];simp(disch:=(first|omega|(simp only[push_cast];first|done|omega))) only[push_cast,↓reduceIte,Rq,Rb,Ra,Rs,Rt,ay hap3,List.length_append, *]
    ·dsimp only
     rw[hn.out];simp(disch:=(first|omega|(simp only[push_cast];first|done|omega))) only[push_cast,↓reduceIte,Rq,Rb,Ra,Rs,Rt,aB hap3, *]
  ·obtain rfl:k=L.length:=by omega
   rw[List.take_of_length_le (Nat.le_refl _)]at*;have hkx:gI l en=l[en]?.getD it0:=rfl;rw[hkx];clear hkx hLk;have hGL:(L.map fun n:Int=>(gI l n.toNat).gl).length=L.length:=List.length_map _;generalize hx9:l[en]?.getD it0=it at*;obtain⟨kd,w9,c,d,e,cost,g⟩:=it;replace hio:GOk (w9,c,d,e):=hio;generalize(L.map fun n:Int=>(gI l n.toNat).gl)=G at*;have apn:=ajQ;have apt:=adg (gs:=G) hgo (by omega);have apu:=adg (gs:=G++[(w9,c,d,e)]) (fun z hz=>by
    rcases List.mem_append.1 hz with hz|hz
    ·exact hgo z hz
    ·rw[List.mem_singleton.1 hz];exact hio) (by rw[List.length_append,List.length_singleton];omega)
   by_cases h3:kd=3
   ·rw[if_pos (show It.kd (kd,w9,c,d,e,cost,g)=3 from h3)]
    have hz9:It.gl (kd,w9,c,d,e,cost,g)=(w9,c,d,e):=rfl;rw[hz9];clear hz9 apn apt hgo hio;subst h3;by_cases hz:G.length=0
    ·obtain rfl:G=[]:=List.eq_nil_of_length_eq_zero hz
     rw[List.nil_append]at*;generalize kK [(w9,c,d,e)]=t at*;obtain⟨t1,t2,t3,t4⟩:=t;clear hGl hGL hz hxy;simp only[List.map_cons,List.map_nil]at apu;exact wlkF
    ·obtain⟨hx0,hxy⟩:=hxy (by omega)
     have hap:0<(G.map pvG).length:=by rw[List.length_map];omega
     generalize kK (G++[(w9,c,d,e)])=t at*;obtain⟨t1,t2,t3,t4⟩:=t;have hGc:G.length≤60:=by omega
     clear hz hGl hGL;simp only[ay hap,aB hap,List.length_map];exact wlkF
   ·rw[if_neg (show¬It.kd (kd,w9,c,d,e,cost,g)=3 from h3),List.append_nil]
    clear apu hgo hio;by_cases hz:G.length=0
    ·obtain rfl:G=[]:=List.eq_nil_of_length_eq_zero hz
     generalize kK []=t at*;obtain⟨t1,t2,t3,t4⟩:=t;clear hGl hGL hz hxy apt;exact wlkF
    ·obtain⟨hx0,hxy⟩:=hxy (by omega)
     have hap:0<(G.map pvG).length:=by rw[List.length_map];omega
     generalize kK G=t at*;obtain⟨t1,t2,t3,t4⟩:=t;clear hz hGl hGL apn;simp only[ay hap,aB hap,List.length_map];exact wlkF
def φLb:Fun:=F4 pz dI dI dI fun l n m wd=>open Classical in if axn l n m∧0≤wd∧wd≤1000 then some (.tup [iv (if eY l (n+1).toNat m.toNat=true then(jD l wd (n+1).toNat m.toNat).1 else-1),bv (eY l (n+1).toNat m.toNat&&(jD l wd (n+1).toNat m.toNat).2)])else none
theorem awM {l:List It} {a en:Nat} {wd:Int} (h:aZ l=true) (h2:a≤en) (h3:en<l.length) (h4:0≤wd∧wd≤1000):φLb [iw l,.val (.int .i64 ((a:Int)-1)),.val (.int .i64 en),.val (.int .i64 wd)]=some (.tup [.val (.int .i64 (if eY l a en=true then(jD l wd a en).1 else-1)),.val (.bool (eY l a en&&(jD l wd a en).2))]):=
 (aAL (A:=pz) (B:=dI) (C:=dI) (D:=dI) l ((a:Int)-1) en wd).trans (by rw[show((a:Int)-1+1).toNat=a by omega,Int.toNat_natCast];exact if_pos ⟨⟨h,by omega,by omega,by omega⟩,h4⟩)
def GLb:Ctx:={fn:=aT [(236,φLg),(64,φIn),(237,yH)],io:=aT []}
theorem azq:ak Tryz.prog GLb:=okΓ (fC Tryz.func236 akj (fC Tryz.func64 qR (fC Tryz.func237 adY aj))) aj
def wF:=ah (Γ:=GLb) (f:=236) (φ:=φLg) rfl
def acd:=ah (Γ:=GLb) (f:=64) (φ:=φIn) rfl
def yg:=ah (Γ:=GLb) (f:=237) (φ:=yH) rfl
theorem aj9:Sound Tryz.prog 215 φLb:=by
 refine au mixed azq Tryz.func215 rfl 63 rfl [.tmp 8,.tmp 9] rfl (by kernel_rfl) fun ps r hr=>?_;obtain⟨l,n,m,wd,rfl,hpre,rfl⟩:=aCu hr;refine⟨by simp,?_⟩;simp only[dIs,dUs,dSs,dw,dx,dh,dA,aS,dz,aQ,aR,aO,aP];obtain⟨⟨hB,hn0,hn1,hn2⟩,hw⟩:=hpre;obtain⟨a,rfl⟩:∃a:Nat,n=(a:Int)-1:=⟨(n+1).toNat,by omega⟩;obtain⟨en,rfl⟩:∃en:Nat,m=en:=⟨m.toNat,by omega⟩;show pq _ _ _ _ _ (dG [iw l,.val (.int .i64 ((a:Int)-1)),.val (.int .i64 en),.val (.int .i64 wd)]).tm _ _;rw[show((a:Int)-1+1).toNat=a by omega,Int.toNat_natCast];have ap1:=auD hB (show a≤en by omega) (show en<l.length by omega);have api:φIn [.val (.int .i64 wd),.val (.int .i64 0),.val (.int .i64 1000)]=some (.val (.bool true)):=(bM _ _ _).trans (by rw[av.2 hw]);obtain⟨g1,g2⟩:=adD (b:=aG l a) hB (show en<l.length by omega);obtain⟨⟨o1,o2,o3,o4⟩,t1,t2,t3⟩:=aoz g1 g2;have hE:jD l wd a en=aA0 (kK (nL l (aG l a) en)) wd:=rfl;have hE2:ahK l a en=nL l (aG l a) en:=rfl;unfold lgR at ap1;rw[hE];rw[hE2]at ap1;have hl:=bP hB;clear hB g1 g2 hE hE2;cases hq:eY l a en with
 |false=>rw[hq,if_neg (by decide)]at ap1;rw[if_neg (by decide),Bool.false_and];clear hq o1 o2 o3 o4 t1 t2 t3;have glb_c236:=wF;have glb_c64:=acd;have glb_c237:=yg;exact wlkF
 |true=>
  rw[hq,if_pos rfl]at ap1;rw[if_pos rfl,Bool.true_and];clear hq;generalize kK (nL l (aG l a) en)=t at*;obtain⟨tw,ts,th,tod⟩:=t;dsimp only at o1 o2 o3 o4 t1 t2 t3;have hG:aA0 (tw,ts,th,tod) wd=if tw≤wd then(if tod=1 then(0,true)else(aef (wd-tw) ts,true))else if tw-wd≤th then(aef (tw-wd) th,false)else(-1,false):=rfl;rw[hG];by_cases h1:tw≤wd
  ·have ap3:=qX (need:=wd-tw) (room:=ts) ⟨⟨by omega,by omega⟩,by omega,by omega⟩
   rw[if_pos h1];by_cases h2:tod=1
   ·rw[if_pos h2]
    subst h2;have glb_c236:=wF;have glb_c64:=acd;have glb_c237:=yg;exact wlkF
   ·rw[if_neg h2]
    generalize aef (wd-tw) ts=bd at*;have glb_c236:=wF;have glb_c64:=acd;have glb_c237:=yg;exact wlkF
  ·rw[if_neg h1]
   by_cases h2:tw-wd≤th
   ·have ap3:=qX (need:=tw-wd) (room:=th) ⟨⟨by omega,by omega⟩,by omega,by omega⟩
    rw[if_pos h2];generalize aef (tw-wd) th=bd at*;have glb_c236:=wF;have glb_c64:=acd;have glb_c237:=yg;exact wlkF
   ·rw[if_neg h2]
    have glb_c236:=wF;have glb_c64:=acd;have glb_c237:=yg;exact wlkF
abbrev LE:=Int×Bool×Int
abbrev dLe:Dec LE:=dA3 dI dB dI
abbrev aBQ (x:LE):PV:=.agg [.val (.int .i64 x.1),.val (.bool x.2.1),.val (.int .i64 x.2.2)]
def lcR (l:List It) (wd most:Int) (a en:Nat) (lk:Int):Int×LE:=match jG l wd most a en with
 |none=>(-1,(0,false,0))
 |some x=>(x.1+jP l a en lk x.2,((en:Int),(l[en]?.getD it0).2.2.2.2.2.2,x.2))
abbrev aFk (l:List It) (wd most:Int) (e:LE) (m:Int):Prop:=axn l e.1 m∧(0≤wd∧wd≤1000)∧(0≤most∧most≤10000)∧(0≤e.2.2∧e.2.2≤3)∧(0≤e.1→e.2.1=(l[e.1.toNat]?.getD it0).2.2.2.2.2.2)
def φLc:Fun:=F5 pz dI dI dLe dI fun l wd most e m=>open Classical in if aFk l wd most e m then some (.tup [iv (lcR l wd most (e.1+1).toNat m.toNat e.2.2).1,aBQ (lcR l wd most (e.1+1).toNat m.toNat e.2.2).2])else none
theorem auV {l:List It} {wd most:Int} {a en:Nat} {mk:Bool} {lk:Int} (h:aFk l wd most ((a:Int)-1,mk,lk) en):φLc [iw l,.val (.int .i64 wd),.val (.int .i64 most),aBQ ((a:Int)-1,mk,lk),.val (.int .i64 en)]=some (.tup [.val (.int .i64 (lcR l wd most a en lk).1),aBQ (lcR l wd most a en lk).2]):=
 (az6 (A:=pz) (B:=dI) (C:=dI) (D:=dLe) (E:=dI) l wd most ((a:Int)-1,mk,lk) en).trans ((if_pos h).trans (by rw[show(((a:Int)-1,mk,lk).1+1).toNat=a by dsimp only;omega,Int.toNat_natCast]))
def GLc:Ctx:={fn:=aT [(215,φLb),(216,φLk),(217,φCo)],io:=aT []}
theorem aA2:ak Tryz.prog GLc:=okΓ (fC Tryz.func215 aj9 (fC Tryz.func216 aoE (fC Tryz.func217 an0 aj))) aj
def yO:=ah (Γ:=GLc) (f:=215) (φ:=φLb) rfl
def yG:=ah (Γ:=GLc) (f:=216) (φ:=φLk) rfl
def yR:=ah (Γ:=GLc) (f:=217) (φ:=φCo) rfl
theorem alu:Sound Tryz.prog 176 φLc:=by
 refine au mixed aA2 Tryz.func176 rfl 77 rfl [.tmp 10,.cell 11 145] rfl (by kernel_rfl) fun ps r hr=>?_;obtain⟨l,wd,most,⟨n,mk,lk⟩,m,rfl,hq⟩:=alJ hr;clear hr;split at hq
 case isFalse=>cases hq
 case isTrue hpre=>
 cases hq;refine⟨by simp,?_⟩;simp only[dIs,dUs,dSs,dw,dx,dh,dA,aS,dz,aQ,aR,aO,aP];obtain⟨⟨hB,hn0,hn1,hn2⟩,hw,hm,hlk,hmk⟩:=hpre;(try dsimp only at hn0 hn1 hn2 hlk hmk);obtain⟨a,rfl⟩:∃a:Nat,n=(a:Int)-1:=⟨(n+1).toNat,by omega⟩;obtain⟨en,rfl⟩:∃en:Nat,m=en:=⟨m.toNat,by omega⟩;show pq _ _ _ _ _ (dG [iw l,.val (.int .i64 wd),.val (.int .i64 most),aBQ ((a:Int)-1,mk,lk),.val (.int .i64 en)]).tm _ _;(try dsimp only);rw[show((a:Int)-1+1).toNat=a by omega,Int.toNat_natCast];have hl:=bP hB;have hel:en<l.length:=by omega
 have ap1:=awM hB (show a≤en by omega) hel hw;have hcst:ald (l[en]?.getD it0).2.2.2.2.2.1:=(iR hB hel).cost;have hlr:jG l wd most a en=if eY l a en=true∧0≤(jD l wd a en).1∧(jD l wd a en).1≤most then some (ni (jD l wd a en).1 (l[en]?.getD it0).2.2.2.2.2.1,iH (jD l wd a en).2 (jD l wd a en).1)else none:=rfl;have hbw:∀k,jP l a en lk k=(if 0<a∧(l[a-1]?.getD it0).2.2.2.2.2.2=true∧(l[en]?.getD it0).2.2.2.2.2.2=true then 3000 else 0)+(if 0<a∧(1<lk-k∨lk-k< -1)then 3000 else 0):=fun k=>rfl;have hmk2:0<a→(l[a-1]?.getD it0).2.2.2.2.2.2=mk:=fun h=>by have:=hmk (by omega);rw[show((a:Int)-1).toNat=a-1 by omega]at this;exact this.symm
 unfold lcR;rw[hlr];clear hlr hmk hn0 hn1 hn2 hB;generalize jD l wd a en=B at*;obtain⟨bad,st⟩:=B;(try dsimp only at ap1⊢);by_cases hL:eY l a en=true∧0≤bad∧bad≤most
 ·rw[if_pos hL]
  (try dsimp only);obtain⟨h1,h2,h3⟩:=hL;rw[h1,if_pos rfl,Bool.true_and]at ap1;have ap2:=abL (s:=st) (bad:=bad) ⟨h2,by omega⟩;have ap3:=aeG (bad:=bad) ⟨h2,by omega⟩ hcst;have hkr:=oV st bad;have hcr:=rP (bad:=bad) ⟨h2,by omega⟩ hcst;rw[hbw];clear hbw h1 hcst;by_cases h0:0<a
  ·rw[hmk2 h0]
   clear hmk2;generalize hy:l[en]?.getD it0=y at*;obtain⟨y1,y2,y3,y4,y5,y6,y7⟩:=y;(try dsimp only at ap3 hcr⊢);generalize ni bad y6=co at*;generalize iH st bad=k at*;cases mk<;>cases y7<;>by_cases hz:1<lk-k∨lk-k< -1<;>
   ·first
     |rw[if_pos (show 0<a∧(1<lk-k∨lk-k< -1)from⟨h0,hz⟩)]
     |rw[if_neg (show¬(0<a∧(1<lk-k∨lk-k< -1))from fun q=>hz q.2)]
    have glc_c215:=yO;have glc_c216:=yG;have glc_c217:=yR;(refine wlk ?_;intros);refine oU 10 (by simp only[List.map_cons,List.map_nil]<;>exact rfl) (by simp only[List.take_succ_cons,List.take_zero]<;>exact rfl) (by simp only[List.drop_succ_cons,List.drop_zero]<;>exact rfl) zo (by decide+kernel) (by decide+kernel) ?_;(refine wlk ?_;intros);refine ay9 (by(exact sr)) ?_;((refine wlk6 ?_ ?_ ?_ ?_ ?_ ?_<;>intros<;>try with_reducible exact trivial)<;>(refine fnG ?_;try with_reducible exact trivial));all_goals(simp[h0];try omega)
  ·obtain rfl:a=0:=by omega
   rw[if_neg (fun q=>h0 q.1),if_neg (fun q=>h0 q.1)];clear hmk2;generalize hy:l[en]?.getD it0=y at*;obtain⟨y1,y2,y3,y4,y5,y6,y7⟩:=y;(try dsimp only at ap3 hcr⊢);generalize ni bad y6=co at*;generalize iH st bad=k at*;simp only[Int.natCast_zero,Int.zero_sub]at ap1⊢;have glc_c215:=yO;have glc_c216:=yG;have glc_c217:=yR;(refine wlk ?_;intros);refine oU 10 (by simp only[List.map_cons,List.map_nil]<;>exact rfl) (by simp only[List.take_succ_cons,List.take_zero]<;>exact rfl) (by simp only[List.drop_succ_cons,List.drop_zero]<;>exact rfl) zo (by decide+kernel) (by decide+kernel) ?_;(refine wlk ?_;intros);refine ay9 (by(exact sr)) ?_;((refine wlk6 ?_ ?_ ?_ ?_ ?_ ?_<;>intros<;>try with_reducible exact trivial)<;>(refine fnG ?_;try with_reducible exact trivial));all_goals(simp;try omega)
 ·rw[if_neg hL]
  (try dsimp only);have hbb:∃b9:Int,φLb [iw l,.val (.int .i64 ((a:Int)-1)),.val (.int .i64 en),.val (.int .i64 wd)]=some (.tup [.val (.int .i64 b9),.val (.bool (eY l a en&&st))])∧(b9<0∨most<b9):=by
   refine⟨_,ap1,?_⟩;split
   ·rename_i h
    by_cases hb0:bad<0
    ·exact .inl hb0
    ·refine .inr ?_
     by_cases hb1:bad≤most
     ·exact absurd ⟨h,by omega,hb1⟩ hL
     ·omega
   ·exact .inl (by decide)
  clear hL ap1 hbw hmk2 hcst;obtain⟨b9,ap1,hb⟩:=hbb;generalize(eY l a en&&st)=q9 at*;rcases hb with hb|hb
  ·have glc_c215:=yO;have glc_c216:=yG;have glc_c217:=yR
   exact wlkF
  ·by_cases h00:b9<0
   ·have glc_c215:=yO;have glc_c216:=yG;have glc_c217:=yR
    exact wlkF
   ·have glc_c215:=yO;have glc_c216:=yG;have glc_c217:=yR
    exact wlkF
end
end Go.Proofs.YtmmafcjjlbgnkaaGreatDoor
