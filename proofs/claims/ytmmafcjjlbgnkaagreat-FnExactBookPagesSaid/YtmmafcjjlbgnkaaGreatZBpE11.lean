/- What the proof rests on, part 11: contracts of functions. No condition beyond what each states. -/
import Derived.Test.YtmmafcjjlbgnkaaGreatZBpE10
namespace Go.Proofs.YtmmafcjjlbgnkaaGreat
open Go.RowKit
set_option linter.all false
set_option maxHeartbeats 32000000
noncomputable section
abbrev eU (l:List It):PV:=.lst false 7 (l.map fE)
theorem acD (l:List It) (n:Nat):mg l n=if(l[n]?.getD it0).1=2 then decide (0<n∧(l[n-1]?.getD it0).1=1)else decide ((l[n]?.getD it0).1=3∧(l[n]?.getD it0).2.2.2.2.2.1<10000):=rfl
theorem lG (x:It):forced x=decide (x.1=3∧x.2.2.2.2.2.1=-10000):=rfl
def φBq:Fun:=F2 lV dI fun l n=>open Classical in if aS l=true∧0≤n∧n<l.length then some (bv (mg l n.toNat))else none
theorem vw {l:List It} {n:Nat} (h:aS l=true) (h2:n<l.length):φBq [eU l,.val (.int .i64 n)]=some (.val (.bool (mg l n))):=(gY (A:=lV) (B:=dI) l n).trans (if_pos ⟨h,by omega,by omega⟩)
theorem zu:Sound Tryz.prog 78 φBq:=by
 refine ak mixed bL Tryz.func78 rfl 36 rfl [.tmp 4] rfl (by kernel_rfl) fun ps r hr=>?_;obtain⟨l,n,rfl,hpre,rfl⟩:=gy hr;refine⟨by simp,?_⟩;simp only[dIs,dUs,dSs,bR,bV,bT,bU,aI,bW,aL,aO,aH,aJ];obtain⟨hB,hn0,hn1⟩:=hpre;obtain⟨m,rfl⟩:∃m:Nat,n=m:=⟨n.toNat,by omega⟩;have hl:=bC hB;show pq _ _ _ _ _ (bM [eU l,.val (.int .i64 m)]).tm _ _;have hm:m<l.length:=by omega
 have e1:0<m→((m:Int)-1).toNat=m-1:=fun h=>by omega
 rw[Int.toNat_natCast,acD];clear hB;by_cases h0:0<m
 ·have e1:=e1 h0
  generalize hx:l[m]?.getD it0=x at*;generalize hy:l[m-1]?.getD it0=y at*;obtain⟨a,b,c,d,e,f,g⟩:=x;obtain⟨a',b',c',d',e',f',g'⟩:=y;dsimp only
  ((refine wlk6 ?_ ?_ ?_ ?_ ?_ ?_<;>intros<;>try with_reducible exact trivial)<;>(refine fnG ?_;try with_reducible exact trivial));all_goals((refine congrArg (fun z=>some (PV.val (Value.bool z))) ?_);first|(simp_all;done)|(simp_all;omega))
 ·generalize hx:l[m]?.getD it0=x at*
  obtain⟨a,b,c,d,e,f,g⟩:=x;clear e1;dsimp only
  ((refine wlk6 ?_ ?_ ?_ ?_ ?_ ?_<;>intros<;>try with_reducible exact trivial)<;>(refine fnG ?_;try with_reducible exact trivial));all_goals((refine congrArg (fun z=>some (PV.val (Value.bool z))) ?_);first|(simp_all;done)|(simp_all;omega))
def φMb:Fun:=F2 lV dI fun l n=>open Classical in if aS l=true∧-1000≤n∧n≤1000 then some (bv (decide (0≤n∧n<l.length)&&mg l n.toNat))else none
theorem agN {l:List It} {n:Int} (h:aS l=true) (h2:-1000≤n∧n≤1000):φMb [eU l,.val (.int .i64 n)]=some (.val (.bool (decide (0≤n∧n<l.length)&&mg l n.toNat))):=(gY (A:=lV) (B:=dI) l n).trans (if_pos ⟨h,h2⟩)
def GMb:Ctx:={fn:=aT [(43,φIn)],io:=aT []}
theorem auo:au Tryz.prog GMb:=okΓ (fC Tryz.func43 qd aj) aj
def agw:=ah (Γ:=GMb) (f:=43) (φ:=φIn) rfl
theorem ah1:Sound Tryz.prog 93 φMb:=by
 refine ak mixed auo Tryz.func93 rfl 44 rfl [.tmp 4] rfl (by kernel_rfl) fun ps r hr=>?_;obtain⟨l,n,rfl,hpre,rfl⟩:=gy hr;refine⟨by simp,?_⟩;simp only[dIs,dUs,dSs,bR,bV,bT,bU,aI,bW,aL,aO,aH,aJ];obtain⟨hB,hn0,hn1⟩:=hpre;have hl:=bC hB;show pq _ _ _ _ _ (bM [eU l,.val (.int .i64 n)]).tm _ _;have ap:=bJ;clear hB;by_cases hr:0≤n∧n<l.length
 ·obtain⟨m,rfl⟩:∃m:Nat,n=m:=⟨n.toNat,by omega⟩
  have hm:m<l.length:=by omega
  have hin:inB (m:Int) 0 ((l.length:Int)-1)=true:=ay.2 ⟨by omega,by omega⟩;have e1:0<m→((m:Int)-1).toNat=m-1:=fun h=>by omega
  rw[decide_eq_true hr,Bool.true_and,Int.toNat_natCast,acD];clear hr;by_cases h0:0<m
  ·have e1:=e1 h0
   generalize hx:l[m]?.getD it0=x at*;generalize hy:l[m-1]?.getD it0=y at*;obtain⟨a,b,c,d,e,f,g⟩:=x;obtain⟨a',b',c',d',e',f',g'⟩:=y;dsimp only
   have gmb_c43:=agw;((refine wlk6 ?_ ?_ ?_ ?_ ?_ ?_<;>intros<;>try with_reducible exact trivial)<;>(refine fnG ?_;try with_reducible exact trivial));all_goals((refine congrArg (fun z=>some (PV.val (Value.bool z))) ?_);first|(simp_all;done)|(simp_all;omega))
  ·generalize hx:l[m]?.getD it0=x at*
   obtain⟨a,b,c,d,e,f,g⟩:=x;clear e1;dsimp only
   have gmb_c43:=agw;((refine wlk6 ?_ ?_ ?_ ?_ ?_ ?_<;>intros<;>try with_reducible exact trivial)<;>(refine fnG ?_;try with_reducible exact trivial));all_goals((refine congrArg (fun z=>some (PV.val (Value.bool z))) ?_);first|(simp_all;done)|(simp_all;omega))
 ·have hin:inB n 0 ((l.length:Int)-1)=false:=Bool.eq_false_iff.2 fun q=>by have:=ay.1 q;omega
  rw[decide_eq_false hr,Bool.false_and];clear hr;have gmb_c43:=agw;exact wlkF
def φFc:Fun:=F1 dIt fun x=>some (bv (forced x))
theorem afE {a b c d e f:Int} {g:Bool}:φFc [.agg [.val (.int .i64 a),.val (.int .i64 b),.val (.int .i64 c),.val (.int .i64 d),.val (.int .i64 e),.val (.int .i64 f),.val (.bool g)]]=some (.val (.bool (forced (a,b,c,d,e,f,g)))):=fM (A:=dIt) (a,b,c,d,e,f,g)
theorem aah:Sound Tryz.prog 95 φFc:=by
 refine ak mixed bL Tryz.func95 rfl 11 rfl [.tmp 2] rfl (by kernel_rfl) fun ps r hr=>?_;obtain⟨⟨a,b,c,d,e,f,g⟩,rfl,hr⟩:=bG hr;cases hr;refine⟨by simp,?_⟩;simp only[dIs,dUs,dSs,bR,bV,bT,bU,aI,bW,aL,aO,aH,aJ];simp only[an4,bR,bT];rw[lG];dsimp only
 ((refine wlk6 ?_ ?_ ?_ ?_ ?_ ?_<;>intros<;>try with_reducible exact trivial)<;>(refine fnG ?_;try with_reducible exact trivial));all_goals((refine congrArg (fun z=>some (PV.val (Value.bool z))) ?_);first|(simp_all;done)|(simp_all;omega))
def φSt:Fun:=F2 lV dI fun l n=>open Classical in if aS l=true∧-1≤n∧n<l.length then some (iv (aB l (n+1).toNat))else none
theorem aaO {l:List It} {a:Nat} (h:aS l=true) (h2:a≤l.length):φSt [eU l,.val (.int .i64 ((a:Int)-1))]=some (.val (.int .i64 (aB l a))):=(gY (A:=lV) (B:=dI) l ((a:Int)-1)).trans ((if_pos ⟨h,by omega,by omega⟩).trans (by rw[show((a:Int)-1+1).toNat=a by omega]))
theorem agM {l:List It} {a:Nat}:aB l a=if a<l.length∧¬(l[a]?.getD it0).1=1∧¬((l[a]?.getD it0).1=3∧(l[a]?.getD it0).2.2.2.2.2.1=-10000)then aB l (a+1)else a:=by
 split
 ·rename_i h
  exact auS h.1 h.2.1 (decide_eq_false h.2.2)
 ·rename_i h
  refine aj8 fun q=>h ⟨q.1,q.2.1,fun r=>?_⟩;have:=q.2.2;rw[lG,decide_eq_true r]at this;cases this
def axZ:Ctx:={fn:=aT [(95,φFc)],io:=aT []}
theorem ap8:au Tryz.prog axZ:=okΓ (fC Tryz.func95 aah aj) aj
def an1:=ah (Γ:=axZ) (f:=95) (φ:=φFc) rfl
theorem af5:Sound Tryz.prog 94 φSt:=by
 refine ak mixed ap8 Tryz.func94 rfl 31 rfl [.tmp 4] rfl (by kernel_rfl) fun ps r hr=>?_;obtain⟨l,n,rfl,hpre,rfl⟩:=gy hr;refine⟨by simp,?_⟩;simp only[dIs,dUs,dSs,bR,bV,bT,bU,aI,bW,aL,aO,aH,aJ];obtain⟨hB,hn0,hn1⟩:=hpre;obtain⟨a,rfl⟩:∃a:Nat,n=(a:Int)-1:=⟨(n+1).toNat,by omega⟩;have hl:=bC hB;have ha:a≤l.length:=by omega
 show pq _ _ _ _ _ (bM [eU l,.val (.int .i64 ((a:Int)-1))]).tm _ _;rw[show((a:Int)-1+1).toNat=a by omega];have ap:=@afE;clear hB hn0 hn1;generalize hR:aB l a=R;replace hR:=Lib.hid hR;have gsti_c95:=an1;(refine wlk ?_;intros);refine aF (α:=Nat) mixed (fun k=>[(0,eU l),(5,iv k)]) (fun _=>[]) (fun _=>0)
  (fun k=>k≤l.length∧aB l k=R) (fun k=>l.length-k) (by kernel_rfl) a ⟨ha,hR.out⟩ ?_ ?_ rfl ?_
 ·exact agi
 ·exact agr
 rintro k ⟨hk,hI⟩;rw[agM]at hI;clear hR ha;by_cases h0:k<l.length
 ·generalize hx:l[k]?.getD it0=x at*
  obtain⟨kd,b,c,d,e,cost,g⟩:=x;dsimp only at hI;by_cases h1:kd=1
  ·rw[if_neg (by omega)]at hI
   subst hI;exact wlkF
  ·by_cases h3:kd=3∧cost=-10000
   ·rw[if_neg (by omega)]at hI
    have hf:forced (kd,b,c,d,e,cost,g)=true:=by rw[lG];exact decide_eq_true h3
    subst hI;clear h3;exact wlkF
   ·rw[if_pos ⟨h0,h1,h3⟩]at hI
    have hf:forced (kd,b,c,d,e,cost,g)=false:=by rw[lG];exact decide_eq_false h3
    replace hI:=Lib.hid hI;clear h3;(refine wlk ?_;intros);refine⟨k+1,⟨by omega,hI.out⟩,by dsimp only;omega,?_,?_,rfl⟩
    ·exact agr
    ·exact agr
 ·rw[if_neg (fun q=>h0 q.1)]at hI
  subst hI;exact wlkF
theorem zl:Sound Tryz.prog 98 φSt:=by
 refine ak mixed bL Tryz.func98 rfl 39 rfl [.tmp 4] rfl (by kernel_rfl) fun ps r hr=>?_;obtain⟨l,n,rfl,hpre,rfl⟩:=gy hr;refine⟨by simp,?_⟩;simp only[dIs,dUs,dSs,bR,bV,bT,bU,aI,bW,aL,aO,aH,aJ];obtain⟨hB,hn0,hn1⟩:=hpre;obtain⟨a,rfl⟩:∃a:Nat,n=(a:Int)-1:=⟨(n+1).toNat,by omega⟩;have hl:=bC hB;have hat:=fun k hk=>(fI hB (k:=k) hk).cost;have ha:a≤l.length:=by omega
 show pq _ _ _ _ _ (bM [eU l,.val (.int .i64 ((a:Int)-1))]).tm _ _;rw[show((a:Int)-1+1).toNat=a by omega];clear hB hn0 hn1;generalize hR:aB l a=R;replace hR:=Lib.hid hR;(refine wlk ?_;intros);refine aF (α:=Nat) mixed (fun k=>[(0,eU l),(5,iv k)]) (fun _=>[]) (fun _=>0)
  (fun k=>k≤l.length∧aB l k=R) (fun k=>l.length-k) (by kernel_rfl) a ⟨ha,hR.out⟩ ?_ ?_ rfl ?_
 ·exact agi
 ·exact agr
 rintro k ⟨hk,hI⟩;rw[agM]at hI;clear hR ha;by_cases h0:k<l.length
 ·have hc:(0≤(l[k]?.getD it0).2.2.2.2.2.1∧(l[k]?.getD it0).2.2.2.2.2.1≤10000)∨(l[k]?.getD it0).2.2.2.2.2.1=-10000:=hat k h0
  clear hat;generalize hx:l[k]?.getD it0=x at*;obtain⟨kd,b,c,d,e,cost,g⟩:=x;dsimp only at hI hc;by_cases h1:kd=1
  ·rw[if_neg (by omega)]at hI
   subst hI;clear hc;exact wlkF
  ·by_cases h3:kd=3∧cost=-10000
   ·rw[if_neg (by omega)]at hI
    subst hI;obtain⟨h3,h4⟩:=h3;subst h3;subst h4;clear hc h1;exact wlkF
   ·rw[if_pos ⟨h0,h1,h3⟩]at hI
    replace hI:=Lib.hid hI;by_cases h5:kd=3
    ·have h6:0≤cost:=by omega
     clear hc h3 h1;subst h5;(refine wlk ?_;intros);refine⟨k+1,⟨by omega,hI.out⟩,by dsimp only;omega,?_,?_,rfl⟩
     ·exact agr
     ·exact agr
    ·clear hc h3
     (refine wlk ?_;intros);refine⟨k+1,⟨by omega,hI.out⟩,by dsimp only;omega,?_,?_,rfl⟩
     ·exact agr
     ·exact agr
 ·rw[if_neg (fun q=>h0 q.1)]at hI
  subst hI;clear hat;exact wlkF
def φNf:Fun:=F3 lV dI dI fun l n m=>open Classical in if aS l=true∧-1≤n∧n<m∧m<l.length then some (bv (qj l (n+1).toNat m.toNat))else none
theorem apH {l:List It} {a b:Nat} (h:aS l=true) (h2:a≤b) (h3:b<l.length):φNf [eU l,.val (.int .i64 ((a:Int)-1)),.val (.int .i64 b)]=some (.val (.bool (qj l a b))):=(yX (A:=lV) (B:=dI) (C:=dI) l ((a:Int)-1) b).trans ((if_pos ⟨h,by omega,by omega,by omega⟩).trans (by rw[show((a:Int)-1+1).toNat=a by omega,Int.toNat_natCast]))
theorem aib:Sound Tryz.prog 99 φNf:=by
 refine ak mixed bL Tryz.func99 rfl 29 rfl [.tmp 6] rfl (by kernel_rfl) fun ps r hr=>?_;obtain⟨l,n,m,rfl,hpre,rfl⟩:=wI hr;refine⟨by simp,?_⟩;simp only[dIs,dUs,dSs,bR,bV,bT,bU,aI,bW,aL,aO,aH,aJ];obtain⟨hB,hn0,hn1,hn2⟩:=hpre;obtain⟨a,rfl⟩:∃a:Nat,n=(a:Int)-1:=⟨(n+1).toNat,by omega⟩;obtain⟨b,rfl⟩:∃b:Nat,m=b:=⟨m.toNat,by omega⟩;have hl:=bC hB;have hab:a≤b:=by omega
 have hbl:b<l.length:=by omega
 show pq _ _ _ _ _ (bM [eU l,.val (.int .i64 ((a:Int)-1)),.val (.int .i64 b)]).tm _ _;rw[show((a:Int)-1+1).toNat=a by omega,Int.toNat_natCast];clear hB hn0 hn1 hn2;(refine wlk ?_;intros);refine aF (α:=Nat) mixed (fun k=>[(0,eU l),(2,iv b),(7,iv k)]) (fun _=>[]) (fun _=>0)
  (fun k=>(a≤k∧k≤b)∧qj l a k=true) (fun k=>b-k) (by kernel_rfl) a ⟨⟨Nat.le_refl _,hab⟩,xR (Nat.le_refl _)⟩ ?_ ?_ rfl ?_
 ·exact agi
 ·exact agr
 rintro k ⟨⟨hk1,hk2⟩,hI⟩;by_cases h0:k<b
 ·have hs:=qZ (l:=l) hk1
  rw[hI,Bool.true_and]at hs;have hno:=fun h=>abj (b:=b) (l:=l) h hk1 h0;have hfr:forced (gI l k)=decide ((l[k]?.getD it0).1=3∧(l[k]?.getD it0).2.2.2.2.2.1=-10000):=rfl;rw[hfr]at hs;clear hI hfr;generalize hx:l[k]?.getD it0=x at*;obtain⟨kd,w9,c,d,e,cost,g⟩:=x;dsimp only at hs;by_cases h3:kd=3∧cost=-10000
  ·rw[decide_eq_true h3]at hs
   rw[hno hs];obtain⟨h3,h4⟩:=h3;subst h3;subst h4;clear hs hno;exact wlkF
  ·rw[decide_eq_false h3]at hs
   replace hs:=Lib.hid hs;clear hno;by_cases h5:kd=3
   ·have h6:¬cost=-10000:=fun q=>h3 ⟨h5,q⟩
    clear h3;subst h5;(refine wlk ?_;intros);refine⟨k+1,⟨⟨by omega,by omega⟩,hs.out⟩,by dsimp only;omega,?_,?_,rfl⟩
    ·exact agr
    ·exact agr
   ·clear h3
    (refine wlk ?_;intros);refine⟨k+1,⟨⟨by omega,by omega⟩,hs.out⟩,by dsimp only;omega,?_,?_,rfl⟩
    ·exact agr
    ·exact agr
 ·obtain rfl:k=b:=by omega
  rw[hI];clear hI;exact wlkF
def φLq:Fun:=F3 lV dI dI fun l n m=>open Classical in if aS l=true∧-1≤n∧n<m∧m<l.length then some (bv (dH l (n+1).toNat m.toNat))else none
theorem ahQ {l:List It} {a b:Nat} (h:aS l=true) (h2:a≤b) (h3:b<l.length):φLq [eU l,.val (.int .i64 ((a:Int)-1)),.val (.int .i64 b)]=some (.val (.bool (dH l a b))):=(yX (A:=lV) (B:=dI) (C:=dI) l ((a:Int)-1) b).trans ((if_pos ⟨h,by omega,by omega,by omega⟩).trans (by rw[show((a:Int)-1+1).toNat=a by omega,Int.toNat_natCast]))
def GLq:Ctx:={fn:=aT [(48,φIn),(78,φBq),(98,φSt),(99,φNf)],io:=aT []}
theorem arq:au Tryz.prog GLq:=okΓ (fC Tryz.func48 gB (fC Tryz.func78 zu (fC Tryz.func98 zl (fC Tryz.func99 aib aj)))) aj
def amu:=ah (Γ:=GLq) (f:=48) (φ:=φIn) rfl
def amw:=ah (Γ:=GLq) (f:=78) (φ:=φBq) rfl
def amv:=ah (Γ:=GLq) (f:=98) (φ:=φSt) rfl
def al1:=ah (Γ:=GLq) (f:=99) (φ:=φNf) rfl
theorem agJ:Sound Tryz.prog 79 φLq:=by
 refine ak mixed arq Tryz.func79 rfl 45 rfl [.tmp 6] rfl (by kernel_rfl) fun ps r hr=>?_;obtain⟨l,n,m,rfl,hpre,rfl⟩:=wI hr;refine⟨by simp,?_⟩;simp only[dIs,dUs,dSs,bR,bV,bT,bU,aI,bW,aL,aO,aH,aJ];obtain⟨hB,hn0,hn1,hn2⟩:=hpre;obtain⟨a,rfl⟩:∃a:Nat,n=(a:Int)-1:=⟨(n+1).toNat,by omega⟩;obtain⟨b,rfl⟩:∃b:Nat,m=b:=⟨m.toNat,by omega⟩;have hl:=bC hB;have hab:a≤b:=by omega
 have hbl:b<l.length:=by omega
 show pq _ _ _ _ _ (bM [eU l,.val (.int .i64 ((a:Int)-1)),.val (.int .i64 b)]).tm _ _;rw[show((a:Int)-1+1).toNat=a by omega,Int.toNat_natCast];have ap1:φIn [.val (.int .i64 ((a:Int)-1)),.val (.int .i64 (-1)),.val (.int .i64 ((b:Int)-1))]=some (.val (.bool true)):=(bJ _ _ _).trans (by rw[ay.2 ⟨by omega,by omega⟩]);have ap2:φIn [.val (.int .i64 b),.val (.int .i64 0),.val (.int .i64 ((l.length:Int)-1))]=some (.val (.bool true)):=(bJ _ _ _).trans (by rw[ay.2 ⟨by omega,by omega⟩]);have ap3:=vw hB hbl;have ap5:=aaO (a:=a) hB (by omega);have ap6:=apH hB hab hbl;have hE:dH l a b=(mg l b&&((decide (a=0)||mg l (a-1))&&(decide (aB l a≤b)&&qj l a b))):=by unfold dH;rw[decide_eq_true ⟨hab,hbl⟩,Bool.true_and]
 rw[hE];clear hE hn0 hn1 hn2;generalize mg l b=q1 at*;generalize qj l a b=q2 at*;generalize aB l a=s9 at*;by_cases h0:a=0
 ·subst h0
  clear hB;simp only[Int.natCast_zero,Int.zero_sub]at ap1 ap5 ap6⊢;have glq_c48:=amu;have glq_c78:=amw;have glq_c98:=amv;have glq_c99:=al1;((refine wlk6 ?_ ?_ ?_ ?_ ?_ ?_<;>intros<;>try with_reducible exact trivial)<;>(refine fnG ?_;try with_reducible exact trivial));all_goals((refine congrArg (fun z=>some (PV.val (Value.bool z))) ?_);first|(simp_all;done)|(simp_all;omega))
 ·have ap4:=vw (n:=a-1) hB (by omega)
  rw[show((a-1:Nat):Int)=(a:Int)-1 by omega]at ap4;generalize mg l (a-1)=q3 at*;clear hB;have glq_c48:=amu;have glq_c78:=amw;have glq_c98:=amv;have glq_c99:=al1;((refine wlk6 ?_ ?_ ?_ ?_ ?_ ?_<;>intros<;>try with_reducible exact trivial)<;>(refine fnG ?_;try with_reducible exact trivial));all_goals((refine congrArg (fun z=>some (PV.val (Value.bool z))) ?_);first|(simp_all;done)|(simp_all;omega))
abbrev pvG (g:I4):PV:=.agg [.val (.int .i64 g.1),.val (.int .i64 g.2.1),.val (.int .i64 g.2.2.1),.val (.int .i64 g.2.2.2)]
theorem akM (a b c d a' b' c' d':Int):abA (a,b,c,d) (a',b',c',d')=(a+a',(if(if b=0 then 0 else d)=max (if b=0 then 0 else d) (if b'=0 then 0 else d')then b else 0)+(if(if b'=0 then 0 else d')=max (if b=0 then 0 else d) (if b'=0 then 0 else d')then b' else 0),c+c',max (if b=0 then 0 else d) (if b'=0 then 0 else d')):=rfl
abbrev aru (g:I4):Prop:=(0≤g.1∧g.1≤1000000)∧(0≤g.2.1∧g.2.1≤1000000)∧(0≤g.2.2.1∧g.2.2.1≤1000000)∧(g.2.2.2=0∨g.2.2.2=1)
def aly:Fun:=F2 dI4 dI4 fun a b=>open Classical in if aru a∧aru b then some (pvG (abA a b))else none
theorem ac5 {a b:I4} (h:aru a) (h2:aru b):aly [pvG a,pvG b]=some (pvG (abA a b)):=(gY (A:=dI4) (B:=dI4) a b).trans (if_pos ⟨h,h2⟩)
theorem ae5:Sound Tryz.prog 114 aly:=by
 refine ak mixed bL Tryz.func114 rfl 58 rfl [.cell 4 54] rfl (by kernel_rfl) fun ps r hr=>?_;obtain⟨⟨a,b,c,d⟩,⟨a',b',c',d'⟩,rfl,hpre,rfl⟩:=gy hr;refine⟨by simp,?_⟩;simp only[dIs,dUs,dSs,bR,bV,bT,bU,aI,bW,aL,aO,aH,aJ];obtain⟨⟨h1,h2,h3,h4⟩,h5,h6,h7,h8⟩:=hpre;dsimp only at h1 h2 h3 h4 h5 h6 h7 h8;rw[akM];have g00:¬((0:Int)>0):=by decide
 have g10:(1:Int)>0:=by decide
 have g01:¬((0:Int)>1):=by decide
 have g11:¬((1:Int)>1):=by decide
 have n01:¬((0:Int)=1):=by decide
 have n10:¬((1:Int)=0):=by decide
 have m00:max (0:Int) 0=0:=by decide
 have m01:max (0:Int) 1=1:=by decide
 have m10:max (1:Int) 0=1:=by decide
 have m11:max (1:Int) 1=1:=by decide
 rcases h4 with rfl|rfl<;>rcases h8 with rfl|rfl<;>
 ·by_cases hb:b=0<;>by_cases hb':b'=0<;>
  ·first|subst hb|skip
   first|subst hb'|skip
   simp only[if_true,if_false,m00,m01,m10,m11,n01,n10, *];((refine wlk6 ?_ ?_ ?_ ?_ ?_ ?_<;>intros<;>try with_reducible exact trivial)<;>(refine fnG ?_;try with_reducible exact trivial));all_goals(simp;try omega)
def kK (l:List It) (b en:Nat):List I4:=((lN l b en).map fun n:Int=>(gI l n.toNat).gl)++(if(gI l en).kd=3 then [(gI l en).gl]else [])
def oF (l:List It) (b k:Nat):List I4:=(lN l b k).map fun n:Int=>(gI l n.toNat).gl
theorem akn {l:List It} {b:Nat}:oF l b b=[]:=by unfold oF;rw[qH (Nat.le_refl _)];rfl
theorem ajV {l:List It} {b k:Nat} (h:b≤k) (hk:¬(gI l k).kd=3):oF l b (k+1)=oF l b k++[(gI l k).gl]:=by unfold oF;rw[nM h hk,List.map_append];rfl
theorem an9 {l:List It} {b k:Nat} (h:b≤k) (hk:(gI l k).kd=3):oF l b (k+1)=oF l b k:=by unfold oF;rw[vT h hk]
theorem vE (l:List It) (b k:Nat):(oF l b k).length≤k-b:=by unfold oF;rw[List.length_map];exact nH l b k
theorem aav {l:List It} {b k:Nat} (hB:aS l=true) (hk:k≤l.length):∀g∈oF l b k,GOk g:=fun g hg=>by obtain⟨n,hn,rfl⟩:=List.mem_map.1 hg;have:=qA n hn;exact(fI hB (k:=n.toNat) (by omega)).gl
theorem yZ {l:List It} {b en:Nat} (hB:aS l=true) (hk:en<l.length):(∀g∈kK l b en,GOk g)∧(kK l b en).length≤60:=by
 have hl:=bC hB;have h1:=vE l b en;unfold kK;refine⟨fun g hg=>?_,?_⟩
 ·rcases List.mem_append.1 hg with hg|hg
  ·exact aav hB (by omega) g hg
  ·split at hg
   ·rw[List.mem_singleton.1 hg]
    exact(fI hB hk).gl
   ·simp at hg
 ·unfold oF at h1
  rw[List.length_append];split
  ·rw[List.length_singleton];omega
  ·rw[List.length_nil];omega
theorem ah6 {gs:List I4} (h:∀g∈gs,GOk g) (hl:gs.length≤60):aru (iV gs)∧(iV gs).1≤60000∧(iV gs).2.1≤60000∧(iV gs).2.2.1≤60000:=by obtain⟨h1,h2,h3,h4⟩:=aql gs h;exact⟨⟨⟨h1.1,by omega⟩,⟨h2.1,by omega⟩,⟨h3.1,by omega⟩,h4⟩,by omega,by omega,by omega⟩
def alo:Fun:=F3 lV dI dI fun l n m=>open Classical in if aS l=true∧0≤n∧n≤m∧m<l.length then some (pvG (iV (kK l n.toNat m.toNat)))else none
theorem akN {l:List It} {b en:Nat} (h:aS l=true) (h2:b≤en) (h3:en<l.length):alo [eU l,.val (.int .i64 b),.val (.int .i64 en)]=some (pvG (iV (kK l b en))):=(yX (A:=lV) (B:=dI) (C:=dI) l b en).trans (if_pos ⟨h,by omega,by omega,by omega⟩)
def ax5:Ctx:={fn:=aT [(114,aly)],io:=aT []}
theorem apm:au Tryz.prog ax5:=okΓ (fC Tryz.func114 ae5 aj) aj
def akC:=ah (Γ:=ax5) (f:=114) (φ:=aly) rfl
theorem aft:Sound Tryz.prog 100 alo:=by
 refine ak mixed apm Tryz.func100 rfl 49 rfl [.cell 6 54] rfl (by kernel_rfl) fun ps r hr=>?_;obtain⟨l,n,m,rfl,hpre,rfl⟩:=wI hr;refine⟨by simp,?_⟩;simp only[dIs,dUs,dSs,bR,bV,bT,bU,aI,bW,aL,aO,aH,aJ];obtain⟨hB,hn0,hn1,hn2⟩:=hpre;obtain⟨b,rfl⟩:∃b:Nat,n=b:=⟨n.toNat,by omega⟩;obtain⟨en,rfl⟩:∃en:Nat,m=en:=⟨m.toNat,by omega⟩;have hl:=bC hB;have hbe:b≤en:=by omega
 have hel:en<l.length:=by omega
 show pq _ _ _ _ _ (bM [eU l,.val (.int .i64 b),.val (.int .i64 en)]).tm _ _;rw[Int.toNat_natCast,Int.toNat_natCast];clear hn0 hn1 hn2;have hgs:kK l b en=oF l b en++(if(gI l en).kd=3 then [(gI l en).gl]else []):=rfl;rw[hgs];have gsum_c114:=akC;(refine wlk ?_;intros);refine aF (α:=Nat) mixed (fun k=>[(0,eU l),(2,iv en),(6,.own 0 4 0 0),(7,.own 1 4 0 0),(8,iv k)])
  (fun k=>[(0,54,4,[pvG g40]),(1,54,4,[pvG (iV (oF l b k))])]) (fun _=>2)
  (fun k=>b≤k∧k≤en) (fun k=>en-k) (by kernel_rfl) b ⟨Nat.le_refl _,hbe⟩ ?_ ?_ rfl ?_
 ·exact agr
 ·simp(disch:=(first|omega|(simp only[push_cast];first|done|omega))) only[push_cast,↓reduceIte,Nat.reduceEqDiff,Nat.reduceBEq,Nat.reduceAdd,Nat.reduceSub,Int.reduceToNat,akn,iV,List.foldl_nil,g40, *]
 rintro k ⟨hk1,hk2⟩;obtain⟨ho,-⟩:=ah6 (aav (b:=b) hB (show k≤l.length by omega)) (by have:=vE l b k;omega);by_cases h0:k<en
 ·have hx1:=(fI hB (k:=k) (by omega)).gl
  have hy:=@ajV l b k hk1;have hno:=@an9 l b k hk1;have hkx:gI l k=l[k]?.getD it0:=rfl;rw[hkx]at hy hno;generalize hx:l[k]?.getD it0=x at*;obtain⟨kd,w9,c,d,e,cost,g⟩:=x;replace hy:¬kd=3→oF l b (k+1)=oF l b k++[(w9,c,d,e)]:=hy;replace hno:kd=3→oF l b (k+1)=oF l b k:=hno;obtain⟨g1,g2,g3,g4⟩:=hx1;dsimp only at g1 g2 g3 g4;have apa:=ac5 ho (b:=(w9,c,d,e)) ⟨⟨g1.1,by(try dsimp only);omega⟩,⟨g2.1,by(try dsimp only);omega⟩,⟨g3.1,by(try dsimp only);omega⟩,g4⟩;by_cases h3:kd=3
  ·have hs:=hno h3
   replace hs:=Lib.hid hs;clear hno hy apa ho g1 g2 g3 g4 hgs hB hkx;generalize ht9:iV (oF l b k)=t at*;obtain⟨t1,t2,t3,t4⟩:=t;subst h3;(refine wlk ?_;intros);refine⟨k+1,⟨by omega,by omega⟩,by dsimp only;omega,?_,?_,rfl⟩
   ·exact agr
   ·dsimp only
    rw[hs.out];simp(disch:=(first|omega|(simp only[push_cast];first|done|omega))) only[push_cast,↓reduceIte,Nat.reduceEqDiff,Nat.reduceBEq,Nat.reduceAdd,Nat.reduceSub,Int.reduceToNat, *]
  ·have hs:=hy h3
   have ht:iV (oF l b (k+1))=abA (iV (oF l b k)) (w9,c,d,e):=by rw[hs,nG]
   replace ht:=Lib.hid ht;clear hno hy hs ho g1 g2 g3 g4 hgs hB hkx;generalize iV (oF l b k)=t at*;generalize abA t (w9,c,d,e)=u at*;obtain⟨t1,t2,t3,t4⟩:=t;obtain⟨u1,u2,u3,u4⟩:=u;try dsimp only at apa
   (refine wlk ?_;intros);refine⟨k+1,⟨by omega,by omega⟩,by dsimp only;omega,?_,?_,rfl⟩
   ·exact agr
   ·dsimp only
    rw[ht.out];exact agr
 ·obtain rfl:k=en:=by omega
  have hx1:GOk (l[k]?.getD it0).gl:=(fI hB hel).gl;have hkx:gI l k=l[k]?.getD it0:=rfl;rw[hkx];generalize hx:l[k]?.getD it0=x at*;obtain⟨kd,w9,c,d,e,cost,g⟩:=x;obtain⟨g1,g2,g3,g4⟩:=hx1;dsimp only at g1 g2 g3 g4;have apa:=ac5 ho (b:=(w9,c,d,e)) ⟨⟨g1.1,by(try dsimp only);omega⟩,⟨g2.1,by(try dsimp only);omega⟩,⟨g3.1,by(try dsimp only);omega⟩,g4⟩;by_cases h3:kd=3
  ·have ht:iV (oF l b k++[(w9,c,d,e)])=abA (iV (oF l b k)) (w9,c,d,e):=nG _ _
   rw[if_pos (show It.kd (kd,w9,c,d,e,cost,g)=3 from h3)];have hz:It.gl (kd,w9,c,d,e,cost,g)=(w9,c,d,e):=rfl;rw[hz,ht];clear ho g1 g2 g3 g4 hgs hB hkx ht hz;generalize iV (oF l b k)=t at*;generalize abA t (w9,c,d,e)=u at*;obtain⟨t1,t2,t3,t4⟩:=t;obtain⟨u1,u2,u3,u4⟩:=u;try dsimp only at apa
   subst h3;exact wlkF
  ·rw[if_neg (show¬It.kd (kd,w9,c,d,e,cost,g)=3 from h3),List.append_nil]
   clear ho g1 g2 g3 g4 hgs hB hkx apa;generalize iV (oF l b k)=t at*;obtain⟨t1,t2,t3,t4⟩:=t;exact wlkF
theorem acL {need room:Int} (h:0≤need∧need≤100000) (h2:0<room∧room≤100000):(0≤100*need*need∧100*need*need≤1000000000000)∧(0≤100*need*need*need∧100*need*need*need≤100000000000000000)∧(0<room*room∧room*room≤10000000000)∧(0<room*room*room∧room*room*room≤1000000000000000)∧0≤100*need*need*need/(room*room*room):=by have a1:0≤100*need*need:=Int.mul_nonneg (by omega) h.1;have a2:100*need*need≤10000000*100000:=Int.mul_le_mul (by omega) h.2 h.1 (by omega);have a3:0≤100*need*need*need:=Int.mul_nonneg a1 h.1;have a4:100*need*need*need≤1000000000000*100000:=Int.mul_le_mul (by omega) h.2 h.1 (by omega);have b1:0<room*room:=Int.mul_pos h2.1 h2.1;have b2:room*room≤100000*100000:=Int.mul_le_mul h2.2 h2.2 (by omega) (by omega);have b3:0<room*room*room:=Int.mul_pos b1 h2.1;have b4:room*room*room≤10000000000*100000:=Int.mul_le_mul (by omega) h2.2 (by omega) (by omega);exact⟨⟨a1,by omega⟩,⟨a3,by omega⟩,⟨b1,by omega⟩,⟨b3,by omega⟩,Int.ediv_nonneg a3 (by omega)⟩
def ru:Fun:=F2 dI dI fun need room=>open Classical in if(0≤need∧need≤100000)∧0≤room∧room≤100000 then some (iv (aa9 need room))else none
theorem mV {need room:Int} (h:(0≤need∧need≤100000)∧0≤room∧room≤100000):ru [.val (.int .i64 need),.val (.int .i64 room)]=some (.val (.int .i64 (aa9 need room))):=(gY (A:=dI) (B:=dI) need room).trans (if_pos h)
theorem aaL:Sound Tryz.prog 121 ru:=by
 refine ak mixed bL Tryz.func121 rfl 29 rfl [.tmp 4] rfl (by kernel_rfl) fun ps r hr=>?_;obtain⟨need,room,rfl,hpre,rfl⟩:=gy hr;refine⟨by simp,?_⟩;simp only[dIs,dUs,dSs,bR,bV,bT,bU,aI,bW,aL,aO,aH,aJ];obtain⟨h1,h2⟩:=hpre;unfold aa9;by_cases hn:need=0
 ·subst hn
  exact wlkF
 ·rw[if_neg hn]
  by_cases hr:room=0
  ·subst hr
   ((refine wlk6 ?_ ?_ ?_ ?_ ?_ ?_<;>intros<;>try with_reducible exact trivial)<;>(refine fnG ?_;try with_reducible exact trivial));all_goals simp
  ·obtain⟨c1,c2,c3,c4,c5⟩:=acL h1 (room:=room) ⟨by omega,by omega⟩
   have hq:Int.tdiv (100*need*need*need) (room*room*room)=100*need*need*need/(room*room*room):=Int.tdiv_eq_ediv_of_nonneg c2.1;by_cases hb:10*room<need
   ·rw[if_pos (.inr hb)]
    clear c1 c2 c3 c4 c5 hq;exact wlkF
   ·rw[if_neg (by omega)]
    have hz:¬room*room*room=0:=by omega
    have w1:=bZ (n:=100*need*need) (by omega) (by omega);have w2:=bZ (n:=100*need*need*need) (by omega) (by omega);have w3:=bZ (n:=room*room) (by omega) (by omega);have w4:=bZ (n:=room*room*room) (by omega) (by omega);have c6:100*need*need*need/(room*room*room)≤100000000000000000:=by have:=Int.ediv_le_self (room*room*room) c2.1;omega
    have w5:=bZ (n:=100*need*need*need/(room*room*room)) (by omega) (by omega);((refine wlk6 ?_ ?_ ?_ ?_ ?_ ?_<;>intros<;>try with_reducible exact trivial)<;>(refine fnG ?_;try with_reducible exact trivial));all_goals((refine congrArg (fun z=>some (PV.val (Value.int IntKind.i64 z))) ?_);generalize 100*need*need*need/(room*room*room)=q at*;(try(split))<;>omega)
def axW:Ctx:={fn:=aT [(48,φIn)],io:=aT []}
theorem aoM:au Tryz.prog axW:=okΓ (fC Tryz.func48 gB aj) aj
def wG:=ah (Γ:=axW) (f:=48) (φ:=φIn) rfl
theorem aat:Sound Tryz.prog 101 ru:=by
 refine ak mixed aoM Tryz.func101 rfl 36 rfl [.tmp 4] rfl (by kernel_rfl) fun ps r hr=>?_;obtain⟨need,room,rfl,hpre,rfl⟩:=gy hr;refine⟨by simp,?_⟩;simp only[dIs,dUs,dSs,bR,bV,bT,bU,aI,bW,aL,aO,aH,aJ];obtain⟨h1,h2⟩:=hpre;have ap1:φIn [.val (.int .i64 need),.val (.int .i64 0),.val (.int .i64 100000)]=some (.val (.bool true)):=(bJ _ _ _).trans (by rw[ay.2 h1]);have ap2:φIn [.val (.int .i64 room),.val (.int .i64 0),.val (.int .i64 100000)]=some (.val (.bool true)):=(bJ _ _ _).trans (by rw[ay.2 h2]);rw[aiG h1.1 h2.1];by_cases hn:need=0
 ·subst hn
  have gbds_c48:=wG;exact wlkF
 ·rw[if_neg hn]
  by_cases hr:room=0
  ·subst hr
   have gbds_c48:=wG;((refine wlk6 ?_ ?_ ?_ ?_ ?_ ?_<;>intros<;>try with_reducible exact trivial)<;>(refine fnG ?_;try with_reducible exact trivial));all_goals simp
  ·obtain⟨c1,c2,c3,c4,c5⟩:=acL h1 (room:=room) ⟨by omega,by omega⟩
   by_cases hb:5*room<need
   ·rw[if_pos (.inr hb)]
    clear c1 c2 c3 c4 c5;have gbds_c48:=wG;exact wlkF
   ·rw[if_neg (by omega)]
    have hz:¬room*room*room=0:=by omega
    have w1:=bZ (n:=100*need*need) (by omega) (by omega);have w2:=bZ (n:=100*need*need*need) (by omega) (by omega);have w3:=bZ (n:=room*room) (by omega) (by omega);have w4:=bZ (n:=room*room*room) (by omega) (by omega);have c6:100*need*need*need/(room*room*room)≤100000000000000000:=by have:=Int.ediv_le_self (room*room*room) c2.1;omega
    have w5:=bZ (n:=100*need*need*need/(room*room*room)) (by omega) (by omega);have gbds_c48:=wG;((refine wlk6 ?_ ?_ ?_ ?_ ?_ ?_<;>intros<;>try with_reducible exact trivial)<;>(refine fnG ?_;try with_reducible exact trivial));all_goals((refine congrArg (fun z=>some (PV.val (Value.int IntKind.i64 z))) ?_);generalize 100*need*need*need/(room*room*room)=q at*;(try(split))<;>omega)
def φLk:Fun:=F2 dB dI fun s bad=>open Classical in if 0≤bad∧bad≤10000 then some (iv (fF s bad))else none
theorem wF {s:Bool} {bad:Int} (h:0≤bad∧bad≤10000):φLk [.val (.bool s),.val (.int .i64 bad)]=some (.val (.int .i64 (fF s bad))):=(gY (A:=dB) (B:=dI) s bad).trans (if_pos h)
def ax1:Ctx:={fn:=aT [(51,nU)],io:=aT []}
theorem anC:au Tryz.prog ax1:=okΓ (fC Tryz.func51 mU aj) aj
def anl:=ah (Γ:=ax1) (f:=51) (φ:=nU) rfl
theorem agR:Sound Tryz.prog 108 φLk:=by
 refine ak mixed anC Tryz.func108 rfl 18 rfl [.tmp 4] rfl (by kernel_rfl) fun ps r hr=>?_;obtain⟨s,bad,rfl,hpre,rfl⟩:=gy hr;refine⟨by simp,?_⟩;simp only[dIs,dUs,dSs,bR,bV,bT,bU,aI,bW,aL,aO,aH,aJ];have ap:nU [.val (.int .i64 bad)]=some (.val (.bool true)):=(lD bad).trans (by rw[ay.2 hpre]);unfold fF;have glki_c51:=anl;cases s<;>
 ·((refine wlk6 ?_ ?_ ?_ ?_ ?_ ?_<;>intros<;>try with_reducible exact trivial)<;>(refine fnG ?_;try with_reducible exact trivial))
  all_goals((refine congrArg (fun z=>some (PV.val (Value.int IntKind.i64 z))) ?_);(repeat' split)<;>first|rfl|omega|(simp_all;done))
def axP:Ctx:={fn:=aT [(48,φIn)],io:=aT []}
theorem aqI:au Tryz.prog axP:=okΓ (fC Tryz.func48 gB aj) aj
def aqT:=ah (Γ:=axP) (f:=48) (φ:=φIn) rfl
theorem aiI:Sound Tryz.prog 81 φLk:=by
 refine ak mixed aqI Tryz.func81 rfl 14 rfl [.tmp 4] rfl (by kernel_rfl) fun ps r hr=>?_;obtain⟨s,bad,rfl,hpre,rfl⟩:=gy hr;refine⟨by simp,?_⟩;simp only[dIs,dUs,dSs,bR,bV,bT,bU,aI,bW,aL,aO,aH,aJ];have ap:φIn [.val (.int .i64 bad),.val (.int .i64 0),.val (.int .i64 10000)]=some (.val (.bool true)):=(bJ _ _ _).trans (by rw[ay.2 hpre]);unfold fF;have glks_c48:=aqT;cases s<;>
 ·((refine wlk6 ?_ ?_ ?_ ?_ ?_ ?_<;>intros<;>try with_reducible exact trivial)<;>(refine fnG ?_;try with_reducible exact trivial))
  all_goals((refine congrArg (fun z=>some (PV.val (Value.int IntKind.i64 z))) ?_);(repeat' split)<;>first|rfl|omega|(simp_all;done))
abbrev afZ (c:Int):Prop:=(0≤c∧c≤10000)∨c=-10000
def φCo:Fun:=F2 dI dI fun bad c=>open Classical in if(0≤bad∧bad≤10000)∧afZ c then some (iv (jY bad c))else none
theorem aaF {bad c:Int} (h:0≤bad∧bad≤10000) (h2:afZ c):φCo [.val (.int .i64 bad),.val (.int .i64 c)]=some (.val (.int .i64 (jY bad c))):=(gY (A:=dI) (B:=dI) bad c).trans (if_pos ⟨h,h2⟩)
theorem acg {bad:Int} (h:0≤bad∧bad≤10010):0≤bad*bad∧bad*bad≤100200100:=by have h3:0≤bad*bad:=Int.mul_nonneg (by omega) (by omega);have h4:bad*bad≤10010*10010:=Int.mul_le_mul (by omega) (by omega) (by omega) (by omega);omega
def avV:Ctx:={fn:=aT [(51,nU),(119,tJ)],io:=aT []}
theorem aoe:au Tryz.prog avV:=okΓ (fC Tryz.func51 mU (fC Tryz.func119 zK aj)) aj
def aoA:=ah (Γ:=avV) (f:=51) (φ:=nU) rfl
def akG:=ah (Γ:=avV) (f:=119) (φ:=tJ) rfl
theorem ag6:Sound Tryz.prog 109 φCo:=by
 refine ak mixed aoe Tryz.func109 rfl 27 rfl [.tmp 4] rfl (by kernel_rfl) fun ps r hr=>?_;obtain⟨bad,c,rfl,hpre,rfl⟩:=gy hr;refine⟨by simp,?_⟩;simp only[dIs,dUs,dSs,bR,bV,bT,bU,aI,bW,aL,aO,aH,aJ];obtain⟨h1,h2⟩:=hpre;have ap:nU [.val (.int .i64 bad)]=some (.val (.bool true)):=(lD bad).trans (by rw[ay.2 h1]);have ap2:tJ [.val (.int .i64 c)]=some (.val (.bool true)):=(zW c).trans (by
  have:xS c=true:=by
   unfold xS;rcases h2 with h2|h2
   ·rw[ay.2 h2];rfl
   ·rw[decide_eq_true h2,Bool.or_true]
  rw[this])
 have s1:=acg (bad:=10+bad) ⟨by omega,by omega⟩;have w1:=bZ (n:=(10+bad)*(10+bad)) (by omega) (by omega);unfold jY;have gcoi_c51:=aoA;have gcoi_c119:=akG;by_cases hc:c=-10000
 ·subst hc
  rw[if_pos rfl];clear h2;((refine wlk6 ?_ ?_ ?_ ?_ ?_ ?_<;>intros<;>try with_reducible exact trivial)<;>(refine fnG ?_;try with_reducible exact trivial));all_goals((refine congrArg (fun z=>some (PV.val (Value.int IntKind.i64 z))) ?_);omega)
 ·have s2:=acg (bad:=c) ⟨by omega,by omega⟩
  have w2:=bZ (n:=c*c) (by omega) (by omega);rw[if_neg hc];have w3:=bZ (n:=(10+bad)*(10+bad)+c*c) (by omega) (by omega);clear h2;exact wlkF
def axL:Ctx:={fn:=aT [(48,φIn)],io:=aT []}
theorem aoK:au Tryz.prog axL:=okΓ (fC Tryz.func48 gB aj) aj
def aou:=ah (Γ:=axL) (f:=48) (φ:=φIn) rfl
theorem ahl:Sound Tryz.prog 82 φCo:=by
 refine ak mixed aoK Tryz.func82 rfl 31 rfl [.tmp 4] rfl (by kernel_rfl) fun ps r hr=>?_;obtain⟨bad,c,rfl,hpre,rfl⟩:=gy hr;refine⟨by simp,?_⟩;simp only[dIs,dUs,dSs,bR,bV,bT,bU,aI,bW,aL,aO,aH,aJ];obtain⟨h1,h2⟩:=hpre;have ap:φIn [.val (.int .i64 bad),.val (.int .i64 0),.val (.int .i64 10000)]=some (.val (.bool true)):=(bJ _ _ _).trans (by rw[ay.2 h1]);have s1:=acg (bad:=10+bad) ⟨by omega,by omega⟩;have w1:=bZ (n:=(10+bad)*(10+bad)) (by omega) (by omega);unfold jY;have gcos_c48:=aou;by_cases hc:c=-10000
 ·have ap2:φIn [.val (.int .i64 c),.val (.int .i64 0),.val (.int .i64 10000)]=some (.val (.bool false)):=(bJ _ _ _).trans (by rw[show inB c 0 10000=false from Bool.eq_false_iff.2 fun q=>by have:=ay.1 q;omega])
  subst hc;rw[if_pos rfl];clear h2;((refine wlk6 ?_ ?_ ?_ ?_ ?_ ?_<;>intros<;>try with_reducible exact trivial)<;>(refine fnG ?_;try with_reducible exact trivial));all_goals((refine congrArg (fun z=>some (PV.val (Value.int IntKind.i64 z))) ?_);omega)
 ·have h3:0≤c∧c≤10000:=by omega
  have ap2:φIn [.val (.int .i64 c),.val (.int .i64 0),.val (.int .i64 10000)]=some (.val (.bool true)):=(bJ _ _ _).trans (by rw[ay.2 h3]);have s2:=acg (bad:=c) ⟨by omega,by omega⟩;have w2:=bZ (n:=c*c) (by omega) (by omega);rw[if_neg hc];have w3:=bZ (n:=(10+bad)*(10+bad)+c*c) (by omega) (by omega);clear h2;by_cases h0:c=0
  ·subst h0
   clear s2 w2 w3;((refine wlk6 ?_ ?_ ?_ ?_ ?_ ?_<;>intros<;>try with_reducible exact trivial)<;>(refine fnG ?_;try with_reducible exact trivial));all_goals((refine congrArg (fun z=>some (PV.val (Value.int IntKind.i64 z))) ?_);omega)
  ·exact wlkF
abbrev aoY (l:List It) (n m:Int):Prop:=aS l=true∧-1≤n∧n<m∧m<l.length
section
variable {α β γ δ ε:Type} {A:Dec α} {B:Dec β} {C:Dec γ} {D:Dec δ} {E:Dec ε}
def F5 (A:Dec α) (B:Dec β) (C:Dec γ) (D:Dec δ) (E:Dec ε) (F:α→β→γ→δ→ε→Option PV):Fun:=fun ps=>match ps with
 |[p,q,r,s,t]=>(A.d p).bind fun a=>(B.d q).bind fun b=>(C.d r).bind fun c=>(D.d s).bind fun d=>(E.d t).bind fun e=>F a b c d e
 |_=>none
theorem aiC {F:α→β→γ→δ→ε→Option PV} {ps:List PV} {r:PV} (h:F5 A B C D E F ps=some r):∃a b c d e,ps=[A.e a,B.e b,C.e c,D.e d,E.e e]∧F a b c d e=some r:=by
 unfold F5 at h;split at h
 ·simp only[Option.bind_eq_some_iff]at h
  obtain⟨a,h1,b,h2,c,h3,d,h4,e,h5,h6⟩:=h;exact⟨a,b,c,d,e,by rw[A.h _ _ h1,B.h _ _ h2,C.h _ _ h3,D.h _ _ h4,E.h _ _ h5],h6⟩
 ·cases h
theorem auR {F:α→β→γ→δ→ε→Option PV} (a:α) (b:β) (c:γ) (d:δ) (e:ε):F5 A B C D E F [A.e a,B.e b,C.e c,D.e d,E.e e]=F a b c d e:=by simp[F5,A.h',B.h',C.h',D.h',E.h']
end
def φBd:Fun:=F4 lV dI dI dI fun l n m wd=>open Classical in if aoY l n m∧(0≤wd∧wd≤1000)∧aB l (n+1).toNat≤m.toNat then some (.tup [iv (gZ l wd (n+1).toNat m.toNat).1,bv (gZ l wd (n+1).toNat m.toNat).2])else none
theorem abR {l:List It} {a en:Nat} {wd:Int} (h:aS l=true) (h2:a≤en) (h3:en<l.length) (h4:0≤wd∧wd≤1000) (h5:aB l a≤en):φBd [eU l,.val (.int .i64 ((a:Int)-1)),.val (.int .i64 en),.val (.int .i64 wd)]=some (.tup [.val (.int .i64 (gZ l wd a en).1),.val (.bool (gZ l wd a en).2)]):=
 (aso (A:=lV) (B:=dI) (C:=dI) (D:=dI) l ((a:Int)-1) en wd).trans (by rw[show((a:Int)-1+1).toNat=a by omega,Int.toNat_natCast];exact if_pos ⟨⟨h,by omega,by omega,by omega⟩,h4,h5⟩)
def avy:Ctx:={fn:=aT [(98,φSt),(100,alo),(101,ru)],io:=aT []}
theorem aqV:au Tryz.prog avy:=okΓ (fC Tryz.func98 zl (fC Tryz.func100 aft (fC Tryz.func101 aat aj))) aj
def vV:=ah (Γ:=avy) (f:=98) (φ:=φSt) rfl
def qy:=ah (Γ:=avy) (f:=100) (φ:=alo) rfl
def qP:=ah (Γ:=avy) (f:=101) (φ:=ru) rfl
theorem ah3:Sound Tryz.prog 80 φBd:=by
 refine ak mixed aqV Tryz.func80 rfl 45 rfl [.tmp 8,.tmp 9] rfl (by kernel_rfl) fun ps r hr=>?_;obtain⟨l,n,m,wd,rfl,hpre,rfl⟩:=aub hr;refine⟨by simp,?_⟩;simp only[dIs,dUs,dSs,bR,bV,bT,bU,aI,bW,aL,aO,aH,aJ];obtain⟨⟨hB,hn0,hn1,hn2⟩,hw,hst⟩:=hpre;obtain⟨a,rfl⟩:∃a:Nat,n=(a:Int)-1:=⟨(n+1).toNat,by omega⟩;obtain⟨en,rfl⟩:∃en:Nat,m=en:=⟨m.toNat,by omega⟩;show pq _ _ _ _ _ (bM [eU l,.val (.int .i64 ((a:Int)-1)),.val (.int .i64 en),.val (.int .i64 wd)]).tm _ _;rw[show((a:Int)-1+1).toNat=a by omega,Int.toNat_natCast]at hst⊢;have ap1:=aaO (a:=a) hB (by omega);have ap2:=akN hB hst (by omega);obtain⟨g1,g2⟩:=yZ (b:=aB l a) hB (show en<l.length by omega);obtain⟨⟨o1,o2,o3,o4⟩,t1,t2,t3⟩:=ah6 g1 g2;have hE:gZ l wd a en=asa (iV (kK l (aB l a) en)) wd:=rfl;rw[hE];have hl:=bC hB;clear hB g1 g2 hE;generalize aB l a=s9 at*;generalize iV (kK l s9 en)=t at*;obtain⟨tw,ts,th,tod⟩:=t;dsimp only at o1 o2 o3 o4 t1 t2 t3;have hG:asa (tw,ts,th,tod) wd=if tw≤wd then(if tod=1 then(0,true)else(aa9 (wd-tw) ts,true))else if tw-wd≤th then(aa9 (tw-wd) th,false)else(-1,false):=rfl;rw[hG];by_cases h1:tw≤wd
 ·have ap3:=mV (need:=wd-tw) (room:=ts) ⟨⟨by omega,by omega⟩,by omega,by omega⟩
  rw[if_pos h1];by_cases h2:tod=1
  ·rw[if_pos h2]
   subst h2;have gl7b_c98:=vV;have gl7b_c100:=qy;have gl7b_c101:=qP;exact wlkF
  ·rw[if_neg h2]
   generalize aa9 (wd-tw) ts=bd at*;have gl7b_c98:=vV;have gl7b_c100:=qy;have gl7b_c101:=qP;exact wlkF
 ·rw[if_neg h1]
  by_cases h2:tw-wd≤th
  ·have ap3:=mV (need:=tw-wd) (room:=th) ⟨⟨by omega,by omega⟩,by omega,by omega⟩
   rw[if_pos h2];generalize aa9 (tw-wd) th=bd at*;have gl7b_c98:=vV;have gl7b_c100:=qy;have gl7b_c101:=qP;exact wlkF
  ·rw[if_neg h2]
   have gl7b_c98:=vV;have gl7b_c100:=qy;have gl7b_c101:=qP;exact wlkF
def φBw:Fun:=F5 lV dI dI dI dI fun l n m be lk=>open Classical in if aoY l n m∧(0≤be∧be≤3)∧0≤lk∧lk≤3 then some (iv (iI l (n+1).toNat m.toNat be lk))else none
theorem agK {l:List It} {a en:Nat} {be lk:Int} (h:aS l=true) (h2:a≤en) (h3:en<l.length) (h4:0≤be∧be≤3) (h5:0≤lk∧lk≤3):φBw [eU l,.val (.int .i64 ((a:Int)-1)),.val (.int .i64 en),.val (.int .i64 be),.val (.int .i64 lk)]=some (.val (.int .i64 (iI l a en be lk))):=
 (auR (A:=lV) (B:=dI) (C:=dI) (D:=dI) (E:=dI) l ((a:Int)-1) en be lk).trans (by rw[show((a:Int)-1+1).toNat=a by omega,Int.toNat_natCast];exact if_pos ⟨⟨h,by omega,by omega,by omega⟩,h4,h5⟩)
theorem afW:Sound Tryz.prog 83 φBw:=by
 refine ak mixed bL Tryz.func83 rfl 45 rfl [.tmp 10] rfl (by kernel_rfl) fun ps r hr=>?_;obtain⟨l,n,m,be,lk,rfl,hq⟩:=aiC hr;clear hr;split at hq
 case isFalse=>cases hq
 case isTrue hpre=>
 cases hq;refine⟨by simp,?_⟩;simp only[dIs,dUs,dSs,bR,bV,bT,bU,aI,bW,aL,aO,aH,aJ];obtain⟨⟨hB,hn0,hn1,hn2⟩,hbe,hlk⟩:=hpre;obtain⟨a,rfl⟩:∃a:Nat,n=(a:Int)-1:=⟨(n+1).toNat,by omega⟩;obtain⟨en,rfl⟩:∃en:Nat,m=en:=⟨m.toNat,by omega⟩;show pq _ _ _ _ _ (bM [eU l,.val (.int .i64 ((a:Int)-1)),.val (.int .i64 en),.val (.int .i64 be),.val (.int .i64 lk)]).tm _ _;rw[show((a:Int)-1+1).toNat=a by omega,Int.toNat_natCast];have hl:=bC hB;have hE:iI l a en be lk=(if 0<a∧(l[a-1]?.getD it0).2.2.2.2.2.2=true∧(l[en]?.getD it0).2.2.2.2.2.2=true then 3000 else 0)+(if 0<a∧(1<be-lk∨be-lk< -1)then 3000 else 0):=rfl;rw[hE];have hti:0<a→((a:Int)-1).toNat=a-1:=fun h=>by omega
 clear hB hE;by_cases h0:0<a
 ·have hti:=hti h0
  generalize hx:l[a-1]?.getD it0=x at*;generalize hy:l[en]?.getD it0=y at*;obtain⟨x1,x2,x3,x4,x5,x6,x7⟩:=x;obtain⟨y1,y2,y3,y4,y5,y6,y7⟩:=y;dsimp only
  have hd:be-lk=-3∨be-lk=-2∨be-lk=-1∨be-lk=0∨be-lk=1∨be-lk=2∨be-lk=3:=by omega
  have hd2:(if lk-be>be-lk then lk-be else be-lk)>1↔(1<be-lk∨be-lk< -1):=by split<;>omega
  clear hd;cases x7<;>cases y7<;>by_cases hz:1<be-lk∨be-lk< -1<;>
  ·have hz2:=hz
   rw[←hd2]at hz2;clear hd2;((refine wlk6 ?_ ?_ ?_ ?_ ?_ ?_<;>intros<;>try with_reducible exact trivial)<;>(refine fnG ?_;try with_reducible exact trivial));all_goals(simp[h0];try omega)
 ·obtain rfl:a=0:=by omega
  generalize hy:l[en]?.getD it0=y at*;obtain⟨y1,y2,y3,y4,y5,y6,y7⟩:=y;clear hti;rw[if_neg (fun q=>h0 q.1),if_neg (fun q=>h0 q.1)];simp only[Int.natCast_zero,Int.zero_sub];((refine wlk6 ?_ ?_ ?_ ?_ ?_ ?_<;>intros<;>try with_reducible exact trivial)<;>(refine fnG ?_;try with_reducible exact trivial));all_goals simp
def φLi:Fun:=F3 lV dI dI fun l n m=>open Classical in if aoY l n m then some (.tup [.lst true 1 ((if dH l (n+1).toNat m.toNat=true then lN l (aB l (n+1).toNat) m.toNat else []).map fun n=> .val (.int .i64 n)),bv (dH l (n+1).toNat m.toNat)])else none
theorem agS {l:List It} {a en:Nat} (h:aS l=true) (h2:a≤en) (h3:en<l.length):φLi [eU l,.val (.int .i64 ((a:Int)-1)),.val (.int .i64 en)]=some (.tup [.lst true 1 ((if dH l a en=true then lN l (aB l a) en else []).map fun n=> .val (.int .i64 n)),.val (.bool (dH l a en))]):=
 (yX (A:=lV) (B:=dI) (C:=dI) l ((a:Int)-1) en).trans ((if_pos ⟨h,by omega,by omega,by omega⟩).trans (by rw[show((a:Int)-1+1).toNat=a by omega,Int.toNat_natCast]))
theorem kY {b:Bool}:(PV.tup [.val (.slice none 0 0),.val (.bool b)]).le (.tup [.lst true 1 [],.val (.bool b)]):=oD ⟨nil_le _ _,PV.le_refl _,trivial⟩
def GLi:Ctx:={fn:=aT [(91,wT),(93,φMb),(94,φSt),(95,φFc)],io:=aT []}
theorem arn:au Tryz.prog GLi:=okΓ (fC Tryz.func91 uP (fC Tryz.func93 ah1 (fC Tryz.func94 af5 (fC Tryz.func95 aah aj)))) aj
def uo:=ah (Γ:=GLi) (f:=91) (φ:=wT) rfl
def uQ:=ah (Γ:=GLi) (f:=93) (φ:=φMb) rfl
def uJ:=ah (Γ:=GLi) (f:=94) (φ:=φSt) rfl
def uW:=ah (Γ:=GLi) (f:=95) (φ:=φFc) rfl
theorem yG:Sound Tryz.prog 72 φLi:=by
 refine fU mixed arn Tryz.func72 rfl 73 rfl [.tmp 6,.tmp 7] rfl (by kernel_rfl) fun ps r hr=>?_;obtain⟨l,n,m,rfl,hpre,rfl⟩:=wI hr;refine⟨by simp,?_⟩;simp only[dIs,dUs,dSs,bR,bV,bT,bU,aI,bW,aL,aO,aH,aJ];obtain⟨hB,hn0,hn1,hn2⟩:=hpre;obtain⟨a,rfl⟩:∃a:Nat,n=(a:Int)-1:=⟨(n+1).toNat,by omega⟩;obtain⟨en,rfl⟩:∃en:Nat,m=en:=⟨m.toNat,by omega⟩;have hl:=bC hB;have hae:a≤en:=by omega
 have hel:en<l.length:=by omega
 show pq _ _ _ _ _ (bM [eU l,.val (.int .i64 ((a:Int)-1)),.val (.int .i64 en)]).tm _ _;rw[show((a:Int)-1+1).toNat=a by omega,Int.toNat_natCast];have ap1:=wB (l:=l) (by omega);rw[hB]at ap1;have ap2:=agN (n:=en) hB ⟨by omega,by omega⟩;rw[decide_eq_true (show(0:Int)≤en∧(en:Int)<l.length by omega),Bool.true_and,Int.toNat_natCast]at ap2;have ap3:=aaO (a:=a) hB (by omega);have hE:dH l a en=(mg l en&&((decide (a=0)||mg l (a-1))&&(decide (aB l a≤en)&&qj l a en))):=by unfold dH;rw[decide_eq_true ⟨hae,hel⟩,Bool.true_and]
 have ap4:0<a→φMb [eU l,.val (.int .i64 ((a:Int)-1))]=some (.val (.bool (mg l (a-1)))):=fun h=>by have:=agN (n:=(a:Int)-1) hB ⟨by omega,by omega⟩;rw[decide_eq_true (show(0:Int)≤(a:Int)-1∧(a:Int)-1<l.length by omega),Bool.true_and,show((a:Int)-1).toNat=a-1 by omega]at this;exact this
 have apf:=@afE;have hsr:=(@uw l a).1;rw[hE];clear hE hn0 hn1 hn2 hB;by_cases hc:mg l en=true∧(a=0∨mg l (a-1)=true)∧aB l a≤en
 ·obtain⟨c1,c2,c3⟩:=hc
  rw[c1]at ap2;have hE:(mg l en&&((decide (a=0)||mg l (a-1))&&(decide (aB l a≤en)&&qj l a en)))=qj l a en:=by
   rw[c1,decide_eq_true c3];rcases c2 with c2|c2
   ·rw[decide_eq_true c2];simp
   ·rw[c2];simp
  rw[hE];rcases Nat.eq_zero_or_pos a with h9|h9
  ·subst h9
   replace ap4:True:=trivial;simp only[Int.natCast_zero,Int.zero_sub]at ap3⊢;clear hE c1 c2;have hq:=fun k=>qZ (l:=l) (a:=0) (b:=k);have hno:=fun k h1 h2 h3=>abj (l:=l) (a:=0) (b:=en) (k:=k) h1 h2 h3;have hz0:qj l 0 0=true:=xR (Nat.le_refl _);have hiy:=fun k=>@nM l (aB l 0) k;have hin:=fun k=>@vT l (aB l 0) k;have hi0:lN l (aB l 0) (aB l 0)=[]:=qH (Nat.le_refl _);have hil:=nH l (aB l 0);generalize aB l 0=s9 at*;have gli_c91:=uo;have gli_c93:=uQ;have gli_c94:=uJ;have gli_c95:=uW;(refine wlk ?_;intros);refine aF (α:=Nat) mixed (fun k=>[(0,eU l),(1,iv (-1)),(2,iv en),(8,iv k)]) (fun _=>[]) (fun _=>0)
    (fun k=>(0≤k∧k≤en)∧qj l 0 k=true) (fun k=>en-k) (by kernel_rfl) 0 ⟨⟨Nat.le_refl _,hae⟩,hz0⟩ ?_ ?_ rfl ?_
   ·exact agi
   ·exact agr
   rintro k ⟨⟨hk1,hk2⟩,hI⟩;clear hz0;by_cases h0:k<en
   ·have hfr:forced (gI l k)=forced (l[k]?.getD it0):=rfl
    have hs:=hq k hk1;rw[hI,Bool.true_and,hfr]at hs;have hno:=fun h=>hno k h hk1 h0;clear hfr hq hI hiy hin hi0 hil ap4 ap3 ap2;generalize hx:l[k]?.getD it0=x at*;obtain⟨kd,w9,c,d,e,cost,g⟩:=x;cases hf:forced (kd,w9,c,d,e,cost,g)with
    |true=>
     rw[hf]at hs;rw[hno hs];clear hs hno;(refine wlk ?_;intros);all_goals((with_reducible apply bS (by first|exact .inl rfl|exact .inr rfl));(simp(disch:=(first|omega|(simp only[push_cast];first|done|omega))) only[push_cast,↓reduceIte,Nat.reduceEqDiff,Nat.reduceBEq,Nat.reduceAdd,Nat.reduceSub,Int.reduceToNat, *]<;>with_reducible exact rfl))
     all_goals exact kY
    |false=>
     rw[hf]at hs;replace hs:=Lib.hid hs;clear hno;(refine wlk ?_;intros);refine⟨k+1,⟨⟨by omega,by omega⟩,hs.out⟩,by dsimp only;omega,?_,?_,rfl⟩
     ·exact agr
     ·exact agr
   ·obtain rfl:k=en:=by omega
    rw[hI,if_pos rfl];clear hI hq hno ap4;(refine wlk ?_;intros);refine aF (α:=Nat×LI×Nat×Nat) mixed (fun z=>[(0,eU l),(2,iv k),(9,nP 1 (z.2.1.map pvN) z.2.2.1),(10,iv z.1)])
     (fun z=>nO 3 1 (z.2.1.map pvN) z.2.2.1) (fun z=>z.2.2.2)
     (fun z=>(s9≤z.1∧z.1≤k)∧z.2.1=lN l s9 z.1∧(0<z.2.1.length→z.2.2.1<z.2.2.2)) (fun z=>k-z.1) (by kernel_rfl) (s9,[],0,0) ⟨⟨Nat.le_refl _,c3⟩,hi0.symm,by simp⟩ ?_ ?_ rfl ?_
    ·exact agr
    ·exact agr
    rintro⟨j,out,x,y⟩ ⟨⟨hj1,hj2⟩,hI,hxy⟩;dsimp only at hj1 hj2 hI hxy;have hol:out.length≤60:=by rw[hI];have:=hil j;omega
    clear hil hi0 ap3 ap2;by_cases h1:j<k
    ·have hiy:=hiy j hj1
     have hin:=hin j hj1;have hkx:(gI l j).kd=(l[j]?.getD it0).1:=rfl;rw[hkx]at hiy hin;clear hkx;generalize hx:l[j]?.getD it0=z9 at*;obtain⟨kd,w9,c,d,e,cost,g⟩:=z9;dsimp only at hiy hin;by_cases h3:kd=3
     ·have hI2:out=lN l s9 (j+1):=by rw[hin h3,←hI]
      replace hI2:=Lib.hid hI2;clear hI hiy hin;(refine wlk ?_;intros);refine⟨(j+1,out,x,y),⟨⟨by dsimp only;omega,by dsimp only;omega⟩,hI2.out,hxy⟩,by dsimp only;omega,?_,nD,rfl⟩
      ·exact agr
     ·have hI2:out++[(j:Int)]=lN l s9 (j+1):=by rw[hiy h3,←hI]
      replace hI2:=Lib.hid hI2;clear hI hiy hin;by_cases hz:out.length=0
      ·obtain rfl:out=[]:=List.eq_nil_of_length_eq_zero hz
       (refine wlk ?_;intros);refine⟨(j+1,[]++[(j:Int)],y+1,y+2),⟨⟨by dsimp only;omega,by dsimp only;omega⟩,hI2.out,fun _=>by dsimp only;omega⟩,by dsimp only;omega,?_,?_,rfl⟩
       ·exact agr
       ·exact agr
      ·have hxy:=hxy (by omega)
       have hap:0<(out.map pvN).length:=by rw[List.length_map];omega
       clear hz;have hap3:0<((out++[(j:Int)]).map pvN).length:=by simp
       simp only[aA hap,aD hap,List.length_map];(refine wlk ?_;intros);refine⟨(j+1,out++[(j:Int)],y+1,y+2),⟨⟨by dsimp only;omega,by dsimp only;omega⟩,hI2.out,fun _=>by dsimp only;omega⟩,by dsimp only;omega,?_,?_,rfl⟩
       ·simp(disch:=(first|omega|(simp only[push_cast];first|done|omega))) only[push_cast,↓reduceIte,Nat.reduceEqDiff,Nat.reduceBEq,Nat.reduceAdd,Nat.reduceSub,Int.reduceToNat,aA hap3,List.length_append, *]
       ·simp(disch:=(first|omega|(simp only[push_cast];first|done|omega))) only[push_cast,↓reduceIte,Nat.reduceEqDiff,Nat.reduceBEq,Nat.reduceAdd,Nat.reduceSub,Int.reduceToNat,aD hap3, *]
    ·obtain rfl:j=k:=by omega
     rw[←hI];clear hI hiy hin;by_cases hz:out.length=0
     ·obtain rfl:out=[]:=List.eq_nil_of_length_eq_zero hz
      (refine wlk ?_;intros);all_goals((with_reducible apply bS (by first|exact .inl rfl|exact .inr rfl));(simp(disch:=(first|omega|(simp only[push_cast];first|done|omega))) only[push_cast,↓reduceIte,Nat.reduceEqDiff,Nat.reduceBEq,Nat.reduceAdd,Nat.reduceSub,Int.reduceToNat, *]<;>with_reducible exact rfl))
      all_goals exact kY
     ·have hxy:=hxy (by omega)
      have hap:0<(out.map pvN).length:=by rw[List.length_map];omega
      clear hz;simp only[aA hap,aD hap,List.length_map];(refine wlk ?_;intros);all_goals((with_reducible apply bS (by first|exact .inl rfl|exact .inr rfl));(simp(disch:=(first|omega|(simp only[push_cast];first|done|omega))) only[push_cast,↓reduceIte,Nat.reduceEqDiff,Nat.reduceBEq,Nat.reduceAdd,Nat.reduceSub,Int.reduceToNat, *]<;>with_reducible exact rfl))
      all_goals exact PV.le_refl _
  ·replace ap4:φMb [eU l,.val (.int .i64 ((a:Int)-1))]=some (.val (.bool true)):=by
    have:=ap4 h9;rcases c2 with c2|c2
    ·omega
    ·rwa[c2]at this
   clear hE c1 c2;have hq:=fun k=>qZ (l:=l) (a:=a) (b:=k);have hno:=fun k h1 h2 h3=>abj (l:=l) (a:=a) (b:=en) (k:=k) h1 h2 h3;have hz0:qj l a a=true:=xR (Nat.le_refl _);have hiy:=fun k=>@nM l (aB l a) k;have hin:=fun k=>@vT l (aB l a) k;have hi0:lN l (aB l a) (aB l a)=[]:=qH (Nat.le_refl _);have hil:=nH l (aB l a);generalize aB l a=s9 at*;have gli_c91:=uo;have gli_c93:=uQ;have gli_c94:=uJ;have gli_c95:=uW;(refine wlk ?_;intros);refine aF (α:=Nat) mixed (fun k=>[(0,eU l),(1,iv ((a:Int)-1)),(2,iv en),(8,iv k)]) (fun _=>[]) (fun _=>0)
    (fun k=>(a≤k∧k≤en)∧qj l a k=true) (fun k=>en-k) (by kernel_rfl) a ⟨⟨Nat.le_refl _,hae⟩,hz0⟩ ?_ ?_ rfl ?_
   ·exact agi
   ·exact agr
   rintro k ⟨⟨hk1,hk2⟩,hI⟩;clear hz0;by_cases h0:k<en
   ·have hfr:forced (gI l k)=forced (l[k]?.getD it0):=rfl
    have hs:=hq k hk1;rw[hI,Bool.true_and,hfr]at hs;have hno:=fun h=>hno k h hk1 h0;clear hfr hq hI hiy hin hi0 hil ap4 ap3 ap2;generalize hx:l[k]?.getD it0=x at*;obtain⟨kd,w9,c,d,e,cost,g⟩:=x;cases hf:forced (kd,w9,c,d,e,cost,g)with
    |true=>
     rw[hf]at hs;rw[hno hs];clear hs hno;(refine wlk ?_;intros);all_goals((with_reducible apply bS (by first|exact .inl rfl|exact .inr rfl));(simp(disch:=(first|omega|(simp only[push_cast];first|done|omega))) only[push_cast,↓reduceIte,Nat.reduceEqDiff,Nat.reduceBEq,Nat.reduceAdd,Nat.reduceSub,Int.reduceToNat, *]<;>with_reducible exact rfl))
     all_goals exact kY
    |false=>
     rw[hf]at hs;replace hs:=Lib.hid hs;clear hno;(refine wlk ?_;intros);refine⟨k+1,⟨⟨by omega,by omega⟩,hs.out⟩,by dsimp only;omega,?_,?_,rfl⟩
     ·exact agr
     ·exact agr
   ·obtain rfl:k=en:=by omega
    rw[hI,if_pos rfl];clear hI hq hno ap4;(refine wlk ?_;intros);refine aF (α:=Nat×LI×Nat×Nat) mixed (fun z=>[(0,eU l),(2,iv k),(9,nP 1 (z.2.1.map pvN) z.2.2.1),(10,iv z.1)])
     (fun z=>nO 3 1 (z.2.1.map pvN) z.2.2.1) (fun z=>z.2.2.2)
     (fun z=>(s9≤z.1∧z.1≤k)∧z.2.1=lN l s9 z.1∧(0<z.2.1.length→z.2.2.1<z.2.2.2)) (fun z=>k-z.1) (by kernel_rfl) (s9,[],0,0) ⟨⟨Nat.le_refl _,c3⟩,hi0.symm,by simp⟩ ?_ ?_ rfl ?_
    ·exact agr
    ·exact agr
    rintro⟨j,out,x,y⟩ ⟨⟨hj1,hj2⟩,hI,hxy⟩;dsimp only at hj1 hj2 hI hxy;have hol:out.length≤60:=by rw[hI];have:=hil j;omega
    clear hil hi0 ap3 ap2;by_cases h1:j<k
    ·have hiy:=hiy j hj1
     have hin:=hin j hj1;have hkx:(gI l j).kd=(l[j]?.getD it0).1:=rfl;rw[hkx]at hiy hin;clear hkx;generalize hx:l[j]?.getD it0=z9 at*;obtain⟨kd,w9,c,d,e,cost,g⟩:=z9;dsimp only at hiy hin;by_cases h3:kd=3
     ·have hI2:out=lN l s9 (j+1):=by rw[hin h3,←hI]
      replace hI2:=Lib.hid hI2;clear hI hiy hin;(refine wlk ?_;intros);refine⟨(j+1,out,x,y),⟨⟨by dsimp only;omega,by dsimp only;omega⟩,hI2.out,hxy⟩,by dsimp only;omega,?_,nD,rfl⟩
      ·exact agr
     ·have hI2:out++[(j:Int)]=lN l s9 (j+1):=by rw[hiy h3,←hI]
      replace hI2:=Lib.hid hI2;clear hI hiy hin;by_cases hz:out.length=0
      ·obtain rfl:out=[]:=List.eq_nil_of_length_eq_zero hz
       (refine wlk ?_;intros);refine⟨(j+1,[]++[(j:Int)],y+1,y+2),⟨⟨by dsimp only;omega,by dsimp only;omega⟩,hI2.out,fun _=>by dsimp only;omega⟩,by dsimp only;omega,?_,?_,rfl⟩
       ·exact agr
       ·exact agr
      ·have hxy:=hxy (by omega)
       have hap:0<(out.map pvN).length:=by rw[List.length_map];omega
       clear hz;have hap3:0<((out++[(j:Int)]).map pvN).length:=by simp
       simp only[aA hap,aD hap,List.length_map];(refine wlk ?_;intros);refine⟨(j+1,out++[(j:Int)],y+1,y+2),⟨⟨by dsimp only;omega,by dsimp only;omega⟩,hI2.out,fun _=>by dsimp only;omega⟩,by dsimp only;omega,?_,?_,rfl⟩
       ·simp(disch:=(first|omega|(simp only[push_cast];first|done|omega))) only[push_cast,↓reduceIte,Nat.reduceEqDiff,Nat.reduceBEq,Nat.reduceAdd,Nat.reduceSub,Int.reduceToNat,aA hap3,List.length_append, *]
       ·simp(disch:=(first|omega|(simp only[push_cast];first|done|omega))) only[push_cast,↓reduceIte,Nat.reduceEqDiff,Nat.reduceBEq,Nat.reduceAdd,Nat.reduceSub,Int.reduceToNat,aD hap3, *]
    ·obtain rfl:j=k:=by omega
     rw[←hI];clear hI hiy hin;by_cases hz:out.length=0
     ·obtain rfl:out=[]:=List.eq_nil_of_length_eq_zero hz
      (refine wlk ?_;intros);all_goals((with_reducible apply bS (by first|exact .inl rfl|exact .inr rfl));(simp(disch:=(first|omega|(simp only[push_cast];first|done|omega))) only[push_cast,↓reduceIte,Nat.reduceEqDiff,Nat.reduceBEq,Nat.reduceAdd,Nat.reduceSub,Int.reduceToNat, *]<;>with_reducible exact rfl))
      all_goals exact kY
     ·have hxy:=hxy (by omega)
      have hap:0<(out.map pvN).length:=by rw[List.length_map];omega
      clear hz;simp only[aA hap,aD hap,List.length_map];(refine wlk ?_;intros);all_goals((with_reducible apply bS (by first|exact .inl rfl|exact .inr rfl));(simp(disch:=(first|omega|(simp only[push_cast];first|done|omega))) only[push_cast,↓reduceIte,Nat.reduceEqDiff,Nat.reduceBEq,Nat.reduceAdd,Nat.reduceSub,Int.reduceToNat, *]<;>with_reducible exact rfl))
      all_goals exact PV.le_refl _
 ·have hE:(mg l en&&((decide (a=0)||mg l (a-1))&&(decide (aB l a≤en)&&qj l a en)))=false:=by rw[Bool.eq_false_iff];intro q;simp only[Bool.and_eq_true,Bool.or_eq_true,decide_eq_true_eq]at q;exact hc ⟨q.1,q.2.1,q.2.2.1⟩
  rw[hE,if_neg (by decide)];clear hE;generalize aB l a=s9 at*;generalize mg l en=q1 at*;generalize mg l (a-1)=q2 at*;have hq1:q1=false∨(q1=true∧(s9≤en→0<a∧q2=false)):=by
   cases q1 with
   |false=>exact .inl rfl
   |true=>
    refine .inr ⟨rfl,fun hs=>?_⟩;rcases Nat.eq_zero_or_pos a with h|h
    ·exact absurd ⟨rfl,.inl h,hs⟩ hc
    ·refine⟨h,?_⟩
     cases q2 with
     |false=>rfl
     |true=>exact absurd ⟨rfl,.inr rfl,hs⟩ hc
  clear hc;rcases Nat.eq_zero_or_pos a with h9|h9
  ·subst h9
   clear ap4;simp only[Int.natCast_zero,Int.zero_sub]at ap3⊢;have hq2:q1=false∨(q1=true∧¬s9≤en):=hq1.imp id fun h=>⟨h.1,fun hs=>absurd (h.2 hs).1 (by omega)⟩;clear hq1;rcases hq2 with rfl|⟨rfl,hs⟩<;>
   ·have gli_c91:=uo;have gli_c93:=uQ;have gli_c94:=uJ;have gli_c95:=uW
    (refine wlk ?_;intros);all_goals((with_reducible apply bS (by first|exact .inl rfl|exact .inr rfl));(simp(disch:=(first|omega|(simp only[push_cast];first|done|omega))) only[push_cast,↓reduceIte,Nat.reduceEqDiff,Nat.reduceBEq,Nat.reduceAdd,Nat.reduceSub,Int.reduceToNat, *]<;>with_reducible exact rfl))
    all_goals exact kY
  ·have ap4:=ap4 h9
   rcases hq1 with rfl|⟨rfl,hs⟩
   ·cases q2<;>
    ·have gli_c91:=uo;have gli_c93:=uQ;have gli_c94:=uJ;have gli_c95:=uW
     (refine wlk ?_;intros);all_goals((with_reducible apply bS (by first|exact .inl rfl|exact .inr rfl));(simp(disch:=(first|omega|(simp only[push_cast];first|done|omega))) only[push_cast,↓reduceIte,Nat.reduceEqDiff,Nat.reduceBEq,Nat.reduceAdd,Nat.reduceSub,Int.reduceToNat, *]<;>with_reducible exact rfl))
     all_goals exact kY
   ·by_cases h8:s9≤en
    ·obtain⟨-,rfl⟩:=hs h8
     clear hs;have gli_c91:=uo;have gli_c93:=uQ;have gli_c94:=uJ;have gli_c95:=uW;(refine wlk ?_;intros);all_goals((with_reducible apply bS (by first|exact .inl rfl|exact .inr rfl));(simp(disch:=(first|omega|(simp only[push_cast];first|done|omega))) only[push_cast,↓reduceIte,Nat.reduceEqDiff,Nat.reduceBEq,Nat.reduceAdd,Nat.reduceSub,Int.reduceToNat, *]<;>with_reducible exact rfl))
     all_goals exact kY
    ·clear hs
     cases q2<;>
     ·have gli_c91:=uo;have gli_c93:=uQ;have gli_c94:=uJ;have gli_c95:=uW
      (refine wlk ?_;intros);all_goals((with_reducible apply bS (by first|exact .inl rfl|exact .inr rfl));(simp(disch:=(first|omega|(simp only[push_cast];first|done|omega))) only[push_cast,↓reduceIte,Nat.reduceEqDiff,Nat.reduceBEq,Nat.reduceAdd,Nat.reduceSub,Int.reduceToNat, *]<;>with_reducible exact rfl))
      all_goals exact kY
section
def aao {α:Type} (f:Nat→Nat→α) (i:Nat):List α:=(List.range 4).map (f i)
def tab {α:Type} (n:Nat) (f:Nat→Nat→α):List (List α):=(List.range (n+1)).map (aao f)
def uI {α:Type} (f:Nat→Nat→α) (i k:Nat) (v:α):Nat→Nat→α:=fun i' k'=>if i'=i∧k'=k then v else f i' k'
abbrev avr (b:Bool):PV:=.val (.bool b)
abbrev aaq (r:List Int):PV:=.agg (r.map pvN)
abbrev ak4 (r:List Bool):PV:=.agg (r.map avr)
theorem wu {α:Type} (f:Nat→Nat→α) (i:Nat):(aao f i).length=4:=by simp[aao]
theorem yh {α:Type} (n:Nat) (f:Nat→Nat→α):(tab n f).length=n+1:=by simp[tab]
theorem ajS {α β:Type} {f:Nat→Nat→α} {g:α→β} {i k:Nat} (h:k<4):Option.map g (aao f i)[k]?=some (g (f i k)):=by unfold aao;rw[List.getElem?_map,List.getElem?_range h];rfl
theorem aqG {α β:Type} {f:Nat→Nat→α} {g:List α→β} {n i:Nat} (h:i≤n):Option.map g (tab n f)[i]?=some (g (aao f i)):=by unfold tab;rw[List.getElem?_map,List.getElem?_range (by omega)];rfl
theorem ak3 {α:Type} {f:Nat→Nat→α} {i k:Nat} {v:α}:aao (uI f i k v) i=(aao f i).set k v:=by rcases k with _|_|_|_|k<;>simp[aao,uI,List.range_succ]
theorem aqf {α:Type} {f:Nat→Nat→α} {i j k:Nat} {v:α} (h:¬j=i):aao (uI f i k v) j=aao f j:=by unfold aao uI;refine List.map_congr_left fun x _=>?_;rw[if_neg fun q=>h q.1]
theorem af0 {α:Type} {n i k:Nat} {f:Nat→Nat→α} {v:α}:(tab n f).set i ((aao f i).set k v)=tab n (uI f i k v):=by
 apply List.ext_getElem?;intro j;rw[List.getElem?_set,yh];by_cases hj:j<n+1
 ·by_cases h:i=j
  ·subst h
   rw[if_pos rfl,if_pos hj];unfold tab;rw[List.getElem?_map,List.getElem?_range hj,Option.map_some,ak3]
  ·rw[if_neg h]
   unfold tab;rw[List.getElem?_map,List.getElem?_map,List.getElem?_range hj,Option.map_some,Option.map_some,aqf (fun q=>h q.symm)]
 ·rw[List.getElem?_eq_none (by rw[yh];omega),List.getElem?_eq_none (by rw[yh];omega)]
  split<;>(try split)<;>first|rfl|omega
theorem adn {α:Type} {g:α→PV} {l:List α} {k:Nat} {v:α} (h:k<l.length):eP (l.map g) k [g v]=(l.set k v).map g:=by unfold eP;rw[List.map_set,List.set_eq_take_append_cons_drop,List.length_map,if_pos h];simp
theorem akw {n i k:Nat} {f:Nat→Nat→Int} {v:Int} (h:k<4):((tab n f).map aaq).set i (.agg (eP ((aao f i).map pvN) k [.val (.int .i64 v)]))=(tab n (uI f i k v)).map aaq:=by rw[←af0,List.map_set,adn (g:=pvN) (v:=v) (by rw[wu];exact h)]
theorem ajw {n i k:Nat} {f:Nat→Nat→Bool} {v:Bool} (h:k<4):((tab n f).map ak4).set i (.agg (eP ((aao f i).map avr) k [.val (.bool v)]))=(tab n (uI f i k v)).map ak4:=by rw[←af0,List.map_set,adn (g:=avr) (v:=v) (by rw[wu];exact h)]
theorem gX {α:Type} {n:Nat} {f f':Nat→Nat→α} (h:∀i k,i≤n→k<4→f i k=f' i k):tab n f=tab n f':=by unfold tab aao;refine List.map_congr_left fun i hi=>List.map_congr_left fun k hk=>?_;have h1:=List.mem_range.1 hi;exact h i k (by omega) (List.mem_range.1 hk)
theorem atV {n:Nat}:List.replicate (n+1) (PV.agg [.val (.int .i64 0),.val (.int .i64 0),.val (.int .i64 0),.val (.int .i64 0)])=(tab n (fun _ _=>(0:Int))).map aaq:=by unfold tab;rw[List.map_map];symm;rw[List.eq_replicate_iff];exact⟨by rw[List.length_map,List.length_range],fun b hb=>by obtain⟨x,-,rfl⟩:=List.mem_map.1 hb;rfl⟩
theorem avh {n:Nat}:List.replicate (n+1) (PV.agg [.val (.bool false),.val (.bool false),.val (.bool false),.val (.bool false)])=(tab n (fun _ _=>false)).map ak4:=by unfold tab;rw[List.map_map];symm;rw[List.eq_replicate_iff];exact⟨by rw[List.length_map,List.length_range],fun b hb=>by obtain⟨x,-,rfl⟩:=List.mem_map.1 hb;rfl⟩
theorem auU {l:List Int}:(l.map pvN).all lF=true:=by simp[List.all_map,lF,Value.oneCell']
theorem atx {l:List Bool}:(l.map avr).all lF=true:=by simp[List.all_map,lF,Value.oneCell']
attribute[push_cast]
 auU atx wu yh ajS aqG akw ajw atV avh
def tbA (l:List It) (wd most:Int) (m:Nat):Nat→Nat→Option Ch:=fun i k=>if m≤i then aP l wd most i k else none
def tbJ (l:List It) (wd most:Int) (a j:Nat):Nat→Nat→Option Ch:=fun i k=>if i=a then aZ l wd most a k (aP l wd most) j else tbA l wd most (a+1) i k
def tbK (l:List It) (wd most:Int) (a j b:Nat):Nat→Nat→Option Ch:=fun i k=>if i=a then aZ l wd most a k (aP l wd most) (if k<b then j+1 else j)else tbA l wd most (a+1) i k
def cB (x:Option Ch):Int:=match x with|some c=>c.1|none=>0
def cN (x:Option Ch):Int:=match x with|some c=>(c.2.1:Int)|none=>0
def tB (f:Nat→Nat→Option Ch):Nat→Nat→Int:=fun i k=>cB (f i k)
def tG (f:Nat→Nat→Option Ch):Nat→Nat→Bool:=fun i k=>(f i k).isSome
def tN (f:Nat→Nat→Option Ch):Nat→Nat→Int:=fun i k=>cN (f i k)
theorem bE {n:Nat} {f f':Nat→Nat→Option Ch} (h:∀i k,i≤n→k<4→f i k=f' i k):tab n (tB f)=tab n (tB f')∧tab n (tG f)=tab n (tG f')∧tab n (tN f)=tab n (tN f'):=
 ⟨gX fun i k h1 h2=>by unfold tB;rw[h i k h1 h2],gX fun i k h1 h2=>by unfold tG;rw[h i k h1 h2],gX fun i k h1 h2=>by unfold tN;rw[h i k h1 h2]⟩
variable {l:List It} {wd most:Int}
theorem ab0:∀i k,i≤l.length→k<4→tbA l wd most l.length i k=if i=l.length then some (0,0,0)else none:=fun i k h _=>by
 unfold tbA;by_cases hi:i=l.length
 ·rw[if_pos (by omega),if_pos hi,hi,og]
 ·rw[if_neg (by omega),if_neg hi]
theorem ajW {a:Nat} (ha:a<l.length) (h0:0<a) (h:mg l (a-1)=false):∀i k,i≤l.length→k<4→tbA l wd most (a+1) i k=tbA l wd most a i k:=fun i k hi _=>by
 unfold tbA;by_cases h1:a+1≤i
 ·rw[if_pos h1,if_pos (by omega)]
 ·rw[if_neg h1]
  by_cases h2:a≤i
  ·obtain rfl:i=a:=by omega
   rw[if_pos h2,wY ha h0 h]
  ·rw[if_neg h2]
theorem acA {a:Nat}:∀i k,i≤l.length→k<4→tbA l wd most (a+1) i k=tbJ l wd most a 0 i k:=fun i k hi _=>by
 unfold tbJ;split
 ·rename_i h
  subst h;unfold tbA;rw[if_neg (by omega)];rfl
 ·rfl
theorem ah7 {a:Nat} (ha:a<l.length):∀i k,i≤l.length→k<4→tbJ l wd most a (l.length-a) i k=tbA l wd most a i k:=fun i k hi _=>by
 unfold tbJ tbA;split
 ·rename_i h
  subst h;rw[if_pos (Nat.le_refl _),lI ha]
 ·by_cases h1:a+1≤i
  ·rw[if_pos h1,if_pos (by omega)]
  ·rw[if_neg h1,if_neg (by omega)]
theorem adr {a j:Nat} (h:∀k:Int,aZ l wd most a k (aP l wd most) (j+1)=aZ l wd most a k (aP l wd most) j):∀i k,i≤l.length→k<4→tbJ l wd most a j i k=tbJ l wd most a (j+1) i k:=fun i k hi _=>by
 unfold tbJ;split
 ·rw[h]
 ·rfl
theorem adB {a j:Nat}:∀i k,i≤l.length→k<4→tbJ l wd most a j i k=tbK l wd most a j 0 i k:=fun i k hi _=>by
 unfold tbJ tbK;split
 ·rw[if_neg (by omega)]
 ·rfl
theorem agq {a j:Nat}:∀i k,i≤l.length→k<4→tbK l wd most a j 4 i k=tbJ l wd most a (j+1) i k:=fun i k hi hk=>by
 unfold tbJ tbK;split
 ·first|rfl|rw[if_pos hk]
 ·rfl
theorem qE {a j b:Nat} {x:Option Ch} (hx:aZ l wd most a b (aP l wd most) (j+1)=x):∀i k,i≤l.length→k<4→uI (tbK l wd most a j b) a b x i k=tbK l wd most a j (b+1) i k:=fun i k hi hk=>by
 unfold uI tbK;by_cases h:i=a∧k=b
 ·obtain⟨rfl,rfl⟩:=h
  rw[if_pos ⟨rfl,rfl⟩,if_pos rfl,if_pos (by omega),hx]
 ·rw[if_neg h]
  split
  ·have:¬k=b:=fun q=>h ⟨by assumption,q⟩
   by_cases h1:k<b
   ·rw[if_pos h1,if_pos (by omega)]
   ·rw[if_neg h1,if_neg (by omega)]
  ·rfl
theorem adv {a j b:Nat} (hx:aZ l wd most a b (aP l wd most) (j+1)=aZ l wd most a b (aP l wd most) j):∀i k,i≤l.length→k<4→tbK l wd most a j b i k=tbK l wd most a j (b+1) i k:=fun i k hi hk=>by
 unfold tbK;split
 ·by_cases h:k=b
  ·subst h
   rw[if_neg (by omega),if_pos (by omega),hx]
  ·by_cases h1:k<b
   ·rw[if_pos h1,if_pos (by omega)]
   ·rw[if_neg h1,if_neg (by omega)]
 ·rfl
theorem adE (f:Nat→Nat→Option Ch) (i k:Nat) (x:Ch):uI (tB f) i k x.1=tB (uI f i k (some x)):=by funext i' k';unfold tB uI;split<;>rfl
theorem ada (f:Nat→Nat→Option Ch) (i k:Nat) (x:Ch):uI (tG f) i k true=tG (uI f i k (some x)):=by funext i' k';unfold tG uI;split<;>rfl
theorem acW (f:Nat→Nat→Option Ch) (i k:Nat) (x:Ch):uI (tN f) i k (x.2.1:Int)=tN (uI f i k (some x)):=by funext i' k';unfold tN uI;split<;>rfl
theorem lC {a j b:Nat}:tbK l wd most a j b a b=aZ l wd most a b (aP l wd most) j:=by unfold tbK;rw[if_pos rfl,if_neg (Nat.lt_irrefl _)]
theorem jm {a j i k:Nat} (h:a<i):tbJ l wd most a j i k=aP l wd most i k:=by unfold tbJ tbA;rw[if_neg (by omega),if_pos (by omega)]
theorem ac2 {i k:Nat}:tbA l wd most 0 i k=aP l wd most i k:=if_pos (Nat.zero_le _)
end
section
def txK (ws pats:LS):Nat→LS
 |0=>[]
 |k+1=>txK ws pats k++bN (ws[k]?.getD .empty) pats
def txR (ws pats:LS):LS:=txK ws pats ws.length
theorem aaG (ws pats:LS):∀k,(txK ws pats k).length≤21*k
 |0=>by simp[txK]
 |k+1=>by have:=aaG ws pats k;have h2:=jr (ws[k]?.getD .empty) pats;rw[txK,List.length_append];omega
theorem adz (ws pats:LS):∀k,∀x∈txK ws pats k,dw x=true
 |0=>by simp[txK]
 |k+1=>fun x hx=>by
  rw[txK]at hx;rcases List.mem_append.1 hx with hx|hx
  ·exact adz ws pats k x hx
  ·exact mD x hx
theorem al8 {ws pats:LS} {k:Nat} (h:k<(txR ws pats).length):dw ((txR ws pats)[k]?.getD .empty)=true:=by rw[List.getElem?_eq_getElem h,Option.getD_some];exact adz ws pats _ _ (List.getElem_mem h)
def nb (l:List It):Nat:=(l.filter fun x=>decide (x.kd=1)).length
theorem zZ (l l':List It):nb (l++l')=nb l+nb l':=by simp[nb]
theorem atb (ps:LS):∀k,nb (wiK ps k)=k
 |0=>rfl
 |k+1=>by
  have ih:=atb ps k;rw[wiK,zZ];have h1:nb [((1:Int),oQ (ps[k]?.getD .empty),(0:Int),(0:Int),(0:Int),(0:Int),false)]=1:=by simp[nb,It.kd]
  rw[h1];split
  ·rw[ih]
  ·rw[zZ,ih]
   have h2:nb [((3:Int),(3:Int),(0:Int),(0:Int),(0:Int),(50:Int),true)]=0:=by decide
   rw[h2]
theorem aos (ws pats:LS):∀k,nb (piK ws pats k)=(txK ws pats k).length
 |0=>rfl
 |k+1=>by
  have ih:=aos ws pats k;rw[piK,zZ,txK,List.length_append];have h1:nb (wiR (ws[k]?.getD .empty) pats)=(bN (ws[k]?.getD .empty) pats).length:=atb _ _;rw[h1];split
  ·rw[ih]
  ·rw[zZ,ih]
   have h2:nb [((2:Int),(4:Int),(3:Int),(1:Int),(0:Int),(0:Int),false)]=0:=by decide
   rw[h2,Nat.add_zero]
theorem ar2 (ws pats:LS):nb (piR ws pats)=(txR ws pats).length:=by
 unfold piR;rw[zZ,aos];have h2:nb [((3:Int),(0:Int),(0:Int),(0:Int),(0:Int),(10000:Int),false),(2,0,1,0,1,0,false),(3,0,0,0,0,-10000,false)]=0:=by decide
 rw[h2];rfl
theorem aiB (l:List It) (n:Nat):nbX l n≤nb l:=by unfold nbX nb;exact List.Sublist.length_le ((List.take_sublist n l).filter _)
theorem ahJ {l:List It} {n:Nat} (h:n<l.length) (hk:(gI l n).kd=1):nbX l n<nb l:=by have h1:=aaQ h hk;have h2:=aiB l (n+1);omega
def frB (br:List Int) (k:Nat):Nat:=if k=0 then 0 else(br[k-1]?.getD 0).toNat+1
def oG (l:List It) (tx:LS) (br:List Int):Nat→LS
 |0=>[]
 |k+1=>oG l tx br k++[lnR l tx (frB br k) (br[k]?.getD 0).toNat]
theorem nT (l:List It) (tx:LS) (br:List Int):∀k,(oG l tx br k).length=k
 |0=>rfl
 |k+1=>by rw[oG,List.length_append,nT l tx br k];rfl
theorem yt (br:List Int) (k:Nat):frB br (k+1)=(br[k]?.getD 0).toNat+1:=by unfold frB;rw[if_neg (by omega)];rfl
def aq6 (l:List It) (br:List Int):Prop:=br.length≤l.length∧∀k,k<br.length→0≤br[k]?.getD 0∧dH l (frB br k) (br[k]?.getD 0).toNat=true
theorem amO {l:List It} {wd most:Int} (hl:aS l=true) (hm:most≤10000):∀(f a:Nat) (lk:Int),a≤l.length→∀k,k<(bkF l wd most f a lk).length→0≤(bkF l wd most f a lk)[k]?.getD 0∧dH l (if k=0 then a else((bkF l wd most f a lk)[k-1]?.getD 0).toNat+1) ((bkF l wd most f a lk)[k]?.getD 0).toNat=true
 |0,a,lk,_,k,hk=>by simp[bkF]at hk
 |f+1,a,lk,ha,k,hk=>by
  by_cases h:a=l.length
  ·subst h;rw[wH]at hk;simp at hk
  ·cases hr:aP l wd most a lk with
   |none=>rw[bkF,if_neg h,hr]at hk;simp at hk
   |some r=>
    obtain⟨x,c0,hx,hL⟩:=oU (by omega) hr;obtain⟨hq,-,-⟩:=o8 hL;have h2:=(eX.1 hq).1;rw[nV h hr]at hk⊢;have ih:=amO (wd:=wd) hl hm f (r.2.1+1) r.2.2 (by omega);generalize bkF l wd most f (r.2.1+1) r.2.2=t at*;cases k with
    |zero=>exact⟨by simp,by simpa using hq⟩
    |succ k=>
     rw[List.length_cons]at hk;obtain⟨i1,i2⟩:=ih k (by omega);refine⟨by simpa using i1,?_⟩;rw[if_neg (by omega),List.getElem?_cons_succ,Nat.add_sub_cancel];cases k with
     |zero=>simpa using i2
     |succ k=>rw[if_neg (by omega),Nat.add_sub_cancel]at i2;rw[List.getElem?_cons_succ];exact i2
theorem agZ {l:List It} {wd most:Int} (hl:aS l=true) (hm:most≤10000):aq6 l (dD l wd most):=
 ⟨aaw hl hm _ _ _ (Nat.zero_le _),fun k hk=>amO hl hm _ _ _ (Nat.zero_le _) k hk⟩
theorem aq6.at_ {l:List It} {br:List Int} (h:aq6 l br) {k:Nat} (hk:k<br.length):0≤br[k]?.getD 0∧frB br k≤(br[k]?.getD 0).toNat∧(br[k]?.getD 0).toNat<l.length∧¬(gI l (br[k]?.getD 0).toNat).kd=1:=by obtain⟨h1,h2⟩:=h.2 k hk;obtain⟨h3,h4,-⟩:=eX.1 h2;refine⟨h1,h3.1,h3.2,fun q=>?_⟩;unfold mg at h4;rw[if_neg (by omega),decide_eq_true_eq]at h4;omega
variable {l:List It} {tx:LS} {s:ByteArray} {n:Nat}
theorem amD (h:(gI l n).kd=1):mQ l tx s n=s++tx[nbX l n]?.getD .empty:=if_pos h
theorem al9 (h:(gI l n).kd=2∧0<(gI l n).wd∧¬s=⟨#[]⟩):mQ l tx s n=s++⟨#[32]⟩:=by unfold mQ;rw[if_neg (by omega),if_pos h]
theorem akJ (h1:¬(gI l n).kd=1) (h:¬((gI l n).kd=2∧0<(gI l n).wd∧¬s=⟨#[]⟩)):mQ l tx s n=s:=by unfold mQ;rw[if_neg h1,if_neg h]
theorem wQ {a:Nat} (h:∀k:Nat,(tx[k]?.getD ByteArray.empty).size≤20):∀j,(lnT l tx a j).size≤20*j
 |0=>by simp[lnT,ByteArray.size]
 |j+1=>by
  have ih:=wQ (a:=a) h j;rw[lnT];unfold mQ;split
  ·rw[ByteArray.size_append]
   have:=h (nbX l (a+j));omega
  ·split
   ·rw[ByteArray.size_append,show(⟨#[32]⟩:ByteArray).size=1 from rfl]
    omega
   ·omega
theorem aau {ws pats:LS} (k:Nat):((txR ws pats)[k]?.getD .empty).size≤20:=by
 by_cases h:k<(txR ws pats).length
 ·exact(aR (al8 h)).2.2
 ·rw[List.getElem?_eq_none (by omega)]
  decide
def mq (ws pats:LS) (wd most:Int):Bool:=o9 ws pats&&jo (piV ws pats) wd most
def lT (ws pats:LS) (wd most:Int):LS:=if mq ws pats wd most=true then oG (piR ws pats) (txR ws pats) (dD (piR ws pats) wd most) (dD (piR ws pats) wd most).length else []
end
end
end Go.Proofs.YtmmafcjjlbgnkaaGreat
