/- What the proof rests on, part 5: contracts of functions. No condition beyond what each states. -/
import Derived.Test.YtmmafcjjlbgnkaaGreatDoorZBiE4
namespace Go.Proofs.YtmmafcjjlbgnkaaGreatDoor
open Go.RowKit
set_option linter.all false
set_option maxHeartbeats 32000000
noncomputable section
def arR (e sz by_:Nat) (z:Value) (s:AS):PV→PV→Option (PV×bG×Nat)
 | .val (.int _ l),.val (.int _ c)=>if 0≤l∧l≤c∧(by_:Int)*c≤281474976710656∧c≤9223372036854775807 then some (.row s.nx sz 0 l.toNat,upd s.ob s.nx (some (e,sz,List.replicate l.toNat (bn z))),s.nx+1)else none
 |_,_=>none
theorem axD {e sz by_:Nat} {z:Value} {s:AS} {kl kc:IntKind} {l c:Int} (h0:0≤l) (h1:l≤c) (h2:(by_:Int)*c≤281474976710656) (h3:c≤9223372036854775807):
 arR e sz by_ z s (.val (.int kl l)) (.val (.int kc c))=some (.row s.nx sz 0 l.toNat,upd s.ob s.nx (some (e,sz,List.replicate l.toNat (bn z))),s.nx+1):=by
 simp[arR,h0,h1,h2,h3]
theorem anN {P:Program} {Γ:Ctx} {t e sz by_:Nat} {z:Value} (he:cZ P t=some e) (hz:zeroOf P e=some z) (hs:aY P e=some sz) (hb:dO P e=some by_) (h1:z.cells.all (·.oneCell')=true) (h2:z.cells.size=sz) (s:AS) (ρ:Operand→PV) (l c:Operand):
 bf P Γ s ρ (.makeSlice t l c)=arR e sz by_ z s (ρ l) (ρ c):=by
 simp only[bf,he,hz,hs,hb];unfold arR;split
 ·rename_i z' sz' by' kl l' kc c' e1 e2 e3 e4 e5
  cases e1;cases e2;cases e3;rw[e4,e5];have key:∀C:Prop,(z.cells.all (·.oneCell')=true∧z.cells.size=sz∧C)=C:=fun C=>propext ⟨fun h=>h.2.2,fun h=>⟨h1,h2,h⟩⟩;simp only[key]
 ·rename_i hno
  split
  ·rename_i a b kl l' kc c' e4 e5
   exact(hno z sz by_ kl l' kc c' rfl rfl rfl e4 e5).elim
  ·rfl
theorem adr {P:Program} {Γ:Ctx} {t sz:Nat} {z:Value} {p:PV} (hz:zeroOf P t=some z) (h1:z.cells.all (·.oneCell')=true) (h2:z.cells.size=sz) (h3:bn z=p) (s:AS) (ρ:Operand→PV):
 bf P Γ s ρ (.alloc t)=some (.own s.nx sz 0 0,upd s.ob s.nx (some (t,sz,[p])),s.nx+1):=by
 simp only[bf,hz];rw[if_pos h1,h2,h3]
def ab8 (ob:bG):PV→Option (Nat×Nat×List PV)
 | .row o _ _ _=>ob o
 | .own o _ _ _=>ob o
 |_=>none
def agA (e sz by_ nx:Nat) (ob:bG) (x:PV) (c:Option (Nat×Nat×List PV)) (es2:Option (List PV)):Option (PV×bG×Nat):=
 match es2 with
 |some es2=>match x with
  | .row o sz' i n=>match c with
    |some (T,sz'',es)=>if i=0∧T=e∧sz'=sz∧sz''=sz∧es.length=n∧n+es2.length≤9223372036854775807∧(n+es2.length)*by_≤140737488355328 then
      some (.row nx sz 0 (n+es2.length),upd (upd ob o none) nx (some (e,sz,es++es2)),nx+1)else none
    |none=>none
  |p=>if isNil p=true∧es2.length≤9223372036854775807∧es2.length*by_≤140737488355328 then
    (if es2.length=0 then some (p,ob,nx)else some (.row nx sz 0 es2.length,upd ob nx (some (e,sz,es2)),nx+1))else none
 |none=>none
theorem uz {P:Program} {Γ:Ctx} {t e sz by_:Nat} {z:Value} (he:cZ P t=some e) (hz:zeroOf P e=some z) (hs:aY P e=some sz) (hb:dO P e=some by_) (h1:0<sz) (h2:z.cells.size=sz) (s:AS) (ρ:Operand→PV) (x y:Operand):
 bf P Γ s ρ (.call {callee:=.builtin .append,args:=#[x,y],argTypes:=#[t,t]})=agA e sz by_ s.nx s.ob (ρ x) (ab8 s.ob (ρ x)) (bF s.ob sz (ρ y)):=by
 simp only[bf,he,hz,hs,hb];unfold agA;cases bF s.ob sz (ρ y)with
 |none=>rfl
 |some es2=>simp only[h1,h2,and_self,if_true];cases ρ x<;>rfl
theorem ar5 {e sz by_ nx o n:Nat} {ob:bG} {es es2:List PV} (h1:es.length=n) (h2:n+es2.length≤9223372036854775807) (h3:(n+es2.length)*by_≤140737488355328):
 agA e sz by_ nx ob (.row o sz 0 n) (some (e,sz,es)) (some es2)=some (.row nx sz 0 (n+es2.length),upd (upd ob o none) nx (some (e,sz,es++es2)),nx+1):=by
 simp[agA,h1,h2,h3]
theorem asb {e sz by_ nx:Nat} {ob:bG} {c:Option (Nat×Nat×List PV)} {es2:List PV} (h1:0<es2.length) (h2:es2.length≤9223372036854775807) (h3:es2.length*by_≤140737488355328):
 agA e sz by_ nx ob (.val (.slice none 0 0)) c (some es2)=some (.row nx sz 0 es2.length,upd ob nx (some (e,sz,es2)),nx+1):=by
 have:¬es2.length=0:=by omega
 have hn:¬es2=[]:=fun h=>this (by rw[h];rfl);simp[agA,isNil,h2,h3,hn]
theorem amt {ob:bG} {k:Bool} {sz s:Nat} {es:List PV}:acz ob sz (.lst k s es)=bF ob sz (.lst k s es):=rfl
theorem alT {ob:bG} {o sz i n s:Nat}:acz ob sz (.row o s i n)=bF ob sz (.row o s i n):=rfl
def aEj (P:Program) (t:Nat) (ob:bG) (nx:Nat) (x y:PV) (c:Option (Nat×Nat×List PV)):Option (PV×bG×Nat):=
 match x,c with
 | .own o sz i f,some (T,sz',es)=>match es[i]?,bJ y with
   |some e,some cs=>if sz=sz'∧aY P t=some cs.length then(axX sz e f y cs).map fun e'=>(.val undef,upd ob o (some (T,sz,es.set i e')),nx)else none
   |_,_=>none
 |_,_=>none
theorem aCQ {P:Program} {Γ:Ctx} (s:AS) (ρ:Operand→PV) (t:Nat) (x y:Operand):bf P Γ s ρ (.store t x y)=aEj P t s.ob s.nx (ρ x) (ρ y) (ab8 s.ob (ρ x)):=by
 simp only[bf];unfold aEj;cases hx:ρ x with
 |own o sz i f=>
  simp only[ab8];cases s.ob o with
  |none=>rfl
  |some c=>rfl
 |_=>rfl
def agY:PV→Bool
 | .agg _=>true
 |_=>false
theorem aw8 (v:Value):agY (.val v)=false:=rfl
theorem avk (k:Bool) (sz:Nat) (es:List PV):agY (.lst k sz es)=false:=rfl
theorem au4 (o sz i n:Nat):agY (.row o sz i n)=false:=rfl
theorem avd (o sz i f:Nat):agY (.own o sz i f)=false:=rfl
theorem av5 (cs:List PV):agY (.agg cs)=true:=rfl
def stE (sz f:Nat) (ag:Bool) (cs:List PV):PV→Option PV
 | .agg ecs=>if f+cs.length≤ecs.length then some (PV.agg (fM ecs f cs))else none
 |_=>if sz=1∧f=0∧ag=false then cs.head? else none
def stP (k:Option Nat) (ob:bG) (nx o T sz i f:Nat) (ag:Bool) (cs:Option (List PV)) (es:List PV) (e:Option PV):Option (PV×bG×Nat):=
 match k,cs,e with
 |some k,some cs,some e=>if k=cs.length then
   (stE sz f ag cs e).map fun e'=>(.val undef,upd ob o (some (T,sz,es.set i e')),nx)
   else none
 |_,_,_=>none
theorem aqU {P:Program} {t o sz i f T nx:Nat} {ob:bG} {es:List PV} {y:PV}:
 aEj P t ob nx (.own o sz i f) y (some (T,sz,es))=stP (aY P t) ob nx o T sz i f (agY y) (bJ y) es (es[i]?):=by
 simp only[aEj,stP];cases he:es[i]? with
 |none=>cases aY P t<;>cases bJ y<;>rfl
 |some e=>
  cases hc:bJ y with
  |none=>cases aY P t<;>rfl
  |some cs=>
   cases ht:aY P t with
   |none=>simp
   |some k=>
    by_cases hk:k=cs.length
    ·have e2:axX sz e f y cs=stE sz f (agY y) cs e:=by
      have hone:nX y=true→cs.head?=some y∧agY y=false:=by intro h;cases y<;>simp_all [bJ,nX,agY]<;>(subst hc;rfl)
      have hno:nX y=false→agY y=true:=by intro h;cases y<;>simp_all [bJ,nX,agY]
      clear he;cases e<;>simp only[axX,stE];all_goals
       cases ho:nX y with
       |true=>simp[hone ho]
       |false=>simp[hno ho]
     simp[hk,e2]
    ·simp[hk]
theorem ayr {k nx o T sz i f:Nat} {ob:bG} {ag:Bool} {cs ecs es:List PV} (hk:k=cs.length) (hf:f+cs.length≤ecs.length):
 stP (some k) ob nx o T sz i f ag (some cs) es (some (.agg ecs))=some (.val undef,upd ob o (some (T,sz,es.set i (.agg (fM ecs f cs)))),nx):=by
 simp[stP,stE,hk,hf]
theorem av8 {nx o T i:Nat} {ob:bG} {es:List PV} {v:Value} {c:PV}:
 stP (some 1) ob nx o T 1 i 0 false (some [c]) es (some (.val v))=some (.val undef,upd ob o (some (T,1,es.set i c)),nx):=rfl
theorem awk {nx o T i k sz:Nat} {b:Bool} {ob:bG} {es l:List PV} {c:PV}:
 stP (some 1) ob nx o T 1 i 0 false (some [c]) es (some (.lst b sz l))=some (.val undef,upd ob o (some (T,1,es.set i c)),nx):=rfl
theorem aw3 {nx o T i a b' c' d:Nat} {ob:bG} {es:List PV} {c:PV}:
 stP (some 1) ob nx o T 1 i 0 false (some [c]) es (some (.row a b' c' d))=some (.val undef,upd ob o (some (T,1,es.set i c)),nx):=rfl
theorem awP {nx o T i a b' c' d:Nat} {ob:bG} {es:List PV} {c:PV}:
 stP (some 1) ob nx o T 1 i 0 false (some [c]) es (some (.own a b' c' d))=some (.val undef,upd ob o (some (T,1,es.set i c)),nx):=rfl
theorem av0 {α β:Type} {f:α→β} {xs:List α} {i:Nat} {y:α}:(xs.map f).set i (f y)=(xs.set i y).map f:=by rw[List.map_set]
theorem alD {α:Type} (l new:List α):fM l 0 new=new++l.drop new.length:=by simp[fM]
theorem kQ {α:Type} (x:α) (l:List α) (n:Nat) (new:List α):fM (x::l) (n+1) new=x::fM l n new:=by simp[fM,Nat.add_right_comm n 1]
theorem aAO {α:Type} (x:α) (l:List α) (new:List α):fM (x::l) 1 new=x::fM l 0 new:=kQ x l 0 new
theorem aDh {α:Type} (x:α) (l:List α) (new:List α):fM (x::l) 2 new=x::fM l 1 new:=kQ x l 1 new
theorem azw {α:Type} (x:α) (l:List α) (new:List α):fM (x::l) 3 new=x::fM l 2 new:=kQ x l 2 new
theorem aA4 {α:Type} (x:α) (l:List α) (new:List α):fM (x::l) 4 new=x::fM l 3 new:=kQ x l 3 new
theorem aDn {α:Type} (x:α) (l:List α) (new:List α):fM (x::l) 5 new=x::fM l 4 new:=kQ x l 4 new
theorem aAN {α:Type} (x:α) (l:List α) (new:List α):fM (x::l) 6 new=x::fM l 5 new:=kQ x l 5 new
structure Dec (α:Type) where
 d:PV→Option α
 e:α→PV
 h:∀p a,d p=some a→p=e a
 h':∀a,d (e a)=some a
def F1 {α:Type} (A:Dec α) (F:α→Option PV):Fun:=fun ps=>match ps with|[p]=>(A.d p).bind F|_=>none
def F2 {α β:Type} (A:Dec α) (B:Dec β) (F:α→β→Option PV):Fun:=fun ps=>match ps with|[p,q]=>(A.d p).bind fun a=>(B.d q).bind fun b=>F a b|_=>none
def F3 {α β γ:Type} (A:Dec α) (B:Dec β) (C:Dec γ) (F:α→β→γ→Option PV):Fun:=fun ps=>match ps with|[p,q,r]=>(A.d p).bind fun a=>(B.d q).bind fun b=>(C.d r).bind fun c=>F a b c|_=>none
def F4 {α β γ δ:Type} (A:Dec α) (B:Dec β) (C:Dec γ) (D:Dec δ) (F:α→β→γ→δ→Option PV):Fun:=fun ps=>match ps with|[p,q,r,s]=>(A.d p).bind fun a=>(B.d q).bind fun b=>(C.d r).bind fun c=>(D.d s).bind fun d=>F a b c d|_=>none
section
variable {α β γ δ:Type} {A:Dec α} {B:Dec β} {C:Dec γ} {D:Dec δ} {ps:List PV} {r:PV}
theorem bC {F:α→Option PV} (h:F1 A F ps=some r):∃a,ps=[A.e a]∧F a=some r:=by
 unfold F1 at h;split at h
 ·rw[Option.bind_eq_some_iff]at h
  obtain⟨a,h1,h2⟩:=h;exact⟨a,by rw[A.h _ _ h1],h2⟩
 ·cases h
theorem iD {F:α→β→Option PV} (h:F2 A B F ps=some r):∃a b,ps=[A.e a,B.e b]∧F a b=some r:=by
 unfold F2 at h;split at h
 ·simp only[Option.bind_eq_some_iff]at h
  obtain⟨a,h1,b,h2,h3⟩:=h;exact⟨a,b,by rw[A.h _ _ h1,B.h _ _ h2],h3⟩
 ·cases h
theorem ad5 {F:α→β→γ→Option PV} (h:F3 A B C F ps=some r):∃a b c,ps=[A.e a,B.e b,C.e c]∧F a b c=some r:=by
 unfold F3 at h;split at h
 ·simp only[Option.bind_eq_some_iff]at h
  obtain⟨a,h1,b,h2,c,h3,h4⟩:=h;exact⟨a,b,c,by rw[A.h _ _ h1,B.h _ _ h2,C.h _ _ h3],h4⟩
 ·cases h
theorem ayl {F:α→β→γ→δ→Option PV} (h:F4 A B C D F ps=some r):∃a b c d,ps=[A.e a,B.e b,C.e c,D.e d]∧F a b c d=some r:=by
 unfold F4 at h;split at h
 ·simp only[Option.bind_eq_some_iff]at h
  obtain⟨a,h1,b,h2,c,h3,d,h4,h5⟩:=h;exact⟨a,b,c,d,by rw[A.h _ _ h1,B.h _ _ h2,C.h _ _ h3,D.h _ _ h4],h5⟩
 ·cases h
theorem je {C:α→Prop} [∀a,Decidable (C a)] {R:α→PV} (h:F1 A (fun a=>if C a then some (R a)else none) ps=some r):∃a,ps=[A.e a]∧C a∧R a=r:=by
 obtain⟨a,h1,h2⟩:=bC h;split at h2
 ·rename_i hc;cases h2;exact⟨a,h1,hc,rfl⟩
 ·cases h2
theorem gN {C:α→β→Prop} [∀a b,Decidable (C a b)] {R:α→β→PV} (h:F2 A B (fun a b=>if C a b then some (R a b)else none) ps=some r):∃a b,ps=[A.e a,B.e b]∧C a b∧R a b=r:=by
 obtain⟨a,b,h1,h2⟩:=iD h;split at h2
 ·rename_i hc;cases h2;exact⟨a,b,h1,hc,rfl⟩
 ·cases h2
theorem aby {G:α→β→γ→Prop} [∀a b c,Decidable (G a b c)] {R:α→β→γ→PV} (h:F3 A B C (fun a b c=>if G a b c then some (R a b c)else none) ps=some r):∃a b c,ps=[A.e a,B.e b,C.e c]∧G a b c∧R a b c=r:=by
 obtain⟨a,b,c,h1,h2⟩:=ad5 h;split at h2
 ·rename_i hc;cases h2;exact⟨a,b,c,h1,hc,rfl⟩
 ·cases h2
theorem aBC {G:α→β→γ→δ→Prop} [∀a b c d,Decidable (G a b c d)] {R:α→β→γ→δ→PV} (h:F4 A B C D (fun a b c d=>if G a b c d then some (R a b c d)else none) ps=some r):∃a b c d,ps=[A.e a,B.e b,C.e c,D.e d]∧G a b c d∧R a b c d=r:=by
 obtain⟨a,b,c,d,h1,h2⟩:=ayl h;split at h2
 ·rename_i hc;cases h2;exact⟨a,b,c,d,h1,hc,rfl⟩
 ·cases h2
theorem dY {F:α→Option PV} (a:α):F1 A F [A.e a]=F a:=by simp[F1,A.h']
theorem fZ {F:α→β→Option PV} (a:α) (b:β):F2 A B F [A.e a,B.e b]=F a b:=by simp[F2,A.h',B.h']
theorem adE {F:α→β→γ→Option PV} (a:α) (b:β) (c:γ):F3 A B C F [A.e a,B.e b,C.e c]=F a b c:=by simp[F3,A.h',B.h',C.h']
theorem aAZ {F:α→β→γ→δ→Option PV} (a:α) (b:β) (c:γ) (d:δ):F4 A B C D F [A.e a,B.e b,C.e c,D.e d]=F a b c d:=by simp[F4,A.h',B.h',C.h',D.h']
end
def dI:Dec Int:={d:=fun| .val (.int .i64 n)=>some n|_=>none,e:=fun n=> .val (.int .i64 n),h:=fun p a h=>by split at h<;>simp_all,h':=fun a=>rfl}
def dU:Dec Int:={d:=fun| .val (.int .u8 n)=>some n|_=>none,e:=fun n=> .val (.int .u8 n),h:=fun p a h=>by split at h<;>simp_all,h':=fun a=>rfl}
def dB:Dec Bool:={d:=fun| .val (.bool n)=>some n|_=>none,e:=fun n=> .val (.bool n),h:=fun p a h=>by split at h<;>simp_all,h':=fun a=>rfl}
def dS:Dec ByteArray:={d:=fun| .val (.string n)=>some n|_=>none,e:=fun n=> .val (.string n),h:=fun p a h=>by split at h<;>simp_all,h':=fun a=>rfl}
def dFn (f:Nat):Dec Unit where
 d:=fun| .val (.func (.func g) a b)=>if g=f∧a.size=0∧b.size=0 then some ()else none|_=>none
 e:=fun _=> .val (.func (.func f) #[] #[])
 h:=fun p a h=>by
  split at h
  ·split at h
   ·rename_i hh
    obtain⟨rfl,h1,h2⟩:=hh;rw[Array.eq_empty_of_size_eq_zero h1,Array.eq_empty_of_size_eq_zero h2]
   ·cases h
  ·cases h
 h':=fun a=>by simp
theorem agp {α:Type} (A:Dec α):∀{es:List PV} {l:List α},es.mapM A.d=some l→es=l.map A.e
 |[],l,h=>by simp only[List.mapM_nil,Option.pure_def,Option.some.injEq]at h;subst h;rfl
 |e::es,l,h=>by rw[mapM_cons',Option.bind_eq_some_iff]at h;obtain⟨a,h1,h2⟩:=h;rw[Option.map_eq_some_iff]at h2;obtain⟨l',h3,rfl⟩:=h2;rw[List.map_cons,A.h _ _ h1,agp A h3]
theorem ah8 {α:Type} (A:Dec α):∀(l:List α),(l.map A.e).mapM A.d=some l
 |[]=>rfl
 |a::l=>by rw[List.map_cons,mapM_cons',A.h',ah8 A l];rfl
def dL {α:Type} (sz:Nat) (A:Dec α):Dec (List α) where
 d:=fun| .lst false s es=>if s=sz then es.mapM A.d else none|_=>none
 e:=fun l=> .lst false sz (l.map A.e)
 h:=fun p a h=>by
  split at h
  ·split at h
   ·rename_i hs
    subst hs;rw[agp A h]
   ·cases h
  ·cases h
 h':=fun a=>by show(if sz=sz then(a.map A.e).mapM A.d else none)=some a;rw[if_pos rfl,ah8]
abbrev dIs:=dL 1 dI
abbrev dUs:=dL 1 dU
abbrev dSs:=dL 1 dS
def dA2 {α β:Type} (A:Dec α) (B:Dec β):Dec (α×β) where
 d:=fun| .agg [p,q]=>(A.d p).bind fun a=>(B.d q).map fun b=>(a,b)|_=>none
 e:=fun x=> .agg [A.e x.1,B.e x.2]
 h:=fun p a h=>by
  split at h
  ·simp only[Option.bind_eq_some_iff,Option.map_eq_some_iff]at h
   obtain⟨x,h1,y,h2,rfl⟩:=h;rw[A.h _ _ h1,B.h _ _ h2]
  ·cases h
 h':=fun a=>by simp[A.h',B.h']
def dA3 {α β γ:Type} (A:Dec α) (B:Dec β) (C:Dec γ):Dec (α×β×γ) where
 d:=fun| .agg [p,q,r]=>(A.d p).bind fun a=>(B.d q).bind fun b=>(C.d r).map fun c=>(a,b,c)|_=>none
 e:=fun x=> .agg [A.e x.1,B.e x.2.1,C.e x.2.2]
 h:=fun p a h=>by
  split at h
  ·simp only[Option.bind_eq_some_iff,Option.map_eq_some_iff]at h
   obtain⟨x,h1,y,h2,z,h3,rfl⟩:=h;rw[A.h _ _ h1,B.h _ _ h2,C.h _ _ h3]
  ·cases h
 h':=fun a=>by simp[A.h',B.h',C.h']
def dA4 {α β γ δ:Type} (A:Dec α) (B:Dec β) (C:Dec γ) (D:Dec δ):Dec (α×β×γ×δ) where
 d:=fun| .agg [p,q,r,s]=>(A.d p).bind fun a=>(B.d q).bind fun b=>(C.d r).bind fun c=>(D.d s).map fun d=>(a,b,c,d)|_=>none
 e:=fun x=> .agg [A.e x.1,B.e x.2.1,C.e x.2.2.1,D.e x.2.2.2]
 h:=fun p a h=>by
  split at h
  ·simp only[Option.bind_eq_some_iff,Option.map_eq_some_iff]at h
   obtain⟨x,h1,y,h2,z,h3,t,h4,rfl⟩:=h;rw[A.h _ _ h1,B.h _ _ h2,C.h _ _ h3,D.h _ _ h4]
  ·cases h
 h':=fun a=>by simp[A.h',B.h',C.h',D.h']
def dA5 {α β γ δ ε:Type} (A:Dec α) (B:Dec β) (C:Dec γ) (D:Dec δ) (E:Dec ε):Dec (α×β×γ×δ×ε) where
 d:=fun| .agg [p,q,r,s,t]=>(A.d p).bind fun a=>(B.d q).bind fun b=>(C.d r).bind fun c=>(D.d s).bind fun d=>(E.d t).map fun e=>(a,b,c,d,e)|_=>none
 e:=fun x=> .agg [A.e x.1,B.e x.2.1,C.e x.2.2.1,D.e x.2.2.2.1,E.e x.2.2.2.2]
 h:=fun p a h=>by
  split at h
  ·simp only[Option.bind_eq_some_iff,Option.map_eq_some_iff]at h
   obtain⟨x,h1,y,h2,z,h3,t,h4,u,h5,rfl⟩:=h;rw[A.h _ _ h1,B.h _ _ h2,C.h _ _ h3,D.h _ _ h4,E.h _ _ h5]
  ·cases h
 h':=fun a=>by simp[A.h',B.h',C.h',D.h',E.h']
theorem aL {α β γ δ ε:Type} (A:Dec α) (B:Dec β) (C:Dec γ) (D:Dec δ) (E:Dec ε):(dA5 A B C D E).e=fun x=> .agg [A.e x.1,B.e x.2.1,C.e x.2.2.1,D.e x.2.2.2.1,E.e x.2.2.2.2]:=rfl
theorem bP:dI.e=fun n=> .val (.int .i64 n):=rfl
theorem bS:dU.e=fun n=> .val (.int .u8 n):=rfl
theorem bQ:dB.e=fun n=> .val (.bool n):=rfl
theorem bT:dS.e=fun n=> .val (.string n):=rfl
theorem aP (f:Nat):(dFn f).e=fun _=> .val (.func (.func f) #[] #[]):=rfl
theorem bR {α:Type} (sz:Nat) (A:Dec α):(dL sz A).e=fun l=> .lst false sz (l.map A.e):=rfl
theorem aQ {α β:Type} (A:Dec α) (B:Dec β):(dA2 A B).e=fun x=> .agg [A.e x.1,B.e x.2]:=rfl
theorem aO {α β γ:Type} (A:Dec α) (B:Dec β) (C:Dec γ):(dA3 A B C).e=fun x=> .agg [A.e x.1,B.e x.2.1,C.e x.2.2]:=rfl
theorem aR {α β γ δ:Type} (A:Dec α) (B:Dec β) (C:Dec γ) (D:Dec δ):(dA4 A B C D).e=fun x=> .agg [A.e x.1,B.e x.2.1,C.e x.2.2.1,D.e x.2.2.2]:=rfl
theorem avf (f:Nat):azf (.val (.func (.func f) #[] #[]))=some f:=rfl
theorem aro {P:Program} {Γ:Ctx} {ob:bG} {tm:Nat→PV} {ty:Nat} {x:Operand} {xs:Array Operand} {ts:Array TypeId}:aZ P Γ ob (look tm) ty (.call {callee:=.value x,args:=xs,argTypes:=ts})=
 (match azf (look tm x)with|some f=>acP Γ ob f (xs.toList.map (look tm))|none=>none):=by
 simp only[aZ];cases azf (look tm x)with
 |none=>rfl
 |some f=>rfl
section
variable {P:Program} {Γ:Ctx} {ob:bG} {ρ:Operand→PV} {ty:Nat}
theorem au6 (x:Operand):aZ P Γ ob ρ ty (.move x)=some (ρ x):=rfl
theorem ak6 (x:Operand):aZ P Γ ob ρ ty (.assign x)=some (ρ x):=rfl
def aB0 (c x y:PV):Option PV:=match c with| .val (.bool b)=>some (if b then x else y)|_=>none
theorem avV (b:Bool) (x y:PV):aB0 (.val (.bool b)) x y=some (if b=true then x else y):=rfl
theorem ay8 (c x y:Operand):aZ P Γ ob ρ ty (.pick c x y)=aB0 (ρ c) (ρ x) (ρ y):=by simp only[aZ];rfl
theorem aqW (t:Nat) (ps:Array (Nat×Operand)):aZ P Γ ob ρ ty (.build t ps)=dZ P t (partsOf ρ ps):=rfl
def aGr (r:Option (Nat×Nat×List PV)):Option PV:=match r with|some (_,sz,es)=>some (.lst true sz es)|none=>none
theorem aaM (t n:Nat) (ps:Array (Nat×Operand)):aZ P Γ ob ρ ty (.buildSlice t n ps)=aGr (iL P t n (partsOf ρ ps)):=rfl
def aoo (P:Program) (t:Nat) (x:PV) (c:Option (Nat×Nat×List PV)):Option PV:=match x with
    | .own o sz i f=>match c with
      |some (_,sz',es)=>if sz=sz' then(es[i]?).bind (adT P t f)else none
      |none=>none
    | .ptr _ e f=>adT P t f e
    |_=>none
theorem ayV (t:Nat) (x:Operand):aZ P Γ ob ρ ty (.load t x)=aoo P t (ρ x) (ab8 ob (ρ x)):=by simp only[aZ];unfold aoo ab8;cases ρ x<;>rfl
theorem akK (t:Nat) (k:Bool) (e:PV) (f:Nat) (c:Option (Nat×Nat×List PV)):aoo P t (.ptr k e f) c=adT P t f e:=rfl
theorem alx (t o sz i f T:Nat) (es:List PV):aoo P t (.own o sz i f) (some (T,sz,es))=(es[i]?).bind (adT P t f):=by simp[aoo]
theorem apB (o sz i n:Nat):ab8 ob (.row o sz i n)=ob o:=rfl
theorem arZ (o sz i f:Nat):ab8 ob (.own o sz i f)=ob o:=rfl
theorem aqX (k:Bool) (e:PV) (f:Nat):ab8 ob (.ptr k e f)=none:=rfl
theorem apX (v:Value):ab8 ob (.val v)=none:=rfl
theorem aqK (k:Bool) (sz:Nat) (es:List PV):ab8 ob (.lst k sz es)=none:=rfl
def aFB:PV→Option PV
    | .own o sz i f=>some (.own o sz i f)
    | .ptr k e f=>some (.ptr k e f)
    |_=>none
theorem afO (x:Operand):aZ P Γ ob ρ ty (.nilCheck x)=aFB (ρ x):=rfl
theorem arp (o sz i f:Nat):aFB (.own o sz i f)=some (.own o sz i f):=rfl
theorem apP (k:Bool) (e:PV) (f:Nat):aFB (.ptr k e f)=some (.ptr k e f):=rfl
def mq (P:Program) (b:BinOp) (t:Nat) (x y:Operand):Option Value→Option Value→Option PV
 |some u,some v=>(aA P (do eqGuard b t x y u v;binOp b t u v)).map .val
 |_,_=>none
theorem asH (b:BinOp) (t:Nat) (x y:Operand) (t':Nat):aZ P Γ ob ρ ty (.binOp b t x y t')=mq P b t x y (toVal (ρ x)) (toVal (ρ y)):=rfl
section
variable {t:Nat} {x y:Operand} {k:IntKind} {m n:Int}
theorem azm:mq P .add t x y (some (.int k m)) (some (.int k n))=some (.val (.int k (k.wrap (m+n)))):=by simp only[mq,aAF,Option.map_some]
theorem azE:mq P .sub t x y (some (.int k m)) (some (.int k n))=some (.val (.int k (k.wrap (m-n)))):=by simp only[mq,aEe,Option.map_some]
theorem aCV:mq P .mul t x y (some (.int k m)) (some (.int k n))=some (.val (.int k (k.wrap (m*n)))):=by simp only[mq,azQ,Option.map_some]
theorem aCt (h:n≠0):mq P .quo t x y (some (.int k m)) (some (.int k n))=some (.val (.int k (k.wrap (m.tdiv n)))):=by simp only[mq,aCC h,Option.map_some]
theorem aCP (h:n≠0):mq P .rem t x y (some (.int k m)) (some (.int k n))=some (.val (.int k (m.tmod n))):=by simp only[mq,aDD h,Option.map_some]
theorem aD0:mq P .lss t x y (some (.int k m)) (some (.int k n))=some (.val (.bool (decide (m<n)))):=by simp only[mq,aCi,Option.map_some]
theorem aBt:mq P .leq t x y (some (.int k m)) (some (.int k n))=some (.val (.bool (decide (m≤n)))):=by simp only[mq,aD5,Option.map_some]
theorem aEc:mq P .gtr t x y (some (.int k m)) (some (.int k n))=some (.val (.bool (decide (n<m)))):=by simp only[mq,aCv,Option.map_some]
theorem aC8:mq P .geq t x y (some (.int k m)) (some (.int k n))=some (.val (.bool (decide (n≤m)))):=by simp only[mq,aDb,Option.map_some]
theorem aBI:mq P .eql t x y (some (.int k m)) (some (.int k n))=some (.val (.bool (decide (m=n)))):=by simp only[mq,aAr,Option.map_some]
theorem aBu:mq P .neq t x y (some (.int k m)) (some (.int k n))=some (.val (.bool (!decide (m=n)))):=by simp only[mq,aCK,Option.map_some]
theorem aBO {a b:Bool} (h:P.underlying t=some .bool):aA P (Op.equal t (.bool a) (.bool b))=some (a==b):=by unfold Op.equal Op.maxDepth;rw[show(10000:Nat)=9999+1 from rfl,Op.equalIn];simp[underlying,Go.program,bind,Sem.bind,pure,aA,h]
theorem uh {α β:Type} {P:Program} {m:Sem α} {x:α} (h:aA P m=some x) (f:α→Sem β):aA P (m>>=f)=aA P (f x):=by
 show aA P (m.bind f)=_
 induction m with
 |pure a=>simp only[aA,Option.some.injEq]at h;subst h;rfl
 |program k ih=>simp only[aA]at h;simp only[Sem.bind,aA];exact ih P h
 |_=>simp[aA]at h
theorem awY {a b:Bool} (h:P.underlying t=some .bool):mq P .neq t x y (some (.bool a)) (some (.bool b))=some (.val (.bool (!(a==b)))):=by
 have h1:aA P (eqGuard .neq t x y (.bool a) (.bool b))=some ():=by simp[eqGuard,pure,aA]
 have h2:aA P (binOp .neq t (.bool a) (.bool b))=some (.bool (!(a==b))):=by show aA P (Op.equal t (.bool a) (.bool b)>>=fun r=>pure (Value.bool (!r)))=_;rw[uh (aBO h)];rfl
 simp only[mq];rw[uh h1,h2];rfl
end
def unP (P:Program) (u:UnOp):Option Value→Option PV
 |some v=>(aA P (Op.unary u v)).map .val
 |none=>none
theorem avD (u:UnOp) (t:Nat) (x:Operand):aZ P Γ ob ρ ty (.unOp u t x)=unP P u (toVal (ρ x)):=rfl
theorem aDJ {b:Bool}:unP P .not (some (.bool b))=some (.val (.bool !b)):=by simp only[unP,aBV,Option.map_some]
def ads (P:Program) (src dst:Nat) (b:Bool) (es:Option (List PV)) (v:Option Value):Option PV:=
 if b=true then(es.bind jO).map fun ns=> .val (.string (bytesOf ns))else match v with|some v=>(aA P (convert src dst v)).map .val|none=>none
theorem aiJ (src dst:Nat) (x:Operand):aZ P Γ ob ρ ty (.convert src dst x)=ads P src dst (fA P src&&isStr P dst) (bF ob 1 (ρ x)) (toVal (ρ x)):=by
 simp only[aZ,ads];by_cases h:fA P src=true∧isStr P dst=true
 ·rw[if_pos h,if_pos (by simp[h.1,h.2])]
 ·rw[if_neg h,if_neg (by simpa using h)]
  cases toVal (ρ x)<;>rfl
theorem auy {src dst:Nat} {d:TypeDesc} {k k':IntKind} {n:Int} {es:Option (List PV)} (h:P.underlying src=some d) (h':P.underlying dst=some (.int k')):ads P src dst false es (some (.int k n))=some (.val (.int k' (k'.wrap n))):=by simp[ads,awX h h']
theorem aC6 {src dst:Nat} {es:List PV} {v:Option Value}:ads P src dst true (some es) v=(jO es).map fun ns=> .val (.string (bytesOf ns)):=by simp[ads]
def aEv (k:Option Nat):PV→Option PV
 | .own o sz i c=>match k with|some k=>some (.own o sz i (c+k))|none=>none
 | .ptr b e c=>match k with|some k=>some (.ptr b e (c+k))|none=>none
 |_=>none
theorem acE (t:Nat) (x:Operand) (f:Nat):aZ P Γ ob ρ ty (.fieldAddr t x f)=aEv (aV P t f) (ρ x):=by simp only[aZ];unfold aEv;cases ρ x<;>cases aV P t f<;>rfl
theorem atd (k o sz i c:Nat):aEv (some k) (.own o sz i c)=some (.own o sz i (c+k)):=rfl
theorem as1 (k:Nat) (b:Bool) (e:PV) (c:Nat):aEv (some k) (.ptr b e c)=some (.ptr b e (c+k)):=rfl
def aEX (P:Program) (t:Nat) (x:PV):PV→Option PV
 | .val (.int _ n)=>aI P t x n
 |_=>none
theorem adn (t:Nat) (x i:Operand):aZ P Γ ob ρ ty (.indexAddr t x i)=aEX P t (ρ x) (ρ i):=by simp only[aZ];unfold aEX asI;split<;>(split at*<;>simp_all)
theorem apo (t:Nat) (x:PV) (k:IntKind) (n:Int):aEX P t x (.val (.int k n))=aI P t x n:=rfl
def aEq (P:Program) (t:Nat):Option Value→Option Value→Option PV
 |some u,some v=>(aA P (Instr.index t u v)).map .val
 |_,_=>none
theorem arC (t:Nat) (x i:Operand):aZ P Γ ob ρ ty (.index t x i)=aEq P t (toVal (ρ x)) (toVal (ρ i)):=rfl
def aGX (i:Nat):PV→Option PV
 | .tup vs=>vs[i]?
 |_=>none
theorem aj1 (x:Operand) (i:Nat):aZ P Γ ob ρ ty (.extract x i)=aGX i (ρ x):=rfl
theorem arX (i:Nat) (vs:List PV):aGX i (.tup vs)=vs[i]?:=rfl
def p8 (P:Program) (t ty:Nat) (x:PV):Option PV:=match ady P t x with
 |some p=>some p
 |none=>match toVal x with
  |some v=>((aA P (Builtin.len_ #[t] ty #[v]))).map .val
  |none=>none
theorem aBP (x:Operand) (t:Nat):aZ P Γ ob ρ ty (.call {callee:=.builtin .len,args:=#[x],argTypes:=#[t]})=p8 P t ty (ρ x):=rfl
theorem uF {t ty sz e:Nat} {k:Bool} {es:List PV} (h:cZ P t=some e):p8 P t ty (.lst k sz es)=some (.val (.int .i64 es.length)):=by simp[p8,ady,h]
theorem zM {t ty o sz i n e:Nat} (h:cZ P t=some e):p8 P t ty (.row o sz i n)=some (.val (.int .i64 n)):=by simp[p8,ady,h]
theorem aDu {t ty:Nat} {s:ByteArray} (h:P.underlying t=some .string):p8 P t ty (.val (.string s))=some (.val (.int .i64 s.size)):=by simp[p8,ady,toVal,ayE h]
theorem ahO {t ty e:Nat} (h:P.underlying t=some (.slice e)):p8 P t ty (.val (.slice none 0 0))=some (.val (.int .i64 0)):=by simp[p8,ady,toVal,Builtin.len_,underlying,Go.program,bind,Sem.bind,pure,aA,h,goInt]
theorem aBT (xs:Array Operand) (ts:Array TypeId):aZ P Γ ob ρ ty (.call {callee:=.builtin .max,args:=xs,argTypes:=ts})=(match lS (xs.toList.map ρ)with|some vs=>(aA P (Builtin.max_ ts ty vs.toArray)).map .val|none=>none):=rfl
theorem aC9 (xs:Array Operand) (ts:Array TypeId):aZ P Γ ob ρ ty (.call {callee:=.builtin .min,args:=xs,argTypes:=ts})=(match lS (xs.toList.map ρ)with|some vs=>(aA P (Builtin.min_ ts ty vs.toArray)).map .val|none=>none):=rfl
def azj (P:Program) (t:Nat) (x:PV) (lo hi:Option (Option Int)):Option PV:=match x with
    | .val (.string s)=>match lo,hi with
      |some l,some h=>(aA P (Instr.sliceAt t (.string s) (l.map (Value.int .i64)) (h.map (Value.int .i64)) none)).map .val
      |_,_=>none
    |p=>match lo,hi with
     |some l,some h=>j6 P t p l h
     |_,_=>none
theorem ar6 (t:Nat) (x:Operand) (lo hi:Option Operand):aZ P Γ ob ρ ty (.slice t x lo hi none)=azj P t (ρ x) (aoY (lo.map ρ)) (aoY (hi.map ρ)):=by
 simp only[aZ];unfold azj;cases ρ x with
 |val v=>cases v<;>rfl
 |_=>rfl
theorem aAp (t:Nat) (k:Bool) (sz:Nat) (es:List PV) (lo hi:Option Int):azj P t (.lst k sz es) (some lo) (some hi)=j6 P t (.lst k sz es) lo hi:=rfl
theorem aAP (t:Nat) (o sz i n:Nat) (lo hi:Option Int):azj P t (.row o sz i n) (some lo) (some hi)=j6 P t (.row o sz i n) lo hi:=rfl
def aCL (t:Nat) (s:AS) (x:PV):Option (List PV)→Option (PV×bG×Nat)
 |some cs=>some (.own s.nx cs.length 0 0,upd s.ob s.nx (some (t,cs.length,[x])),s.nx+1)
 |none=>none
theorem aCB (s:AS) (t:Nat) (x:Operand):bf P Γ s ρ (.box t x)=aCL t s (ρ x) (bJ (ρ x)):=rfl
theorem av9 (t:Nat) (s:AS) (x:PV) (cs:List PV):aCL t s x (some cs)=some (.own s.nx cs.length 0 0,upd s.ob s.nx (some (t,cs.length,[x])),s.nx+1):=rfl
def aGC (n:Nat) (s:AS):Option (Nat×Nat×List PV)→Option (PV×bG×Nat)
 |some (e,sz,es)=>some (.row s.nx sz 0 n,upd s.ob s.nx (some (e,sz,es)),s.nx+1)
 |none=>none
theorem abz (s:AS) (t n:Nat) (ps:Array (Nat×Operand)):bf P Γ s ρ (.buildSlice t n ps)=aGC n s (iL P t n (partsOf ρ ps)):=rfl
theorem awy (n:Nat) (s:AS) (e sz:Nat) (es:List PV):aGC n s (some (e,sz,es))=some (.row s.nx sz 0 n,upd s.ob s.nx (some (e,sz,es)),s.nx+1):=rfl
theorem aj8 {v:Value} (h:v.oneCell'=true):bJ (.val v)=some [.val v]:=by simp[bJ,nX,h]
theorem ajE (k:Bool) (sz:Nat) (es:List PV):bJ (.lst k sz es)=some [.lst k sz es]:=rfl
theorem ajt (o sz i n:Nat):bJ (.row o sz i n)=some [.row o sz i n]:=rfl
theorem ajQ (o sz i n:Nat):bJ (.own o sz i n)=some [.own o sz i n]:=rfl
theorem aq1 (v:Value):nX (.val v)=v.oneCell':=rfl
theorem apW (k:Bool) (sz:Nat) (es:List PV):nX (.lst k sz es)=true:=rfl
theorem aqZ (o sz i n:Nat):nX (.row o sz i n)=true:=rfl
theorem arb (o sz i n:Nat):nX (.own o sz i n)=true:=rfl
def aDQ (ag:Option Bool) (k:Option Nat) (f:Nat):Option (List PV)→Option PV
 |some cs=>match ag,k with
  |some true,some k=>if f+k≤cs.length then some (.agg ((cs.drop f).take k))else none
  |some false,_=>cs[f]?
  |_,_=>none
 |none=>none
theorem auS (t f:Nat) (e:PV):adT P t f e=aDQ (jH P t) (aY P t) f (bJ e):=by unfold adT aDQ;cases bJ e<;>cases jH P t<;>cases aY P t<;>first|rfl|(rename_i b _;cases b<;>rfl)|(rename_i b;cases b<;>rfl)|skip
theorem arM (k:Option Nat) (f:Nat) (cs:List PV):aDQ (some false) k f (some cs)=cs[f]?:=by cases k<;>rfl
theorem asz (k f:Nat) (cs:List PV) (h:f+k≤cs.length):aDQ (some true) (some k) f (some cs)=some (.agg ((cs.drop f).take k)):=by simp[aDQ,h]
end
theorem aq5 {a b:Int} (h:0≤a):a.tdiv b=a/b:=Int.tdiv_eq_ediv_of_nonneg h
theorem aqc {a b:Int} (h:0≤a):a.tmod b=a % b:=Int.tmod_eq_emod_of_nonneg h
def mV {α:Type} (zs:List α) (z:α) (k:Nat):List α:=zs.take k++List.replicate (zs.length-k) z
theorem mG {α:Type} {zs:List α} {z:α} {k:Nat}:(mV zs z k).length=zs.length:=by simp[mV];omega
theorem rX {α:Type} {zs:List α} {z:α}:mV zs z 0=List.replicate zs.length z:=by simp[mV]
theorem oz {α:Type} {zs:List α} {z:α} {k:Nat} (h:zs.length≤k):mV zs z k=zs:=by simp[mV,List.take_of_length_le h,Nat.sub_eq_zero_of_le h]
theorem wY {α:Type} {zs:List α} {z:α} {k:Nat} {y:α} (h:k<zs.length) (hy:zs[k]?=some y):(mV zs z k).set k y=mV zs z (k+1):=by
 have e:zs.length-k=(zs.length-(k+1))+1:=by omega
 have hl:(zs.take k).length=k:=by simp;omega
 unfold mV;rw[List.set_append_right _ _ (by omega),hl,Nat.sub_self,e,List.replicate_succ,List.set_cons_zero,List.take_add_one,hy];simp
theorem ajj (k:IntKind) (n:Int):bJ (.val (.int k n))=some [.val (.int k n)]:=rfl
theorem ad4 (b:Bool):bJ (.val (.bool b))=some [.val (.bool b)]:=rfl
theorem air (b:ByteArray):bJ (.val (.string b))=some [.val (.string b)]:=rfl
theorem omg {α β:Type} {f:α→β} {l:List α} {k:Nat} {d:α} (h:k<l.length):Option.map f l[k]?=some (f (l[k]?.getD d)):=by simp[h]
theorem aFw {β:Type} {f:Int→β} {l:List Int} {k:Nat} (h:k<l.length):Option.map f l[k]?=some (f (l[k]?.getD 0)):=omg h
theorem aEV {β:Type} {f:Bool→β} {l:List Bool} {k:Nat} (h:k<l.length):Option.map f l[k]?=some (f (l[k]?.getD false)):=omg h
theorem aFJ {β:Type} {f:ByteArray→β} {l:List ByteArray} {k:Nat} (h:k<l.length):Option.map f l[k]?=some (f (l[k]?.getD .empty)):=omg h
theorem afg (cs:List PV):bJ (.agg cs)=if cs.all nX=true then some cs else none:=rfl
attribute[push_cast]
 axe aro avf au6 ak6 avV ay8 aqW aGr aaM ayV akK alx apB arZ aqX apX aqK afO arp apP asH azm azE aCV aCt aCP aD0 aBt aEc aC8 aBI aBu avD aDJ aiJ aC6 acE atd as1 apo adn arC aj1 arX aBP aBT aC9 ar6 aAp aAP aCB av9 abz awy ajj ad4 air aj8 aFw aEV aFJ ajE ajt ajQ afg aq1 apW aqZ arb auS arM asz bF axD ar5 asb aCQ aqU aw8 avk au4 avd av5 ayr av8 awk aw3 awP av0 alD aAO aDh azw aA4 aDn aAN List.set_cons_zero List.drop_succ_cons List.drop_zero List.drop_nil List.nil_append List.cons_append List.take_succ_cons List.take_zero List.length_set kU oI ai0 aiM lX xJ sJ rU aj5 aso asu List.length_replicate look amv aC0 apH acT beq_none afz abn zf al0 iB lS asI aoY List.map_cons List.map_nil Option.map_some Option.map_none Option.bind_some List.getElem?_cons_zero List.getElem?_cons_succ List.getElem?_nil Option.getD_some Option.getD_none alz akI alZ alS alE decide_true decide_false Bool.true_and Bool.false_and Bool.and_true Bool.and_false Bool.or_true Bool.or_false Bool.true_or Bool.false_or Bool.not_true Bool.not_false Bool.not_not decide_eq_true_eq decide_eq_false_iff_not Bool.not_eq_true' Bool.not_eq_false' if_true if_false ite_true ite_false Bool.false_eq_true aD8 aA1 dD aq5 aqc List.length_map List.getElem?_map Int.toNat_natCast ajT aix toNat_add Int.natCast_nonneg and_self and_true true_and Nat.zero_add Nat.add_zero Int.natCast_zero Int.natCast_one Int.natCast_add Value.oneCell' List.all_cons List.all_nil List.length_cons List.length_nil Option.isSome_some mapM_nil' mapM_cons' iv bv sv aqI agree jc List.lookup_nil List.lookup_cons beq_self_eq_true asQ
attribute[push_cast]
 amt alT
section
variable {P:Program} {t:Nat} {x y:Operand}
def at8 (s:ByteArray) (i:Nat):Int:=((s[i]?).getD 0).toNat
theorem iM (s:ByteArray) (i:Nat):0≤at8 s i∧at8 s i≤255:=by unfold at8;have:=((s[i]?).getD 0).toNat_lt;omega
theorem yC (a b:ByteArray):(a.toList==b.toList)=decide (a=b):=by
 rw[Bool.eq_iff_iff,decide_eq_true_eq,beq_iff_eq];constructor
 ·intro h
  rw[Go.ByteArray.toList_eq,Go.ByteArray.toList_eq]at h;obtain⟨x⟩:=a;obtain⟨y⟩:=b;simpa using h
 ·rintro rfl
  rfl
theorem atc {a b:ByteArray}:aA P (do eqGuard .eql t x y (.string a) (.string b);binOp .eql t (.string a) (.string b))=some (.bool (a.toList==b.toList)):=by simp[eqGuard,binOp,Op.stringOp,bind,Sem.bind,pure,aA]
theorem aqj {a b:ByteArray}:aA P (do eqGuard .neq t x y (.string a) (.string b);binOp .neq t (.string a) (.string b))=some (.bool (!(a.toList==b.toList))):=by simp[eqGuard,binOp,Op.stringOp,bind,Sem.bind,pure,aA]
theorem avW {a b:ByteArray}:mq P .eql t x y (some (.string a)) (some (.string b))=some (.val (.bool (decide (a=b)))):=by simp only[mq,atc,yC,Option.map_some]
theorem ayu {a b:ByteArray}:mq P .neq t x y (some (.string a)) (some (.string b))=some (.val (.bool (!decide (a=b)))):=by simp only[mq,aqj,yC,Option.map_some]
theorem aBw {s:ByteArray} {i:Int} (h:P.underlying t=some .string) (h0:0≤i) (h1:i<s.size):aEq P t (some (.string s)) (some (.int .i64 i))=some (.val (.int .u8 (at8 s i.toNat))):=by
 have hlt:i.toNat<s.size:=by omega
 have hg:s[i.toNat]?=some s[i.toNat]:=getElem?_pos s i.toNat hlt;have:aA P (Instr.index t (.string s) (.int .i64 i))=some (.int .u8 (at8 s i.toNat)):=by simp[Instr.index,asIntOf,underlying,Go.program,bind,Sem.bind,pure,aA,h,h0,hg,at8]
 simp only[aEq,this,Option.map_some]
end
def fB:Nat→PV→Bool
 |0,_=>false
 |_+1,.val _=>true
 |_+1,.dead=>true
 |n+1,.agg cs=>cs.all (fB n)
 |_,_=>false
section
variable {α:Type} {n sz f:Nat} {ob:bG} {k fr:Bool} {g:α→PV} {l:List α}
theorem agV {f:Nat} (h:∀x,fB 2 (g x)=true) (hf:2≤f):(l.map g).mapM (reify fr n ob f)=some (l.map g):=dP fun e he=>by
 obtain⟨x,_,rfl⟩:=List.mem_map.1 he;obtain⟨m,rfl⟩:∃m,f=m+2:=⟨f-2,by omega⟩;have h2:=h x;revert h2;cases g x with
 |val v=>intro _;rfl
 |dead=>intro _;rfl
 |agg cs=>
  intro h2;have h3:∀c∈cs,fB 1 c=true:=by simpa [fB]using h2
  simp only[reify];rw[dP fun c hc=>?_]
  ·rfl
  ·have:=h3 c hc
   cases c with
   |agg cs'=>
    cases cs' with
    |nil=>rfl
    |cons a l=>simp[fB]at this
   |val v=>rfl
   |dead=>rfl
   |_=>simp[fB]at this
 |_=>intro h2;simp[fB]at h2
theorem pU (h:∀x,fB 2 (g x)=true):reify false n ob (f+3) (.lst k sz (l.map g))=some (.lst false sz (l.map g)):=by show(if false=true∧k=false∧(l.map g)≠[]then none else((l.map g).mapM (reify false n ob (f+2))).map (PV.lst false sz))=_;rw[agV h (by omega)];simp
theorem tL {m T:Nat} (h:∀x,fB 2 (g x)=true) (hm:m=l.length):rW fr (f+2) ob sz 0 m (some (T,sz,l.map g))=some (.lst fr sz (l.map g)):=by
 subst hm;have e:((l.map g).drop 0).take l.length=l.map g:=by rw[List.drop_zero,List.take_of_length_le (by simp)]
 simp only[rW,e,agV (n:=0) (fr:=fr) (ob:=ob) h (show 2≤f+2 by omega),Nat.zero_add,List.length_map,Nat.le_refl,and_self,if_true,Option.map_some]
end
section
variable {α:Type} {n sz f:Nat} {ob:bG} {k fr:Bool} {l:List α} {g1 g2 g3 g4:α→Value}
theorem akO:reify false n ob (f+3) (.lst k sz (l.map fun x=>PV.agg [.val (g1 x),.val (g2 x)]))=some (.lst false sz (l.map fun x=>PV.agg [.val (g1 x),.val (g2 x)])):=pU fun _=>rfl
theorem aau {m T:Nat} (hm:m=l.length):rW fr (f+2) ob sz 0 m (some (T,sz,l.map fun x=>PV.agg [.val (g1 x),.val (g2 x)]))=some (.lst fr sz (l.map fun x=>PV.agg [.val (g1 x),.val (g2 x)])):=tL (fun _=>rfl) hm
theorem akV:reify false n ob (f+3) (.lst k sz (l.map fun x=>PV.agg [.val (g1 x),.val (g2 x),.val (g3 x),.val (g4 x)]))=some (.lst false sz (l.map fun x=>PV.agg [.val (g1 x),.val (g2 x),.val (g3 x),.val (g4 x)])):=pU fun _=>rfl
theorem arS {m T:Nat} (hm:m=l.length):rW fr (f+2) ob sz 0 m (some (T,sz,l.map fun x=>PV.agg [.val (g1 x),.val (g2 x),.val (g3 x),.val (g4 x)]))=some (.lst fr sz (l.map fun x=>PV.agg [.val (g1 x),.val (g2 x),.val (g3 x),.val (g4 x)])):=tL (fun _=>rfl) hm
end
theorem ak2 {α:Type} {l new:List α} (h:l.length≤new.length):fM l 0 new=new:=by simp[fM,h]
abbrev W2:=ByteArray×Int
abbrev I4:=Int×Int×Int×Int
def w0:W2:=(ByteArray.empty,0)
def i40:I4:=(0,0,0,0)
section
variable {β:Type} {i:Nat}
theorem aFz {g:W2→β} {l:List W2} (h:i<l.length):Option.map g l[i]?=some (g ((l[i]?).getD w0)):=by simp[h]
theorem aA7 {g:I4→β} {l:List I4} (h:i<l.length):Option.map g l[i]?=some (g ((l[i]?).getD i40)):=by simp[h]
theorem aEG {l:List W2} {s:ByteArray} {n:Int}:(l.map fun x=>PV.agg [.val (.string x.1),.val (.int .i64 x.2)]).set i (.agg [.val (.string s),.val (.int .i64 n)])=(l.set i (s,n)).map fun x=>PV.agg [.val (.string x.1),.val (.int .i64 x.2)]:=by rw[List.map_set]
end
abbrev dW2:Dec W2:=dA2 dS dI
abbrev dI4:Dec I4:=dA4 dI dI dI dI
attribute[push_cast]
 avW ayu akO aau akV arS aFz aA7 aEG
attribute[push_cast high]
 ak2
def yL (ps:List PV) (cs:List aS):AS:={tm:=fun t=>(ps[t]?).getD (.val undef),ob:=fun o=>cs[o]?,nx:=cs.length}
def dA (out:List Nat) (ob:bG):Nat→PV→Option PV
 |0,_=>none
 |n+1,p=>match p with
  | .val v=>some (.val v)
  | .dead=>some .dead
  | .lst k sz es=>(es.mapM (dA out ob n)).map (.lst k sz)
  | .ptr k e o=>(dA out ob n e).map (.ptr k · o)
  | .own o sz i f=>match inn out o with
    |some o'=>some (.own o' sz i f)
    |none=>match ob o with
     |some (_,sz',es)=>if sz=sz' then(es[i]?).bind fun e=>(dA out ob n e).map (.ptr true · f)else none
     |none=>none
  | .row o sz i m=>match inn out o with
    |some o'=>some (.row o' sz i m)
    |none=>match ob o with
     |some (_,sz',es)=>if sz=sz'∧i+m≤es.length then(((es.drop i).take m).mapM (dA out ob n)).map (.lst true sz)else none
     |none=>none
  | .agg cs=>(cs.mapM (dA out ob n)).map .agg
  | .tup cs=>(cs.mapM (dA out ob n)).map .tup
def oW (out:List Nat) (ob:bG) (f:Nat) (o:Nat):Option aS:=(ob o).bind fun c=>(c.2.2.mapM (dA out ob f)).map fun es=>(c.1,c.2.1,es)
theorem Rep.hand {out:List Nat} {ob:bG} {g g':Gh} {w:World} (hI:∀k b,g.I k b→g'.I k b) (ho:∀o o',inn out o=some o'→g'.β o'=g.β o∧g'.κ o'=g.κ o∧g'.D o')
 (hob:∀o c,ob o=some c→pX g w o c) (hfz:∀o,(ob o).isSome→inn out o=none→g'.I true (g.β o)):
 ∀(f:Nat) (p q:PV) (v:Value),Rep g w p v→dA out ob f p=some q→Rep g' w q v
 |0,p,q,v,h,hr=>by simp[dA]at hr
 |f+1,p,q,v,h,hr=>by
  cases p with
  |val u=>simp only[dA,Option.some.injEq]at hr;subst hr;simpa [Rep]using h
  |dead=>simp only[dA,Option.some.injEq]at hr;subst hr;simp[Rep]
  |lst k sz es=>
   simp only[dA,Option.map_eq_some_iff]at hr;obtain⟨es',h1,rfl⟩:=hr;have hl:=(bg h1).1;simp only[Rep]at h⊢;obtain⟨a,cap,rfl,h2,h3,h4⟩:=h;refine⟨a,cap,by rw[hl],by omega,h3,?_⟩;rcases h4 with rfl|⟨b,off,rfl,h5,h6⟩
   ·left;exact List.eq_nil_of_length_eq_zero (by simpa using hl)
   ·right
    exact⟨b,off,rfl,hI _ _ h5,bB.conv (g:=g) (g':=g') (Rep.hand hI ho hob hfz f) h6 h1⟩
  |ptr k e o=>simp only[dA,Option.map_eq_some_iff]at hr;obtain⟨e',h1,rfl⟩:=hr;simp only[Rep]at h⊢;obtain⟨b,off,rfl,h2,u,h3,h4⟩:=h;exact⟨b,off,rfl,hI _ _ h2,u,Rep.hand hI ho hob hfz f e e' u h3 h1,h4⟩
  |own o sz i c=>
   simp only[dA]at hr;split at hr
   ·rename_i o' hm
    cases hr;simp only[Rep]at h⊢;obtain⟨e1,_,e3⟩:=ho o o' hm;exact⟨by rw[e1];exact h.1,e3⟩
   ·rename_i hm
    split at hr
    ·rename_i T sz' es hoo
     split at hr
     case isFalse=>cases hr
     case isTrue hsz=>subst hsz;simp only[Option.bind_eq_some_iff,Option.map_eq_some_iff]at hr;obtain⟨e,he,e',h1,rfl⟩:=hr;simp only[Rep]at h⊢;obtain⟨rfl,hlt⟩:=h;obtain⟨u,h2,h3,h4⟩:=(hob o _ hoo).2.2.get he;exact⟨g.β o,i*sz,rfl,hfz o (by simp[hoo]) hm,u,Rep.hand hI ho hob hfz f e e' u h2 h1,by simpa using h3⟩
    ·cases hr
  |row o sz i m=>
   simp only[dA]at hr;split at hr
   ·rename_i o' hm
    cases hr;simp only[Rep]at h⊢;obtain⟨c,h1,h2,h3,h4,h5⟩:=h;obtain⟨e1,e2,e3⟩:=ho o o' hm;exact⟨c,by rw[e1];exact h1,h2,h3,by rw[e2];exact h4,e3⟩
   ·rename_i hm
    split at hr
    ·rename_i T sz' es hoo
     split at hr
     case isFalse=>cases hr
     case isTrue hsz=>
      obtain⟨rfl,hle⟩:=hsz;simp only[Option.map_eq_some_iff]at hr;obtain⟨es',h1,rfl⟩:=hr;have hl:=(bg h1).1;have hl2:es'.length=m:=by rw[hl];simp;omega
      simp only[Rep]at h⊢;obtain⟨c,rfl,h2,h3,h4,h5⟩:=h;refine⟨_,c,by rw[hl2],by omega,h3,.inr ⟨g.β o,i*sz,rfl,hfz o (by simp[hoo]) hm,?_⟩⟩;have:=((hob o _ hoo).2.2.drop i).take m;exact bB.conv (g:=g) (g':=g') (Rep.hand hI ho hob hfz f) (by simpa using this) h1
    ·cases hr
  |agg cs=>simp only[dA,Option.map_eq_some_iff]at hr;obtain⟨cs',h1,rfl⟩:=hr;simp only[Rep]at h⊢;obtain⟨vs,rfl,h2⟩:=h;exact⟨vs,rfl,bL.conv (g:=g) (g':=g') (Rep.hand hI ho hob hfz f) h2 h1⟩
  |tup cs=>simp only[dA,Option.map_eq_some_iff]at hr;obtain⟨cs',h1,rfl⟩:=hr;simp only[Rep]at h⊢;obtain⟨vs,rfl,h2⟩:=h;exact⟨vs,rfl,bL.conv (g:=g) (g':=g') (Rep.hand hI ho hob hfz f) h2 h1⟩
section
variable {P:Program} {Γ:Ctx}
theorem qO {f:Nat} {fn:Func} {c:Code} {Φ:jh} (hΓ:au P Γ) (hf:P.funcs[f]?=some fn) (hb:fn.body=some c)
 (hlen:∀ps cs r,Φ ps cs=some r→ps.length≤fn.ntmps)
 (h:∀ps cs r cs',Φ ps cs=some (r,cs')→∃x s' qs out,Ev P Γ fn.ntmps c (yL ps cs) x s'∧(x=.normal∨x=.ret)∧fU P s' fn.results.toList=some qs∧dA out s'.ob fuel (gM qs)=some r∧
   cs.length≤out.length∧(∀o:Nat,o<cs.length→out[o]?=some o)∧out.Nodup∧out.mapM (oW out s'.ob fuel)=some cs'):eT P f Φ:=by
 intro w J β κ ps cs args r cs' hr hJ hO hT hargs;obtain⟨x,s',qs,out,hev,hx,hres,hren,hol,hof,hond,hobs0⟩:=h ps cs r cs' hr;have hsz:args.size=ps.length:=by simpa using hargs.get.1
 have hle:=hlen ps cs _ hr;have hocs:cs'.length=out.length:=(bg hobs0).1;have hobs:∀(i o:Nat),out[i]?=some o→∃T sz es es',s'.ob o=some (T,sz,es)∧es.mapM (dA out s'.ob fuel)=some es'∧cs'[i]?=some (T,sz,es'):=fun i o hi=>by obtain⟨c1,h1,h2⟩:=(bg hobs0).2 i o hi;unfold oW at h2;simp only[Option.bind_eq_some_iff,Option.map_eq_some_iff]at h2;obtain⟨⟨T,sz,es⟩,h3,es',h4,rfl⟩:=h2;exact⟨T,sz,es,es',h3,h4,h1⟩
 have hinit:Rel ⟨fun b=>∃o,o<cs.length∧b=β o,J false,cs.length,β,κ,J true,fun _=>False⟩ w fn.ntmps (dH J β κ cs.length) (yL ps cs) {tmps:=args++Array.replicate (fn.ntmps-args.size) undef,defers:=[]} w:=by
  refine⟨by simp;omega,rfl,fun t=>?_,fun o c ho=>?_,fun o o' ho ho' he=>?_,rfl,fun k b hi=>hJ k b hi,fun b hi=> .inr hi,Fr.refl _ _,fun b hi=>hi,⟨fun o ho=>⟨ho,fun q=>q⟩,fun o ho=>⟨rfl,rfl⟩⟩,fun o ho=>False.elim ho,hT⟩
  ·simp only[yL]
   cases hp:ps[t]? with
   |none=>
    have hge:ps.length≤t:=by simpa using hp
    have:(args++Array.replicate (fn.ntmps-args.size) undef).getD t undef=undef:=by simp only[Array.getD_eq_getD_getElem?];rw[Array.getElem?_append_right (by omega)];simp only[Array.getElem?_replicate];split<;>rfl
    rw[this];simp[Rep]
   |some p=>
    obtain⟨v,hv,hrep⟩:=hargs.get.2 t p hp;have hlt:t<args.size:=by have:=(List.getElem?_eq_some_iff.1 hp).1;omega
    have:(args++Array.replicate (fn.ntmps-args.size) undef).getD t undef=v:=by
     simp only[Array.getD_eq_getD_getElem?];rw[Array.getElem?_append_left hlt];have:args[t]?=some v:=by simpa using hv
     simp[this]
    rw[this];exact hrep
  ·have hlt:o<cs.length:=(List.getElem?_eq_some_iff.1 ho).1
   exact⟨⟨hlt,fun q=>q⟩,.inr ⟨o,hlt,rfl⟩,fun k hi=>(hO.lt o hlt).2 k hi,hO.at_ o c ho⟩
  ·have h1:o<cs.length:=by obtain⟨c,hc⟩:=Option.isSome_iff_exists.1 ho;exact(List.getElem?_eq_some_iff.1 hc).1
   have h2:o'<cs.length:=by obtain⟨c,hc⟩:=Option.isSome_iff_exists.1 ho';exact(List.getElem?_eq_some_iff.1 hc).1
   exact hO.inj o o' h1 h2 he
 refine calls_of_wp hf hb (CWp.wp (hev.cwp hΓ.w (fun b hb=>by obtain⟨o,h1,rfl⟩:=hb;exact(hO.lt o h1).1) _ _ _ _ hinit fun g' a' w' hrel=>?_));have hsome:∀i o,out[i]?=some o→(s'.ob o).isSome:=fun i o ho=>by obtain⟨T,sz,es,es',h1,_⟩:=hobs i o ho;simp[h1]
 have hget:∀i,i<out.length→out[i]?=some (out.getD i 0):=fun i hi=>by simp[hi]
 have hβ0:∀o,o<cs.length→g'.β o=β o∧g'.κ o=κ o:=fun o ho=>hrel.fix.2 o ho;have hinjO:∀i j,i<out.length→j<out.length→g'.β (out.getD i 0)=g'.β (out.getD j 0)→i=j:=fun i j hi hj he=>by have:=hrel.inj _ _ (hsome i _ (hget i hi)) (hsome j _ (hget j hj)) he;have e1:=hget i hi;have e2:=hget j hj;rw[this]at e1;have e1:=e1.trans e2.symm;exact(List.getElem?_inj hi hond).1 e1
 have hgof:∀o,o<cs.length→out.getD o 0=o:=fun o ho=>by have:=hof o ho;simp[List.getD,this]
 have hinn:∀o1 o2,inn out o1=some o2→o2<out.length∧out.getD o2 0=o1:=fun o1 o2 hi=>by
  unfold inn at hi;split at hi
  ·rename_i hm
   cases hi;have hlt:=List.idxOf_lt_length_of_mem hm;exact⟨hlt,by simp[List.getD,hlt]⟩
  ·cases hi
 have hout:∀i,i<out.length→out.getD i 0∈out:=fun i hi=>List.mem_of_getElem? (hget i hi);have hnewO:∀o c,s'.ob o=some c→(∀j,j<cs.length→o≠j)→w.heap.size≤g'.β o:=fun o c ho hne=>by
  rcases(hrel.ob _ _ ho).2.1 with k2|⟨j,k3,k4⟩
  ·exact k2
  ·exfalso
   rw[←(hβ0 j k3).1]at k4;exact hne j k3 (hrel.inj _ _ (by rw[ho];rfl) (hsome j j (hof j k3)) k4)
 have hnew:∀i,cs.length≤i→i<out.length→w.heap.size≤g'.β (out.getD i 0):=fun i h1 h2=>by obtain⟨T,sz,es,es',k1,_⟩:=hobs i _ (hget i h2);refine hnewO _ _ k1 fun j hj he=>?_;have e1:=hget i h2;rw[he,←hof j hj]at e1;have:=(List.getElem?_inj (by omega) hond).1 e1;omega
 have hend:a'.defers=[]∧∃v,(results fn a'.tmps).run P w'=.ok v w'∧(∃v' β' κ' M,Ending.returned v=.returned v'∧Fr (fun b=>∃o,o<cs.length∧b=β o) w w'∧cs.length≤cs'.length∧
  (∀o,o<cs.length→β' o=β o∧κ' o=κ o)∧(∀o,cs.length≤o→o<cs'.length→w.heap.size≤β' o)∧(∀b,M b→w.heap.size≤b∧b<w'.heap.size)∧
  uG (addN J M) w' β' κ' cs'∧Rep (dH (addN J M) β' κ' cs'.length) w' r v'):=by
  obtain⟨v,h1,h2⟩:=gJ hrel hres
  let M:Nat→Prop:=fun b=>w.heap.size≤b∧b<w'.heap.size∧∀i,i<out.length→b≠g'.β (out.getD i 0)
  let G:Gh:=dH (addN J M) (fun i=>g'.β (out.getD i 0)) (fun i=>g'.κ (out.getD i 0)) cs'.length
  have hI:∀k b,g'.I k b→G.I k b:=fun k b hi=>by
   cases k with
   |false=>exact .inl (hrel.old b hi)
   |true=>
    rcases hrel.new b hi with hn|hn
    ·refine .inr ⟨rfl,hn.1,hrel.lt true b hi,fun i hil he=>?_⟩
     obtain⟨T,sz,es,es',k1,_⟩:=hobs i _ (hget i hil);exact(hrel.ob _ _ k1).2.2.1 true (he▸hi)
    ·exact .inl hn
  have hom:∀o o',inn out o=some o'→G.β o'=g'.β o∧G.κ o'=g'.κ o∧G.D o':=fun o o' ho=>by obtain⟨k1,k2⟩:=hinn o o' ho;exact⟨by simp only[G,dH,k2],by simp only[G,dH,k2],⟨by simp only[G,dH];omega,fun q=>q⟩⟩
  have hfz:∀o,(s'.ob o).isSome→inn out o=none→G.I true (g'.β o):=fun o ho hn=>by
   obtain⟨c,hc⟩:=Option.isSome_iff_exists.1 ho;have hno:o∉out:=fun hm=>by simp[inn,hm]at hn
   obtain⟨arr,m1,_⟩:=(hrel.ob _ _ hc).2.2.2.1;refine .inr ⟨rfl,hnewO o c hc fun j hj he=>hno (he▸List.mem_of_getElem? (hof j hj)),lt_of_heap m1,fun i hi he=>hno ?_⟩;rw[hrel.inj o _ (by rw[hc];rfl) (hsome i _ (hget i hi)) he];exact hout i hi
  have hobA:∀o c,s'.ob o=some c→pX g' w' o c:=fun o c ho=>(hrel.ob o c ho).2.2.2;refine⟨hrel.df,v,h1,v,fun i=>g'.β (out.getD i 0),fun i=>g'.κ (out.getD i 0),M,rfl,hrel.fr,by omega,fun o ho=>by dsimp only;rw[hgof o ho];exact hβ0 o ho,fun o h3 h4=>hnew o h3 (by omega),fun b hb=>⟨hb.1,hb.2.1⟩,⟨fun o ho=>?_,fun o o' ho ho' he=>hinjO o o' (by omega) (by omega) he,fun o c hc=>?_⟩,Rep.hand (g:=g') (g':=G) hI hom hobA hfz fuel _ _ _ h2 hren⟩
  ·obtain⟨T,sz,es,es',k1,_⟩:=hobs o _ (hget o (by omega))
   obtain⟨_,_,k3,⟨arr,k4,_⟩,_⟩:=hrel.ob _ _ k1;refine⟨lt_of_heap k4,fun k hj=>?_⟩;rcases hj with hj|⟨_,hj⟩
   ·by_cases hoc:o<cs.length
    ·rw[hgof o hoc,(hβ0 o hoc).1]at hj
     exact(hO.lt o hoc).2 k hj
    ·have:=hnew o (by omega) (by omega)
     have:=hJ _ _ hj;omega
   ·exact hj.2.2 o (by omega) rfl
  ·have ho:o<cs'.length:=(List.getElem?_eq_some_iff.1 hc).1
   obtain⟨T,sz,es,es',k1,k2,k3⟩:=hobs o _ (hget o (by omega));rw[k3]at hc;cases hc;obtain⟨_,_,_,⟨arr,m1,m2⟩,m3,m4⟩:=hrel.ob _ _ k1;have hl:=(bg k2).1;exact⟨⟨arr,m1,m2⟩,by rw[hl];exact m3,bB.conv (g:=g') (g':=G) (Rep.hand (g:=g') (g':=G) hI hom hobA hfz fuel) m4 k2⟩
 rcases hx with rfl|rfl<;>exact hend
end
def kH (P:Program) (rs:List ResultVar) (m:Nat) (r:PV) (cs':List aS):X→AS→Prop:=fun x s'=>(x=.normal∨x=.ret)∧∃news:List Nat,(∀o∈news,m≤o)∧news.Nodup∧
 ((fU P s' rs).bind fun qs=>dA (List.range m++news) s'.ob fuel (gM qs))=some r∧(List.range m++news).mapM (oW (List.range m++news) s'.ob fuel)=some cs'
theorem ajB {P:Program} {Γ:Ctx} (hm:P.follows .mixedOrders=true) {f:Nat} {fn:Func} {c:Code} {Φ:jh} (hΓ:au P Γ) (hf:P.funcs[f]?=some fn) (hb:fn.body=some c) (N:Nat) (hN:fn.ntmps=N) (rs:List ResultVar) (hrs:fn.results.toList=rs) (hc:codeOk Γ true N c=true)
 (h:∀ps cs r cs',Φ ps cs=some (r,cs')→ps.length≤N∧pq P Γ N c (kH P rs cs.length r cs') (yL ps cs).tm (fun o=>cs[o]?) cs.length):eT P f Φ:=by
 subst hN hrs;refine qO hΓ hf hb (fun ps cs r hr=>(h ps cs r.1 r.2 hr).1) fun ps cs r cs' hr=>?_;obtain⟨x,s',h1,h2,news,h3,h4,h5,h6⟩:=adz (mixed:=true) (fun _=>hm) c _ _ hc (h ps cs r cs' hr).2;rw[Option.bind_eq_some_iff]at h5;obtain⟨qs,h8,h9⟩:=h5;refine⟨x,s',qs,List.range cs.length++news,h1,h2,h8,h9,by simp,fun o ho=>?_,?_,h6⟩
 ·rw[List.getElem?_append_left (by simpa using ho),List.getElem?_range ho]
 ·rw[List.nodup_append]
  exact⟨List.nodup_range,h4,fun a ha b hb e=>by have:=h3 b hb;have:=List.mem_range.1 ha;omega⟩
section
variable {P:Program} {Γ:Ctx} {Φ:jh} {ob:bG} {nx:Nat}
def aFX (ob:bG) (nx:Nat) (ps:List PV):Option jh→Option (PV×bG×Nat)
 |some Φ=>akf Φ ob nx ps
 |none=>none
theorem awe {s:AS} {ρ:Operand→PV} {f:Nat} {xs:Array Operand} {ts:Array TypeId}:bf P Γ s ρ (.call {callee:=.value (.func f),args:=xs,argTypes:=ts})=aFX s.ob s.nx (xs.toList.map ρ) (Γ.io f):=by simp only[bf,vN,aFX];cases Γ.io f<;>rfl
theorem akz {ps:List PV}:aFX ob nx ps (some Φ)=akf Φ ob nx ps:=rfl
def uL (os:List Nat) (nx:Nat):Nat→Option Nat:=fun i=>some (p9 os nx i)
def ioR (os:List Nat) (ob:bG) (nx:Nat):Option (PV×List aS)→Option (PV×bG×Nat)
 |some (r,cs')=>match fq (uL os nx) fuel r,cs'.mapM (agq (uL os nx) fuel)with
  |some r',some cs2=>some (r',kM ob (((List.range cs2.length).map (p9 os nx)).zip cs2),nx+(cs'.length-os.length))
  |_,_=>none
 |none=>none
theorem xB (ps:List PV) (os:List Nat) (h:dedup (ps.flatMap refsOf)=os):akf Φ ob nx ps=match os.mapM ob,ps.mapM (fq (inn os) fuel)with
 |some cs,some qs=>match cs.mapM (agq (inn os) fuel)with
  |some cs1=>ioR os ob nx (Φ qs cs1)
  |none=>none
 |_,_=>none:=by
 subst h;unfold akf;dsimp only
 generalize dedup (ps.flatMap refsOf)=os;cases os.mapM ob with
 |none=>rfl
 |some cs=>
  cases ps.mapM (fq (inn os) fuel)with
  |none=>rfl
  |some qs=>
   dsimp only
   cases cs.mapM (agq (inn os) fuel)with
   |none=>rfl
   |some cs1=>
    dsimp only
    unfold ioR;cases Φ qs cs1 with
    |none=>rfl
    |some r=>rfl
def amH (Φ:jh) (ob:bG) (nx o:Nat) (qs:List PV):Option aS→Option (PV×bG×Nat)
 |some c=>(c.2.2.mapM (fq (inn [o]) fuel)).bind fun es=>ioR [o] ob nx (Φ qs [(c.1,c.2.1,es)])
 |none=>none
theorem nS {α β:Type} {F:α→Option β} {x:α}:[x].mapM F=(F x).map fun y=>[y]:=by rw[mapM_cons',mapM_nil'];cases F x<;>rfl
theorem aqg {ps qs:List PV} {o:Nat} (h1:dedup (ps.flatMap refsOf)=[o]) (h2:ps.mapM (fq (inn [o]) fuel)=some qs):akf Φ ob nx ps=amH Φ ob nx o qs (ob o):=by
 rw[xB ps [o] h1,h2,nS];unfold amH;cases hb:ob o with
 |none=>rfl
 |some c=>simp only[Option.map_some,nS,agq];cases c.2.2.mapM (fq (inn [o]) fuel)<;>rfl
theorem aqJ (o:Nat):inn [o] o=some 0:=by simp[inn]
theorem alh (nm:Nat→Option Nat) (p:PV):fq nm fuel p=fq nm 8 p:=rfl
theorem arq (nm:Nat→Option Nat) (f:Nat) (v:Value):fq nm (f+1) (.val v)=some (.val v):=rfl
theorem as3 (nm:Nat→Option Nat) (f o sz i c:Nat):fq nm (f+1) (.own o sz i c)=(nm o).map fun o'=> .own o' sz i c:=rfl
theorem aqN (nm:Nat→Option Nat) (f o sz i m:Nat):fq nm (f+1) (.row o sz i m)=(nm o).map fun o'=> .row o' sz i m:=rfl
theorem abe {nm:Nat→Option Nat}:∀{f:Nat} {p:PV},fB f p=true→fq nm f p=some p
 |0,_,h=>by simp[fB]at h
 |f+1,p,h=>by
  cases p with
  |val v=>rfl
  |dead=>rfl
  |agg cs=>
   have h2:∀c∈cs,fB f c=true:=by simpa [fB]using h
   simp only[fq];rw[dP fun c hc=>abe (h2 c hc)];rfl
  |_=>simp[fB]at h
theorem kT:∀{f g:Nat} {p:PV},f≤g→fB f p=true→fB g p=true
 |0,_,p,_,h=>by simp[fB]at h
 |f+1,0,p,hg,h=>by omega
 |f+1,g+1,p,hg,h=>by
  cases p with
  |val v=>rfl
  |dead=>rfl
  |agg cs=>
   have h2:∀c∈cs,fB f c=true:=by simpa [fB]using h
   simp only[fB,List.all_eq_true];exact fun c hc=>kT (by omega) (h2 c hc)
  |_=>simp[fB]at h
theorem akQ {α:Type} {nm:Nat→Option Nat} {f sz:Nat} {k:Bool} {g:α→PV} {l:List α} (h:∀x,fB 2 (g x)=true):fq nm (f+3) (.lst k sz (l.map g))=some (.lst k sz (l.map g)):=by show((l.map g).mapM (fq nm (f+2))).map (PV.lst k sz)=_;rw[dP fun e he=>by obtain⟨x,_,rfl⟩:=List.mem_map.1 he;exact abe (kT (by omega) (h x))];rfl
theorem adN {α:Type} {nm:Nat→Option Nat} {f:Nat} {g:α→PV} {l:List α} (h:∀x,fB 2 (g x)=true):(l.map g).mapM (fq nm (f+2))=some (l.map g):=
 dP fun e he=>by obtain⟨x,_,rfl⟩:=List.mem_map.1 he;exact abe (kT (by omega) (h x))
section
variable {α:Type} {nm:Nat→Option Nat} {f sz:Nat} {k:Bool} {l:List α} {g g1 g2 g3 g4:α→Value}
theorem akr:fq nm (f+3) (.lst k sz (l.map fun x=>PV.val (g x)))=some (.lst k sz (l.map fun x=>PV.val (g x))):=akQ fun _=>rfl
theorem akR:(l.map fun x=>PV.val (g x)).mapM (fq nm 8)=some (l.map fun x=>PV.val (g x)):=adN fun _=>rfl
theorem avl:(l.map fun x=>PV.agg [.val (g1 x),.val (g2 x)]).mapM (fq nm 8)=some (l.map fun x=>PV.agg [.val (g1 x),.val (g2 x)]):=adN fun _=>rfl
end
theorem ajC {o T sz:Nat} {es qs:List PV}:amH Φ ob nx o qs (some (T,sz,es))=(es.mapM (fq (inn [o]) fuel)).bind fun es=>ioR [o] ob nx (Φ qs [(T,sz,es)]):=rfl
theorem avH {o T sz:Nat} {es:List PV} {r:PV}:ioR [o] ob nx (some (r,[(T,sz,es)]))=(fq (uL [o] nx) fuel r).bind fun r'=>(es.mapM (fq (uL [o] nx) fuel)).map fun es'=>(r',upd ob o (some (T,sz,es')),nx):=by
 unfold ioR;simp only[nS,agq];cases fq (uL [o] nx) fuel r with
 |none=>rfl
 |some r'=>
  cases es.mapM (fq (uL [o] nx) fuel)with
  |none=>rfl
  |some es'=>rfl
theorem aw6 {T sz:Nat} {es:List PV} {r:PV}:ioR [] ob nx (some (r,[(T,sz,es)]))=(fq (uL [] nx) fuel r).bind fun r'=>(es.mapM (fq (uL [] nx) fuel)).map fun es'=>(r',upd ob nx (some (T,sz,es')),nx+1):=by
 unfold ioR;simp only[nS,agq];cases fq (uL [] nx) fuel r with
 |none=>rfl
 |some r'=>
  cases es.mapM (fq (uL [] nx) fuel)with
  |none=>rfl
  |some es'=>rfl
theorem ao4 {r:PV}:ioR [] ob nx (some (r,[]))=(fq (uL [] nx) fuel r).map fun r'=>(r',ob,nx):=by
 unfold ioR;simp only[mapM_nil'];cases fq (uL [] nx) fuel r with
 |none=>rfl
 |some r'=>rfl
theorem aCa {o nx:Nat}:uL [o] nx 0=some o:=rfl
theorem aBp {nx:Nat}:uL [] nx 0=some nx:=by simp[uL,p9]
end
section
variable {out:List Nat} {ob:bG} {f:Nat}
theorem ajz (p:PV):dA out ob fuel p=dA out ob 8 p:=rfl
theorem an5 (v:Value):dA out ob (f+1) (.val v)=some (.val v):=rfl
theorem akW (cs:List PV):dA out ob (f+1) (.tup cs)=(cs.mapM (dA out ob f)).map .tup:=by simp only[dA]
def aEI (out:List Nat) (ob:bG) (f sz i m:Nat):Option Nat→Option aS→Option PV
 |some o',_=>some (.row o' sz i m)
 |none,some (_,sz',es)=>if sz=sz'∧i+m≤es.length then(((es.drop i).take m).mapM (dA out ob f)).map (.lst true sz)else none
 |none,none=>none
theorem amd (o sz i m:Nat):dA out ob (f+1) (.row o sz i m)=aEI out ob f sz i m (inn out o) (ob o):=by
 simp only[dA];unfold aEI;cases inn out o with
 |some o'=>rfl
 |none=>cases ob o<;>rfl
theorem anU {sz i m o':Nat} {x:Option aS}:aEI out ob f sz i m (some o') x=some (.row o' sz i m):=rfl
theorem adJ:∀{f:Nat} {p:PV},fB f p=true→dA out ob f p=some p
 |0,_,h=>by simp[fB]at h
 |f+1,p,h=>by
  cases p with
  |val v=>rfl
  |dead=>rfl
  |agg cs=>
   have h2:∀c∈cs,fB f c=true:=by simpa [fB]using h
   simp only[dA];rw[dP fun c hc=>adJ (h2 c hc)];rfl
  |_=>simp[fB]at h
theorem ajH {α:Type} {g:α→PV} {l:List α} (h:∀x,fB 2 (g x)=true):(l.map g).mapM (dA out ob (f+2))=some (l.map g):=
 dP fun e he=>by obtain⟨x,_,rfl⟩:=List.mem_map.1 he;exact adJ (kT (by omega) (h x))
section
variable {α:Type} {sz m T:Nat} {k:Bool} {l:List α} {g g1 g2 g3 g4:α→Value}
theorem ajr:(l.map fun x=>PV.val (g x)).mapM (dA out ob 8)=some (l.map fun x=>PV.val (g x)):=ajH fun _=>rfl
end
def avL (out:List Nat) (ob:bG):Option aS→Option aS
 |some (T,sz,es)=>(es.mapM (dA out ob fuel)).map fun es=>(T,sz,es)
 |none=>none
theorem ar8 (o:Nat):oW out ob fuel o=avL out ob (ob o):=by
 unfold oW avL;cases ob o with
 |none=>rfl
 |some c=>rfl
theorem ajO {T sz:Nat} {es:List PV}:avL out ob (some (T,sz,es))=(es.mapM (dA out ob fuel)).map fun es=>(T,sz,es):=rfl
end
section
variable {P:Program} {Γ:Ctx} {tm:Nat→PV} {ob:bG} {nx:Nat} {rs:List ResultVar} {r:PV} {c' d':aS} {x:X}
theorem aCX (hx:x=.normal∨x=.ret) (h1:((fU P ⟨tm,ob,nx⟩ rs).bind fun qs=>dA [0] ob fuel (gM qs))=some r) (h2:oW [0] ob fuel 0=some c'):kH P rs 1 r [c'] x ⟨tm,ob,nx⟩:=
 ⟨hx,[],by simp,by simp,h1,by show [0].mapM (oW [0] ob fuel)=some [c'];rw[nS,h2];rfl⟩
theorem pE (o:Nat) (hx:x=.normal∨x=.ret) (h1:((fU P ⟨tm,ob,nx⟩ rs).bind fun qs=>dA [o] ob fuel (gM qs))=some r) (h2:oW [o] ob fuel o=some c'):kH P rs 0 r [c'] x ⟨tm,ob,nx⟩:=
 ⟨hx,[o],by simp,by simp,h1,by show [o].mapM (oW [o] ob fuel)=some [c'];rw[nS,h2];rfl⟩
theorem iF (hx:x=.normal∨x=.ret) (h1:((fU P ⟨tm,ob,nx⟩ rs).bind fun qs=>dA [] ob fuel (gM qs))=some r):kH P rs 0 r [] x ⟨tm,ob,nx⟩:=
 ⟨hx,[],by simp,by simp,h1,rfl⟩
theorem aoq (c:aS):(fun o=>[c][o]?)=lo [(0,c)]:=by
 funext o;cases o with
 |zero=>rfl
 |succ o=>simp[lo,List.lookup]
theorem atH:(fun o=>([]:List aS)[o]?)=lY:=by funext o;simp[lY]
theorem amE (hm:P.follows .mixedOrders=true) {f:Nat} {fn:Func} {c:Code} {Φ:jh} (hΓ:au P Γ) (hf:P.funcs[f]?=some fn) (hb:fn.body=some c) (N:Nat) (hN:fn.ntmps=N) (rs:List ResultVar) (hrs:fn.results.toList=rs) (hc:codeOk Γ true N c=true)
 (h:∀ps cs r cs',Φ ps cs=some (r,cs')→cs=[]∧ps.length≤N∧pq P Γ N c (kH P rs 0 r cs') (bX ps).tm lY 0):eT P f Φ:=by
 refine ajB hm hΓ hf hb N hN rs hrs hc fun ps cs r cs' hr=>?_;obtain⟨rfl,h1,h2⟩:=h ps cs r cs' hr;refine⟨h1,?_⟩;rw[atH];exact h2
end
def aBh (b:Bool) (c:Option aS):Option aS:=if b=true then c else none
theorem as9 (V:List Nat) (ob:bG) (o:Nat):yY V ob o=aBh (V.contains o) (ob o):=rfl
theorem ajF (c:Option aS):aBh true c=c:=rfl
attribute[push_cast]
 awe akz ajC avH aw6 ao4 aCa aBp aqJ alh arq as3 aqN akr akR avl ajz an5 akW amd anU ajr ar8 ajO as9 ajF List.contains_cons List.contains_nil
theorem aDq (o:Nat):lo [] o=none:=rfl
theorem auP (k:Nat) (v:aS) (l:List (Nat×aS)) (o:Nat):lo ((k,v)::l) o=if o=k then some v else lo l o:=by
 simp only[lo,List.lookup_cons];by_cases h:o=k
 ·simp[h]
 ·have:(o==k)=false:=by simpa using h
  simp[this,h]
attribute[push_cast high]
 aDq auP
def plF (l:List (Nat×Nat)):Nat→Option (Nat×Nat):=fun i=>l[i]?
theorem aDH {P:Program} {t:Nat} {z:List PV} {zv:Value} {pl:Array (Nat×Nat)} (hz:zeroOf P t=some zv) (hzv:zv.cells.toList.map PV.val=z) (hs:bZ P t=none) (hp:yF P t=some pl) (ps:List (Nat×PV)):dZ P t ps=(kG (plF pl.toList) z ps).map .agg:=by
 unfold dZ;rw[hz,hs];dsimp only
 rw[hp,hzv];dsimp only
 congr 2;funext i;unfold plF;simp
theorem anY {P:Program} {t n e s o sz j f:Nat} {i:Int} (hu:P.underlying t=some (.array n e)) (hs:aY P e=some s) (h0:0≤i) (h1:i<(n:Int)):aI P t (.own o sz j f) i=some (.own o sz j (f+i.toNat*s)):=by
 unfold aI;rw[hu];dsimp only
 rw[hs];dsimp only
 rw[if_pos ⟨h0,h1⟩]
theorem afk {P:Program} {t:Nat} {z:List PV} {zv:Value} {pl:Array (Nat×Nat)} (hz:zeroOf P t=some zv) (hzv:zv.cells.toList.map PV.val=z) (hp:bZ P t=some pl) (ps:List (Nat×PV)):dZ P t ps=(kG (plF pl.toList) z ps).map .agg:=by
 unfold dZ;rw[hz,hp];dsimp only
 rw[hzv];congr 2;funext i;simp[plF]
def fpG (l:List (Nat×Nat)) (cells:List PV) (rest:List (Nat×PV)):Option (Nat×Nat)→Option (List PV)→Option (List PV)
 |some (off,size),some cs=>if cs.length=size∧off+cs.length≤cells.length then kG (plF l) (fM cells off cs) rest else none
 |_,_=>none
theorem aDi (l:List (Nat×Nat)) (cells:List PV):kG (plF l) cells []=some cells:=rfl
theorem axy (l:List (Nat×Nat)) (cells:List PV) (i:Nat) (v:PV) (rest:List (Nat×PV)):kG (plF l) cells ((i,v)::rest)=fpG l cells rest l[i]? (bJ v):=rfl
theorem aDN {l:List (Nat×Nat)} {cells cs:List PV} {rest:List (Nat×PV)} {off size:Nat} (h1:cs.length=size) (h2:off+cs.length≤cells.length):fpG l cells rest (some (off,size)) (some cs)=kG (plF l) (fM cells off cs) rest:=by simp[fpG,h1];omega
theorem ael {ρ:Operand→PV}:partsOf ρ (List.toArray [])=[]:=rfl
theorem adx {ρ:Operand→PV} {i:Nat} {x:Operand} {l:List (Nat×Operand)}:partsOf ρ (List.toArray ((i,x)::l))=(i,ρ x)::partsOf ρ l.toArray:=rfl
def okC (sz:Nat):Option (List PV)→Bool
 |some cs=>cs.length==sz
 |none=>false
def ab3 (e sz:Nat) (es:List PV):Bool→Option (Nat×Nat×List PV)
 |true=>some (e,sz,es)
 |false=>none
theorem aks (e sz:Nat) (es:List PV):ab3 e sz es true=some (e,sz,es):=rfl
theorem oK {P:Program} {t n e sz:Nat} {z:Value} (he:cZ P t=some e) (hs:aY P e=some sz) (hz:zeroOf P e=some z) (ps:List (Nat×PV)) (h1:n*sz≤16777216) (h2:n≤9223372036854775807) (hm:ps.map (·.1)=List.range n):
 iL P t n ps=ab3 e sz (ps.map (·.2)) ((ps.map (·.2)).all (okP sz)):=by
 unfold iL;rw[he];dsimp only
 rw[hs,hz];dsimp only
 cases((ps.map (·.2)).all (okP sz))<;>simp[ab3,h1,h2,hm]
theorem aBa (sz:Nat) (p:PV):okP sz p=okC sz (bJ p):=by unfold okP okC;cases bJ p<;>rfl
theorem asA (sz:Nat) (cs:List PV):okC sz (some cs)=(cs.length==sz):=rfl
theorem am9 (e sz:Nat) (es:List PV):aGr (some (e,sz,es))=some (.lst true sz es):=rfl
theorem take_map' {α β:Type} {f:α→β} {l:List α} {n:Nat}:(l.map f).take n=(l.take n).map f:=List.map_take.symm
theorem drop_map' {α β:Type} {f:α→β} {l:List α} {n:Nat}:(l.map f).drop n=(l.drop n).map f:=List.map_drop.symm
attribute[push_cast]
 take_map' drop_map' Int.add_sub_cancel List.length_append List.length_take List.length_drop List.length_reverse Nat.sub_zero aDi axy aDN ael adx aks aBa asA am9
section
variable {P:Program} {Γ:Ctx}
theorem ada (hm:P.follows .mixedOrders=true) {f:Nat} {fn:Func} {c:Code} (hΓ:au P Γ) (hf:P.funcs[f]?=some fn) (hb:fn.body=some c) (N:Nat) (hN:fn.ntmps=N) (rs:List ResultVar) (hrs:fn.results.toList=rs) (hc:codeOk Γ true N c=true)
 (D:List PV→Prop) (R:List PV→PV→Prop) (hlen:∀ps,D ps→ps.length≤N)
 (h:∀ps,D ps→pq P Γ N c (fun x s'=>∃r,R ps r∧Post P rs r x s') (bX ps).tm (fun _=>none) 0):∃φ:Fun,Sound P f φ∧∀ps,D ps→∃r,φ ps=some r∧R ps r:=by
 classical
 subst hN hrs
 let Z:List PV→PV→Prop:=fun ps r=>D ps∧R ps r∧∃x s',Ev P Γ fn.ntmps c (bX ps) x s'∧Post P fn.results.toList r x s'
 let φ:Fun:=fun ps=>if h:∃r,Z ps r then some (Classical.choose h)else none
 have hφ:∀ps r,φ ps=some r→Z ps r:=fun ps r hr=>by
  simp only[φ]at hr;split at hr
  ·rename_i hz
   cases hr;exact Classical.choose_spec hz
  ·cases hr
 refine⟨φ,wZ hΓ hf hb (fun ps r hr=>hlen ps (hφ ps r hr).1) fun ps r hr=>?_,fun ps hd=>?_⟩
 ·obtain⟨_,_,x,s',h1,h2,h3⟩:=hφ ps r hr
  rw[Option.bind_eq_some_iff]at h3;obtain⟨qs,h4,h5⟩:=h3;exact⟨x,s',qs,h1,h2,h4,h5⟩
 ·obtain⟨x,s',h1,r,h2,h3⟩:=adz (mixed:=true) (fun _=>hm) c _ _ hc (h ps hd)
  have hz:∃r,Z ps r:=⟨r,hd,h2,x,s',h1,h3⟩;have he:φ ps=some (Classical.choose hz):=by simp only[φ];rw[dif_pos hz]
  exact⟨_,he,(hφ ps _ he).2.1⟩
end
section
variable {v:Int}
theorem aE4 (x:Nat):(x=x+1)=False:=by simp
theorem aEA (x:Nat):(x+1=x)=False:=by simp
theorem aGl (x:Nat):(x=x+1+1)=False:=by simp;omega
theorem aFO (x:Nat):(x+1+1=x)=False:=by simp;omega
theorem z_s (x:Nat):(0=x+1)=False:=by simp
theorem aFq (x:Nat):(x=x+1+1+1)=False:=by simp;omega
theorem aGg (x:Nat):(x+1+1+1=x)=False:=by simp;omega
end
theorem aAk {l:List Int} {y:Int}:(l.map fun n=>PV.val (.int .i64 n))++[.val (.int .i64 y)]=(l++[y]).map fun n=>PV.val (.int .i64 n):=by simp
theorem aCZ {l:List ByteArray} {y:ByteArray}:(l.map fun n=>PV.val (.string n))++[.val (.string y)]=(l++[y]).map fun n=>PV.val (.string n):=by simp
theorem aET {l:List W2} {a:ByteArray} {b:Int}:(l.map fun x=>PV.agg [.val (.string x.1),.val (.int .i64 x.2)])++[.agg [.val (.string a),.val (.int .i64 b)]]=(l++[(a,b)]).map fun x=>PV.agg [.val (.string x.1),.val (.int .i64 x.2)]:=by simp
theorem aCd {l:List I4} {a b c d:Int}:(l.map fun x=>PV.agg [.val (.int .i64 x.1),.val (.int .i64 x.2.1),.val (.int .i64 x.2.2.1),.val (.int .i64 x.2.2.2)])++[.agg [.val (.int .i64 a),.val (.int .i64 b),.val (.int .i64 c),.val (.int .i64 d)]]=(l++[(a,b,c,d)]).map fun x=>PV.agg [.val (.int .i64 x.1),.val (.int .i64 x.2.1),.val (.int .i64 x.2.2.1),.val (.int .i64 x.2.2.2)]:=by simp
theorem nat_ne {a b:Nat} (h:¬a=b):(a=b)=False:=by simp[h]
attribute[push_cast low]
 nat_ne
attribute[push_cast]
 aAk aCZ aET aCd
attribute[push_cast]
 aE4 aEA aGl aFO z_s aFq aGg Nat.le_refl Nat.add_right_cancel_iff
abbrev okI (n:Int):Prop:=-9223372036854775808≤n∧n≤9223372036854775807
abbrev okS (s:ByteArray):Prop:=s.size≤9223372036854775807
abbrev okL {α:Type} (ok:α→Prop) (l:List α):Prop:=l.length≤9223372036854775807∧∀a∈l,ok a
instance {α:Type} (ok:α→Prop) (l:List α):Decidable (okL ok l):=Classical.propDecidable _
theorem aog (cs:List PV):toVal (.agg cs)=(iB cs).map fun vs=> .agg vs.toArray:=rfl
theorem afB (p q r:PV):gM [p,q,r]=.tup [p,q,r]:=rfl
theorem ajp (p q r s:PV):gM [p,q,r,s]=.tup [p,q,r,s]:=rfl
theorem aj6 (p q r s t:PV):gM [p,q,r,s,t]=.tup [p,q,r,s,t]:=rfl
theorem alO {fr:Bool} {f sz m T:Nat} {ob:bG} {es:List PV} (hm:m=es.length):rW fr f ob sz 0 m (some (T,sz,es))=(es.mapM (reify fr 0 ob f)).map (.lst fr sz):=by subst hm;simp[rW]
attribute[push_cast low]
 alO
attribute[push_cast]
 afB ajp aj6 aog beq_self_eq_true
end
end Go.Proofs.YtmmafcjjlbgnkaaGreatDoor
