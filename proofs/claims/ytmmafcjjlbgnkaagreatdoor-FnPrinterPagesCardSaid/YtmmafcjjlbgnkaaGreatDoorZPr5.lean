/- What the proof rests on, part 5: contracts of functions. No condition beyond what each states. -/
import Derived.Test.YtmmafcjjlbgnkaaGreatDoorZPr4
namespace Go.Proofs.YtmmafcjjlbgnkaaGreatDoor
open Go.RowKit
set_option linter.all false
set_option maxHeartbeats 32000000
noncomputable section
def aoP (e sz by_:Nat) (z:Value) (s:AS):PV→PV→Option (PV×bD×Nat)
 | .val (.int _ l),.val (.int _ c)=>if 0≤l∧l≤c∧(by_:Int)*c≤281474976710656∧c≤9223372036854775807 then some (.row s.nx sz 0 l.toNat,upd s.ob s.nx (some (e,sz,List.replicate l.toNat (bB z))),s.nx+1)else none
 |_,_=>none
theorem arM {e sz by_:Nat} {z:Value} {s:AS} {kl kc:IntKind} {l c:Int} (h0:0≤l) (h1:l≤c) (h2:(by_:Int)*c≤281474976710656) (h3:c≤9223372036854775807):
 aoP e sz by_ z s (.val (.int kl l)) (.val (.int kc c))=some (.row s.nx sz 0 l.toNat,upd s.ob s.nx (some (e,sz,List.replicate l.toNat (bB z))),s.nx+1):=by
 simp[aoP,h0,h1,h2,h3]
theorem arY {P:Program} {Γ:Ctx} {t e sz by_:Nat} {z:Value} (he:dN P t=some e) (hz:zeroOf P e=some z) (hs:bn P e=some sz) (hb:fq P e=some by_) (h1:z.cells.all (·.oneCell')=true) (h2:z.cells.size=sz) (s:AS) (ρ:Operand→PV) (l c:Operand):
 bA P Γ s ρ (.makeSlice t l c)=aoP e sz by_ z s (ρ l) (ρ c):=by
 simp only[bA,he,hz,hs,hb];unfold aoP;split
 ·rename_i z' sz' by' kl l' kc c' e1 e2 e3 e4 e5
  cases e1;cases e2;cases e3;rw[e4,e5];have key:∀C:Prop,(z.cells.all (·.oneCell')=true∧z.cells.size=sz∧C)=C:=fun C=>propext ⟨fun h=>h.2.2,fun h=>⟨h1,h2,h⟩⟩;simp only[key]
 ·rename_i hno
  split
  ·rename_i a b kl l' kc c' e4 e5
   exact(hno z sz by_ kl l' kc c' rfl rfl rfl e4 e5).elim
  ·rfl
theorem afb {P:Program} {Γ:Ctx} {t sz:Nat} {z:Value} {p:PV} (hz:zeroOf P t=some z) (h1:z.cells.all (·.oneCell')=true) (h2:z.cells.size=sz) (h3:bB z=p) (s:AS) (ρ:Operand→PV):
 bA P Γ s ρ (.alloc t)=some (.own s.nx sz 0 0,upd s.ob s.nx (some (t,sz,[p])),s.nx+1):=by
 simp only[bA,hz];rw[if_pos h1,h2,h3]
def aaP (ob:bD):PV→Option (Nat×Nat×List PV)
 | .row o _ _ _=>ob o
 | .own o _ _ _=>ob o
 |_=>none
def acM (e sz by_ nx:Nat) (ob:bD) (x:PV) (c:Option (Nat×Nat×List PV)) (es2:Option (List PV)):Option (PV×bD×Nat):=
 match es2 with
 |some es2=>match x with
  | .row o sz' i n=>match c with
    |some (T,sz'',es)=>if i=0∧T=e∧sz'=sz∧sz''=sz∧es.length=n∧n+es2.length≤9223372036854775807∧(n+es2.length)*by_≤140737488355328 then
      some (.row nx sz 0 (n+es2.length),upd (upd ob o none) nx (some (e,sz,es++es2)),nx+1)else none
    |none=>none
  |p=>if isNil p=true∧es2.length≤9223372036854775807∧es2.length*by_≤140737488355328 then
    (if es2.length=0 then some (p,ob,nx)else some (.row nx sz 0 es2.length,upd ob nx (some (e,sz,es2)),nx+1))else none
 |none=>none
theorem vW {P:Program} {Γ:Ctx} {t e sz by_:Nat} {z:Value} (he:dN P t=some e) (hz:zeroOf P e=some z) (hs:bn P e=some sz) (hb:fq P e=some by_) (h1:0<sz) (h2:z.cells.size=sz) (s:AS) (ρ:Operand→PV) (x y:Operand):
 bA P Γ s ρ (.call {callee:=.builtin .append,args:=#[x,y],argTypes:=#[t,t]})=acM e sz by_ s.nx s.ob (ρ x) (aaP s.ob (ρ x)) (bG s.ob sz (ρ y)):=by
 simp only[bA,he,hz,hs,hb];unfold acM;cases bG s.ob sz (ρ y)with
 |none=>rfl
 |some es2=>simp only[h1,h2,and_self,if_true];cases ρ x<;>rfl
theorem ajJ {e sz by_ nx o n:Nat} {ob:bD} {es es2:List PV} (h1:es.length=n) (h2:n+es2.length≤9223372036854775807) (h3:(n+es2.length)*by_≤140737488355328):
 acM e sz by_ nx ob (.row o sz 0 n) (some (e,sz,es)) (some es2)=some (.row nx sz 0 (n+es2.length),upd (upd ob o none) nx (some (e,sz,es++es2)),nx+1):=by
 simp[acM,h1,h2,h3]
theorem amz {e sz by_ nx:Nat} {ob:bD} {c:Option (Nat×Nat×List PV)} {es2:List PV} (h1:0<es2.length) (h2:es2.length≤9223372036854775807) (h3:es2.length*by_≤140737488355328):
 acM e sz by_ nx ob (.val (.slice none 0 0)) c (some es2)=some (.row nx sz 0 es2.length,upd ob nx (some (e,sz,es2)),nx+1):=by
 have:¬es2.length=0:=by omega
 have hn:¬es2=[]:=fun h=>this (by rw[h];rfl);simp[acM,isNil,h2,h3,hn]
theorem ai1 {ob:bD} {k:Bool} {sz s:Nat} {es:List PV}:zZ ob sz (.lst k s es)=bG ob sz (.lst k s es):=rfl
theorem ahI {ob:bD} {o sz i n s:Nat}:zZ ob sz (.row o s i n)=bG ob sz (.row o s i n):=rfl
def awU (P:Program) (t:Nat) (ob:bD) (nx:Nat) (x y:PV) (c:Option (Nat×Nat×List PV)):Option (PV×bD×Nat):=
 match x,c with
 | .own o sz i f,some (T,sz',es)=>match es[i]?,bS y with
   |some e,some cs=>if sz=sz'∧bn P t=some cs.length then(aos sz e f y cs).map fun e'=>(.val undef,upd ob o (some (T,sz,es.set i e')),nx)else none
   |_,_=>none
 |_,_=>none
theorem avi {P:Program} {Γ:Ctx} (s:AS) (ρ:Operand→PV) (t:Nat) (x y:Operand):bA P Γ s ρ (.store t x y)=awU P t s.ob s.nx (ρ x) (ρ y) (aaP s.ob (ρ x)):=by
 simp only[bA];unfold awU;cases hx:ρ x with
 |own o sz i f=>
  simp only[aaP];cases s.ob o with
  |none=>rfl
  |some c=>rfl
 |_=>rfl
def agY:PV→Bool
 | .agg _=>true
 |_=>false
theorem aqx (v:Value):agY (.val v)=false:=rfl
theorem anZ (k:Bool) (sz:Nat) (es:List PV):agY (.lst k sz es)=false:=rfl
theorem anL (o sz i n:Nat):agY (.row o sz i n)=false:=rfl
theorem aqk (o sz i f:Nat):agY (.own o sz i f)=false:=rfl
theorem aoB (cs:List PV):agY (.agg cs)=true:=rfl
def stE (sz f:Nat) (ag:Bool) (cs:List PV):PV→Option PV
 | .agg ecs=>if f+cs.length≤ecs.length then some (PV.agg (gF ecs f cs))else none
 |_=>if sz=1∧f=0∧ag=false then cs.head? else none
def stP (k:Option Nat) (ob:bD) (nx o T sz i f:Nat) (ag:Bool) (cs:Option (List PV)) (es:List PV) (e:Option PV):Option (PV×bD×Nat):=
 match k,cs,e with
 |some k,some cs,some e=>if k=cs.length then
   (stE sz f ag cs e).map fun e'=>(.val undef,upd ob o (some (T,sz,es.set i e')),nx)
   else none
 |_,_,_=>none
theorem aj9 {P:Program} {t o sz i f T nx:Nat} {ob:bD} {es:List PV} {y:PV}:
 awU P t ob nx (.own o sz i f) y (some (T,sz,es))=stP (bn P t) ob nx o T sz i f (agY y) (bS y) es (es[i]?):=by
 simp only[awU,stP];cases he:es[i]? with
 |none=>cases bn P t<;>cases bS y<;>rfl
 |some e=>
  cases hc:bS y with
  |none=>cases bn P t<;>rfl
  |some cs=>
   cases ht:bn P t with
   |none=>simp
   |some k=>
    by_cases hk:k=cs.length
    ·have e2:aos sz e f y cs=stE sz f (agY y) cs e:=by
      have hone:oI y=true→cs.head?=some y∧agY y=false:=by intro h;cases y<;>simp_all [bS,oI,agY]<;>(subst hc;rfl)
      have hno:oI y=false→agY y=true:=by intro h;cases y<;>simp_all [bS,oI,agY]
      clear he;cases e<;>simp only[aos,stE];all_goals
       cases ho:oI y with
       |true=>simp[hone ho]
       |false=>simp[hno ho]
     simp[hk,e2]
    ·simp[hk]
theorem aow {k nx o T sz i f:Nat} {ob:bD} {ag:Bool} {cs ecs es:List PV} (hk:k=cs.length) (hf:f+cs.length≤ecs.length):
 stP (some k) ob nx o T sz i f ag (some cs) es (some (.agg ecs))=some (.val undef,upd ob o (some (T,sz,es.set i (.agg (gF ecs f cs)))),nx):=by
 simp[stP,stE,hk,hf]
theorem aqR {nx o T i:Nat} {ob:bD} {es:List PV} {v:Value} {c:PV}:
 stP (some 1) ob nx o T 1 i 0 false (some [c]) es (some (.val v))=some (.val undef,upd ob o (some (T,1,es.set i c)),nx):=rfl
theorem ao2 {nx o T i k sz:Nat} {b:Bool} {ob:bD} {es l:List PV} {c:PV}:
 stP (some 1) ob nx o T 1 i 0 false (some [c]) es (some (.lst b sz l))=some (.val undef,upd ob o (some (T,1,es.set i c)),nx):=rfl
theorem aoH {nx o T i a b' c' d:Nat} {ob:bD} {es:List PV} {c:PV}:
 stP (some 1) ob nx o T 1 i 0 false (some [c]) es (some (.row a b' c' d))=some (.val undef,upd ob o (some (T,1,es.set i c)),nx):=rfl
theorem aop {nx o T i a b' c' d:Nat} {ob:bD} {es:List PV} {c:PV}:
 stP (some 1) ob nx o T 1 i 0 false (some [c]) es (some (.own a b' c' d))=some (.val undef,upd ob o (some (T,1,es.set i c)),nx):=rfl
theorem apM {α β:Type} {f:α→β} {xs:List α} {i:Nat} {y:α}:(xs.map f).set i (f y)=(xs.set i y).map f:=by rw[List.map_set]
theorem ahQ {α:Type} (l new:List α):gF l 0 new=new++l.drop new.length:=by simp[gF]
theorem jP {α:Type} (x:α) (l:List α) (n:Nat) (new:List α):gF (x::l) (n+1) new=x::gF l n new:=by simp[gF,Nat.add_right_comm n 1]
theorem au4 {α:Type} (x:α) (l:List α) (new:List α):gF (x::l) 1 new=x::gF l 0 new:=jP x l 0 new
theorem aui {α:Type} (x:α) (l:List α) (new:List α):gF (x::l) 2 new=x::gF l 1 new:=jP x l 1 new
theorem auX {α:Type} (x:α) (l:List α) (new:List α):gF (x::l) 3 new=x::gF l 2 new:=jP x l 2 new
theorem auA {α:Type} (x:α) (l:List α) (new:List α):gF (x::l) 4 new=x::gF l 3 new:=jP x l 3 new
theorem aue {α:Type} (x:α) (l:List α) (new:List α):gF (x::l) 5 new=x::gF l 4 new:=jP x l 4 new
theorem aub {α:Type} (x:α) (l:List α) (new:List α):gF (x::l) 6 new=x::gF l 5 new:=jP x l 5 new
structure Dec (α:Type) where
 d:PV→Option α
 e:α→PV
 h:∀p a,d p=some a→p=e a
 h':∀a,d (e a)=some a
def F0 (F:Option PV):Fun:=fun ps=>match ps with|[]=>F|_=>none
def F1 {α:Type} (A:Dec α) (F:α→Option PV):Fun:=fun ps=>match ps with|[p]=>(A.d p).bind F|_=>none
def F2 {α β:Type} (A:Dec α) (B:Dec β) (F:α→β→Option PV):Fun:=fun ps=>match ps with|[p,q]=>(A.d p).bind fun a=>(B.d q).bind fun b=>F a b|_=>none
def F3 {α β γ:Type} (A:Dec α) (B:Dec β) (C:Dec γ) (F:α→β→γ→Option PV):Fun:=fun ps=>match ps with|[p,q,r]=>(A.d p).bind fun a=>(B.d q).bind fun b=>(C.d r).bind fun c=>F a b c|_=>none
def F4 {α β γ δ:Type} (A:Dec α) (B:Dec β) (C:Dec γ) (D:Dec δ) (F:α→β→γ→δ→Option PV):Fun:=fun ps=>match ps with|[p,q,r,s]=>(A.d p).bind fun a=>(B.d q).bind fun b=>(C.d r).bind fun c=>(D.d s).bind fun d=>F a b c d|_=>none
section
variable {α β γ δ:Type} {A:Dec α} {B:Dec β} {C:Dec γ} {D:Dec δ} {ps:List PV} {r:PV}
theorem aou {F:Option PV} (h:F0 F ps=some r):ps=[]∧F=some r:=by
 unfold F0 at h;split at h
 ·exact⟨rfl,h⟩
 ·cases h
theorem bQ {F:α→Option PV} (h:F1 A F ps=some r):∃a,ps=[A.e a]∧F a=some r:=by
 unfold F1 at h;split at h
 ·rw[Option.bind_eq_some_iff]at h
  obtain⟨a,h1,h2⟩:=h;exact⟨a,by rw[A.h _ _ h1],h2⟩
 ·cases h
theorem uz {F:α→β→Option PV} (h:F2 A B F ps=some r):∃a b,ps=[A.e a,B.e b]∧F a b=some r:=by
 unfold F2 at h;split at h
 ·simp only[Option.bind_eq_some_iff]at h
  obtain⟨a,h1,b,h2,h3⟩:=h;exact⟨a,b,by rw[A.h _ _ h1,B.h _ _ h2],h3⟩
 ·cases h
theorem acF {F:α→β→γ→Option PV} (h:F3 A B C F ps=some r):∃a b c,ps=[A.e a,B.e b,C.e c]∧F a b c=some r:=by
 unfold F3 at h;split at h
 ·simp only[Option.bind_eq_some_iff]at h
  obtain⟨a,h1,b,h2,c,h3,h4⟩:=h;exact⟨a,b,c,by rw[A.h _ _ h1,B.h _ _ h2,C.h _ _ h3],h4⟩
 ·cases h
theorem ap8 {F:α→β→γ→δ→Option PV} (h:F4 A B C D F ps=some r):∃a b c d,ps=[A.e a,B.e b,C.e c,D.e d]∧F a b c d=some r:=by
 unfold F4 at h;split at h
 ·simp only[Option.bind_eq_some_iff]at h
  obtain⟨a,h1,b,h2,c,h3,d,h4,h5⟩:=h;exact⟨a,b,c,d,by rw[A.h _ _ h1,B.h _ _ h2,C.h _ _ h3,D.h _ _ h4],h5⟩
 ·cases h
theorem jQ {C:α→Prop} [∀a,Decidable (C a)] {R:α→PV} (h:F1 A (fun a=>if C a then some (R a)else none) ps=some r):∃a,ps=[A.e a]∧C a∧R a=r:=by
 obtain⟨a,h1,h2⟩:=bQ h;split at h2
 ·rename_i hc;cases h2;exact⟨a,h1,hc,rfl⟩
 ·cases h2
theorem iB {C:α→β→Prop} [∀a b,Decidable (C a b)] {R:α→β→PV} (h:F2 A B (fun a b=>if C a b then some (R a b)else none) ps=some r):∃a b,ps=[A.e a,B.e b]∧C a b∧R a b=r:=by
 obtain⟨a,b,h1,h2⟩:=uz h;split at h2
 ·rename_i hc;cases h2;exact⟨a,b,h1,hc,rfl⟩
 ·cases h2
theorem vv {G:α→β→γ→Prop} [∀a b c,Decidable (G a b c)] {R:α→β→γ→PV} (h:F3 A B C (fun a b c=>if G a b c then some (R a b c)else none) ps=some r):∃a b c,ps=[A.e a,B.e b,C.e c]∧G a b c∧R a b c=r:=by
 obtain⟨a,b,c,h1,h2⟩:=acF h;split at h2
 ·rename_i hc;cases h2;exact⟨a,b,c,h1,hc,rfl⟩
 ·cases h2
theorem atD {G:α→β→γ→δ→Prop} [∀a b c d,Decidable (G a b c d)] {R:α→β→γ→δ→PV} (h:F4 A B C D (fun a b c d=>if G a b c d then some (R a b c d)else none) ps=some r):∃a b c d,ps=[A.e a,B.e b,C.e c,D.e d]∧G a b c d∧R a b c d=r:=by
 obtain⟨a,b,c,d,h1,h2⟩:=ap8 h;split at h2
 ·rename_i hc;cases h2;exact⟨a,b,c,d,h1,hc,rfl⟩
 ·cases h2
theorem gu {F:α→Option PV} (a:α):F1 A F [A.e a]=F a:=by simp[F1,A.h']
theorem jm {F:α→β→Option PV} (a:α) (b:β):F2 A B F [A.e a,B.e b]=F a b:=by simp[F2,A.h',B.h']
theorem xD {F:α→β→γ→Option PV} (a:α) (b:β) (c:γ):F3 A B C F [A.e a,B.e b,C.e c]=F a b c:=by simp[F3,A.h',B.h',C.h']
theorem awt {F:α→β→γ→δ→Option PV} (a:α) (b:β) (c:γ) (d:δ):F4 A B C D F [A.e a,B.e b,C.e c,D.e d]=F a b c d:=by simp[F4,A.h',B.h',C.h',D.h']
end
def dI:Dec Int:={d:=fun| .val (.int .i64 n)=>some n|_=>none,e:=fun n=> .val (.int .i64 n),h:=fun p a h=>by split at h<;>simp_all,h':=fun a=>rfl}
def dU:Dec Int:={d:=fun| .val (.int .u8 n)=>some n|_=>none,e:=fun n=> .val (.int .u8 n),h:=fun p a h=>by split at h<;>simp_all,h':=fun a=>rfl}
def dB:Dec Bool:={d:=fun| .val (.bool n)=>some n|_=>none,e:=fun n=> .val (.bool n),h:=fun p a h=>by split at h<;>simp_all,h':=fun a=>rfl}
def dS:Dec ByteArray:={d:=fun| .val (.string n)=>some n|_=>none,e:=fun n=> .val (.string n),h:=fun p a h=>by split at h<;>simp_all,h':=fun a=>rfl}
def dFn (f:Nat):Dec Unit where
 d:=fun| .val (.func (.func g) a b)=>if g=f∧a.size=0∧b.size=0 then some ()else none|_=>none
 e:=fun _=> .val (.func (.func f) #[] #[])
 h:=fun p a h=>by
  split at h
  ·split at h
   ·rename_i hh
    obtain⟨rfl,h1,h2⟩:=hh;rw[Array.eq_empty_of_size_eq_zero h1,Array.eq_empty_of_size_eq_zero h2]
   ·cases h
  ·cases h
 h':=fun a=>by simp
theorem adV {α:Type} (A:Dec α):∀{es:List PV} {l:List α},es.mapM A.d=some l→es=l.map A.e
 |[],l,h=>by simp only[List.mapM_nil,Option.pure_def,Option.some.injEq]at h;subst h;rfl
 |e::es,l,h=>by rw[mapM_cons',Option.bind_eq_some_iff]at h;obtain⟨a,h1,h2⟩:=h;rw[Option.map_eq_some_iff]at h2;obtain⟨l',h3,rfl⟩:=h2;rw[List.map_cons,A.h _ _ h1,adV A h3]
theorem ad3 {α:Type} (A:Dec α):∀(l:List α),(l.map A.e).mapM A.d=some l
 |[]=>rfl
 |a::l=>by rw[List.map_cons,mapM_cons',A.h',ad3 A l];rfl
def dL {α:Type} (sz:Nat) (A:Dec α):Dec (List α) where
 d:=fun| .lst false s es=>if s=sz then es.mapM A.d else none|_=>none
 e:=fun l=> .lst false sz (l.map A.e)
 h:=fun p a h=>by
  split at h
  ·split at h
   ·rename_i hs
    subst hs;rw[adV A h]
   ·cases h
  ·cases h
 h':=fun a=>by show(if sz=sz then(a.map A.e).mapM A.d else none)=some a;rw[if_pos rfl,ad3]
abbrev dIs:=dL 1 dI
abbrev dUs:=dL 1 dU
abbrev dSs:=dL 1 dS
def dA2 {α β:Type} (A:Dec α) (B:Dec β):Dec (α×β) where
 d:=fun| .agg [p,q]=>(A.d p).bind fun a=>(B.d q).map fun b=>(a,b)|_=>none
 e:=fun x=> .agg [A.e x.1,B.e x.2]
 h:=fun p a h=>by
  split at h
  ·simp only[Option.bind_eq_some_iff,Option.map_eq_some_iff]at h
   obtain⟨x,h1,y,h2,rfl⟩:=h;rw[A.h _ _ h1,B.h _ _ h2]
  ·cases h
 h':=fun a=>by simp[A.h',B.h']
def dA3 {α β γ:Type} (A:Dec α) (B:Dec β) (C:Dec γ):Dec (α×β×γ) where
 d:=fun| .agg [p,q,r]=>(A.d p).bind fun a=>(B.d q).bind fun b=>(C.d r).map fun c=>(a,b,c)|_=>none
 e:=fun x=> .agg [A.e x.1,B.e x.2.1,C.e x.2.2]
 h:=fun p a h=>by
  split at h
  ·simp only[Option.bind_eq_some_iff,Option.map_eq_some_iff]at h
   obtain⟨x,h1,y,h2,z,h3,rfl⟩:=h;rw[A.h _ _ h1,B.h _ _ h2,C.h _ _ h3]
  ·cases h
 h':=fun a=>by simp[A.h',B.h',C.h']
def dA4 {α β γ δ:Type} (A:Dec α) (B:Dec β) (C:Dec γ) (D:Dec δ):Dec (α×β×γ×δ) where
 d:=fun| .agg [p,q,r,s]=>(A.d p).bind fun a=>(B.d q).bind fun b=>(C.d r).bind fun c=>(D.d s).map fun d=>(a,b,c,d)|_=>none
 e:=fun x=> .agg [A.e x.1,B.e x.2.1,C.e x.2.2.1,D.e x.2.2.2]
 h:=fun p a h=>by
  split at h
  ·simp only[Option.bind_eq_some_iff,Option.map_eq_some_iff]at h
   obtain⟨x,h1,y,h2,z,h3,t,h4,rfl⟩:=h;rw[A.h _ _ h1,B.h _ _ h2,C.h _ _ h3,D.h _ _ h4]
  ·cases h
 h':=fun a=>by simp[A.h',B.h',C.h',D.h']
def dA5 {α β γ δ ε:Type} (A:Dec α) (B:Dec β) (C:Dec γ) (D:Dec δ) (E:Dec ε):Dec (α×β×γ×δ×ε) where
 d:=fun| .agg [p,q,r,s,t]=>(A.d p).bind fun a=>(B.d q).bind fun b=>(C.d r).bind fun c=>(D.d s).bind fun d=>(E.d t).map fun e=>(a,b,c,d,e)|_=>none
 e:=fun x=> .agg [A.e x.1,B.e x.2.1,C.e x.2.2.1,D.e x.2.2.2.1,E.e x.2.2.2.2]
 h:=fun p a h=>by
  split at h
  ·simp only[Option.bind_eq_some_iff,Option.map_eq_some_iff]at h
   obtain⟨x,h1,y,h2,z,h3,t,h4,u,h5,rfl⟩:=h;rw[A.h _ _ h1,B.h _ _ h2,C.h _ _ h3,D.h _ _ h4,E.h _ _ h5]
  ·cases h
 h':=fun a=>by simp[A.h',B.h',C.h',D.h',E.h']
theorem aT {α β γ δ ε:Type} (A:Dec α) (B:Dec β) (C:Dec γ) (D:Dec δ) (E:Dec ε):(dA5 A B C D E).e=fun x=> .agg [A.e x.1,B.e x.2.1,C.e x.2.2.1,D.e x.2.2.2.1,E.e x.2.2.2.2]:=rfl
theorem dz:dI.e=fun n=> .val (.int .i64 n):=rfl
theorem dF:dU.e=fun n=> .val (.int .u8 n):=rfl
theorem dx:dB.e=fun n=> .val (.bool n):=rfl
theorem dG:dS.e=fun n=> .val (.string n):=rfl
theorem aR (f:Nat):(dFn f).e=fun _=> .val (.func (.func f) #[] #[]):=rfl
theorem dD {α:Type} (sz:Nat) (A:Dec α):(dL sz A).e=fun l=> .lst false sz (l.map A.e):=rfl
theorem aU {α β:Type} (A:Dec α) (B:Dec β):(dA2 A B).e=fun x=> .agg [A.e x.1,B.e x.2]:=rfl
theorem aV {α β γ:Type} (A:Dec α) (B:Dec β) (C:Dec γ):(dA3 A B C).e=fun x=> .agg [A.e x.1,B.e x.2.1,C.e x.2.2]:=rfl
theorem aS {α β γ δ:Type} (A:Dec α) (B:Dec β) (C:Dec γ) (D:Dec δ):(dA4 A B C D).e=fun x=> .agg [A.e x.1,B.e x.2.1,C.e x.2.2.1,D.e x.2.2.2]:=rfl
theorem aqt (f:Nat):asf (.val (.func (.func f) #[] #[]))=some f:=rfl
theorem akD {P:Program} {Γ:Ctx} {ob:bD} {tm:Nat→PV} {ty:Nat} {x:Operand} {xs:Array Operand} {ts:Array TypeId}:aZ P Γ ob (look tm) ty (.call {callee:=.value x,args:=xs,argTypes:=ts})=
 (match asf (look tm x)with|some f=>aaK Γ ob f (xs.toList.map (look tm))|none=>none):=by
 simp only[aZ];cases asf (look tm x)with
 |none=>rfl
 |some f=>rfl
section
variable {P:Program} {Γ:Ctx} {ob:bD} {ρ:Operand→PV} {ty:Nat}
theorem ar4 (x:Operand):aZ P Γ ob ρ ty (.move x)=some (ρ x):=rfl
theorem ahW (x:Operand):aZ P Γ ob ρ ty (.assign x)=some (ρ x):=rfl
def asQ (c x y:PV):Option PV:=match c with| .val (.bool b)=>some (if b then x else y)|_=>none
theorem aoF (b:Bool) (x y:PV):asQ (.val (.bool b)) x y=some (if b=true then x else y):=rfl
theorem arD (c x y:Operand):aZ P Γ ob ρ ty (.pick c x y)=asQ (ρ c) (ρ x) (ρ y):=by simp only[aZ];rfl
theorem alN (t:Nat) (ps:Array (Nat×Operand)):aZ P Γ ob ρ ty (.build t ps)=eY P t (partsOf ρ ps):=rfl
def ayE (r:Option (Nat×Nat×List PV)):Option PV:=match r with|some (_,sz,es)=>some (.lst true sz es)|none=>none
theorem xK (t n:Nat) (ps:Array (Nat×Operand)):aZ P Γ ob ρ ty (.buildSlice t n ps)=ayE (gK P t n (partsOf ρ ps)):=rfl
def aiu (P:Program) (t:Nat) (x:PV) (c:Option (Nat×Nat×List PV)):Option PV:=match x with
    | .own o sz i f=>match c with
      |some (_,sz',es)=>if sz=sz' then(es[i]?).bind (adn P t f)else none
      |none=>none
    | .ptr _ e f=>adn P t f e
    |_=>none
theorem anY (t:Nat) (x:Operand):aZ P Γ ob ρ ty (.load t x)=aiu P t (ρ x) (aaP ob (ρ x)):=by simp only[aZ];unfold aiu aaP;cases ρ x<;>rfl
theorem agQ (t:Nat) (k:Bool) (e:PV) (f:Nat) (c:Option (Nat×Nat×List PV)):aiu P t (.ptr k e f) c=adn P t f e:=rfl
theorem aiM (t o sz i f T:Nat) (es:List PV):aiu P t (.own o sz i f) (some (T,sz,es))=(es[i]?).bind (adn P t f):=by simp[aiu]
theorem al8 (o sz i n:Nat):aaP ob (.row o sz i n)=ob o:=rfl
theorem akX (o sz i f:Nat):aaP ob (.own o sz i f)=ob o:=rfl
theorem ams (k:Bool) (e:PV) (f:Nat):aaP ob (.ptr k e f)=none:=rfl
theorem akq (v:Value):aaP ob (.val v)=none:=rfl
theorem alR (k:Bool) (sz:Nat) (es:List PV):aaP ob (.lst k sz es)=none:=rfl
def ax2:PV→Option PV
    | .own o sz i f=>some (.own o sz i f)
    | .ptr k e f=>some (.ptr k e f)
    |_=>none
theorem aa6 (x:Operand):aZ P Γ ob ρ ty (.nilCheck x)=ax2 (ρ x):=rfl
theorem ak5 (o sz i f:Nat):ax2 (.own o sz i f)=some (.own o sz i f):=rfl
theorem akm (k:Bool) (e:PV) (f:Nat):ax2 (.ptr k e f)=some (.ptr k e f):=rfl
def lK (P:Program) (b:BinOp) (t:Nat) (x y:Operand):Option Value→Option Value→Option PV
 |some u,some v=>(ay P (do eqGuard b t x y u v;binOp b t u v)).map .val
 |_,_=>none
theorem ac0 (b:BinOp) (t:Nat) (x y:Operand) (t':Nat):aZ P Γ ob ρ ty (.binOp b t x y t')=lK P b t x y (toVal (ρ x)) (toVal (ρ y)):=rfl
section
variable {t:Nat} {x y:Operand} {k:IntKind} {m n:Int}
theorem asK:lK P .add t x y (some (.int k m)) (some (.int k n))=some (.val (.int k (k.wrap (m+n)))):=by simp only[lK,asG,Option.map_some]
theorem asY:lK P .sub t x y (some (.int k m)) (some (.int k n))=some (.val (.int k (k.wrap (m-n)))):=by simp only[lK,avB,Option.map_some]
theorem awF:lK P .mul t x y (some (.int k m)) (some (.int k n))=some (.val (.int k (k.wrap (m*n)))):=by simp only[lK,awQ,Option.map_some]
theorem awN (h:n≠0):lK P .quo t x y (some (.int k m)) (some (.int k n))=some (.val (.int k (k.wrap (m.tdiv n)))):=by simp only[lK,atG h,Option.map_some]
theorem auq (h:n≠0):lK P .rem t x y (some (.int k m)) (some (.int k n))=some (.val (.int k (m.tmod n))):=by simp only[lK,asy h,Option.map_some]
theorem auO:lK P .lss t x y (some (.int k m)) (some (.int k n))=some (.val (.bool (decide (m<n)))):=by simp only[lK,asS,Option.map_some]
theorem asW:lK P .leq t x y (some (.int k m)) (some (.int k n))=some (.val (.bool (decide (m≤n)))):=by simp only[lK,avI,Option.map_some]
theorem avc:lK P .gtr t x y (some (.int k m)) (some (.int k n))=some (.val (.bool (decide (n<m)))):=by simp only[lK,atP,Option.map_some]
theorem avp:lK P .geq t x y (some (.int k m)) (some (.int k n))=some (.val (.bool (decide (n≤m)))):=by simp only[lK,awq,Option.map_some]
theorem avU:lK P .eql t x y (some (.int k m)) (some (.int k n))=some (.val (.bool (decide (m=n)))):=by simp only[lK,au1,Option.map_some]
theorem at6:lK P .neq t x y (some (.int k m)) (some (.int k n))=some (.val (.bool (!decide (m=n)))):=by simp only[lK,au9,Option.map_some]
theorem auN {a b:Bool} (h:P.underlying t=some .bool):ay P (Op.equal t (.bool a) (.bool b))=some (a==b):=by unfold Op.equal Op.maxDepth;rw[show(10000:Nat)=9999+1 from rfl,Op.equalIn];simp[underlying,Go.program,bind,Sem.bind,pure,ay,h]
theorem qw {α β:Type} {P:Program} {m:Sem α} {x:α} (h:ay P m=some x) (f:α→Sem β):ay P (m>>=f)=ay P (f x):=by
 show ay P (m.bind f)=_
 induction m with
 |pure a=>simp only[ay,Option.some.injEq]at h;subst h;rfl
 |program k ih=>simp only[ay]at h;simp only[Sem.bind,ay];exact ih P h
 |_=>simp[ay]at h
theorem arL {a b:Bool} (h:P.underlying t=some .bool):lK P .neq t x y (some (.bool a)) (some (.bool b))=some (.val (.bool (!(a==b)))):=by
 have h1:ay P (eqGuard .neq t x y (.bool a) (.bool b))=some ():=by simp[eqGuard,pure,ay]
 have h2:ay P (binOp .neq t (.bool a) (.bool b))=some (.bool (!(a==b))):=by show ay P (Op.equal t (.bool a) (.bool b)>>=fun r=>pure (Value.bool (!r)))=_;rw[qw (auN h)];rfl
 simp only[lK];rw[qw h1,h2];rfl
end
def unP (P:Program) (u:UnOp):Option Value→Option PV
 |some v=>(ay P (Op.unary u v)).map .val
 |none=>none
theorem aqN (u:UnOp) (t:Nat) (x:Operand):aZ P Γ ob ρ ty (.unOp u t x)=unP P u (toVal (ρ x)):=rfl
theorem auo {b:Bool}:unP P .not (some (.bool b))=some (.val (.bool !b)):=by simp only[unP,asN,Option.map_some]
def aay (P:Program) (src dst:Nat) (b:Bool) (es:Option (List PV)) (v:Option Value):Option PV:=
 if b=true then(es.bind jr).map fun ns=> .val (.string (bytesOf ns))else match v with|some v=>(ay P (convert src dst v)).map .val|none=>none
theorem afx (src dst:Nat) (x:Operand):aZ P Γ ob ρ ty (.convert src dst x)=aay P src dst (eZ P src&&isStr P dst) (bG ob 1 (ρ x)) (toVal (ρ x)):=by
 simp only[aZ,aay];by_cases h:eZ P src=true∧isStr P dst=true
 ·rw[if_pos h,if_pos (by simp[h.1,h.2])]
 ·rw[if_neg h,if_neg (by simpa using h)]
  cases toVal (ρ x)<;>rfl
theorem amJ {src dst:Nat} {d:TypeDesc} {k k':IntKind} {n:Int} {es:Option (List PV)} (h:P.underlying src=some d) (h':P.underlying dst=some (.int k')):aay P src dst false es (some (.int k n))=some (.val (.int k' (k'.wrap n))):=by simp[aay,aoR h h']
theorem auM {src dst:Nat} {es:List PV} {v:Option Value}:aay P src dst true (some es) v=(jr es).map fun ns=> .val (.string (bytesOf ns)):=by simp[aay]
def aw5 (k:Option Nat):PV→Option PV
 | .own o sz i c=>match k with|some k=>some (.own o sz i (c+k))|none=>none
 | .ptr b e c=>match k with|some k=>some (.ptr b e (c+k))|none=>none
 |_=>none
theorem zP (t:Nat) (x:Operand) (f:Nat):aZ P Γ ob ρ ty (.fieldAddr t x f)=aw5 (bf P t f) (ρ x):=by simp only[aZ];unfold aw5;cases ρ x<;>cases bf P t f<;>rfl
theorem amu (k o sz i c:Nat):aw5 (some k) (.own o sz i c)=some (.own o sz i (c+k)):=rfl
theorem alM (k:Nat) (b:Bool) (e:PV) (c:Nat):aw5 (some k) (.ptr b e c)=some (.ptr b e (c+k)):=rfl
def axM (P:Program) (t:Nat) (x:PV):PV→Option PV
 | .val (.int _ n)=>aI P t x n
 |_=>none
theorem zV (t:Nat) (x i:Operand):aZ P Γ ob ρ ty (.indexAddr t x i)=axM P t (ρ x) (ρ i):=by simp only[aZ];unfold axM asI;split<;>(split at*<;>simp_all)
theorem alE (t:Nat) (x:PV) (k:IntKind) (n:Int):axM P t x (.val (.int k n))=aI P t x n:=rfl
def aw0 (P:Program) (t:Nat):Option Value→Option Value→Option PV
 |some u,some v=>(ay P (Instr.index t u v)).map .val
 |_,_=>none
theorem al2 (t:Nat) (x i:Operand):aZ P Γ ob ρ ty (.index t x i)=aw0 P t (toVal (ρ x)) (toVal (ρ i)):=rfl
def ayX (i:Nat):PV→Option PV
 | .tup vs=>vs[i]?
 |_=>none
theorem aey (x:Operand) (i:Nat):aZ P Γ ob ρ ty (.extract x i)=ayX i (ρ x):=rfl
theorem akY (i:Nat) (vs:List PV):ayX i (.tup vs)=vs[i]?:=rfl
def uD (P:Program) (t ty:Nat) (x:PV):Option PV:=match aa2 P t x with
 |some p=>some p
 |none=>match toVal x with
  |some v=>((ay P (Builtin.len_ #[t] ty #[v]))).map .val
  |none=>none
theorem avx (x:Operand) (t:Nat):aZ P Γ ob ρ ty (.call {callee:=.builtin .len,args:=#[x],argTypes:=#[t]})=uD P t ty (ρ x):=rfl
theorem uX {t ty sz e:Nat} {k:Bool} {es:List PV} (h:dN P t=some e):uD P t ty (.lst k sz es)=some (.val (.int .i64 es.length)):=by simp[uD,aa2,h]
theorem adr {t ty o sz i n e:Nat} (h:dN P t=some e):uD P t ty (.row o sz i n)=some (.val (.int .i64 n)):=by simp[uD,aa2,h]
theorem awp {t ty:Nat} {s:ByteArray} (h:P.underlying t=some .string):uD P t ty (.val (.string s))=some (.val (.int .i64 s.size)):=by simp[uD,aa2,toVal,arQ h]
theorem am5 {t ty e:Nat} (h:P.underlying t=some (.slice e)):uD P t ty (.val (.slice none 0 0))=some (.val (.int .i64 0)):=by simp[uD,aa2,toVal,Builtin.len_,underlying,Go.program,bind,Sem.bind,pure,ay,h,goInt]
theorem ath (xs:Array Operand) (ts:Array TypeId):aZ P Γ ob ρ ty (.call {callee:=.builtin .max,args:=xs,argTypes:=ts})=(match j5 (xs.toList.map ρ)with|some vs=>(ay P (Builtin.max_ ts ty vs.toArray)).map .val|none=>none):=rfl
theorem atB (xs:Array Operand) (ts:Array TypeId):aZ P Γ ob ρ ty (.call {callee:=.builtin .min,args:=xs,argTypes:=ts})=(match j5 (xs.toList.map ρ)with|some vs=>(ay P (Builtin.min_ ts ty vs.toArray)).map .val|none=>none):=rfl
def ash (P:Program) (t:Nat) (x:PV) (lo hi:Option (Option Int)):Option PV:=match x with
    | .val (.string s)=>match lo,hi with
      |some l,some h=>(ay P (Instr.sliceAt t (.string s) (l.map (Value.int .i64)) (h.map (Value.int .i64)) none)).map .val
      |_,_=>none
    |p=>match lo,hi with
     |some l,some h=>iV P t p l h
     |_,_=>none
theorem aj5 (t:Nat) (x:Operand) (lo hi:Option Operand):aZ P Γ ob ρ ty (.slice t x lo hi none)=ash P t (ρ x) (ajB (lo.map ρ)) (ajB (hi.map ρ)):=by
 simp only[aZ];unfold ash;cases ρ x with
 |val v=>cases v<;>rfl
 |_=>rfl
theorem avD (t:Nat) (k:Bool) (sz:Nat) (es:List PV) (lo hi:Option Int):ash P t (.lst k sz es) (some lo) (some hi)=iV P t (.lst k sz es) lo hi:=rfl
theorem awo (t:Nat) (o sz i n:Nat) (lo hi:Option Int):ash P t (.row o sz i n) (some lo) (some hi)=iV P t (.row o sz i n) lo hi:=rfl
def awI (t:Nat) (s:AS) (x:PV):Option (List PV)→Option (PV×bD×Nat)
 |some cs=>some (.own s.nx cs.length 0 0,upd s.ob s.nx (some (t,cs.length,[x])),s.nx+1)
 |none=>none
theorem awx (s:AS) (t:Nat) (x:Operand):bA P Γ s ρ (.box t x)=awI t s (ρ x) (bS (ρ x)):=rfl
theorem aqj (t:Nat) (s:AS) (x:PV) (cs:List PV):awI t s x (some cs)=some (.own s.nx cs.length 0 0,upd s.ob s.nx (some (t,cs.length,[x])),s.nx+1):=rfl
def ayV (n:Nat) (s:AS):Option (Nat×Nat×List PV)→Option (PV×bD×Nat)
 |some (e,sz,es)=>some (.row s.nx sz 0 n,upd s.ob s.nx (some (e,sz,es)),s.nx+1)
 |none=>none
theorem y8 (s:AS) (t n:Nat) (ps:Array (Nat×Operand)):bA P Γ s ρ (.buildSlice t n ps)=ayV n s (gK P t n (partsOf ρ ps)):=rfl
theorem apD (n:Nat) (s:AS) (e sz:Nat) (es:List PV):ayV n s (some (e,sz,es))=some (.row s.nx sz 0 n,upd s.ob s.nx (some (e,sz,es)),s.nx+1):=rfl
theorem aex {v:Value} (h:v.oneCell'=true):bS (.val v)=some [.val v]:=by simp[bS,oI,h]
theorem aeR (k:Bool) (sz:Nat) (es:List PV):bS (.lst k sz es)=some [.lst k sz es]:=rfl
theorem afl (o sz i n:Nat):bS (.row o sz i n)=some [.row o sz i n]:=rfl
theorem afu (o sz i n:Nat):bS (.own o sz i n)=some [.own o sz i n]:=rfl
theorem akE (v:Value):oI (.val v)=v.oneCell':=rfl
theorem ajH (k:Bool) (sz:Nat) (es:List PV):oI (.lst k sz es)=true:=rfl
theorem aly (o sz i n:Nat):oI (.row o sz i n)=true:=rfl
theorem alY (o sz i n:Nat):oI (.own o sz i n)=true:=rfl
def auU (ag:Option Bool) (k:Option Nat) (f:Nat):Option (List PV)→Option PV
 |some cs=>match ag,k with
  |some true,some k=>if f+k≤cs.length then some (.agg ((cs.drop f).take k))else none
  |some false,_=>cs[f]?
  |_,_=>none
 |none=>none
theorem aqg (t f:Nat) (e:PV):adn P t f e=auU (jN P t) (bn P t) f (bS e):=by unfold adn auU;cases bS e<;>cases jN P t<;>cases bn P t<;>first|rfl|(rename_i b _;cases b<;>rfl)|(rename_i b;cases b<;>rfl)|skip
theorem alf (k:Option Nat) (f:Nat) (cs:List PV):auU (some false) k f (some cs)=cs[f]?:=by cases k<;>rfl
theorem aj8 (k f:Nat) (cs:List PV) (h:f+k≤cs.length):auU (some true) (some k) f (some cs)=some (.agg ((cs.drop f).take k)):=by simp[auU,h]
end
theorem ajO {a b:Int} (h:0≤a):a.tdiv b=a/b:=Int.tdiv_eq_ediv_of_nonneg h
theorem ame {a b:Int} (h:0≤a):a.tmod b=a % b:=Int.tmod_eq_emod_of_nonneg h
theorem aep (k:IntKind) (n:Int):bS (.val (.int k n))=some [.val (.int k n)]:=rfl
theorem acn (b:Bool):bS (.val (.bool b))=some [.val (.bool b)]:=rfl
theorem afk (b:ByteArray):bS (.val (.string b))=some [.val (.string b)]:=rfl
theorem omg {α β:Type} {f:α→β} {l:List α} {k:Nat} {d:α} (h:k<l.length):Option.map f l[k]?=some (f (l[k]?.getD d)):=by simp[h]
theorem aqI {β:Type} {f:Int→β} {l:List Int} {k:Nat} (h:k<l.length):Option.map f l[k]?=some (f (l[k]?.getD 0)):=omg h
theorem axH {β:Type} {f:Bool→β} {l:List Bool} {k:Nat} (h:k<l.length):Option.map f l[k]?=some (f (l[k]?.getD false)):=omg h
theorem ah5 {β:Type} {f:ByteArray→β} {l:List ByteArray} {k:Nat} (h:k<l.length):Option.map f l[k]?=some (f (l[k]?.getD .empty)):=omg h
theorem abX (cs:List PV):bS (.agg cs)=if cs.all oI=true then some cs else none:=rfl
attribute[push_cast]
 arz akD aqt ar4 ahW aoF arD alN ayE xK anY agQ aiM al8 akX ams akq alR aa6 ak5 akm ac0 asK asY awF awN auq auO asW avc avp avU at6 aqN auo afx auM zP amu alM alE zV al2 aey akY avx ath atB aj5 avD awo awx aqj y8 apD aep acn afk aex aqI axH ah5 aeR afl afu abX akE ajH aly alY aqg alf aj8 bG arM ajJ amz avi aj9 aqx anZ anL aqk aoB aow aqR ao2 aoH aop apM ahQ au4 aui auX auA aue aub List.set_cons_zero List.drop_succ_cons List.drop_zero List.drop_nil List.nil_append List.cons_append List.take_succ_cons List.take_zero List.length_set afm aeA aeH aeG nA uf ae6 afQ afI ajL akM List.length_replicate look aiT asR akj zY beq_none aci xE vF ajx iq j5 asI ajB List.map_cons List.map_nil Option.map_some Option.map_none Option.bind_some List.getElem?_cons_zero List.getElem?_cons_succ List.getElem?_nil Option.getD_some Option.getD_none ah0 aju aiH aik ahz decide_true decide_false Bool.true_and Bool.false_and Bool.and_true Bool.and_false Bool.or_true Bool.or_false Bool.true_or Bool.false_or Bool.not_true Bool.not_false Bool.not_not decide_eq_true_eq decide_eq_false_iff_not Bool.not_eq_true' Bool.not_eq_false' if_true if_false ite_true ite_false Bool.false_eq_true atA atK dA ajO ame List.length_map List.getElem?_map Int.toNat_natCast aeO aeT toNat_add Int.natCast_nonneg and_self and_true true_and Nat.zero_add Nat.add_zero Int.natCast_zero Int.natCast_one Int.natCast_add Value.oneCell' List.all_cons List.all_nil List.length_cons List.length_nil Option.isSome_some mapM_nil' mapM_cons' iv bv sv aj6 agree kN List.lookup_nil List.lookup_cons beq_self_eq_true alu
attribute[push_cast]
 ai1 ahI
section
variable {P:Program} {t:Nat} {x y:Operand}
def at8 (s:ByteArray) (i:Nat):Int:=((s[i]?).getD 0).toNat
theorem iN (s:ByteArray) (i:Nat):0≤at8 s i∧at8 s i≤255:=by unfold at8;have:=((s[i]?).getD 0).toNat_lt;omega
theorem aac (a b:ByteArray):(a.toList==b.toList)=decide (a=b):=by
 rw[Bool.eq_iff_iff,decide_eq_true_eq,beq_iff_eq];constructor
 ·intro h
  rw[Go.ByteArray.toList_eq,Go.ByteArray.toList_eq]at h;obtain⟨x⟩:=a;obtain⟨y⟩:=b;simpa using h
 ·rintro rfl
  rfl
theorem akf {a b:ByteArray}:ay P (do eqGuard .eql t x y (.string a) (.string b);binOp .eql t (.string a) (.string b))=some (.bool (a.toList==b.toList)):=by simp[eqGuard,binOp,Op.stringOp,bind,Sem.bind,pure,ay]
theorem alP {a b:ByteArray}:ay P (do eqGuard .neq t x y (.string a) (.string b);binOp .neq t (.string a) (.string b))=some (.bool (!(a.toList==b.toList))):=by simp[eqGuard,binOp,Op.stringOp,bind,Sem.bind,pure,ay]
theorem aqF {a b:ByteArray}:lK P .eql t x y (some (.string a)) (some (.string b))=some (.val (.bool (decide (a=b)))):=by simp only[lK,akf,aac,Option.map_some]
theorem aoc {a b:ByteArray}:lK P .neq t x y (some (.string a)) (some (.string b))=some (.val (.bool (!decide (a=b)))):=by simp only[lK,alP,aac,Option.map_some]
theorem au8 {s:ByteArray} {i:Int} (h:P.underlying t=some .string) (h0:0≤i) (h1:i<s.size):aw0 P t (some (.string s)) (some (.int .i64 i))=some (.val (.int .u8 (at8 s i.toNat))):=by
 have hlt:i.toNat<s.size:=by omega
 have hg:s[i.toNat]?=some s[i.toNat]:=getElem?_pos s i.toNat hlt;have:ay P (Instr.index t (.string s) (.int .i64 i))=some (.int .u8 (at8 s i.toNat)):=by simp[Instr.index,asIntOf,underlying,Go.program,bind,Sem.bind,pure,ay,h,h0,hg,at8]
 simp only[aw0,this,Option.map_some]
end
def eX:Nat→PV→Bool
 |0,_=>false
 |_+1,.val _=>true
 |_+1,.dead=>true
 |n+1,.agg cs=>cs.all (eX n)
 |_,_=>false
section
variable {α:Type} {n sz f:Nat} {ob:bD} {k fr:Bool} {g:α→PV} {l:List α}
theorem acT {f:Nat} (h:∀x,eX 2 (g x)=true) (hf:2≤f):(l.map g).mapM (reify fr n ob f)=some (l.map g):=d9 fun e he=>by
 obtain⟨x,_,rfl⟩:=List.mem_map.1 he;obtain⟨m,rfl⟩:∃m,f=m+2:=⟨f-2,by omega⟩;have h2:=h x;revert h2;cases g x with
 |val v=>intro _;rfl
 |dead=>intro _;rfl
 |agg cs=>
  intro h2;have h3:∀c∈cs,eX 1 c=true:=by simpa [eX]using h2
  simp only[reify];rw[d9 fun c hc=>?_]
  ·rfl
  ·have:=h3 c hc
   cases c with
   |agg cs'=>
    cases cs' with
    |nil=>rfl
    |cons a l=>simp[eX]at this
   |val v=>rfl
   |dead=>rfl
   |_=>simp[eX]at this
 |_=>intro h2;simp[eX]at h2
theorem sI (h:∀x,eX 2 (g x)=true):reify false n ob (f+3) (.lst k sz (l.map g))=some (.lst false sz (l.map g)):=by show(if false=true∧k=false∧(l.map g)≠[]then none else((l.map g).mapM (reify false n ob (f+2))).map (PV.lst false sz))=_;rw[acT h (by omega)];simp
theorem vK {m T:Nat} (h:∀x,eX 2 (g x)=true) (hm:m=l.length):qH fr (f+2) ob sz 0 m (some (T,sz,l.map g))=some (.lst fr sz (l.map g)):=by
 subst hm;have e:((l.map g).drop 0).take l.length=l.map g:=by rw[List.drop_zero,List.take_of_length_le (by simp)]
 simp only[qH,e,acT (n:=0) (fr:=fr) (ob:=ob) h (show 2≤f+2 by omega),Nat.zero_add,List.length_map,Nat.le_refl,and_self,if_true,Option.map_some]
end
section
variable {α:Type} {n sz f:Nat} {ob:bD} {k fr:Bool} {l:List α} {g1 g2 g3 g4:α→Value}
theorem ail:reify false n ob (f+3) (.lst k sz (l.map fun x=>PV.agg [.val (g1 x),.val (g2 x),.val (g3 x),.val (g4 x)]))=some (.lst false sz (l.map fun x=>PV.agg [.val (g1 x),.val (g2 x),.val (g3 x),.val (g4 x)])):=sI fun _=>rfl
theorem akb {m T:Nat} (hm:m=l.length):qH fr (f+2) ob sz 0 m (some (T,sz,l.map fun x=>PV.agg [.val (g1 x),.val (g2 x),.val (g3 x),.val (g4 x)]))=some (.lst fr sz (l.map fun x=>PV.agg [.val (g1 x),.val (g2 x),.val (g3 x),.val (g4 x)])):=vK (fun _=>rfl) hm
end
theorem af8 {α:Type} {l new:List α} (h:l.length≤new.length):gF l 0 new=new:=by simp[gF,h]
abbrev W2:=ByteArray×Int
abbrev I3:=Int×Int×Int
abbrev I4:=Int×Int×Int×Int
def w0:W2:=(ByteArray.empty,0)
def i40:I4:=(0,0,0,0)
section
variable {β:Type} {i:Nat}
theorem atE {g:I4→β} {l:List I4} (h:i<l.length):Option.map g l[i]?=some (g ((l[i]?).getD i40)):=by simp[h]
end
abbrev dI4:Dec I4:=dA4 dI dI dI dI
attribute[push_cast]
 aqF aoc ail akb atE
attribute[push_cast high]
 af8
def ou (ps:List PV) (cs:List aH):AS:={tm:=fun t=>(ps[t]?).getD (.val undef),ob:=fun o=>cs[o]?,nx:=cs.length}
def bU (out:List Nat) (ob:bD):Nat→PV→Option PV
 |0,_=>none
 |n+1,p=>match p with
  | .val v=>some (.val v)
  | .dead=>some .dead
  | .lst k sz es=>(es.mapM (bU out ob n)).map (.lst k sz)
  | .ptr k e o=>(bU out ob n e).map (.ptr k · o)
  | .own o sz i f=>match inn out o with
    |some o'=>some (.own o' sz i f)
    |none=>match ob o with
     |some (_,sz',es)=>if sz=sz' then(es[i]?).bind fun e=>(bU out ob n e).map (.ptr true · f)else none
     |none=>none
  | .row o sz i m=>match inn out o with
    |some o'=>some (.row o' sz i m)
    |none=>match ob o with
     |some (_,sz',es)=>if sz=sz'∧i+m≤es.length then(((es.drop i).take m).mapM (bU out ob n)).map (.lst true sz)else none
     |none=>none
  | .agg cs=>(cs.mapM (bU out ob n)).map .agg
  | .tup cs=>(cs.mapM (bU out ob n)).map .tup
def kg (out:List Nat) (ob:bD) (f:Nat) (o:Nat):Option aH:=(ob o).bind fun c=>(c.2.2.mapM (bU out ob f)).map fun es=>(c.1,c.2.1,es)
theorem Rep.hand {out:List Nat} {ob:bD} {g g':Gh} {w:World} (hI:∀k b,g.I k b→g'.I k b) (ho:∀o o',inn out o=some o'→g'.β o'=g.β o∧g'.κ o'=g.κ o∧g'.D o')
 (hob:∀o c,ob o=some c→oV g w o c) (hfz:∀o,(ob o).isSome→inn out o=none→g'.I true (g.β o)):
 ∀(f:Nat) (p q:PV) (v:Value),Rep g w p v→bU out ob f p=some q→Rep g' w q v
 |0,p,q,v,h,hr=>by simp[bU]at hr
 |f+1,p,q,v,h,hr=>by
  cases p with
  |val u=>simp only[bU,Option.some.injEq]at hr;subst hr;simpa [Rep]using h
  |dead=>simp only[bU,Option.some.injEq]at hr;subst hr;simp[Rep]
  |lst k sz es=>
   simp only[bU,Option.map_eq_some_iff]at hr;obtain⟨es',h1,rfl⟩:=hr;have hl:=(bR h1).1;simp only[Rep]at h⊢;obtain⟨a,cap,rfl,h2,h3,h4⟩:=h;refine⟨a,cap,by rw[hl],by omega,h3,?_⟩;rcases h4 with rfl|⟨b,off,rfl,h5,h6⟩
   ·left;exact List.eq_nil_of_length_eq_zero (by simpa using hl)
   ·right
    exact⟨b,off,rfl,hI _ _ h5,bM.conv (g:=g) (g':=g') (Rep.hand hI ho hob hfz f) h6 h1⟩
  |ptr k e o=>simp only[bU,Option.map_eq_some_iff]at hr;obtain⟨e',h1,rfl⟩:=hr;simp only[Rep]at h⊢;obtain⟨b,off,rfl,h2,u,h3,h4⟩:=h;exact⟨b,off,rfl,hI _ _ h2,u,Rep.hand hI ho hob hfz f e e' u h3 h1,h4⟩
  |own o sz i c=>
   simp only[bU]at hr;split at hr
   ·rename_i o' hm
    cases hr;simp only[Rep]at h⊢;obtain⟨e1,_,e3⟩:=ho o o' hm;exact⟨by rw[e1];exact h.1,e3⟩
   ·rename_i hm
    split at hr
    ·rename_i T sz' es hoo
     split at hr
     case isFalse=>cases hr
     case isTrue hsz=>subst hsz;simp only[Option.bind_eq_some_iff,Option.map_eq_some_iff]at hr;obtain⟨e,he,e',h1,rfl⟩:=hr;simp only[Rep]at h⊢;obtain⟨rfl,hlt⟩:=h;obtain⟨u,h2,h3,h4⟩:=(hob o _ hoo).2.2.get he;exact⟨g.β o,i*sz,rfl,hfz o (by simp[hoo]) hm,u,Rep.hand hI ho hob hfz f e e' u h2 h1,by simpa using h3⟩
    ·cases hr
  |row o sz i m=>
   simp only[bU]at hr;split at hr
   ·rename_i o' hm
    cases hr;simp only[Rep]at h⊢;obtain⟨c,h1,h2,h3,h4,h5⟩:=h;obtain⟨e1,e2,e3⟩:=ho o o' hm;exact⟨c,by rw[e1];exact h1,h2,h3,by rw[e2];exact h4,e3⟩
   ·rename_i hm
    split at hr
    ·rename_i T sz' es hoo
     split at hr
     case isFalse=>cases hr
     case isTrue hsz=>
      obtain⟨rfl,hle⟩:=hsz;simp only[Option.map_eq_some_iff]at hr;obtain⟨es',h1,rfl⟩:=hr;have hl:=(bR h1).1;have hl2:es'.length=m:=by rw[hl];simp;omega
      simp only[Rep]at h⊢;obtain⟨c,rfl,h2,h3,h4,h5⟩:=h;refine⟨_,c,by rw[hl2],by omega,h3,.inr ⟨g.β o,i*sz,rfl,hfz o (by simp[hoo]) hm,?_⟩⟩;have:=((hob o _ hoo).2.2.drop i).take m;exact bM.conv (g:=g) (g':=g') (Rep.hand hI ho hob hfz f) (by simpa using this) h1
    ·cases hr
  |agg cs=>simp only[bU,Option.map_eq_some_iff]at hr;obtain⟨cs',h1,rfl⟩:=hr;simp only[Rep]at h⊢;obtain⟨vs,rfl,h2⟩:=h;exact⟨vs,rfl,bX.conv (g:=g) (g':=g') (Rep.hand hI ho hob hfz f) h2 h1⟩
  |tup cs=>simp only[bU,Option.map_eq_some_iff]at hr;obtain⟨cs',h1,rfl⟩:=hr;simp only[Rep]at h⊢;obtain⟨vs,rfl,h2⟩:=h;exact⟨vs,rfl,bX.conv (g:=g) (g':=g') (Rep.hand hI ho hob hfz f) h2 h1⟩
section
variable {P:Program} {Γ:Ctx}
theorem kr {f:Nat} {fn:Func} {c:Code} {Φ:dP} (hΓ:ak P Γ) (hf:P.funcs[f]?=some fn) (hb:fn.body=some c)
 (hlen:∀ps cs r,Φ ps cs=some r→ps.length≤fn.ntmps)
 (h:∀ps cs r cs',Φ ps cs=some (r,cs')→∃x s' qs out,Ev P Γ fn.ntmps c (ou ps cs) x s'∧(x=.normal∨x=.ret)∧fF P s' fn.results.toList=some qs∧bU out s'.ob fuel (gL qs)=some r∧
   cs.length≤out.length∧(∀o:Nat,o<cs.length→out[o]?=some o)∧out.Nodup∧out.mapM (kg out s'.ob fuel)=some cs'):bO P f Φ:=by
 intro w J β κ ps cs args r cs' hr hJ hO hT hargs;obtain⟨x,s',qs,out,hev,hx,hres,hren,hol,hof,hond,hobs0⟩:=h ps cs r cs' hr;have hsz:args.size=ps.length:=by simpa using hargs.get.1
 have hle:=hlen ps cs _ hr;have hocs:cs'.length=out.length:=(bR hobs0).1;have hobs:∀(i o:Nat),out[i]?=some o→∃T sz es es',s'.ob o=some (T,sz,es)∧es.mapM (bU out s'.ob fuel)=some es'∧cs'[i]?=some (T,sz,es'):=fun i o hi=>by obtain⟨c1,h1,h2⟩:=(bR hobs0).2 i o hi;unfold kg at h2;simp only[Option.bind_eq_some_iff,Option.map_eq_some_iff]at h2;obtain⟨⟨T,sz,es⟩,h3,es',h4,rfl⟩:=h2;exact⟨T,sz,es,es',h3,h4,h1⟩
 have hinit:Rel ⟨fun b=>∃o,o<cs.length∧b=β o,J false,cs.length,β,κ,J true,fun _=>False⟩ w fn.ntmps (l7 J β κ cs.length) (ou ps cs) {tmps:=args++Array.replicate (fn.ntmps-args.size) undef,defers:=[]} w:=by
  refine⟨by simp;omega,rfl,fun t=>?_,fun o c ho=>?_,fun o o' ho ho' he=>?_,rfl,fun k b hi=>hJ k b hi,fun b hi=> .inr hi,Fr.refl _ _,fun b hi=>hi,⟨fun o ho=>⟨ho,fun q=>q⟩,fun o ho=>⟨rfl,rfl⟩⟩,fun o ho=>False.elim ho,hT⟩
  ·simp only[ou]
   cases hp:ps[t]? with
   |none=>
    have hge:ps.length≤t:=by simpa using hp
    have:(args++Array.replicate (fn.ntmps-args.size) undef).getD t undef=undef:=by simp only[Array.getD_eq_getD_getElem?];rw[Array.getElem?_append_right (by omega)];simp only[Array.getElem?_replicate];split<;>rfl
    rw[this];simp[Rep]
   |some p=>
    obtain⟨v,hv,hrep⟩:=hargs.get.2 t p hp;have hlt:t<args.size:=by have:=(List.getElem?_eq_some_iff.1 hp).1;omega
    have:(args++Array.replicate (fn.ntmps-args.size) undef).getD t undef=v:=by
     simp only[Array.getD_eq_getD_getElem?];rw[Array.getElem?_append_left hlt];have:args[t]?=some v:=by simpa using hv
     simp[this]
    rw[this];exact hrep
  ·have hlt:o<cs.length:=(List.getElem?_eq_some_iff.1 ho).1
   exact⟨⟨hlt,fun q=>q⟩,.inr ⟨o,hlt,rfl⟩,fun k hi=>(hO.lt o hlt).2 k hi,hO.at_ o c ho⟩
  ·have h1:o<cs.length:=by obtain⟨c,hc⟩:=Option.isSome_iff_exists.1 ho;exact(List.getElem?_eq_some_iff.1 hc).1
   have h2:o'<cs.length:=by obtain⟨c,hc⟩:=Option.isSome_iff_exists.1 ho';exact(List.getElem?_eq_some_iff.1 hc).1
   exact hO.inj o o' h1 h2 he
 refine calls_of_wp hf hb (CWp.wp (hev.cwp hΓ.w (fun b hb=>by obtain⟨o,h1,rfl⟩:=hb;exact(hO.lt o h1).1) _ _ _ _ hinit fun g' a' w' hrel=>?_));have hsome:∀i o,out[i]?=some o→(s'.ob o).isSome:=fun i o ho=>by obtain⟨T,sz,es,es',h1,_⟩:=hobs i o ho;simp[h1]
 have hget:∀i,i<out.length→out[i]?=some (out.getD i 0):=fun i hi=>by simp[hi]
 have hβ0:∀o,o<cs.length→g'.β o=β o∧g'.κ o=κ o:=fun o ho=>hrel.fix.2 o ho;have hinjO:∀i j,i<out.length→j<out.length→g'.β (out.getD i 0)=g'.β (out.getD j 0)→i=j:=fun i j hi hj he=>by have:=hrel.inj _ _ (hsome i _ (hget i hi)) (hsome j _ (hget j hj)) he;have e1:=hget i hi;have e2:=hget j hj;rw[this]at e1;have e1:=e1.trans e2.symm;exact(List.getElem?_inj hi hond).1 e1
 have hgof:∀o,o<cs.length→out.getD o 0=o:=fun o ho=>by have:=hof o ho;simp[List.getD,this]
 have hinn:∀o1 o2,inn out o1=some o2→o2<out.length∧out.getD o2 0=o1:=fun o1 o2 hi=>by
  unfold inn at hi;split at hi
  ·rename_i hm
   cases hi;have hlt:=List.idxOf_lt_length_of_mem hm;exact⟨hlt,by simp[List.getD,hlt]⟩
  ·cases hi
 have hout:∀i,i<out.length→out.getD i 0∈out:=fun i hi=>List.mem_of_getElem? (hget i hi);have hnewO:∀o c,s'.ob o=some c→(∀j,j<cs.length→o≠j)→w.heap.size≤g'.β o:=fun o c ho hne=>by
  rcases(hrel.ob _ _ ho).2.1 with k2|⟨j,k3,k4⟩
  ·exact k2
  ·exfalso
   rw[←(hβ0 j k3).1]at k4;exact hne j k3 (hrel.inj _ _ (by rw[ho];rfl) (hsome j j (hof j k3)) k4)
 have hnew:∀i,cs.length≤i→i<out.length→w.heap.size≤g'.β (out.getD i 0):=fun i h1 h2=>by obtain⟨T,sz,es,es',k1,_⟩:=hobs i _ (hget i h2);refine hnewO _ _ k1 fun j hj he=>?_;have e1:=hget i h2;rw[he,←hof j hj]at e1;have:=(List.getElem?_inj (by omega) hond).1 e1;omega
 have hend:a'.defers=[]∧∃v,(results fn a'.tmps).run P w'=.ok v w'∧(∃v' β' κ' M,Ending.returned v=.returned v'∧Fr (fun b=>∃o,o<cs.length∧b=β o) w w'∧cs.length≤cs'.length∧
  (∀o,o<cs.length→β' o=β o∧κ' o=κ o)∧(∀o,cs.length≤o→o<cs'.length→w.heap.size≤β' o)∧(∀b,M b→w.heap.size≤b∧b<w'.heap.size)∧
  wz (addN J M) w' β' κ' cs'∧Rep (l7 (addN J M) β' κ' cs'.length) w' r v'):=by
  obtain⟨v,h1,h2⟩:=iU hrel hres
  let M:Nat→Prop:=fun b=>w.heap.size≤b∧b<w'.heap.size∧∀i,i<out.length→b≠g'.β (out.getD i 0)
  let G:Gh:=l7 (addN J M) (fun i=>g'.β (out.getD i 0)) (fun i=>g'.κ (out.getD i 0)) cs'.length
  have hI:∀k b,g'.I k b→G.I k b:=fun k b hi=>by
   cases k with
   |false=>exact .inl (hrel.old b hi)
   |true=>
    rcases hrel.new b hi with hn|hn
    ·refine .inr ⟨rfl,hn.1,hrel.lt true b hi,fun i hil he=>?_⟩
     obtain⟨T,sz,es,es',k1,_⟩:=hobs i _ (hget i hil);exact(hrel.ob _ _ k1).2.2.1 true (he▸hi)
    ·exact .inl hn
  have hom:∀o o',inn out o=some o'→G.β o'=g'.β o∧G.κ o'=g'.κ o∧G.D o':=fun o o' ho=>by obtain⟨k1,k2⟩:=hinn o o' ho;exact⟨by simp only[G,l7,k2],by simp only[G,l7,k2],⟨by simp only[G,l7];omega,fun q=>q⟩⟩
  have hfz:∀o,(s'.ob o).isSome→inn out o=none→G.I true (g'.β o):=fun o ho hn=>by
   obtain⟨c,hc⟩:=Option.isSome_iff_exists.1 ho;have hno:o∉out:=fun hm=>by simp[inn,hm]at hn
   obtain⟨arr,m1,_⟩:=(hrel.ob _ _ hc).2.2.2.1;refine .inr ⟨rfl,hnewO o c hc fun j hj he=>hno (he▸List.mem_of_getElem? (hof j hj)),lt_of_heap m1,fun i hi he=>hno ?_⟩;rw[hrel.inj o _ (by rw[hc];rfl) (hsome i _ (hget i hi)) he];exact hout i hi
  have hobA:∀o c,s'.ob o=some c→oV g' w' o c:=fun o c ho=>(hrel.ob o c ho).2.2.2;refine⟨hrel.df,v,h1,v,fun i=>g'.β (out.getD i 0),fun i=>g'.κ (out.getD i 0),M,rfl,hrel.fr,by omega,fun o ho=>by dsimp only;rw[hgof o ho];exact hβ0 o ho,fun o h3 h4=>hnew o h3 (by omega),fun b hb=>⟨hb.1,hb.2.1⟩,⟨fun o ho=>?_,fun o o' ho ho' he=>hinjO o o' (by omega) (by omega) he,fun o c hc=>?_⟩,Rep.hand (g:=g') (g':=G) hI hom hobA hfz fuel _ _ _ h2 hren⟩
  ·obtain⟨T,sz,es,es',k1,_⟩:=hobs o _ (hget o (by omega))
   obtain⟨_,_,k3,⟨arr,k4,_⟩,_⟩:=hrel.ob _ _ k1;refine⟨lt_of_heap k4,fun k hj=>?_⟩;rcases hj with hj|⟨_,hj⟩
   ·by_cases hoc:o<cs.length
    ·rw[hgof o hoc,(hβ0 o hoc).1]at hj
     exact(hO.lt o hoc).2 k hj
    ·have:=hnew o (by omega) (by omega)
     have:=hJ _ _ hj;omega
   ·exact hj.2.2 o (by omega) rfl
  ·have ho:o<cs'.length:=(List.getElem?_eq_some_iff.1 hc).1
   obtain⟨T,sz,es,es',k1,k2,k3⟩:=hobs o _ (hget o (by omega));rw[k3]at hc;cases hc;obtain⟨_,_,_,⟨arr,m1,m2⟩,m3,m4⟩:=hrel.ob _ _ k1;have hl:=(bR k2).1;exact⟨⟨arr,m1,m2⟩,by rw[hl];exact m3,bM.conv (g:=g') (g':=G) (Rep.hand (g:=g') (g':=G) hI hom hobA hfz fuel) m4 k2⟩
 rcases hx with rfl|rfl<;>exact hend
end
def gY (P:Program) (rs:List ResultVar) (m:Nat) (r:PV) (cs':List aH):X→AS→Prop:=fun x s'=>(x=.normal∨x=.ret)∧∃news:List Nat,(∀o∈news,m≤o)∧news.Nodup∧
 ((fF P s' rs).bind fun qs=>bU (List.range m++news) s'.ob fuel (gL qs))=some r∧(List.range m++news).mapM (kg (List.range m++news) s'.ob fuel)=some cs'
theorem afE {P:Program} {Γ:Ctx} (hm:P.follows .mixedOrders=true) {f:Nat} {fn:Func} {c:Code} {Φ:dP} (hΓ:ak P Γ) (hf:P.funcs[f]?=some fn) (hb:fn.body=some c) (N:Nat) (hN:fn.ntmps=N) (rs:List ResultVar) (hrs:fn.results.toList=rs) (hc:codeOk Γ true N c=true)
 (h:∀ps cs r cs',Φ ps cs=some (r,cs')→ps.length≤N∧pq P Γ N c (gY P rs cs.length r cs') (ou ps cs).tm (fun o=>cs[o]?) cs.length):bO P f Φ:=by
 subst hN hrs;refine kr hΓ hf hb (fun ps cs r hr=>(h ps cs r.1 r.2 hr).1) fun ps cs r cs' hr=>?_;obtain⟨x,s',h1,h2,news,h3,h4,h5,h6⟩:=wK (mixed:=true) (fun _=>hm) c _ _ hc (h ps cs r cs' hr).2;rw[Option.bind_eq_some_iff]at h5;obtain⟨qs,h8,h9⟩:=h5;refine⟨x,s',qs,List.range cs.length++news,h1,h2,h8,h9,by simp,fun o ho=>?_,?_,h6⟩
 ·rw[List.getElem?_append_left (by simpa using ho),List.getElem?_range ho]
 ·rw[List.nodup_append]
  exact⟨List.nodup_range,h4,fun a ha b hb e=>by have:=h3 b hb;have:=List.mem_range.1 ha;omega⟩
section
variable {P:Program} {Γ:Ctx} {Φ:dP} {ob:bD} {nx:Nat}
def ayz (ob:bD) (nx:Nat) (ps:List PV):Option dP→Option (PV×bD×Nat)
 |some Φ=>acj Φ ob nx ps
 |none=>none
theorem abB {s:AS} {ρ:Operand→PV} {f:Nat} {xs:Array Operand} {ts:Array TypeId}:bA P Γ s ρ (.call {callee:=.value (.func f),args:=xs,argTypes:=ts})=ayz s.ob s.nx (xs.toList.map ρ) (Γ.io f):=by simp only[bA,l8,ayz];cases Γ.io f<;>rfl
theorem uq {ps:List PV}:ayz ob nx ps (some Φ)=acj Φ ob nx ps:=rfl
def vg (os:List Nat) (nx:Nat):Nat→Option Nat:=fun i=>some (nJ os nx i)
def ioR (os:List Nat) (ob:bD) (nx:Nat):Option (PV×List aH)→Option (PV×bD×Nat)
 |some (r,cs')=>match eu (vg os nx) fuel r,cs'.mapM (ada (vg os nx) fuel)with
  |some r',some cs2=>some (r',jM ob (((List.range cs2.length).map (nJ os nx)).zip cs2),nx+(cs'.length-os.length))
  |_,_=>none
 |none=>none
theorem uM (ps:List PV) (os:List Nat) (h:dedup (ps.flatMap refsOf)=os):acj Φ ob nx ps=match os.mapM ob,ps.mapM (eu (inn os) fuel)with
 |some cs,some qs=>match cs.mapM (ada (inn os) fuel)with
  |some cs1=>ioR os ob nx (Φ qs cs1)
  |none=>none
 |_,_=>none:=by
 subst h;unfold acj;dsimp only
 generalize dedup (ps.flatMap refsOf)=os;cases os.mapM ob with
 |none=>rfl
 |some cs=>
  cases ps.mapM (eu (inn os) fuel)with
  |none=>rfl
  |some qs=>
   dsimp only
   cases cs.mapM (ada (inn os) fuel)with
   |none=>rfl
   |some cs1=>
    dsimp only
    unfold ioR;cases Φ qs cs1 with
    |none=>rfl
    |some r=>rfl
def aaI (Φ:dP) (ob:bD) (nx o:Nat) (qs:List PV):Option aH→Option (PV×bD×Nat)
 |some c=>(c.2.2.mapM (eu (inn [o]) fuel)).bind fun es=>ioR [o] ob nx (Φ qs [(c.1,c.2.1,es)])
 |none=>none
theorem jv {α β:Type} {F:α→Option β} {x:α}:[x].mapM F=(F x).map fun y=>[y]:=by rw[mapM_cons',mapM_nil'];cases F x<;>rfl
theorem adG {ps qs:List PV} {o:Nat} (h1:dedup (ps.flatMap refsOf)=[o]) (h2:ps.mapM (eu (inn [o]) fuel)=some qs):acj Φ ob nx ps=aaI Φ ob nx o qs (ob o):=by
 rw[uM ps [o] h1,h2,jv];unfold aaI;cases hb:ob o with
 |none=>rfl
 |some c=>simp only[Option.map_some,jv,ada];cases c.2.2.mapM (eu (inn [o]) fuel)<;>rfl
theorem acW (o:Nat):inn [o] o=some 0:=by simp[inn]
theorem awz {o a:Nat} (h:¬o=a):inn [a] o=none:=by simp[inn,h]
theorem lu (nm:Nat→Option Nat) (p:PV):eu nm fuel p=eu nm 8 p:=rfl
theorem rG (nm:Nat→Option Nat) (f:Nat) (v:Value):eu nm (f+1) (.val v)=some (.val v):=rfl
theorem yG (nm:Nat→Option Nat) (f:Nat) (cs:List PV):eu nm (f+1) (.agg cs)=(cs.mapM (eu nm f)).map .agg:=by simp only[eu]
theorem adj (nm:Nat→Option Nat) (f o sz i c:Nat):eu nm (f+1) (.own o sz i c)=(nm o).map fun o'=> .own o' sz i c:=rfl
theorem aed (nm:Nat→Option Nat) (f o sz i m:Nat):eu nm (f+1) (.row o sz i m)=(nm o).map fun o'=> .row o' sz i m:=rfl
theorem xW {nm:Nat→Option Nat}:∀{f:Nat} {p:PV},eX f p=true→eu nm f p=some p
 |0,_,h=>by simp[eX]at h
 |f+1,p,h=>by
  cases p with
  |val v=>rfl
  |dead=>rfl
  |agg cs=>
   have h2:∀c∈cs,eX f c=true:=by simpa [eX]using h
   simp only[eu];rw[d9 fun c hc=>xW (h2 c hc)];rfl
  |_=>simp[eX]at h
theorem jS:∀{f g:Nat} {p:PV},f≤g→eX f p=true→eX g p=true
 |0,_,p,_,h=>by simp[eX]at h
 |f+1,0,p,hg,h=>by omega
 |f+1,g+1,p,hg,h=>by
  cases p with
  |val v=>rfl
  |dead=>rfl
  |agg cs=>
   have h2:∀c∈cs,eX f c=true:=by simpa [eX]using h
   simp only[eX,List.all_eq_true];exact fun c hc=>jS (by omega) (h2 c hc)
  |_=>simp[eX]at h
theorem aie {α:Type} {nm:Nat→Option Nat} {f sz:Nat} {k:Bool} {g:α→PV} {l:List α} (h:∀x,eX 2 (g x)=true):eu nm (f+3) (.lst k sz (l.map g))=some (.lst k sz (l.map g)):=by show((l.map g).mapM (eu nm (f+2))).map (PV.lst k sz)=_;rw[d9 fun e he=>by obtain⟨x,_,rfl⟩:=List.mem_map.1 he;exact xW (jS (by omega) (h x))];rfl
theorem agd {α:Type} {nm:Nat→Option Nat} {f:Nat} {g:α→PV} {l:List α} (h:∀x,eX 2 (g x)=true):(l.map g).mapM (eu nm (f+2))=some (l.map g):=
 d9 fun e he=>by obtain⟨x,_,rfl⟩:=List.mem_map.1 he;exact xW (jS (by omega) (h x))
section
variable {α:Type} {nm:Nat→Option Nat} {f sz:Nat} {k:Bool} {l:List α} {g g1 g2 g3 g4:α→Value}
theorem nY:eu nm (f+3) (.lst k sz (l.map fun x=>PV.val (g x)))=some (.lst k sz (l.map fun x=>PV.val (g x))):=aie fun _=>rfl
theorem aaJ:(l.map fun x=>PV.val (g x)).mapM (eu nm 8)=some (l.map fun x=>PV.val (g x)):=agd fun _=>rfl
end
theorem aqL {o sz i c:Nat} {v:Value}:acj Φ ob nx [.own o sz i c,.val v]=aaI Φ ob nx o [.own 0 sz i c,.val v] (ob o):=adG (by simp[refsOf,dedup]) (by simp only[mapM_cons',mapM_nil',lu,adj,rG,acW];rfl)
theorem o7 {o T sz:Nat} {es qs:List PV}:aaI Φ ob nx o qs (some (T,sz,es))=(es.mapM (eu (inn [o]) fuel)).bind fun es=>ioR [o] ob nx (Φ qs [(T,sz,es)]):=rfl
theorem ajn {o T sz:Nat} {es:List PV} {r:PV}:ioR [o] ob nx (some (r,[(T,sz,es)]))=(eu (vg [o] nx) fuel r).bind fun r'=>(es.mapM (eu (vg [o] nx) fuel)).map fun es'=>(r',upd ob o (some (T,sz,es')),nx):=by
 unfold ioR;simp only[jv,ada];cases eu (vg [o] nx) fuel r with
 |none=>rfl
 |some r'=>
  cases es.mapM (eu (vg [o] nx) fuel)with
  |none=>rfl
  |some es'=>rfl
theorem an2 {T sz:Nat} {es:List PV} {r:PV}:ioR [] ob nx (some (r,[(T,sz,es)]))=(eu (vg [] nx) fuel r).bind fun r'=>(es.mapM (eu (vg [] nx) fuel)).map fun es'=>(r',upd ob nx (some (T,sz,es')),nx+1):=by
 unfold ioR;simp only[jv,ada];cases eu (vg [] nx) fuel r with
 |none=>rfl
 |some r'=>
  cases es.mapM (eu (vg [] nx) fuel)with
  |none=>rfl
  |some es'=>rfl
theorem avY {o nx:Nat}:vg [o] nx 0=some o:=rfl
theorem auF {nx:Nat}:vg [] nx 0=some nx:=by simp[vg,nJ]
end
section
variable {out:List Nat} {ob:bD} {f:Nat}
theorem aeV (p:PV):bU out ob fuel p=bU out ob 8 p:=rfl
theorem ag7 (v:Value):bU out ob (f+1) (.val v)=some (.val v):=rfl
theorem aiN (cs:List PV):bU out ob (f+1) (.agg cs)=(cs.mapM (bU out ob f)).map .agg:=by simp only[bU]
theorem air (cs:List PV):bU out ob (f+1) (.tup cs)=(cs.mapM (bU out ob f)).map .tup:=by simp only[bU]
def ajD (out:List Nat) (ob:bD) (f sz i m:Nat):Option Nat→Option aH→Option PV
 |some o',_=>some (.row o' sz i m)
 |none,some (_,sz',es)=>if sz=sz'∧i+m≤es.length then(((es.drop i).take m).mapM (bU out ob f)).map (.lst true sz)else none
 |none,none=>none
theorem aio (o sz i m:Nat):bU out ob (f+1) (.row o sz i m)=ajD out ob f sz i m (inn out o) (ob o):=by
 simp only[bU];unfold ajD;cases inn out o with
 |some o'=>rfl
 |none=>cases ob o<;>rfl
def axl (out:List Nat) (ob:bD) (f sz i c:Nat):Option Nat→Option aH→Option PV
 |some o',_=>some (.own o' sz i c)
 |none,some (_,sz',es)=>if sz=sz' then(es[i]?).bind fun e=>(bU out ob f e).map (.ptr true · c)else none
 |none,none=>none
theorem agN (o sz i c:Nat):bU out ob (f+1) (.own o sz i c)=axl out ob f sz i c (inn out o) (ob o):=by
 simp only[bU];unfold axl;cases inn out o with
 |some o'=>rfl
 |none=>cases ob o<;>rfl
theorem ait {sz i c o':Nat} {x:Option aH}:axl out ob f sz i c (some o') x=some (.own o' sz i c):=rfl
theorem ahu {sz i m o':Nat} {x:Option aH}:ajD out ob f sz i m (some o') x=some (.row o' sz i m):=rfl
theorem aaC:∀{f:Nat} {p:PV},eX f p=true→bU out ob f p=some p
 |0,_,h=>by simp[eX]at h
 |f+1,p,h=>by
  cases p with
  |val v=>rfl
  |dead=>rfl
  |agg cs=>
   have h2:∀c∈cs,eX f c=true:=by simpa [eX]using h
   simp only[bU];rw[d9 fun c hc=>aaC (h2 c hc)];rfl
  |_=>simp[eX]at h
theorem pz {α:Type} {g:α→PV} {l:List α} (h:∀x,eX 2 (g x)=true):(l.map g).mapM (bU out ob (f+2))=some (l.map g):=
 d9 fun e he=>by obtain⟨x,_,rfl⟩:=List.mem_map.1 he;exact aaC (jS (by omega) (h x))
theorem aeE {α:Type} {k:Bool} {sz:Nat} {g:α→PV} {l:List α} (h:∀x,eX 2 (g x)=true):bU out ob (f+3) (.lst k sz (l.map g))=some (.lst k sz (l.map g)):=by show((l.map g).mapM (bU out ob (f+2))).map (PV.lst k sz)=_;rw[pz h];rfl
theorem aiJ {α:Type} {sz m T:Nat} {g:α→PV} {l:List α} (h:∀x,eX 2 (g x)=true) (hm:m=l.length):ajD out ob (f+2) sz 0 m none (some (T,sz,l.map g))=some (.lst true sz (l.map g)):=by
 subst hm;have e:((l.map g).drop 0).take l.length=l.map g:=by rw[List.drop_zero,List.take_of_length_le (by simp)]
 simp only[ajD,e,pz h,Nat.zero_add,List.length_map,Nat.le_refl,and_self,if_true,Option.map_some]
theorem lY {sz m T:Nat} {es:List PV} (hm:m=es.length):ajD out ob f sz 0 m none (some (T,sz,es))=(es.mapM (bU out ob f)).map (.lst true sz):=by subst hm;simp[ajD]
section
variable {α:Type} {sz m T:Nat} {k:Bool} {l:List α} {g g1 g2 g3 g4:α→Value}
theorem wB:bU out ob (f+3) (.lst k sz (l.map fun x=>PV.val (g x)))=some (.lst k sz (l.map fun x=>PV.val (g x))):=aeE fun _=>rfl
theorem afC:(l.map fun x=>PV.val (g x)).mapM (bU out ob 8)=some (l.map fun x=>PV.val (g x)):=pz fun _=>rfl
theorem ajg (hm:m=l.length):ajD out ob (f+2) sz 0 m none (some (T,sz,l.map fun x=>PV.val (g x)))=some (.lst true sz (l.map fun x=>PV.val (g x))):=aiJ (fun _=>rfl) hm
end
def aqH (out:List Nat) (ob:bD):Option aH→Option aH
 |some (T,sz,es)=>(es.mapM (bU out ob fuel)).map fun es=>(T,sz,es)
 |none=>none
theorem akl (o:Nat):kg out ob fuel o=aqH out ob (ob o):=by
 unfold kg aqH;cases ob o with
 |none=>rfl
 |some c=>rfl
theorem afX {T sz:Nat} {es:List PV}:aqH out ob (some (T,sz,es))=(es.mapM (bU out ob fuel)).map fun es=>(T,sz,es):=rfl
end
section
variable {P:Program} {Γ:Ctx} {tm:Nat→PV} {ob:bD} {nx:Nat} {rs:List ResultVar} {r:PV} {c' d':aH} {x:X}
theorem aty (hx:x=.normal∨x=.ret) (h1:((fF P ⟨tm,ob,nx⟩ rs).bind fun qs=>bU [0] ob fuel (gL qs))=some r) (h2:kg [0] ob fuel 0=some c'):gY P rs 1 r [c'] x ⟨tm,ob,nx⟩:=
 ⟨hx,[],by simp,by simp,h1,by show [0].mapM (kg [0] ob fuel)=some [c'];rw[jv,h2];rfl⟩
theorem qd (o:Nat) (hx:x=.normal∨x=.ret) (h1:((fF P ⟨tm,ob,nx⟩ rs).bind fun qs=>bU [o] ob fuel (gL qs))=some r) (h2:kg [o] ob fuel o=some c'):gY P rs 0 r [c'] x ⟨tm,ob,nx⟩:=
 ⟨hx,[o],by simp,by simp,h1,by show [o].mapM (kg [o] ob fuel)=some [c'];rw[jv,h2];rfl⟩
theorem pV (hx:x=.normal∨x=.ret) (h1:((fF P ⟨tm,ob,nx⟩ rs).bind fun qs=>bU [] ob fuel (gL qs))=some r):gY P rs 0 r [] x ⟨tm,ob,nx⟩:=
 ⟨hx,[],by simp,by simp,h1,rfl⟩
theorem acQ (c:aH):(fun o=>[c][o]?)=lo [(0,c)]:=by
 funext o;cases o with
 |zero=>rfl
 |succ o=>simp[lo,List.lookup]
theorem atj:(fun o=>([]:List aH)[o]?)=lV:=by funext o;simp[lV]
theorem zO (hm:P.follows .mixedOrders=true) {f:Nat} {fn:Func} {c:Code} {Φ:dP} (hΓ:ak P Γ) (hf:P.funcs[f]?=some fn) (hb:fn.body=some c) (N:Nat) (hN:fn.ntmps=N) (rs:List ResultVar) (hrs:fn.results.toList=rs) (hc:codeOk Γ true N c=true)
 (h:∀ps cs r cs',Φ ps cs=some (r,cs')→cs=[]∧ps.length≤N∧pq P Γ N c (gY P rs 0 r cs') (bY ps).tm lV 0):bO P f Φ:=by
 refine afE hm hΓ hf hb N hN rs hrs hc fun ps cs r cs' hr=>?_;obtain⟨rfl,h1,h2⟩:=h ps cs r cs' hr;refine⟨h1,?_⟩;rw[atj];exact h2
end
def awD (b:Bool) (c:Option aH):Option aH:=if b=true then c else none
theorem akn (V:List Nat) (ob:bD) (o:Nat):vo V ob o=awD (V.contains o) (ob o):=rfl
theorem afa (c:Option aH):awD true c=c:=rfl
attribute[push_cast]
 abB uq aqL o7 ajn an2 avY auF acW awz lu rG yG adj aed nY aaJ aeV ag7 aiN air aio agN ait ahu wB afC ajg akl afX akn afa List.contains_cons List.contains_nil
theorem atw (o:Nat):lo [] o=none:=rfl
theorem arU (k:Nat) (v:aH) (l:List (Nat×aH)) (o:Nat):lo ((k,v)::l) o=if o=k then some v else lo l o:=by
 simp only[lo,List.lookup_cons];by_cases h:o=k
 ·simp[h]
 ·have:(o==k)=false:=by simpa using h
  simp[this,h]
attribute[push_cast high]
 atw arU
def plF (l:List (Nat×Nat)):Nat→Option (Nat×Nat):=fun i=>l[i]?
theorem amY {P:Program} {t n e s o sz j f:Nat} {i:Int} (hu:P.underlying t=some (.array n e)) (hs:bn P e=some s) (h0:0≤i) (h1:i<(n:Int)):aI P t (.own o sz j f) i=some (.own o sz j (f+i.toNat*s)):=by
 unfold aI;rw[hu];dsimp only
 rw[hs];dsimp only
 rw[if_pos ⟨h0,h1⟩]
theorem zM {P:Program} {t:Nat} {z:List PV} {zv:Value} {pl:Array (Nat×Nat)} (hz:zeroOf P t=some zv) (hzv:zv.cells.toList.map PV.val=z) (hp:bW P t=some pl) (ps:List (Nat×PV)):eY P t ps=(j4 (plF pl.toList) z ps).map .agg:=by
 unfold eY;rw[hz,hp];dsimp only
 rw[hzv];congr 2;funext i;simp[plF]
def fpG (l:List (Nat×Nat)) (cells:List PV) (rest:List (Nat×PV)):Option (Nat×Nat)→Option (List PV)→Option (List PV)
 |some (off,size),some cs=>if cs.length=size∧off+cs.length≤cells.length then j4 (plF l) (gF cells off cs) rest else none
 |_,_=>none
theorem atU (l:List (Nat×Nat)) (cells:List PV):j4 (plF l) cells []=some cells:=rfl
theorem aoZ (l:List (Nat×Nat)) (cells:List PV) (i:Nat) (v:PV) (rest:List (Nat×PV)):j4 (plF l) cells ((i,v)::rest)=fpG l cells rest l[i]? (bS v):=rfl
theorem atm {l:List (Nat×Nat)} {cells cs:List PV} {rest:List (Nat×PV)} {off size:Nat} (h1:cs.length=size) (h2:off+cs.length≤cells.length):fpG l cells rest (some (off,size)) (some cs)=j4 (plF l) (gF cells off cs) rest:=by simp[fpG,h1];omega
theorem aaT {ρ:Operand→PV}:partsOf ρ (List.toArray [])=[]:=rfl
theorem aau {ρ:Operand→PV} {i:Nat} {x:Operand} {l:List (Nat×Operand)}:partsOf ρ (List.toArray ((i,x)::l))=(i,ρ x)::partsOf ρ l.toArray:=rfl
def okC (sz:Nat):Option (List PV)→Bool
 |some cs=>cs.length==sz
 |none=>false
def u7 (e sz:Nat) (es:List PV):Bool→Option (Nat×Nat×List PV)
 |true=>some (e,sz,es)
 |false=>none
theorem ahh (e sz:Nat) (es:List PV):u7 e sz es true=some (e,sz,es):=rfl
theorem jY {P:Program} {t n e sz:Nat} {z:Value} (he:dN P t=some e) (hs:bn P e=some sz) (hz:zeroOf P e=some z) (ps:List (Nat×PV)) (h1:n*sz≤16777216) (h2:n≤9223372036854775807) (hm:ps.map (·.1)=List.range n):
 gK P t n ps=u7 e sz (ps.map (·.2)) ((ps.map (·.2)).all (okP sz)):=by
 unfold gK;rw[he];dsimp only
 rw[hs,hz];dsimp only
 cases((ps.map (·.2)).all (okP sz))<;>simp[u7,h1,h2,hm]
theorem as5 (sz:Nat) (p:PV):okP sz p=okC sz (bS p):=by unfold okP okC;cases bS p<;>rfl
theorem amc (sz:Nat) (cs:List PV):okC sz (some cs)=(cs.length==sz):=rfl
theorem agp (e sz:Nat) (es:List PV):ayE (some (e,sz,es))=some (.lst true sz es):=rfl
theorem take_map' {α β:Type} {f:α→β} {l:List α} {n:Nat}:(l.map f).take n=(l.take n).map f:=List.map_take.symm
theorem drop_map' {α β:Type} {f:α→β} {l:List α} {n:Nat}:(l.map f).drop n=(l.drop n).map f:=List.map_drop.symm
attribute[push_cast]
 take_map' drop_map' Int.add_sub_cancel List.length_append List.length_take List.length_drop List.length_reverse Nat.sub_zero atU aoZ atm aaT aau ahh as5 amc agp
end
end Go.Proofs.YtmmafcjjlbgnkaaGreatDoor
