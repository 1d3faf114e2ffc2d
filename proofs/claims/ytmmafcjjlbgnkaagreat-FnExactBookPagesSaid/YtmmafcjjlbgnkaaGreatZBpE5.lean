/- What the proof rests on, part 5: contracts of functions. No condition beyond what each states. -/
import Derived.Test.YtmmafcjjlbgnkaaGreatZBpE4
namespace Go.Proofs.YtmmafcjjlbgnkaaGreat
open Go.RowKit
set_option linter.all false
set_option maxHeartbeats 32000000
noncomputable section
def ajQ (e sz by_:Nat) (z:Value) (s:AS):PV→PV→Option (PV×bn×Nat)
 | .val (.int _ l),.val (.int _ c)=>if 0≤l∧l≤c∧(by_:Int)*c≤281474976710656∧c≤9223372036854775807 then some (.row s.nx sz 0 l.toNat,upd s.ob s.nx (some (e,sz,List.replicate l.toNat (bK z))),s.nx+1)else none
 |_,_=>none
theorem ao3 {e sz by_:Nat} {z:Value} {s:AS} {kl kc:IntKind} {l c:Int} (h0:0≤l) (h1:l≤c) (h2:(by_:Int)*c≤281474976710656) (h3:c≤9223372036854775807):
 ajQ e sz by_ z s (.val (.int kl l)) (.val (.int kc c))=some (.row s.nx sz 0 l.toNat,upd s.ob s.nx (some (e,sz,List.replicate l.toNat (bK z))),s.nx+1):=by
 simp[ajQ,h0,h1,h2,h3]
theorem ai5 {P:Program} {Γ:Ctx} {t e sz by_:Nat} {z:Value} (he:bX P t=some e) (hz:zeroOf P e=some z) (hs:aX P e=some sz) (hb:dX P e=some by_) (h1:z.cells.all (·.oneCell')=true) (h2:z.cells.size=sz) (s:AS) (ρ:Operand→PV) (l c:Operand):
 aY P Γ s ρ (.makeSlice t l c)=ajQ e sz by_ z s (ρ l) (ρ c):=by
 simp only[aY,he,hz,hs,hb];unfold ajQ;split
 ·rename_i z' sz' by' kl l' kc c' e1 e2 e3 e4 e5
  cases e1;cases e2;cases e3;rw[e4,e5];have key:∀C:Prop,(z.cells.all (·.oneCell')=true∧z.cells.size=sz∧C)=C:=fun C=>propext ⟨fun h=>h.2.2,fun h=>⟨h1,h2,h⟩⟩;simp only[key]
 ·rename_i hno
  split
  ·rename_i a b kl l' kc c' e4 e5
   exact(hno z sz by_ kl l' kc c' rfl rfl rfl e4 e5).elim
  ·rfl
theorem afq {P:Program} {Γ:Ctx} {t sz:Nat} {z:Value} {p:PV} (hz:zeroOf P t=some z) (h1:z.cells.all (·.oneCell')=true) (h2:z.cells.size=sz) (h3:bK z=p) (s:AS) (ρ:Operand→PV):
 aY P Γ s ρ (.alloc t)=some (.own s.nx sz 0 0,upd s.ob s.nx (some (t,sz,[p])),s.nx+1):=by
 simp only[aY,hz];rw[if_pos h1,h2,h3]
def aal (ob:bn):PV→Option (Nat×Nat×List PV)
 | .row o _ _ _=>ob o
 | .own o _ _ _=>ob o
 |_=>none
def afx (e sz by_ nx:Nat) (ob:bn) (x:PV) (c:Option (Nat×Nat×List PV)) (es2:Option (List PV)):Option (PV×bn×Nat):=
 match es2 with
 |some es2=>match x with
  | .row o sz' i n=>match c with
    |some (T,sz'',es)=>if i=0∧T=e∧sz'=sz∧sz''=sz∧es.length=n∧n+es2.length≤9223372036854775807∧(n+es2.length)*by_≤140737488355328 then
      some (.row nx sz 0 (n+es2.length),upd (upd ob o none) nx (some (e,sz,es++es2)),nx+1)else none
    |none=>none
  |p=>if isNil p=true∧es2.length≤9223372036854775807∧es2.length*by_≤140737488355328 then
    (if es2.length=0 then some (p,ob,nx)else some (.row nx sz 0 es2.length,upd ob nx (some (e,sz,es2)),nx+1))else none
 |none=>none
theorem u7 {P:Program} {Γ:Ctx} {t e sz by_:Nat} {z:Value} (he:bX P t=some e) (hz:zeroOf P e=some z) (hs:aX P e=some sz) (hb:dX P e=some by_) (h1:0<sz) (h2:z.cells.size=sz) (s:AS) (ρ:Operand→PV) (x y:Operand):
 aY P Γ s ρ (.call {callee:=.builtin .append,args:=#[x,y],argTypes:=#[t,t]})=afx e sz by_ s.nx s.ob (ρ x) (aal s.ob (ρ x)) (bB s.ob sz (ρ y)):=by
 simp only[aY,he,hz,hs,hb];unfold afx;cases bB s.ob sz (ρ y)with
 |none=>rfl
 |some es2=>simp only[h1,h2,and_self,if_true];cases ρ x<;>rfl
theorem aki {e sz by_ nx o n:Nat} {ob:bn} {es es2:List PV} (h1:es.length=n) (h2:n+es2.length≤9223372036854775807) (h3:(n+es2.length)*by_≤140737488355328):
 afx e sz by_ nx ob (.row o sz 0 n) (some (e,sz,es)) (some es2)=some (.row nx sz 0 (n+es2.length),upd (upd ob o none) nx (some (e,sz,es++es2)),nx+1):=by
 simp[afx,h1,h2,h3]
theorem alj {e sz by_ nx:Nat} {ob:bn} {c:Option (Nat×Nat×List PV)} {es2:List PV} (h1:0<es2.length) (h2:es2.length≤9223372036854775807) (h3:es2.length*by_≤140737488355328):
 afx e sz by_ nx ob (.val (.slice none 0 0)) c (some es2)=some (.row nx sz 0 es2.length,upd ob nx (some (e,sz,es2)),nx+1):=by
 have:¬es2.length=0:=by omega
 have hn:¬es2=[]:=fun h=>this (by rw[h];rfl);simp[afx,isNil,h2,h3,hn]
theorem afF {ob:bn} {k:Bool} {sz s:Nat} {es:List PV}:yA ob sz (.lst k s es)=bB ob sz (.lst k s es):=rfl
theorem aja {ob:bn} {o sz i n s:Nat}:yA ob sz (.row o s i n)=bB ob sz (.row o s i n):=rfl
def avu (P:Program) (t:Nat) (ob:bn) (nx:Nat) (x y:PV) (c:Option (Nat×Nat×List PV)):Option (PV×bn×Nat):=
 match x,c with
 | .own o sz i f,some (T,sz',es)=>match es[i]?,bA y with
   |some e,some cs=>if sz=sz'∧aX P t=some cs.length then(ane sz e f y cs).map fun e'=>(.val undef,upd ob o (some (T,sz,es.set i e')),nx)else none
   |_,_=>none
 |_,_=>none
theorem ath {P:Program} {Γ:Ctx} (s:AS) (ρ:Operand→PV) (t:Nat) (x y:Operand):aY P Γ s ρ (.store t x y)=avu P t s.ob s.nx (ρ x) (ρ y) (aal s.ob (ρ x)):=by
 simp only[aY];unfold avu;cases hx:ρ x with
 |own o sz i f=>
  simp only[aal];cases s.ob o with
  |none=>rfl
  |some c=>rfl
 |_=>rfl
def agY:PV→Bool
 | .agg _=>true
 |_=>false
theorem aqF (v:Value):agY (.val v)=false:=rfl
theorem aqk (k:Bool) (sz:Nat) (es:List PV):agY (.lst k sz es)=false:=rfl
theorem aqJ (o sz i n:Nat):agY (.row o sz i n)=false:=rfl
theorem aoj (o sz i f:Nat):agY (.own o sz i f)=false:=rfl
theorem ao2 (cs:List PV):agY (.agg cs)=true:=rfl
def stE (sz f:Nat) (ag:Bool) (cs:List PV):PV→Option PV
 | .agg ecs=>if f+cs.length≤ecs.length then some (PV.agg (eP ecs f cs))else none
 |_=>if sz=1∧f=0∧ag=false then cs.head? else none
def stP (k:Option Nat) (ob:bn) (nx o T sz i f:Nat) (ag:Bool) (cs:Option (List PV)) (es:List PV) (e:Option PV):Option (PV×bn×Nat):=
 match k,cs,e with
 |some k,some cs,some e=>if k=cs.length then
   (stE sz f ag cs e).map fun e'=>(.val undef,upd ob o (some (T,sz,es.set i e')),nx)
   else none
 |_,_,_=>none
theorem akr {P:Program} {t o sz i f T nx:Nat} {ob:bn} {es:List PV} {y:PV}:
 avu P t ob nx (.own o sz i f) y (some (T,sz,es))=stP (aX P t) ob nx o T sz i f (agY y) (bA y) es (es[i]?):=by
 simp only[avu,stP];cases he:es[i]? with
 |none=>cases aX P t<;>cases bA y<;>rfl
 |some e=>
  cases hc:bA y with
  |none=>cases aX P t<;>rfl
  |some cs=>
   cases ht:aX P t with
   |none=>simp
   |some k=>
    by_cases hk:k=cs.length
    ·have e2:ane sz e f y cs=stE sz f (agY y) cs e:=by
      have hone:lF y=true→cs.head?=some y∧agY y=false:=by intro h;cases y<;>simp_all [bA,lF,agY]<;>(subst hc;rfl)
      have hno:lF y=false→agY y=true:=by intro h;cases y<;>simp_all [bA,lF,agY]
      clear he;cases e<;>simp only[ane,stE];all_goals
       cases ho:lF y with
       |true=>simp[hone ho]
       |false=>simp[hno ho]
     simp[hk,e2]
    ·simp[hk]
theorem aqv {k nx o T sz i f:Nat} {ob:bn} {ag:Bool} {cs ecs es:List PV} (hk:k=cs.length) (hf:f+cs.length≤ecs.length):
 stP (some k) ob nx o T sz i f ag (some cs) es (some (.agg ecs))=some (.val undef,upd ob o (some (T,sz,es.set i (.agg (eP ecs f cs)))),nx):=by
 simp[stP,stE,hk,hf]
theorem anP {nx o T i:Nat} {ob:bn} {es:List PV} {v:Value} {c:PV}:
 stP (some 1) ob nx o T 1 i 0 false (some [c]) es (some (.val v))=some (.val undef,upd ob o (some (T,1,es.set i c)),nx):=rfl
theorem an5 {nx o T i k sz:Nat} {b:Bool} {ob:bn} {es l:List PV} {c:PV}:
 stP (some 1) ob nx o T 1 i 0 false (some [c]) es (some (.lst b sz l))=some (.val undef,upd ob o (some (T,1,es.set i c)),nx):=rfl
theorem aqC {nx o T i a b' c' d:Nat} {ob:bn} {es:List PV} {c:PV}:
 stP (some 1) ob nx o T 1 i 0 false (some [c]) es (some (.row a b' c' d))=some (.val undef,upd ob o (some (T,1,es.set i c)),nx):=rfl
theorem anw {nx o T i a b' c' d:Nat} {ob:bn} {es:List PV} {c:PV}:
 stP (some 1) ob nx o T 1 i 0 false (some [c]) es (some (.own a b' c' d))=some (.val undef,upd ob o (some (T,1,es.set i c)),nx):=rfl
theorem aoV {α β:Type} {f:α→β} {xs:List α} {i:Nat} {y:α}:(xs.map f).set i (f y)=(xs.set i y).map f:=by rw[List.map_set]
theorem afK {α:Type} (l new:List α):eP l 0 new=new++l.drop new.length:=by simp[eP]
theorem jB {α:Type} (x:α) (l:List α) (n:Nat) (new:List α):eP (x::l) (n+1) new=x::eP l n new:=by simp[eP,Nat.add_right_comm n 1]
theorem asS {α:Type} (x:α) (l:List α) (new:List α):eP (x::l) 1 new=x::eP l 0 new:=jB x l 0 new
theorem au9 {α:Type} (x:α) (l:List α) (new:List α):eP (x::l) 2 new=x::eP l 1 new:=jB x l 1 new
theorem auJ {α:Type} (x:α) (l:List α) (new:List α):eP (x::l) 3 new=x::eP l 2 new:=jB x l 2 new
theorem atZ {α:Type} (x:α) (l:List α) (new:List α):eP (x::l) 4 new=x::eP l 3 new:=jB x l 3 new
theorem ati {α:Type} (x:α) (l:List α) (new:List α):eP (x::l) 5 new=x::eP l 4 new:=jB x l 4 new
theorem ato {α:Type} (x:α) (l:List α) (new:List α):eP (x::l) 6 new=x::eP l 5 new:=jB x l 5 new
structure Dec (α:Type) where
 d:PV→Option α
 e:α→PV
 h:∀p a,d p=some a→p=e a
 h':∀a,d (e a)=some a
def F1 {α:Type} (A:Dec α) (F:α→Option PV):Fun:=fun ps=>match ps with|[p]=>(A.d p).bind F|_=>none
def F2 {α β:Type} (A:Dec α) (B:Dec β) (F:α→β→Option PV):Fun:=fun ps=>match ps with|[p,q]=>(A.d p).bind fun a=>(B.d q).bind fun b=>F a b|_=>none
def F3 {α β γ:Type} (A:Dec α) (B:Dec β) (C:Dec γ) (F:α→β→γ→Option PV):Fun:=fun ps=>match ps with|[p,q,r]=>(A.d p).bind fun a=>(B.d q).bind fun b=>(C.d r).bind fun c=>F a b c|_=>none
def F4 {α β γ δ:Type} (A:Dec α) (B:Dec β) (C:Dec γ) (D:Dec δ) (F:α→β→γ→δ→Option PV):Fun:=fun ps=>match ps with|[p,q,r,s]=>(A.d p).bind fun a=>(B.d q).bind fun b=>(C.d r).bind fun c=>(D.d s).bind fun d=>F a b c d|_=>none
section
variable {α β γ δ:Type} {A:Dec α} {B:Dec β} {C:Dec γ} {D:Dec δ} {ps:List PV} {r:PV}
theorem bG {F:α→Option PV} (h:F1 A F ps=some r):∃a,ps=[A.e a]∧F a=some r:=by
 unfold F1 at h;split at h
 ·rw[Option.bind_eq_some_iff]at h
  obtain⟨a,h1,h2⟩:=h;exact⟨a,by rw[A.h _ _ h1],h2⟩
 ·cases h
theorem jg {F:α→β→Option PV} (h:F2 A B F ps=some r):∃a b,ps=[A.e a,B.e b]∧F a b=some r:=by
 unfold F2 at h;split at h
 ·simp only[Option.bind_eq_some_iff]at h
  obtain⟨a,h1,b,h2,h3⟩:=h;exact⟨a,b,by rw[A.h _ _ h1,B.h _ _ h2],h3⟩
 ·cases h
theorem aaJ {F:α→β→γ→Option PV} (h:F3 A B C F ps=some r):∃a b c,ps=[A.e a,B.e b,C.e c]∧F a b c=some r:=by
 unfold F3 at h;split at h
 ·simp only[Option.bind_eq_some_iff]at h
  obtain⟨a,h1,b,h2,c,h3,h4⟩:=h;exact⟨a,b,c,by rw[A.h _ _ h1,B.h _ _ h2,C.h _ _ h3],h4⟩
 ·cases h
theorem apY {F:α→β→γ→δ→Option PV} (h:F4 A B C D F ps=some r):∃a b c d,ps=[A.e a,B.e b,C.e c,D.e d]∧F a b c d=some r:=by
 unfold F4 at h;split at h
 ·simp only[Option.bind_eq_some_iff]at h
  obtain⟨a,h1,b,h2,c,h3,d,h4,h5⟩:=h;exact⟨a,b,c,d,by rw[A.h _ _ h1,B.h _ _ h2,C.h _ _ h3,D.h _ _ h4],h5⟩
 ·cases h
theorem kW {C:α→Prop} [∀a,Decidable (C a)] {R:α→PV} (h:F1 A (fun a=>if C a then some (R a)else none) ps=some r):∃a,ps=[A.e a]∧C a∧R a=r:=by
 obtain⟨a,h1,h2⟩:=bG h;split at h2
 ·rename_i hc;cases h2;exact⟨a,h1,hc,rfl⟩
 ·cases h2
theorem gy {C:α→β→Prop} [∀a b,Decidable (C a b)] {R:α→β→PV} (h:F2 A B (fun a b=>if C a b then some (R a b)else none) ps=some r):∃a b,ps=[A.e a,B.e b]∧C a b∧R a b=r:=by
 obtain⟨a,b,h1,h2⟩:=jg h;split at h2
 ·rename_i hc;cases h2;exact⟨a,b,h1,hc,rfl⟩
 ·cases h2
theorem wI {G:α→β→γ→Prop} [∀a b c,Decidable (G a b c)] {R:α→β→γ→PV} (h:F3 A B C (fun a b c=>if G a b c then some (R a b c)else none) ps=some r):∃a b c,ps=[A.e a,B.e b,C.e c]∧G a b c∧R a b c=r:=by
 obtain⟨a,b,c,h1,h2⟩:=aaJ h;split at h2
 ·rename_i hc;cases h2;exact⟨a,b,c,h1,hc,rfl⟩
 ·cases h2
theorem aub {G:α→β→γ→δ→Prop} [∀a b c d,Decidable (G a b c d)] {R:α→β→γ→δ→PV} (h:F4 A B C D (fun a b c d=>if G a b c d then some (R a b c d)else none) ps=some r):∃a b c d,ps=[A.e a,B.e b,C.e c,D.e d]∧G a b c d∧R a b c d=r:=by
 obtain⟨a,b,c,d,h1,h2⟩:=apY h;split at h2
 ·rename_i hc;cases h2;exact⟨a,b,c,d,h1,hc,rfl⟩
 ·cases h2
theorem fM {F:α→Option PV} (a:α):F1 A F [A.e a]=F a:=by simp[F1,A.h']
theorem gY {F:α→β→Option PV} (a:α) (b:β):F2 A B F [A.e a,B.e b]=F a b:=by simp[F2,A.h',B.h']
theorem yX {F:α→β→γ→Option PV} (a:α) (b:β) (c:γ):F3 A B C F [A.e a,B.e b,C.e c]=F a b c:=by simp[F3,A.h',B.h',C.h']
theorem aso {F:α→β→γ→δ→Option PV} (a:α) (b:β) (c:γ) (d:δ):F4 A B C D F [A.e a,B.e b,C.e c,D.e d]=F a b c d:=by simp[F4,A.h',B.h',C.h',D.h']
end
def dI:Dec Int:={d:=fun| .val (.int .i64 n)=>some n|_=>none,e:=fun n=> .val (.int .i64 n),h:=fun p a h=>by split at h<;>simp_all,h':=fun a=>rfl}
def dU:Dec Int:={d:=fun| .val (.int .u8 n)=>some n|_=>none,e:=fun n=> .val (.int .u8 n),h:=fun p a h=>by split at h<;>simp_all,h':=fun a=>rfl}
def dB:Dec Bool:={d:=fun| .val (.bool n)=>some n|_=>none,e:=fun n=> .val (.bool n),h:=fun p a h=>by split at h<;>simp_all,h':=fun a=>rfl}
def dS:Dec ByteArray:={d:=fun| .val (.string n)=>some n|_=>none,e:=fun n=> .val (.string n),h:=fun p a h=>by split at h<;>simp_all,h':=fun a=>rfl}
def dFn (f:Nat):Dec Unit where
 d:=fun| .val (.func (.func g) a b)=>if g=f∧a.size=0∧b.size=0 then some ()else none|_=>none
 e:=fun _=> .val (.func (.func f) #[] #[])
 h:=fun p a h=>by
  split at h
  ·split at h
   ·rename_i hh
    obtain⟨rfl,h1,h2⟩:=hh;rw[Array.eq_empty_of_size_eq_zero h1,Array.eq_empty_of_size_eq_zero h2]
   ·cases h
  ·cases h
 h':=fun a=>by simp
theorem ac3 {α:Type} (A:Dec α):∀{es:List PV} {l:List α},es.mapM A.d=some l→es=l.map A.e
 |[],l,h=>by simp only[List.mapM_nil,Option.pure_def,Option.some.injEq]at h;subst h;rfl
 |e::es,l,h=>by rw[mapM_cons',Option.bind_eq_some_iff]at h;obtain⟨a,h1,h2⟩:=h;rw[Option.map_eq_some_iff]at h2;obtain⟨l',h3,rfl⟩:=h2;rw[List.map_cons,A.h _ _ h1,ac3 A h3]
theorem adC {α:Type} (A:Dec α):∀(l:List α),(l.map A.e).mapM A.d=some l
 |[]=>rfl
 |a::l=>by rw[List.map_cons,mapM_cons',A.h',adC A l];rfl
def dL {α:Type} (sz:Nat) (A:Dec α):Dec (List α) where
 d:=fun| .lst false s es=>if s=sz then es.mapM A.d else none|_=>none
 e:=fun l=> .lst false sz (l.map A.e)
 h:=fun p a h=>by
  split at h
  ·split at h
   ·rename_i hs
    subst hs;rw[ac3 A h]
   ·cases h
  ·cases h
 h':=fun a=>by show(if sz=sz then(a.map A.e).mapM A.d else none)=some a;rw[if_pos rfl,adC]
abbrev dIs:=dL 1 dI
abbrev dUs:=dL 1 dU
abbrev dSs:=dL 1 dS
def dA2 {α β:Type} (A:Dec α) (B:Dec β):Dec (α×β) where
 d:=fun| .agg [p,q]=>(A.d p).bind fun a=>(B.d q).map fun b=>(a,b)|_=>none
 e:=fun x=> .agg [A.e x.1,B.e x.2]
 h:=fun p a h=>by
  split at h
  ·simp only[Option.bind_eq_some_iff,Option.map_eq_some_iff]at h
   obtain⟨x,h1,y,h2,rfl⟩:=h;rw[A.h _ _ h1,B.h _ _ h2]
  ·cases h
 h':=fun a=>by simp[A.h',B.h']
def dA3 {α β γ:Type} (A:Dec α) (B:Dec β) (C:Dec γ):Dec (α×β×γ) where
 d:=fun| .agg [p,q,r]=>(A.d p).bind fun a=>(B.d q).bind fun b=>(C.d r).map fun c=>(a,b,c)|_=>none
 e:=fun x=> .agg [A.e x.1,B.e x.2.1,C.e x.2.2]
 h:=fun p a h=>by
  split at h
  ·simp only[Option.bind_eq_some_iff,Option.map_eq_some_iff]at h
   obtain⟨x,h1,y,h2,z,h3,rfl⟩:=h;rw[A.h _ _ h1,B.h _ _ h2,C.h _ _ h3]
  ·cases h
 h':=fun a=>by simp[A.h',B.h',C.h']
def dA4 {α β γ δ:Type} (A:Dec α) (B:Dec β) (C:Dec γ) (D:Dec δ):Dec (α×β×γ×δ) where
 d:=fun| .agg [p,q,r,s]=>(A.d p).bind fun a=>(B.d q).bind fun b=>(C.d r).bind fun c=>(D.d s).map fun d=>(a,b,c,d)|_=>none
 e:=fun x=> .agg [A.e x.1,B.e x.2.1,C.e x.2.2.1,D.e x.2.2.2]
 h:=fun p a h=>by
  split at h
  ·simp only[Option.bind_eq_some_iff,Option.map_eq_some_iff]at h
   obtain⟨x,h1,y,h2,z,h3,t,h4,rfl⟩:=h;rw[A.h _ _ h1,B.h _ _ h2,C.h _ _ h3,D.h _ _ h4]
  ·cases h
 h':=fun a=>by simp[A.h',B.h',C.h',D.h']
def dA5 {α β γ δ ε:Type} (A:Dec α) (B:Dec β) (C:Dec γ) (D:Dec δ) (E:Dec ε):Dec (α×β×γ×δ×ε) where
 d:=fun| .agg [p,q,r,s,t]=>(A.d p).bind fun a=>(B.d q).bind fun b=>(C.d r).bind fun c=>(D.d s).bind fun d=>(E.d t).map fun e=>(a,b,c,d,e)|_=>none
 e:=fun x=> .agg [A.e x.1,B.e x.2.1,C.e x.2.2.1,D.e x.2.2.2.1,E.e x.2.2.2.2]
 h:=fun p a h=>by
  split at h
  ·simp only[Option.bind_eq_some_iff,Option.map_eq_some_iff]at h
   obtain⟨x,h1,y,h2,z,h3,t,h4,u,h5,rfl⟩:=h;rw[A.h _ _ h1,B.h _ _ h2,C.h _ _ h3,D.h _ _ h4,E.h _ _ h5]
  ·cases h
 h':=fun a=>by simp[A.h',B.h',C.h',D.h',E.h']
theorem aJ {α β γ δ ε:Type} (A:Dec α) (B:Dec β) (C:Dec γ) (D:Dec δ) (E:Dec ε):(dA5 A B C D E).e=fun x=> .agg [A.e x.1,B.e x.2.1,C.e x.2.2.1,D.e x.2.2.2.1,E.e x.2.2.2.2]:=rfl
theorem bR:dI.e=fun n=> .val (.int .i64 n):=rfl
theorem bV:dU.e=fun n=> .val (.int .u8 n):=rfl
theorem bT:dB.e=fun n=> .val (.bool n):=rfl
theorem bU:dS.e=fun n=> .val (.string n):=rfl
theorem aI (f:Nat):(dFn f).e=fun _=> .val (.func (.func f) #[] #[]):=rfl
theorem bW {α:Type} (sz:Nat) (A:Dec α):(dL sz A).e=fun l=> .lst false sz (l.map A.e):=rfl
theorem aL {α β:Type} (A:Dec α) (B:Dec β):(dA2 A B).e=fun x=> .agg [A.e x.1,B.e x.2]:=rfl
theorem aO {α β γ:Type} (A:Dec α) (B:Dec β) (C:Dec γ):(dA3 A B C).e=fun x=> .agg [A.e x.1,B.e x.2.1,C.e x.2.2]:=rfl
theorem aH {α β γ δ:Type} (A:Dec α) (B:Dec β) (C:Dec γ) (D:Dec δ):(dA4 A B C D).e=fun x=> .agg [A.e x.1,B.e x.2.1,C.e x.2.2.1,D.e x.2.2.2]:=rfl
theorem apK (f:Nat):aq7 (.val (.func (.func f) #[] #[]))=some f:=rfl
theorem alF {P:Program} {Γ:Ctx} {ob:bn} {tm:Nat→PV} {ty:Nat} {x:Operand} {xs:Array Operand} {ts:Array TypeId}:aV P Γ ob (look tm) ty (.call {callee:=.value x,args:=xs,argTypes:=ts})=
 (match aq7 (look tm x)with|some f=>yN Γ ob f (xs.toList.map (look tm))|none=>none):=by
 simp only[aV];cases aq7 (look tm x)with
 |none=>rfl
 |some f=>rfl
section
variable {P:Program} {Γ:Ctx} {ob:bn} {ρ:Operand→PV} {ty:Nat}
theorem ao8 (x:Operand):aV P Γ ob ρ ty (.move x)=some (ρ x):=rfl
theorem afQ (x:Operand):aV P Γ ob ρ ty (.assign x)=some (ρ x):=rfl
def atM (c x y:PV):Option PV:=match c with| .val (.bool b)=>some (if b then x else y)|_=>none
theorem aqo (b:Bool) (x y:PV):atM (.val (.bool b)) x y=some (if b=true then x else y):=rfl
theorem am1 (c x y:Operand):aV P Γ ob ρ ty (.pick c x y)=atM (ρ c) (ρ x) (ρ y):=by simp only[aV];rfl
theorem ajx (t:Nat) (ps:Array (Nat×Operand)):aV P Γ ob ρ ty (.build t ps)=fB P t (partsOf ρ ps):=rfl
def avP (r:Option (Nat×Nat×List PV)):Option PV:=match r with|some (_,sz,es)=>some (.lst true sz es)|none=>none
theorem wM (t n:Nat) (ps:Array (Nat×Operand)):aV P Γ ob ρ ty (.buildSlice t n ps)=avP (iC P t n (partsOf ρ ps)):=rfl
def ah9 (P:Program) (t:Nat) (x:PV) (c:Option (Nat×Nat×List PV)):Option PV:=match x with
    | .own o sz i f=>match c with
      |some (_,sz',es)=>if sz=sz' then(es[i]?).bind (aap P t f)else none
      |none=>none
    | .ptr _ e f=>aap P t f e
    |_=>none
theorem apG (t:Nat) (x:Operand):aV P Γ ob ρ ty (.load t x)=ah9 P t (ρ x) (aal ob (ρ x)):=by simp only[aV];unfold ah9 aal;cases ρ x<;>rfl
theorem ahi (t:Nat) (k:Bool) (e:PV) (f:Nat) (c:Option (Nat×Nat×List PV)):ah9 P t (.ptr k e f) c=aap P t f e:=rfl
theorem afJ (t o sz i f T:Nat) (es:List PV):ah9 P t (.own o sz i f) (some (T,sz,es))=(es[i]?).bind (aap P t f):=by simp[ah9]
theorem alx (o sz i n:Nat):aal ob (.row o sz i n)=ob o:=rfl
theorem alf (o sz i f:Nat):aal ob (.own o sz i f)=ob o:=rfl
theorem alu (k:Bool) (e:PV) (f:Nat):aal ob (.ptr k e f)=none:=rfl
theorem ajk (v:Value):aal ob (.val v)=none:=rfl
theorem alm (k:Bool) (sz:Nat) (es:List PV):aal ob (.lst k sz es)=none:=rfl
def awo:PV→Option PV
    | .own o sz i f=>some (.own o sz i f)
    | .ptr k e f=>some (.ptr k e f)
    |_=>none
theorem aaK (x:Operand):aV P Γ ob ρ ty (.nilCheck x)=awo (ρ x):=rfl
theorem ak6 (o sz i f:Nat):awo (.own o sz i f)=some (.own o sz i f):=rfl
theorem ajX (k:Bool) (e:PV) (f:Nat):awo (.ptr k e f)=some (.ptr k e f):=rfl
def mK (P:Program) (b:BinOp) (t:Nat) (x y:Operand):Option Value→Option Value→Option PV
 |some u,some v=>(av P (do eqGuard b t x y u v;binOp b t u v)).map .val
 |_,_=>none
theorem akK (b:BinOp) (t:Nat) (x y:Operand) (t':Nat):aV P Γ ob ρ ty (.binOp b t x y t')=mK P b t x y (toVal (ρ x)) (toVal (ρ y)):=rfl
section
variable {t:Nat} {x y:Operand} {k:IntKind} {m n:Int}
theorem at5:mK P .add t x y (some (.int k m)) (some (.int k n))=some (.val (.int k (k.wrap (m+n)))):=by simp only[mK,arZ,Option.map_some]
theorem aum:mK P .sub t x y (some (.int k m)) (some (.int k n))=some (.val (.int k (k.wrap (m-n)))):=by simp only[mK,auk,Option.map_some]
theorem arx:mK P .mul t x y (some (.int k m)) (some (.int k n))=some (.val (.int k (k.wrap (m*n)))):=by simp only[mK,atH,Option.map_some]
theorem asv (h:n≠0):mK P .quo t x y (some (.int k m)) (some (.int k n))=some (.val (.int k (k.wrap (m.tdiv n)))):=by simp only[mK,atz h,Option.map_some]
theorem asT (h:n≠0):mK P .rem t x y (some (.int k m)) (some (.int k n))=some (.val (.int k (m.tmod n))):=by simp only[mK,asG h,Option.map_some]
theorem aq8:mK P .lss t x y (some (.int k m)) (some (.int k n))=some (.val (.bool (decide (m<n)))):=by simp only[mK,arD,Option.map_some]
theorem auj:mK P .leq t x y (some (.int k m)) (some (.int k n))=some (.val (.bool (decide (m≤n)))):=by simp only[mK,asW,Option.map_some]
theorem aty:mK P .gtr t x y (some (.int k m)) (some (.int k n))=some (.val (.bool (decide (n<m)))):=by simp only[mK,arM,Option.map_some]
theorem asj:mK P .geq t x y (some (.int k m)) (some (.int k n))=some (.val (.bool (decide (n≤m)))):=by simp only[mK,att,Option.map_some]
theorem arF:mK P .eql t x y (some (.int k m)) (some (.int k n))=some (.val (.bool (decide (m=n)))):=by simp only[mK,asB,Option.map_some]
theorem arP:mK P .neq t x y (some (.int k m)) (some (.int k n))=some (.val (.bool (!decide (m=n)))):=by simp only[mK,auF,Option.map_some]
theorem asg {a b:Bool} (h:P.underlying t=some .bool):av P (Op.equal t (.bool a) (.bool b))=some (a==b):=by unfold Op.equal Op.maxDepth;rw[show(10000:Nat)=9999+1 from rfl,Op.equalIn];simp[underlying,Go.program,bind,Sem.bind,pure,av,h]
theorem pK {α β:Type} {P:Program} {m:Sem α} {x:α} (h:av P m=some x) (f:α→Sem β):av P (m>>=f)=av P (f x):=by
 show av P (m.bind f)=_
 induction m with
 |pure a=>simp only[av,Option.some.injEq]at h;subst h;rfl
 |program k ih=>simp only[av]at h;simp only[Sem.bind,av];exact ih P h
 |_=>simp[av]at h
theorem aqw {a b:Bool} (h:P.underlying t=some .bool):mK P .neq t x y (some (.bool a)) (some (.bool b))=some (.val (.bool (!(a==b)))):=by
 have h1:av P (eqGuard .neq t x y (.bool a) (.bool b))=some ():=by simp[eqGuard,pure,av]
 have h2:av P (binOp .neq t (.bool a) (.bool b))=some (.bool (!(a==b))):=by show av P (Op.equal t (.bool a) (.bool b)>>=fun r=>pure (Value.bool (!r)))=_;rw[pK (asg h)];rfl
 simp only[mK];rw[pK h1,h2];rfl
end
def unP (P:Program) (u:UnOp):Option Value→Option PV
 |some v=>(av P (Op.unary u v)).map .val
 |none=>none
theorem anf (u:UnOp) (t:Nat) (x:Operand):aV P Γ ob ρ ty (.unOp u t x)=unP P u (toVal (ρ x)):=rfl
theorem asU {b:Bool}:unP P .not (some (.bool b))=some (.val (.bool !b)):=by simp only[unP,atB,Option.map_some]
def zL (P:Program) (src dst:Nat) (b:Bool) (es:Option (List PV)) (v:Option Value):Option PV:=
 if b=true then(es.bind iQ).map fun ns=> .val (.string (bytesOf ns))else match v with|some v=>(av P (convert src dst v)).map .val|none=>none
theorem aeT (src dst:Nat) (x:Operand):aV P Γ ob ρ ty (.convert src dst x)=zL P src dst (dY P src&&isStr P dst) (bB ob 1 (ρ x)) (toVal (ρ x)):=by
 simp only[aV,zL];by_cases h:dY P src=true∧isStr P dst=true
 ·rw[if_pos h,if_pos (by simp[h.1,h.2])]
 ·rw[if_neg h,if_neg (by simpa using h)]
  cases toVal (ρ x)<;>rfl
theorem amV {src dst:Nat} {d:TypeDesc} {k k':IntKind} {n:Int} {es:Option (List PV)} (h:P.underlying src=some d) (h':P.underlying dst=some (.int k')):zL P src dst false es (some (.int k n))=some (.val (.int k' (k'.wrap n))):=by simp[zL,apL h h']
theorem aua {src dst:Nat} {es:List PV} {v:Option Value}:zL P src dst true (some es) v=(iQ es).map fun ns=> .val (.string (bytesOf ns)):=by simp[zL]
def avA (k:Option Nat):PV→Option PV
 | .own o sz i c=>match k with|some k=>some (.own o sz i (c+k))|none=>none
 | .ptr b e c=>match k with|some k=>some (.ptr b e (c+k))|none=>none
 |_=>none
theorem zS (t:Nat) (x:Operand) (f:Nat):aV P Γ ob ρ ty (.fieldAddr t x f)=avA (aQ P t f) (ρ x):=by simp only[aV];unfold avA;cases ρ x<;>cases aQ P t f<;>rfl
theorem akl (k o sz i c:Nat):avA (some k) (.own o sz i c)=some (.own o sz i (c+k)):=rfl
theorem akk (k:Nat) (b:Bool) (e:PV) (c:Nat):avA (some k) (.ptr b e c)=some (.ptr b e (c+k)):=rfl
def av3 (P:Program) (t:Nat) (x:PV):PV→Option PV
 | .val (.int _ n)=>aG P t x n
 |_=>none
theorem yD (t:Nat) (x i:Operand):aV P Γ ob ρ ty (.indexAddr t x i)=av3 P t (ρ x) (ρ i):=by simp only[aV];unfold av3 asI;split<;>(split at*<;>simp_all)
theorem ak2 (t:Nat) (x:PV) (k:IntKind) (n:Int):av3 P t x (.val (.int k n))=aG P t x n:=rfl
def avq (P:Program) (t:Nat):Option Value→Option Value→Option PV
 |some u,some v=>(av P (Instr.index t u v)).map .val
 |_,_=>none
theorem alD (t:Nat) (x i:Operand):aV P Γ ob ρ ty (.index t x i)=avq P t (toVal (ρ x)) (toVal (ρ i)):=rfl
def axO (i:Nat):PV→Option PV
 | .tup vs=>vs[i]?
 |_=>none
theorem afb (x:Operand) (i:Nat):aV P Γ ob ρ ty (.extract x i)=axO i (ρ x):=rfl
theorem aln (i:Nat) (vs:List PV):axO i (.tup vs)=vs[i]?:=rfl
def qm (P:Program) (t ty:Nat) (x:PV):Option PV:=match zy P t x with
 |some p=>some p
 |none=>match toVal x with
  |some v=>((av P (Builtin.len_ #[t] ty #[v]))).map .val
  |none=>none
theorem avl (x:Operand) (t:Nat):aV P Γ ob ρ ty (.call {callee:=.builtin .len,args:=#[x],argTypes:=#[t]})=qm P t ty (ρ x):=rfl
theorem uy {t ty sz e:Nat} {k:Bool} {es:List PV} (h:bX P t=some e):qm P t ty (.lst k sz es)=some (.val (.int .i64 es.length)):=by simp[qm,zy,h]
theorem ady {t ty o sz i n e:Nat} (h:bX P t=some e):qm P t ty (.row o sz i n)=some (.val (.int .i64 n)):=by simp[qm,zy,h]
theorem aup {t ty:Nat} {s:ByteArray} (h:P.underlying t=some .string):qm P t ty (.val (.string s))=some (.val (.int .i64 s.size)):=by simp[qm,zy,toVal,aod h]
theorem aiw {t ty e:Nat} (h:P.underlying t=some (.slice e)):qm P t ty (.val (.slice none 0 0))=some (.val (.int .i64 0)):=by simp[qm,zy,toVal,Builtin.len_,underlying,Go.program,bind,Sem.bind,pure,av,h,goInt]
theorem atl (xs:Array Operand) (ts:Array TypeId):aV P Γ ob ρ ty (.call {callee:=.builtin .max,args:=xs,argTypes:=ts})=(match jQ (xs.toList.map ρ)with|some vs=>(av P (Builtin.max_ ts ty vs.toArray)).map .val|none=>none):=rfl
theorem au0 (xs:Array Operand) (ts:Array TypeId):aV P Γ ob ρ ty (.call {callee:=.builtin .min,args:=xs,argTypes:=ts})=(match jQ (xs.toList.map ρ)with|some vs=>(av P (Builtin.min_ ts ty vs.toArray)).map .val|none=>none):=rfl
def aq2 (P:Program) (t:Nat) (x:PV) (lo hi:Option (Option Int)):Option PV:=match x with
    | .val (.string s)=>match lo,hi with
      |some l,some h=>(av P (Instr.sliceAt t (.string s) (l.map (Value.int .i64)) (h.map (Value.int .i64)) none)).map .val
      |_,_=>none
    |p=>match lo,hi with
     |some l,some h=>je P t p l h
     |_,_=>none
theorem akz (t:Nat) (x:Operand) (lo hi:Option Operand):aV P Γ ob ρ ty (.slice t x lo hi none)=aq2 P t (ρ x) (ajc (lo.map ρ)) (ajc (hi.map ρ)):=by
 simp only[aV];unfold aq2;cases ρ x with
 |val v=>cases v<;>rfl
 |_=>rfl
theorem au1 (t:Nat) (k:Bool) (sz:Nat) (es:List PV) (lo hi:Option Int):aq2 P t (.lst k sz es) (some lo) (some hi)=je P t (.lst k sz es) lo hi:=rfl
theorem auc (t:Nat) (o sz i n:Nat) (lo hi:Option Int):aq2 P t (.row o sz i n) (some lo) (some hi)=je P t (.row o sz i n) lo hi:=rfl
def arG (t:Nat) (s:AS) (x:PV):Option (List PV)→Option (PV×bn×Nat)
 |some cs=>some (.own s.nx cs.length 0 0,upd s.ob s.nx (some (t,cs.length,[x])),s.nx+1)
 |none=>none
theorem aud (s:AS) (t:Nat) (x:Operand):aY P Γ s ρ (.box t x)=arG t s (ρ x) (bA (ρ x)):=rfl
theorem aoE (t:Nat) (s:AS) (x:PV) (cs:List PV):arG t s x (some cs)=some (.own s.nx cs.length 0 0,upd s.ob s.nx (some (t,cs.length,[x])),s.nx+1):=rfl
def axY (n:Nat) (s:AS):Option (Nat×Nat×List PV)→Option (PV×bn×Nat)
 |some (e,sz,es)=>some (.row s.nx sz 0 n,upd s.ob s.nx (some (e,sz,es)),s.nx+1)
 |none=>none
theorem vG (s:AS) (t n:Nat) (ps:Array (Nat×Operand)):aY P Γ s ρ (.buildSlice t n ps)=axY n s (iC P t n (partsOf ρ ps)):=rfl
theorem anx (n:Nat) (s:AS) (e sz:Nat) (es:List PV):axY n s (some (e,sz,es))=some (.row s.nx sz 0 n,upd s.ob s.nx (some (e,sz,es)),s.nx+1):=rfl
theorem afg {v:Value} (h:v.oneCell'=true):bA (.val v)=some [.val v]:=by simp[bA,lF,h]
theorem aes (k:Bool) (sz:Nat) (es:List PV):bA (.lst k sz es)=some [.lst k sz es]:=rfl
theorem afs (o sz i n:Nat):bA (.row o sz i n)=some [.row o sz i n]:=rfl
theorem aep (o sz i n:Nat):bA (.own o sz i n)=some [.own o sz i n]:=rfl
theorem ak8 (v:Value):lF (.val v)=v.oneCell':=rfl
theorem ajs (k:Bool) (sz:Nat) (es:List PV):lF (.lst k sz es)=true:=rfl
theorem alC (o sz i n:Nat):lF (.row o sz i n)=true:=rfl
theorem akS (o sz i n:Nat):lF (.own o sz i n)=true:=rfl
def asX (ag:Option Bool) (k:Option Nat) (f:Nat):Option (List PV)→Option PV
 |some cs=>match ag,k with
  |some true,some k=>if f+k≤cs.length then some (.agg ((cs.drop f).take k))else none
  |some false,_=>cs[f]?
  |_,_=>none
 |none=>none
theorem anB (t f:Nat) (e:PV):aap P t f e=asX (jC P t) (aX P t) f (bA e):=by unfold aap asX;cases bA e<;>cases jC P t<;>cases aX P t<;>first|rfl|(rename_i b _;cases b<;>rfl)|(rename_i b;cases b<;>rfl)|skip
theorem ale (k:Option Nat) (f:Nat) (cs:List PV):asX (some false) k f (some cs)=cs[f]?:=by cases k<;>rfl
theorem ajP (k f:Nat) (cs:List PV) (h:f+k≤cs.length):asX (some true) (some k) f (some cs)=some (.agg ((cs.drop f).take k)):=by simp[asX,h]
end
theorem ajg {a b:Int} (h:0≤a):a.tdiv b=a/b:=Int.tdiv_eq_ediv_of_nonneg h
theorem akQ {a b:Int} (h:0≤a):a.tmod b=a % b:=Int.tmod_eq_emod_of_nonneg h
def kH {α:Type} (zs:List α) (z:α) (k:Nat):List α:=zs.take k++List.replicate (zs.length-k) z
theorem j4 {α:Type} {zs:List α} {z:α} {k:Nat}:(kH zs z k).length=zs.length:=by simp[kH];omega
theorem oH {α:Type} {zs:List α} {z:α}:kH zs z 0=List.replicate zs.length z:=by simp[kH]
theorem lq {α:Type} {zs:List α} {z:α} {k:Nat} (h:zs.length≤k):kH zs z k=zs:=by simp[kH,List.take_of_length_le h,Nat.sub_eq_zero_of_le h]
theorem tF {α:Type} {zs:List α} {z:α} {k:Nat} {y:α} (h:k<zs.length) (hy:zs[k]?=some y):(kH zs z k).set k y=kH zs z (k+1):=by
 have e:zs.length-k=(zs.length-(k+1))+1:=by omega
 have hl:(zs.take k).length=k:=by simp;omega
 unfold kH;rw[List.set_append_right _ _ (by omega),hl,Nat.sub_self,e,List.replicate_succ,List.set_cons_zero,List.take_add_one,hy];simp
theorem aei (k:IntKind) (n:Int):bA (.val (.int k n))=some [.val (.int k n)]:=rfl
theorem abN (b:Bool):bA (.val (.bool b))=some [.val (.bool b)]:=rfl
theorem aeH (b:ByteArray):bA (.val (.string b))=some [.val (.string b)]:=rfl
theorem omg {α β:Type} {f:α→β} {l:List α} {k:Nat} {d:α} (h:k<l.length):Option.map f l[k]?=some (f (l[k]?.getD d)):=by simp[h]
theorem aws {β:Type} {f:Int→β} {l:List Int} {k:Nat} (h:k<l.length):Option.map f l[k]?=some (f (l[k]?.getD 0)):=omg h
theorem axr {β:Type} {f:Bool→β} {l:List Bool} {k:Nat} (h:k<l.length):Option.map f l[k]?=some (f (l[k]?.getD false)):=omg h
theorem avJ {β:Type} {f:ByteArray→β} {l:List ByteArray} {k:Nat} (h:k<l.length):Option.map f l[k]?=some (f (l[k]?.getD .empty)):=omg h
theorem aaH (cs:List PV):bA (.agg cs)=if cs.all lF=true then some cs else none:=rfl
attribute[push_cast]
 anj alF apK ao8 afQ aqo am1 ajx avP wM apG ahi afJ alx alf alu ajk alm aaK ak6 ajX akK at5 aum arx asv asT aq8 auj aty asj arF arP anf asU aeT aua zS akl akk ak2 yD alD afb aln avl atl au0 akz au1 auc aud aoE vG anx aei abN aeH afg aws axr avJ aes afs aep aaH ak8 ajs alC akS anB ale ajP bB ao3 aki alj ath akr aqF aqk aqJ aoj ao2 aqv anP an5 aqC anw aoV afK asS au9 auJ atZ ati ato List.set_cons_zero List.drop_succ_cons List.drop_zero List.drop_nil List.nil_append List.cons_append List.take_succ_cons List.take_zero List.length_set uT ae9 ae3 adS jP rY aeP aeg ae1 ajI alb List.length_replicate look aix arS ajR zV beq_none abt xQ um ahV gu jQ asI ajc List.map_cons List.map_nil Option.map_some Option.map_none Option.bind_some List.getElem?_cons_zero List.getElem?_cons_succ List.getElem?_nil Option.getD_some Option.getD_none afO afH afT aiX ahS decide_true decide_false Bool.true_and Bool.false_and Bool.and_true Bool.and_false Bool.or_true Bool.or_false Bool.true_or Bool.false_or Bool.not_true Bool.not_false Bool.not_not decide_eq_true_eq decide_eq_false_iff_not Bool.not_eq_true' Bool.not_eq_false' if_true if_false ite_true ite_false Bool.false_eq_true atv atY bZ ajg akQ List.length_map List.getElem?_map Int.toNat_natCast afr afj toNat_add Int.natCast_nonneg and_self and_true true_and Nat.zero_add Nat.add_zero Int.natCast_zero Int.natCast_one Int.natCast_add Value.oneCell' List.all_cons List.all_nil List.length_cons List.length_nil Option.isSome_some mapM_nil' mapM_cons' iv bv sv alE agree jk List.lookup_nil List.lookup_cons beq_self_eq_true akR
attribute[push_cast]
 afF aja
section
variable {P:Program} {t:Nat} {x y:Operand}
def at8 (s:ByteArray) (i:Nat):Int:=((s[i]?).getD 0).toNat
theorem ig (s:ByteArray) (i:Nat):0≤at8 s i∧at8 s i≤255:=by unfold at8;have:=((s[i]?).getD 0).toNat_lt;omega
theorem ah8 (a b:ByteArray):(a.toList==b.toList)=decide (a=b):=by
 rw[Bool.eq_iff_iff,decide_eq_true_eq,beq_iff_eq];constructor
 ·intro h
  rw[Go.ByteArray.toList_eq,Go.ByteArray.toList_eq]at h;obtain⟨x⟩:=a;obtain⟨y⟩:=b;simpa using h
 ·rintro rfl
  rfl
theorem akH {a b:ByteArray}:av P (do eqGuard .neq t x y (.string a) (.string b);binOp .neq t (.string a) (.string b))=some (.bool (!(a.toList==b.toList))):=by simp[eqGuard,binOp,Op.stringOp,bind,Sem.bind,pure,av]
theorem apo {a b:ByteArray}:mK P .neq t x y (some (.string a)) (some (.string b))=some (.val (.bool (!decide (a=b)))):=by simp only[mK,akH,ah8,Option.map_some]
theorem atU {s:ByteArray} {i:Int} (h:P.underlying t=some .string) (h0:0≤i) (h1:i<s.size):avq P t (some (.string s)) (some (.int .i64 i))=some (.val (.int .u8 (at8 s i.toNat))):=by
 have hlt:i.toNat<s.size:=by omega
 have hg:s[i.toNat]?=some s[i.toNat]:=getElem?_pos s i.toNat hlt;have:av P (Instr.index t (.string s) (.int .i64 i))=some (.int .u8 (at8 s i.toNat)):=by simp[Instr.index,asIntOf,underlying,Go.program,bind,Sem.bind,pure,av,h,h0,hg,at8]
 simp only[avq,this,Option.map_some]
end
def dW:Nat→PV→Bool
 |0,_=>false
 |_+1,.val _=>true
 |_+1,.dead=>true
 |n+1,.agg cs=>cs.all (dW n)
 |_,_=>false
section
variable {α:Type} {n sz f:Nat} {ob:bn} {k fr:Bool} {g:α→PV} {l:List α}
theorem ace {f:Nat} (h:∀x,dW 2 (g x)=true) (hf:2≤f):(l.map g).mapM (reify fr n ob f)=some (l.map g):=dG fun e he=>by
 obtain⟨x,_,rfl⟩:=List.mem_map.1 he;obtain⟨m,rfl⟩:∃m,f=m+2:=⟨f-2,by omega⟩;have h2:=h x;revert h2;cases g x with
 |val v=>intro _;rfl
 |dead=>intro _;rfl
 |agg cs=>
  intro h2;have h3:∀c∈cs,dW 1 c=true:=by simpa [dW]using h2
  simp only[reify];rw[dG fun c hc=>?_]
  ·rfl
  ·have:=h3 c hc
   cases c with
   |agg cs'=>
    cases cs' with
    |nil=>rfl
    |cons a l=>simp[dW]at this
   |val v=>rfl
   |dead=>rfl
   |_=>simp[dW]at this
 |_=>intro h2;simp[dW]at h2
theorem rD (h:∀x,dW 2 (g x)=true):reify false n ob (f+3) (.lst k sz (l.map g))=some (.lst false sz (l.map g)):=by show(if false=true∧k=false∧(l.map g)≠[]then none else((l.map g).mapM (reify false n ob (f+2))).map (PV.lst false sz))=_;rw[ace h (by omega)];simp
theorem uN {m T:Nat} (h:∀x,dW 2 (g x)=true) (hm:m=l.length):qp fr (f+2) ob sz 0 m (some (T,sz,l.map g))=some (.lst fr sz (l.map g)):=by
 subst hm;have e:((l.map g).drop 0).take l.length=l.map g:=by rw[List.drop_zero,List.take_of_length_le (by simp)]
 simp only[qp,e,ace (n:=0) (fr:=fr) (ob:=ob) h (show 2≤f+2 by omega),Nat.zero_add,List.length_map,Nat.le_refl,and_self,if_true,Option.map_some]
end
section
variable {α:Type} {n sz f:Nat} {ob:bn} {k fr:Bool} {l:List α} {g1 g2 g3 g4:α→Value}
theorem aiF:reify false n ob (f+3) (.lst k sz (l.map fun x=>PV.agg [.val (g1 x),.val (g2 x),.val (g3 x),.val (g4 x)]))=some (.lst false sz (l.map fun x=>PV.agg [.val (g1 x),.val (g2 x),.val (g3 x),.val (g4 x)])):=rD fun _=>rfl
theorem ajZ {m T:Nat} (hm:m=l.length):qp fr (f+2) ob sz 0 m (some (T,sz,l.map fun x=>PV.agg [.val (g1 x),.val (g2 x),.val (g3 x),.val (g4 x)]))=some (.lst fr sz (l.map fun x=>PV.agg [.val (g1 x),.val (g2 x),.val (g3 x),.val (g4 x)])):=uN (fun _=>rfl) hm
end
theorem ag9 {α:Type} {l new:List α} (h:l.length≤new.length):eP l 0 new=new:=by simp[eP,h]
abbrev W2:=ByteArray×Int
abbrev I4:=Int×Int×Int×Int
def w0:W2:=(ByteArray.empty,0)
def i40:I4:=(0,0,0,0)
section
variable {β:Type} {i:Nat}
theorem arI {g:I4→β} {l:List I4} (h:i<l.length):Option.map g l[i]?=some (g ((l[i]?).getD i40)):=by simp[h]
end
abbrev dI4:Dec I4:=dA4 dI dI dI dI
attribute[push_cast]
 apo aiF ajZ arI
attribute[push_cast high]
 ag9
def sK (ps:List PV) (cs:List aU):AS:={tm:=fun t=>(ps[t]?).getD (.val undef),ob:=fun o=>cs[o]?,nx:=cs.length}
def cZ (out:List Nat) (ob:bn):Nat→PV→Option PV
 |0,_=>none
 |n+1,p=>match p with
  | .val v=>some (.val v)
  | .dead=>some .dead
  | .lst k sz es=>(es.mapM (cZ out ob n)).map (.lst k sz)
  | .ptr k e o=>(cZ out ob n e).map (.ptr k · o)
  | .own o sz i f=>match inn out o with
    |some o'=>some (.own o' sz i f)
    |none=>match ob o with
     |some (_,sz',es)=>if sz=sz' then(es[i]?).bind fun e=>(cZ out ob n e).map (.ptr true · f)else none
     |none=>none
  | .row o sz i m=>match inn out o with
    |some o'=>some (.row o' sz i m)
    |none=>match ob o with
     |some (_,sz',es)=>if sz=sz'∧i+m≤es.length then(((es.drop i).take m).mapM (cZ out ob n)).map (.lst true sz)else none
     |none=>none
  | .agg cs=>(cs.mapM (cZ out ob n)).map .agg
  | .tup cs=>(cs.mapM (cZ out ob n)).map .tup
def oq (out:List Nat) (ob:bn) (f:Nat) (o:Nat):Option aU:=(ob o).bind fun c=>(c.2.2.mapM (cZ out ob f)).map fun es=>(c.1,c.2.1,es)
theorem Rep.hand {out:List Nat} {ob:bn} {g g':Gh} {w:World} (hI:∀k b,g.I k b→g'.I k b) (ho:∀o o',inn out o=some o'→g'.β o'=g.β o∧g'.κ o'=g.κ o∧g'.D o')
 (hob:∀o c,ob o=some c→nI g w o c) (hfz:∀o,(ob o).isSome→inn out o=none→g'.I true (g.β o)):
 ∀(f:Nat) (p q:PV) (v:Value),Rep g w p v→cZ out ob f p=some q→Rep g' w q v
 |0,p,q,v,h,hr=>by simp[cZ]at hr
 |f+1,p,q,v,h,hr=>by
  cases p with
  |val u=>simp only[cZ,Option.some.injEq]at hr;subst hr;simpa [Rep]using h
  |dead=>simp only[cZ,Option.some.injEq]at hr;subst hr;simp[Rep]
  |lst k sz es=>
   simp only[cZ,Option.map_eq_some_iff]at hr;obtain⟨es',h1,rfl⟩:=hr;have hl:=(bD h1).1;simp only[Rep]at h⊢;obtain⟨a,cap,rfl,h2,h3,h4⟩:=h;refine⟨a,cap,by rw[hl],by omega,h3,?_⟩;rcases h4 with rfl|⟨b,off,rfl,h5,h6⟩
   ·left;exact List.eq_nil_of_length_eq_zero (by simpa using hl)
   ·right
    exact⟨b,off,rfl,hI _ _ h5,bf.conv (g:=g) (g':=g') (Rep.hand hI ho hob hfz f) h6 h1⟩
  |ptr k e o=>simp only[cZ,Option.map_eq_some_iff]at hr;obtain⟨e',h1,rfl⟩:=hr;simp only[Rep]at h⊢;obtain⟨b,off,rfl,h2,u,h3,h4⟩:=h;exact⟨b,off,rfl,hI _ _ h2,u,Rep.hand hI ho hob hfz f e e' u h3 h1,h4⟩
  |own o sz i c=>
   simp only[cZ]at hr;split at hr
   ·rename_i o' hm
    cases hr;simp only[Rep]at h⊢;obtain⟨e1,_,e3⟩:=ho o o' hm;exact⟨by rw[e1];exact h.1,e3⟩
   ·rename_i hm
    split at hr
    ·rename_i T sz' es hoo
     split at hr
     case isFalse=>cases hr
     case isTrue hsz=>subst hsz;simp only[Option.bind_eq_some_iff,Option.map_eq_some_iff]at hr;obtain⟨e,he,e',h1,rfl⟩:=hr;simp only[Rep]at h⊢;obtain⟨rfl,hlt⟩:=h;obtain⟨u,h2,h3,h4⟩:=(hob o _ hoo).2.2.get he;exact⟨g.β o,i*sz,rfl,hfz o (by simp[hoo]) hm,u,Rep.hand hI ho hob hfz f e e' u h2 h1,by simpa using h3⟩
    ·cases hr
  |row o sz i m=>
   simp only[cZ]at hr;split at hr
   ·rename_i o' hm
    cases hr;simp only[Rep]at h⊢;obtain⟨c,h1,h2,h3,h4,h5⟩:=h;obtain⟨e1,e2,e3⟩:=ho o o' hm;exact⟨c,by rw[e1];exact h1,h2,h3,by rw[e2];exact h4,e3⟩
   ·rename_i hm
    split at hr
    ·rename_i T sz' es hoo
     split at hr
     case isFalse=>cases hr
     case isTrue hsz=>
      obtain⟨rfl,hle⟩:=hsz;simp only[Option.map_eq_some_iff]at hr;obtain⟨es',h1,rfl⟩:=hr;have hl:=(bD h1).1;have hl2:es'.length=m:=by rw[hl];simp;omega
      simp only[Rep]at h⊢;obtain⟨c,rfl,h2,h3,h4,h5⟩:=h;refine⟨_,c,by rw[hl2],by omega,h3,.inr ⟨g.β o,i*sz,rfl,hfz o (by simp[hoo]) hm,?_⟩⟩;have:=((hob o _ hoo).2.2.drop i).take m;exact bf.conv (g:=g) (g':=g') (Rep.hand hI ho hob hfz f) (by simpa using this) h1
    ·cases hr
  |agg cs=>simp only[cZ,Option.map_eq_some_iff]at hr;obtain⟨cs',h1,rfl⟩:=hr;simp only[Rep]at h⊢;obtain⟨vs,rfl,h2⟩:=h;exact⟨vs,rfl,bI.conv (g:=g) (g':=g') (Rep.hand hI ho hob hfz f) h2 h1⟩
  |tup cs=>simp only[cZ,Option.map_eq_some_iff]at hr;obtain⟨cs',h1,rfl⟩:=hr;simp only[Rep]at h⊢;obtain⟨vs,rfl,h2⟩:=h;exact⟨vs,rfl,bI.conv (g:=g) (g':=g') (Rep.hand hI ho hob hfz f) h2 h1⟩
section
variable {P:Program} {Γ:Ctx}
theorem ow {f:Nat} {fn:Func} {c:Code} {Φ:iD} (hΓ:au P Γ) (hf:P.funcs[f]?=some fn) (hb:fn.body=some c)
 (hlen:∀ps cs r,Φ ps cs=some r→ps.length≤fn.ntmps)
 (h:∀ps cs r cs',Φ ps cs=some (r,cs')→∃x s' qs out,Ev P Γ fn.ntmps c (sK ps cs) x s'∧(x=.normal∨x=.ret)∧eY P s' fn.results.toList=some qs∧cZ out s'.ob fuel (fG qs)=some r∧
   cs.length≤out.length∧(∀o:Nat,o<cs.length→out[o]?=some o)∧out.Nodup∧out.mapM (oq out s'.ob fuel)=some cs'):eO P f Φ:=by
 intro w J β κ ps cs args r cs' hr hJ hO hT hargs;obtain⟨x,s',qs,out,hev,hx,hres,hren,hol,hof,hond,hobs0⟩:=h ps cs r cs' hr;have hsz:args.size=ps.length:=by simpa using hargs.get.1
 have hle:=hlen ps cs _ hr;have hocs:cs'.length=out.length:=(bD hobs0).1;have hobs:∀(i o:Nat),out[i]?=some o→∃T sz es es',s'.ob o=some (T,sz,es)∧es.mapM (cZ out s'.ob fuel)=some es'∧cs'[i]?=some (T,sz,es'):=fun i o hi=>by obtain⟨c1,h1,h2⟩:=(bD hobs0).2 i o hi;unfold oq at h2;simp only[Option.bind_eq_some_iff,Option.map_eq_some_iff]at h2;obtain⟨⟨T,sz,es⟩,h3,es',h4,rfl⟩:=h2;exact⟨T,sz,es,es',h3,h4,h1⟩
 have hinit:Rel ⟨fun b=>∃o,o<cs.length∧b=β o,J false,cs.length,β,κ,J true,fun _=>False⟩ w fn.ntmps (d9 J β κ cs.length) (sK ps cs) {tmps:=args++Array.replicate (fn.ntmps-args.size) undef,defers:=[]} w:=by
  refine⟨by simp;omega,rfl,fun t=>?_,fun o c ho=>?_,fun o o' ho ho' he=>?_,rfl,fun k b hi=>hJ k b hi,fun b hi=> .inr hi,Fr.refl _ _,fun b hi=>hi,⟨fun o ho=>⟨ho,fun q=>q⟩,fun o ho=>⟨rfl,rfl⟩⟩,fun o ho=>False.elim ho,hT⟩
  ·simp only[sK]
   cases hp:ps[t]? with
   |none=>
    have hge:ps.length≤t:=by simpa using hp
    have:(args++Array.replicate (fn.ntmps-args.size) undef).getD t undef=undef:=by simp only[Array.getD_eq_getD_getElem?];rw[Array.getElem?_append_right (by omega)];simp only[Array.getElem?_replicate];split<;>rfl
    rw[this];simp[Rep]
   |some p=>
    obtain⟨v,hv,hrep⟩:=hargs.get.2 t p hp;have hlt:t<args.size:=by have:=(List.getElem?_eq_some_iff.1 hp).1;omega
    have:(args++Array.replicate (fn.ntmps-args.size) undef).getD t undef=v:=by
     simp only[Array.getD_eq_getD_getElem?];rw[Array.getElem?_append_left hlt];have:args[t]?=some v:=by simpa using hv
     simp[this]
    rw[this];exact hrep
  ·have hlt:o<cs.length:=(List.getElem?_eq_some_iff.1 ho).1
   exact⟨⟨hlt,fun q=>q⟩,.inr ⟨o,hlt,rfl⟩,fun k hi=>(hO.lt o hlt).2 k hi,hO.at_ o c ho⟩
  ·have h1:o<cs.length:=by obtain⟨c,hc⟩:=Option.isSome_iff_exists.1 ho;exact(List.getElem?_eq_some_iff.1 hc).1
   have h2:o'<cs.length:=by obtain⟨c,hc⟩:=Option.isSome_iff_exists.1 ho';exact(List.getElem?_eq_some_iff.1 hc).1
   exact hO.inj o o' h1 h2 he
 refine calls_of_wp hf hb (CWp.wp (hev.cwp hΓ.w (fun b hb=>by obtain⟨o,h1,rfl⟩:=hb;exact(hO.lt o h1).1) _ _ _ _ hinit fun g' a' w' hrel=>?_));have hsome:∀i o,out[i]?=some o→(s'.ob o).isSome:=fun i o ho=>by obtain⟨T,sz,es,es',h1,_⟩:=hobs i o ho;simp[h1]
 have hget:∀i,i<out.length→out[i]?=some (out.getD i 0):=fun i hi=>by simp[hi]
 have hβ0:∀o,o<cs.length→g'.β o=β o∧g'.κ o=κ o:=fun o ho=>hrel.fix.2 o ho;have hinjO:∀i j,i<out.length→j<out.length→g'.β (out.getD i 0)=g'.β (out.getD j 0)→i=j:=fun i j hi hj he=>by have:=hrel.inj _ _ (hsome i _ (hget i hi)) (hsome j _ (hget j hj)) he;have e1:=hget i hi;have e2:=hget j hj;rw[this]at e1;have e1:=e1.trans e2.symm;exact(List.getElem?_inj hi hond).1 e1
 have hgof:∀o,o<cs.length→out.getD o 0=o:=fun o ho=>by have:=hof o ho;simp[List.getD,this]
 have hinn:∀o1 o2,inn out o1=some o2→o2<out.length∧out.getD o2 0=o1:=fun o1 o2 hi=>by
  unfold inn at hi;split at hi
  ·rename_i hm
   cases hi;have hlt:=List.idxOf_lt_length_of_mem hm;exact⟨hlt,by simp[List.getD,hlt]⟩
  ·cases hi
 have hout:∀i,i<out.length→out.getD i 0∈out:=fun i hi=>List.mem_of_getElem? (hget i hi);have hnewO:∀o c,s'.ob o=some c→(∀j,j<cs.length→o≠j)→w.heap.size≤g'.β o:=fun o c ho hne=>by
  rcases(hrel.ob _ _ ho).2.1 with k2|⟨j,k3,k4⟩
  ·exact k2
  ·exfalso
   rw[←(hβ0 j k3).1]at k4;exact hne j k3 (hrel.inj _ _ (by rw[ho];rfl) (hsome j j (hof j k3)) k4)
 have hnew:∀i,cs.length≤i→i<out.length→w.heap.size≤g'.β (out.getD i 0):=fun i h1 h2=>by obtain⟨T,sz,es,es',k1,_⟩:=hobs i _ (hget i h2);refine hnewO _ _ k1 fun j hj he=>?_;have e1:=hget i h2;rw[he,←hof j hj]at e1;have:=(List.getElem?_inj (by omega) hond).1 e1;omega
 have hend:a'.defers=[]∧∃v,(results fn a'.tmps).run P w'=.ok v w'∧(∃v' β' κ' M,Ending.returned v=.returned v'∧Fr (fun b=>∃o,o<cs.length∧b=β o) w w'∧cs.length≤cs'.length∧
  (∀o,o<cs.length→β' o=β o∧κ' o=κ o)∧(∀o,cs.length≤o→o<cs'.length→w.heap.size≤β' o)∧(∀b,M b→w.heap.size≤b∧b<w'.heap.size)∧
  sI (addN J M) w' β' κ' cs'∧Rep (d9 (addN J M) β' κ' cs'.length) w' r v'):=by
  obtain⟨v,h1,h2⟩:=gD hrel hres
  let M:Nat→Prop:=fun b=>w.heap.size≤b∧b<w'.heap.size∧∀i,i<out.length→b≠g'.β (out.getD i 0)
  let G:Gh:=d9 (addN J M) (fun i=>g'.β (out.getD i 0)) (fun i=>g'.κ (out.getD i 0)) cs'.length
  have hI:∀k b,g'.I k b→G.I k b:=fun k b hi=>by
   cases k with
   |false=>exact .inl (hrel.old b hi)
   |true=>
    rcases hrel.new b hi with hn|hn
    ·refine .inr ⟨rfl,hn.1,hrel.lt true b hi,fun i hil he=>?_⟩
     obtain⟨T,sz,es,es',k1,_⟩:=hobs i _ (hget i hil);exact(hrel.ob _ _ k1).2.2.1 true (he▸hi)
    ·exact .inl hn
  have hom:∀o o',inn out o=some o'→G.β o'=g'.β o∧G.κ o'=g'.κ o∧G.D o':=fun o o' ho=>by obtain⟨k1,k2⟩:=hinn o o' ho;exact⟨by simp only[G,d9,k2],by simp only[G,d9,k2],⟨by simp only[G,d9];omega,fun q=>q⟩⟩
  have hfz:∀o,(s'.ob o).isSome→inn out o=none→G.I true (g'.β o):=fun o ho hn=>by
   obtain⟨c,hc⟩:=Option.isSome_iff_exists.1 ho;have hno:o∉out:=fun hm=>by simp[inn,hm]at hn
   obtain⟨arr,m1,_⟩:=(hrel.ob _ _ hc).2.2.2.1;refine .inr ⟨rfl,hnewO o c hc fun j hj he=>hno (he▸List.mem_of_getElem? (hof j hj)),lt_of_heap m1,fun i hi he=>hno ?_⟩;rw[hrel.inj o _ (by rw[hc];rfl) (hsome i _ (hget i hi)) he];exact hout i hi
  have hobA:∀o c,s'.ob o=some c→nI g' w' o c:=fun o c ho=>(hrel.ob o c ho).2.2.2;refine⟨hrel.df,v,h1,v,fun i=>g'.β (out.getD i 0),fun i=>g'.κ (out.getD i 0),M,rfl,hrel.fr,by omega,fun o ho=>by dsimp only;rw[hgof o ho];exact hβ0 o ho,fun o h3 h4=>hnew o h3 (by omega),fun b hb=>⟨hb.1,hb.2.1⟩,⟨fun o ho=>?_,fun o o' ho ho' he=>hinjO o o' (by omega) (by omega) he,fun o c hc=>?_⟩,Rep.hand (g:=g') (g':=G) hI hom hobA hfz fuel _ _ _ h2 hren⟩
  ·obtain⟨T,sz,es,es',k1,_⟩:=hobs o _ (hget o (by omega))
   obtain⟨_,_,k3,⟨arr,k4,_⟩,_⟩:=hrel.ob _ _ k1;refine⟨lt_of_heap k4,fun k hj=>?_⟩;rcases hj with hj|⟨_,hj⟩
   ·by_cases hoc:o<cs.length
    ·rw[hgof o hoc,(hβ0 o hoc).1]at hj
     exact(hO.lt o hoc).2 k hj
    ·have:=hnew o (by omega) (by omega)
     have:=hJ _ _ hj;omega
   ·exact hj.2.2 o (by omega) rfl
  ·have ho:o<cs'.length:=(List.getElem?_eq_some_iff.1 hc).1
   obtain⟨T,sz,es,es',k1,k2,k3⟩:=hobs o _ (hget o (by omega));rw[k3]at hc;cases hc;obtain⟨_,_,_,⟨arr,m1,m2⟩,m3,m4⟩:=hrel.ob _ _ k1;have hl:=(bD k2).1;exact⟨⟨arr,m1,m2⟩,by rw[hl];exact m3,bf.conv (g:=g') (g':=G) (Rep.hand (g:=g') (g':=G) hI hom hobA hfz fuel) m4 k2⟩
 rcases hx with rfl|rfl<;>exact hend
end
def jU (P:Program) (rs:List ResultVar) (m:Nat) (r:PV) (cs':List aU):X→AS→Prop:=fun x s'=>(x=.normal∨x=.ret)∧∃news:List Nat,(∀o∈news,m≤o)∧news.Nodup∧
 ((eY P s' rs).bind fun qs=>cZ (List.range m++news) s'.ob fuel (fG qs))=some r∧(List.range m++news).mapM (oq (List.range m++news) s'.ob fuel)=some cs'
theorem adW {P:Program} {Γ:Ctx} (hm:P.follows .mixedOrders=true) {f:Nat} {fn:Func} {c:Code} {Φ:iD} (hΓ:au P Γ) (hf:P.funcs[f]?=some fn) (hb:fn.body=some c) (N:Nat) (hN:fn.ntmps=N) (rs:List ResultVar) (hrs:fn.results.toList=rs) (hc:codeOk Γ true N c=true)
 (h:∀ps cs r cs',Φ ps cs=some (r,cs')→ps.length≤N∧pq P Γ N c (jU P rs cs.length r cs') (sK ps cs).tm (fun o=>cs[o]?) cs.length):eO P f Φ:=by
 subst hN hrs;refine ow hΓ hf hb (fun ps cs r hr=>(h ps cs r.1 r.2 hr).1) fun ps cs r cs' hr=>?_;obtain⟨x,s',h1,h2,news,h3,h4,h5,h6⟩:=yS (mixed:=true) (fun _=>hm) c _ _ hc (h ps cs r cs' hr).2;rw[Option.bind_eq_some_iff]at h5;obtain⟨qs,h8,h9⟩:=h5;refine⟨x,s',qs,List.range cs.length++news,h1,h2,h8,h9,by simp,fun o ho=>?_,?_,h6⟩
 ·rw[List.getElem?_append_left (by simpa using ho),List.getElem?_range ho]
 ·rw[List.nodup_append]
  exact⟨List.nodup_range,h4,fun a ha b hb e=>by have:=h3 b hb;have:=List.mem_range.1 ha;omega⟩
section
variable {P:Program} {Γ:Ctx} {Φ:iD} {ob:bn} {nx:Nat}
def axG (ob:bn) (nx:Nat) (ps:List PV):Option iD→Option (PV×bn×Nat)
 |some Φ=>afv Φ ob nx ps
 |none=>none
theorem anH {s:AS} {ρ:Operand→PV} {f:Nat} {xs:Array Operand} {ts:Array TypeId}:aY P Γ s ρ (.call {callee:=.value (.func f),args:=xs,argTypes:=ts})=axG s.ob s.nx (xs.toList.map ρ) (Γ.io f):=by simp only[aY,qB,axG];cases Γ.io f<;>rfl
theorem agL {ps:List PV}:axG ob nx ps (some Φ)=afv Φ ob nx ps:=rfl
def aiP (os:List Nat) (nx:Nat):Nat→Option Nat:=fun i=>some (pO os nx i)
def ioR (os:List Nat) (ob:bn) (nx:Nat):Option (PV×List aU)→Option (PV×bn×Nat)
 |some (r,cs')=>match fH (aiP os nx) fuel r,cs'.mapM (afw (aiP os nx) fuel)with
  |some r',some cs2=>some (r',j6 ob (((List.range cs2.length).map (pO os nx)).zip cs2),nx+(cs'.length-os.length))
  |_,_=>none
 |none=>none
theorem rO (ps:List PV) (os:List Nat) (h:dedup (ps.flatMap refsOf)=os):afv Φ ob nx ps=match os.mapM ob,ps.mapM (fH (inn os) fuel)with
 |some cs,some qs=>match cs.mapM (afw (inn os) fuel)with
  |some cs1=>ioR os ob nx (Φ qs cs1)
  |none=>none
 |_,_=>none:=by
 subst h;unfold afv;dsimp only
 generalize dedup (ps.flatMap refsOf)=os;cases os.mapM ob with
 |none=>rfl
 |some cs=>
  cases ps.mapM (fH (inn os) fuel)with
  |none=>rfl
  |some qs=>
   dsimp only
   cases cs.mapM (afw (inn os) fuel)with
   |none=>rfl
   |some cs1=>
    dsimp only
    unfold ioR;cases Φ qs cs1 with
    |none=>rfl
    |some r=>rfl
def ahZ (Φ:iD) (ob:bn) (nx o:Nat) (qs:List PV):Option aU→Option (PV×bn×Nat)
 |some c=>(c.2.2.mapM (fH (inn [o]) fuel)).bind fun es=>ioR [o] ob nx (Φ qs [(c.1,c.2.1,es)])
 |none=>none
theorem nJ {α β:Type} {F:α→Option β} {x:α}:[x].mapM F=(F x).map fun y=>[y]:=by rw[mapM_cons',mapM_nil'];cases F x<;>rfl
theorem ajz {ps qs:List PV} {o:Nat} (h1:dedup (ps.flatMap refsOf)=[o]) (h2:ps.mapM (fH (inn [o]) fuel)=some qs):afv Φ ob nx ps=ahZ Φ ob nx o qs (ob o):=by
 rw[rO ps [o] h1,h2,nJ];unfold ahZ;cases hb:ob o with
 |none=>rfl
 |some c=>simp only[Option.map_some,nJ,afw];cases c.2.2.mapM (fH (inn [o]) fuel)<;>rfl
theorem aj6 (o:Nat):inn [o] o=some 0:=by simp[inn]
theorem afR (nm:Nat→Option Nat) (p:PV):fH nm fuel p=fH nm 8 p:=rfl
theorem ajA (nm:Nat→Option Nat) (f:Nat) (v:Value):fH nm (f+1) (.val v)=some (.val v):=rfl
theorem ajf (nm:Nat→Option Nat) (f o sz i c:Nat):fH nm (f+1) (.own o sz i c)=(nm o).map fun o'=> .own o' sz i c:=rfl
theorem akx (nm:Nat→Option Nat) (f o sz i m:Nat):fH nm (f+1) (.row o sz i m)=(nm o).map fun o'=> .row o' sz i m:=rfl
theorem xC {nm:Nat→Option Nat}:∀{f:Nat} {p:PV},dW f p=true→fH nm f p=some p
 |0,_,h=>by simp[dW]at h
 |f+1,p,h=>by
  cases p with
  |val v=>rfl
  |dead=>rfl
  |agg cs=>
   have h2:∀c∈cs,dW f c=true:=by simpa [dW]using h
   simp only[fH];rw[dG fun c hc=>xC (h2 c hc)];rfl
  |_=>simp[dW]at h
theorem jy:∀{f g:Nat} {p:PV},f≤g→dW f p=true→dW g p=true
 |0,_,p,_,h=>by simp[dW]at h
 |f+1,0,p,hg,h=>by omega
 |f+1,g+1,p,hg,h=>by
  cases p with
  |val v=>rfl
  |dead=>rfl
  |agg cs=>
   have h2:∀c∈cs,dW f c=true:=by simpa [dW]using h
   simp only[dW,List.all_eq_true];exact fun c hc=>jy (by omega) (h2 c hc)
  |_=>simp[dW]at h
theorem afC {α:Type} {nm:Nat→Option Nat} {f sz:Nat} {k:Bool} {g:α→PV} {l:List α} (h:∀x,dW 2 (g x)=true):fH nm (f+3) (.lst k sz (l.map g))=some (.lst k sz (l.map g)):=by show((l.map g).mapM (fH nm (f+2))).map (PV.lst k sz)=_;rw[dG fun e he=>by obtain⟨x,_,rfl⟩:=List.mem_map.1 he;exact xC (jy (by omega) (h x))];rfl
theorem afB {α:Type} {nm:Nat→Option Nat} {f:Nat} {g:α→PV} {l:List α} (h:∀x,dW 2 (g x)=true):(l.map g).mapM (fH nm (f+2))=some (l.map g):=
 dG fun e he=>by obtain⟨x,_,rfl⟩:=List.mem_map.1 he;exact xC (jy (by omega) (h x))
section
variable {α:Type} {nm:Nat→Option Nat} {f sz:Nat} {k:Bool} {l:List α} {g g1 g2 g3 g4:α→Value}
theorem aiV:fH nm (f+3) (.lst k sz (l.map fun x=>PV.val (g x)))=some (.lst k sz (l.map fun x=>PV.val (g x))):=afC fun _=>rfl
theorem aiQ:(l.map fun x=>PV.val (g x)).mapM (fH nm 8)=some (l.map fun x=>PV.val (g x)):=afB fun _=>rfl
end
theorem ad6 {o T sz:Nat} {es qs:List PV}:ahZ Φ ob nx o qs (some (T,sz,es))=(es.mapM (fH (inn [o]) fuel)).bind fun es=>ioR [o] ob nx (Φ qs [(T,sz,es)]):=rfl
theorem aop {T sz:Nat} {es:List PV} {r:PV}:ioR [] ob nx (some (r,[(T,sz,es)]))=(fH (aiP [] nx) fuel r).bind fun r'=>(es.mapM (fH (aiP [] nx) fuel)).map fun es'=>(r',upd ob nx (some (T,sz,es')),nx+1):=by
 unfold ioR;simp only[nJ,afw];cases fH (aiP [] nx) fuel r with
 |none=>rfl
 |some r'=>
  cases es.mapM (fH (aiP [] nx) fuel)with
  |none=>rfl
  |some es'=>rfl
theorem asq {o nx:Nat}:aiP [o] nx 0=some o:=rfl
theorem ate {nx:Nat}:aiP [] nx 0=some nx:=by simp[aiP,pO]
end
section
variable {out:List Nat} {ob:bn} {f:Nat}
theorem aeU (p:PV):cZ out ob fuel p=cZ out ob 8 p:=rfl
theorem ai2 (v:Value):cZ out ob (f+1) (.val v)=some (.val v):=rfl
theorem ahy (cs:List PV):cZ out ob (f+1) (.tup cs)=(cs.mapM (cZ out ob f)).map .tup:=by simp only[cZ]
def aw4 (out:List Nat) (ob:bn) (f sz i m:Nat):Option Nat→Option aU→Option PV
 |some o',_=>some (.row o' sz i m)
 |none,some (_,sz',es)=>if sz=sz'∧i+m≤es.length then(((es.drop i).take m).mapM (cZ out ob f)).map (.lst true sz)else none
 |none,none=>none
theorem agx (o sz i m:Nat):cZ out ob (f+1) (.row o sz i m)=aw4 out ob f sz i m (inn out o) (ob o):=by
 simp only[cZ];unfold aw4;cases inn out o with
 |some o'=>rfl
 |none=>cases ob o<;>rfl
theorem ah2 {sz i m o':Nat} {x:Option aU}:aw4 out ob f sz i m (some o') x=some (.row o' sz i m):=rfl
theorem zk:∀{f:Nat} {p:PV},dW f p=true→cZ out ob f p=some p
 |0,_,h=>by simp[dW]at h
 |f+1,p,h=>by
  cases p with
  |val v=>rfl
  |dead=>rfl
  |agg cs=>
   have h2:∀c∈cs,dW f c=true:=by simpa [dW]using h
   simp only[cZ];rw[dG fun c hc=>zk (h2 c hc)];rfl
  |_=>simp[dW]at h
theorem afc {α:Type} {g:α→PV} {l:List α} (h:∀x,dW 2 (g x)=true):(l.map g).mapM (cZ out ob (f+2))=some (l.map g):=
 dG fun e he=>by obtain⟨x,_,rfl⟩:=List.mem_map.1 he;exact zk (jy (by omega) (h x))
section
variable {α:Type} {sz m T:Nat} {k:Bool} {l:List α} {g g1 g2 g3 g4:α→Value}
theorem ae2:(l.map fun x=>PV.val (g x)).mapM (cZ out ob 8)=some (l.map fun x=>PV.val (g x)):=afc fun _=>rfl
end
def anZ (out:List Nat) (ob:bn):Option aU→Option aU
 |some (T,sz,es)=>(es.mapM (cZ out ob fuel)).map fun es=>(T,sz,es)
 |none=>none
theorem akU (o:Nat):oq out ob fuel o=anZ out ob (ob o):=by
 unfold oq anZ;cases ob o with
 |none=>rfl
 |some c=>rfl
theorem aeW {T sz:Nat} {es:List PV}:anZ out ob (some (T,sz,es))=(es.mapM (cZ out ob fuel)).map fun es=>(T,sz,es):=rfl
end
section
variable {P:Program} {Γ:Ctx} {tm:Nat→PV} {ob:bn} {nx:Nat} {rs:List ResultVar} {r:PV} {c' d':aU} {x:X}
theorem as0 (hx:x=.normal∨x=.ret) (h1:((eY P ⟨tm,ob,nx⟩ rs).bind fun qs=>cZ [0] ob fuel (fG qs))=some r) (h2:oq [0] ob fuel 0=some c'):jU P rs 1 r [c'] x ⟨tm,ob,nx⟩:=
 ⟨hx,[],by simp,by simp,h1,by show [0].mapM (oq [0] ob fuel)=some [c'];rw[nJ,h2];rfl⟩
theorem tH (o:Nat) (hx:x=.normal∨x=.ret) (h1:((eY P ⟨tm,ob,nx⟩ rs).bind fun qs=>cZ [o] ob fuel (fG qs))=some r) (h2:oq [o] ob fuel o=some c'):jU P rs 0 r [c'] x ⟨tm,ob,nx⟩:=
 ⟨hx,[o],by simp,by simp,h1,by show [o].mapM (oq [o] ob fuel)=some [c'];rw[nJ,h2];rfl⟩
theorem l7 (hx:x=.normal∨x=.ret) (h1:((eY P ⟨tm,ob,nx⟩ rs).bind fun qs=>cZ [] ob fuel (fG qs))=some r):jU P rs 0 r [] x ⟨tm,ob,nx⟩:=
 ⟨hx,[],by simp,by simp,h1,rfl⟩
theorem ag3 (c:aU):(fun o=>[c][o]?)=lo [(0,c)]:=by
 funext o;cases o with
 |zero=>rfl
 |succ o=>simp[lo,List.lookup]
theorem ami:(fun o=>([]:List aU)[o]?)=kr:=by funext o;simp[kr]
theorem ag0 (hm:P.follows .mixedOrders=true) {f:Nat} {fn:Func} {c:Code} {Φ:iD} (hΓ:au P Γ) (hf:P.funcs[f]?=some fn) (hb:fn.body=some c) (N:Nat) (hN:fn.ntmps=N) (rs:List ResultVar) (hrs:fn.results.toList=rs) (hc:codeOk Γ true N c=true)
 (h:∀ps cs r cs',Φ ps cs=some (r,cs')→cs=[]∧ps.length≤N∧pq P Γ N c (jU P rs 0 r cs') (bM ps).tm kr 0):eO P f Φ:=by
 refine adW hm hΓ hf hb N hN rs hrs hc fun ps cs r cs' hr=>?_;obtain⟨rfl,h1,h2⟩:=h ps cs r cs' hr;refine⟨h1,?_⟩;rw[ami];exact h2
end
def auC (b:Bool) (c:Option aU):Option aU:=if b=true then c else none
theorem ake (V:List Nat) (ob:bn) (o:Nat):tV V ob o=auC (V.contains o) (ob o):=rfl
theorem ad7 (c:Option aU):auC true c=c:=rfl
attribute[push_cast]
 anH agL ad6 aop asq ate aj6 afR ajA ajf akx aiV aiQ aeU ai2 ahy agx ah2 ae2 akU aeW ake ad7 List.contains_cons List.contains_nil
theorem arH (o:Nat):lo [] o=none:=rfl
theorem aoq (k:Nat) (v:aU) (l:List (Nat×aU)) (o:Nat):lo ((k,v)::l) o=if o=k then some v else lo l o:=by
 simp only[lo,List.lookup_cons];by_cases h:o=k
 ·simp[h]
 ·have:(o==k)=false:=by simpa using h
  simp[this,h]
attribute[push_cast high]
 arH aoq
def plF (l:List (Nat×Nat)):Nat→Option (Nat×Nat):=fun i=>l[i]?
theorem amr {P:Program} {t n e s o sz j f:Nat} {i:Int} (hu:P.underlying t=some (.array n e)) (hs:aX P e=some s) (h0:0≤i) (h1:i<(n:Int)):aG P t (.own o sz j f) i=some (.own o sz j (f+i.toNat*s)):=by
 unfold aG;rw[hu];dsimp only
 rw[hs];dsimp only
 rw[if_pos ⟨h0,h1⟩]
theorem aey {P:Program} {t:Nat} {z:List PV} {zv:Value} {pl:Array (Nat×Nat)} (hz:zeroOf P t=some zv) (hzv:zv.cells.toList.map PV.val=z) (hp:cO P t=some pl) (ps:List (Nat×PV)):fB P t ps=(kZ (plF pl.toList) z ps).map .agg:=by
 unfold fB;rw[hz,hp];dsimp only
 rw[hzv];congr 2;funext i;simp[plF]
def fpG (l:List (Nat×Nat)) (cells:List PV) (rest:List (Nat×PV)):Option (Nat×Nat)→Option (List PV)→Option (List PV)
 |some (off,size),some cs=>if cs.length=size∧off+cs.length≤cells.length then kZ (plF l) (eP cells off cs) rest else none
 |_,_=>none
theorem auY (l:List (Nat×Nat)) (cells:List PV):kZ (plF l) cells []=some cells:=rfl
theorem anu (l:List (Nat×Nat)) (cells:List PV) (i:Nat) (v:PV) (rest:List (Nat×PV)):kZ (plF l) cells ((i,v)::rest)=fpG l cells rest l[i]? (bA v):=rfl
theorem atp {l:List (Nat×Nat)} {cells cs:List PV} {rest:List (Nat×PV)} {off size:Nat} (h1:cs.length=size) (h2:off+cs.length≤cells.length):fpG l cells rest (some (off,size)) (some cs)=kZ (plF l) (eP cells off cs) rest:=by simp[fpG,h1];omega
theorem abI {ρ:Operand→PV}:partsOf ρ (List.toArray [])=[]:=rfl
theorem aaf {ρ:Operand→PV} {i:Nat} {x:Operand} {l:List (Nat×Operand)}:partsOf ρ (List.toArray ((i,x)::l))=(i,ρ x)::partsOf ρ l.toArray:=rfl
def okC (sz:Nat):Option (List PV)→Bool
 |some cs=>cs.length==sz
 |none=>false
def aam (e sz:Nat) (es:List PV):Bool→Option (Nat×Nat×List PV)
 |true=>some (e,sz,es)
 |false=>none
theorem agb (e sz:Nat) (es:List PV):aam e sz es true=some (e,sz,es):=rfl
theorem pz {P:Program} {t n e sz:Nat} {z:Value} (he:bX P t=some e) (hs:aX P e=some sz) (hz:zeroOf P e=some z) (ps:List (Nat×PV)) (h1:n*sz≤16777216) (h2:n≤9223372036854775807) (hm:ps.map (·.1)=List.range n):
 iC P t n ps=aam e sz (ps.map (·.2)) ((ps.map (·.2)).all (okP sz)):=by
 unfold iC;rw[he];dsimp only
 rw[hs,hz];dsimp only
 cases((ps.map (·.2)).all (okP sz))<;>simp[aam,h1,h2,hm]
theorem atP (sz:Nat) (p:PV):okP sz p=okC sz (bA p):=by unfold okP okC;cases bA p<;>rfl
theorem ajo (sz:Nat) (cs:List PV):okC sz (some cs)=(cs.length==sz):=rfl
theorem ahH (e sz:Nat) (es:List PV):avP (some (e,sz,es))=some (.lst true sz es):=rfl
theorem take_map' {α β:Type} {f:α→β} {l:List α} {n:Nat}:(l.map f).take n=(l.take n).map f:=List.map_take.symm
theorem drop_map' {α β:Type} {f:α→β} {l:List α} {n:Nat}:(l.map f).drop n=(l.drop n).map f:=List.map_drop.symm
attribute[push_cast]
 take_map' drop_map' Int.add_sub_cancel List.length_append List.length_take List.length_drop List.length_reverse Nat.sub_zero auY anu atp abI aaf agb atP ajo ahH
section
variable {P:Program} {Γ:Ctx}
theorem yT (hm:P.follows .mixedOrders=true) {f:Nat} {fn:Func} {c:Code} (hΓ:au P Γ) (hf:P.funcs[f]?=some fn) (hb:fn.body=some c) (N:Nat) (hN:fn.ntmps=N) (rs:List ResultVar) (hrs:fn.results.toList=rs) (hc:codeOk Γ true N c=true)
 (D:List PV→Prop) (R:List PV→PV→Prop) (hlen:∀ps,D ps→ps.length≤N)
 (h:∀ps,D ps→pq P Γ N c (fun x s'=>∃r,R ps r∧Post P rs r x s') (bM ps).tm (fun _=>none) 0):∃φ:Fun,Sound P f φ∧∀ps,D ps→∃r,φ ps=some r∧R ps r:=by
 classical
 subst hN hrs
 let Z:List PV→PV→Prop:=fun ps r=>D ps∧R ps r∧∃x s',Ev P Γ fn.ntmps c (bM ps) x s'∧Post P fn.results.toList r x s'
 let φ:Fun:=fun ps=>if h:∃r,Z ps r then some (Classical.choose h)else none
 have hφ:∀ps r,φ ps=some r→Z ps r:=fun ps r hr=>by
  simp only[φ]at hr;split at hr
  ·rename_i hz
   cases hr;exact Classical.choose_spec hz
  ·cases hr
 refine⟨φ,tq hΓ hf hb (fun ps r hr=>hlen ps (hφ ps r hr).1) fun ps r hr=>?_,fun ps hd=>?_⟩
 ·obtain⟨_,_,x,s',h1,h2,h3⟩:=hφ ps r hr
  rw[Option.bind_eq_some_iff]at h3;obtain⟨qs,h4,h5⟩:=h3;exact⟨x,s',qs,h1,h2,h4,h5⟩
 ·obtain⟨x,s',h1,r,h2,h3⟩:=yS (mixed:=true) (fun _=>hm) c _ _ hc (h ps hd)
  have hz:∃r,Z ps r:=⟨r,hd,h2,x,s',h1,h3⟩;have he:φ ps=some (Classical.choose hz):=by simp only[φ];rw[dif_pos hz]
  exact⟨_,he,(hφ ps _ he).2.1⟩
end
section
variable {v:Int}
theorem awq (x:Nat):(x=x+1)=False:=by simp
theorem avZ (x:Nat):(x+1=x)=False:=by simp
theorem awP (x:Nat):(x=x+1+1)=False:=by simp;omega
theorem axB (x:Nat):(x+1+1=x)=False:=by simp;omega
theorem z_s (x:Nat):(0=x+1)=False:=by simp
theorem axk (x:Nat):(x=x+1+1+1)=False:=by simp;omega
theorem axo (x:Nat):(x+1+1+1=x)=False:=by simp;omega
end
theorem atS {l:List Int} {y:Int}:(l.map fun n=>PV.val (.int .i64 n))++[.val (.int .i64 y)]=(l++[y]).map fun n=>PV.val (.int .i64 n):=by simp
theorem arz {l:List ByteArray} {y:ByteArray}:(l.map fun n=>PV.val (.string n))++[.val (.string y)]=(l++[y]).map fun n=>PV.val (.string n):=by simp
theorem au7 {l:List I4} {a b c d:Int}:(l.map fun x=>PV.agg [.val (.int .i64 x.1),.val (.int .i64 x.2.1),.val (.int .i64 x.2.2.1),.val (.int .i64 x.2.2.2)])++[.agg [.val (.int .i64 a),.val (.int .i64 b),.val (.int .i64 c),.val (.int .i64 d)]]=(l++[(a,b,c,d)]).map fun x=>PV.agg [.val (.int .i64 x.1),.val (.int .i64 x.2.1),.val (.int .i64 x.2.2.1),.val (.int .i64 x.2.2.2)]:=by simp
theorem nat_ne {a b:Nat} (h:¬a=b):(a=b)=False:=by simp[h]
attribute[push_cast low]
 nat_ne
attribute[push_cast]
 atS arz au7
attribute[push_cast]
 awq avZ awP axB z_s axk axo Nat.le_refl Nat.add_right_cancel_iff
abbrev okI (n:Int):Prop:=-9223372036854775808≤n∧n≤9223372036854775807
abbrev okS (s:ByteArray):Prop:=s.size≤9223372036854775807
abbrev okL {α:Type} (ok:α→Prop) (l:List α):Prop:=l.length≤9223372036854775807∧∀a∈l,ok a
instance {α:Type} (ok:α→Prop) (l:List α):Decidable (okL ok l):=Classical.propDecidable _
theorem agz (cs:List PV):toVal (.agg cs)=(gu cs).map fun vs=> .agg vs.toArray:=rfl
theorem aaN (p q r:PV):fG [p,q,r]=.tup [p,q,r]:=rfl
theorem ad1 (p q r s:PV):fG [p,q,r,s]=.tup [p,q,r,s]:=rfl
theorem aeh (p q r s t:PV):fG [p,q,r,s,t]=.tup [p,q,r,s,t]:=rfl
theorem agv {fr:Bool} {f sz m T:Nat} {ob:bn} {es:List PV} (hm:m=es.length):qp fr f ob sz 0 m (some (T,sz,es))=(es.mapM (reify fr 0 ob f)).map (.lst fr sz):=by subst hm;simp[qp]
attribute[push_cast low]
 agv
attribute[push_cast]
 aaN ad1 aeh agz beq_self_eq_true
end
end Go.Proofs.YtmmafcjjlbgnkaaGreat
