/- What the proof rests on, part 6: contracts of functions. No condition beyond what each states. -/
import Derived.Test.YtmmafcjjlbgnkaaGreatZBg5
namespace Go.Proofs.YtmmafcjjlbgnkaaGreat
open Go.RowKit
set_option linter.all false
set_option maxHeartbeats 32000000
noncomputable section
section
variable {P:Program} {Γ:Ctx}
theorem yj (hm:P.follows .mixedOrders=true) {f:Nat} {fn:Func} {c:Code} (hΓ:ak P Γ) (hf:P.funcs[f]?=some fn) (hb:fn.body=some c) (N:Nat) (hN:fn.ntmps=N) (rs:List ResultVar) (hrs:fn.results.toList=rs) (hc:codeOk Γ true N c=true)
 (D:List PV→Prop) (R:List PV→PV→Prop) (hlen:∀ps,D ps→ps.length≤N)
 (h:∀ps,D ps→pq P Γ N c (fun x s'=>∃r,R ps r∧Post P rs r x s') (bZ ps).tm (fun _=>none) 0):∃φ:Fun,Sound P f φ∧∀ps,D ps→∃r,φ ps=some r∧R ps r:=by
 classical
 subst hN hrs
 let Z:List PV→PV→Prop:=fun ps r=>D ps∧R ps r∧∃x s',Ev P Γ fn.ntmps c (bZ ps) x s'∧Post P fn.results.toList r x s'
 let φ:Fun:=fun ps=>if h:∃r,Z ps r then some (Classical.choose h)else none
 have hφ:∀ps r,φ ps=some r→Z ps r:=fun ps r hr=>by
  simp only[φ]at hr;split at hr
  ·rename_i hz
   cases hr;exact Classical.choose_spec hz
  ·cases hr
 refine⟨φ,tV hΓ hf hb (fun ps r hr=>hlen ps (hφ ps r hr).1) fun ps r hr=>?_,fun ps hd=>?_⟩
 ·obtain⟨_,_,x,s',h1,h2,h3⟩:=hφ ps r hr
  rw[Option.bind_eq_some_iff]at h3;obtain⟨qs,h4,h5⟩:=h3;exact⟨x,s',qs,h1,h2,h4,h5⟩
 ·obtain⟨x,s',h1,r,h2,h3⟩:=vv (mixed:=true) (fun _=>hm) c _ _ hc (h ps hd)
  have hz:∃r,Z ps r:=⟨r,hd,h2,x,s',h1,h3⟩;have he:φ ps=some (Classical.choose hz):=by simp only[φ];rw[dif_pos hz]
  exact⟨_,he,(hφ ps _ he).2.1⟩
theorem abg (hm:P.follows .mixedOrders=true) {f:Nat} {fn:Func} {c:Code} (hΓ:ak P Γ) (hf:P.funcs[f]?=some fn) (hb:fn.body=some c) (N:Nat) (hN:fn.ntmps=N) (rs:List ResultVar) (hrs:fn.results.toList=rs) (hc:codeOk Γ true N c=true)
 (D:List PV→aH→Prop) (R:List PV→aH→PV→aH→Prop) (hlen:∀ps o,D ps o→ps.length≤N)
 (h:∀ps o,D ps o→pq P Γ N c (fun x s'=>∃r o',R ps o r o'∧gL P rs 1 r [o'] x s') (bZ ps).tm (lo [(0,o)]) 1):∃Φ:dN,bK P f Φ∧∀ps o,D ps o→∃r o',Φ ps [o]=some (r,[o'])∧R ps o r o':=by
 classical
 subst hN hrs
 let Z:List PV→List aH→PV×List aH→Prop:=fun ps cs r=>∃o o',cs=[o]∧r.2=[o']∧D ps o∧R ps o r.1 o'∧∃x s',Ev P Γ fn.ntmps c (nW ps cs) x s'∧gL P fn.results.toList 1 r.1 [o'] x s'
 let Φ:dN:=fun ps cs=>if h:∃r,Z ps cs r then some (Classical.choose h)else none
 have hΦ:∀ps cs r,Φ ps cs=some r→Z ps cs r:=fun ps cs r hr=>by
  simp only[Φ]at hr;split at hr
  ·rename_i hz
   cases hr;exact Classical.choose_spec hz
  ·cases hr
 refine⟨Φ,jW hΓ hf hb (fun ps cs r hr=>?_) fun ps cs r cs' hr=>?_,fun ps o hd=>?_⟩
 ·obtain⟨o,o',_,_,h1,_⟩:=hΦ ps cs r hr
  exact hlen ps o h1
 ·obtain⟨o,o',rfl,h0,_,_,x,s',h1,h2,news,h3,h4,h5,h6⟩:=hΦ ps cs (r,cs') hr
  dsimp only at h0;subst h0;rw[Option.bind_eq_some_iff]at h5;obtain⟨qs,h8,h9⟩:=h5;refine⟨x,s',qs,List.range 1++news,h1,h2,h8,h9,by simp,fun i hi=>?_,?_,h6⟩
  ·have:i=0:=by simpa using hi
   subst this;rfl
  ·rw[List.nodup_append]
   exact⟨List.nodup_range,h4,fun a ha b hb e=>by have:=h3 b hb;have:=List.mem_range.1 ha;omega⟩
 ·have h':pw P Γ fn.ntmps c (fun x s'=>∃r o',R ps o r o'∧gL P fn.results.toList 1 r [o'] x s') (nW ps [o]):=by have:=h ps o hd;rw[←adz]at this;exact this
  obtain⟨x,s',h1,r,o',h2,h3⟩:=vv (mixed:=true) (fun _=>hm) c _ _ hc h';have hz:∃r,Z ps [o] r:=⟨(r,[o']),o,o',rfl,rfl,hd,h2,x,s',h1,h3⟩;have he:Φ ps [o]=some (Classical.choose hz):=by simp only[Φ];rw[dif_pos hz]
  obtain⟨o1,o2,e1,e2,_,e3,_⟩:=hΦ ps [o] _ he;cases e1;exact⟨(Classical.choose hz).1,o2,by rw[he,←e2],e3⟩
end
abbrev rdC (T:Nat) (code:List Int) (p:Int):aH:=(T,2,[.agg [.lst false 1 (code.map fun n=>PV.val (.int .u8 n)),.val (.int .i64 p)]])
structure oC (code:List Int) (p:Int):Prop where
 len:code.length≤2000
 byte:∀i:Nat,0≤code[i]?.getD 0∧code[i]?.getD 0≤255
 pos:0≤p
 small:p≤1000000000000
def ads (T:Nat) (Φ:dN) (B c:Int) {α:Type} (E:α→PV) (D:Int→Prop) (R:Int→α→Prop):Prop:=
 ∀code p n,oC code p→p≤B→D n→∃a p',Φ [.own 0 2 0 0,.val (.int .i64 n)] [rdC T code p]=some (E a,[rdC T code p'])∧R n a∧oC code p'∧p≤p'∧p'≤p+c
section
variable {P:Program} {Γ:Ctx} {imm:Md} {N:Nat} {gs:List (Option Nat)} {l:List Oper} {Q:AS→Prop} {tm:Nat→PV} {ob:bC} {nx T:Nat} {Φ:dN} {B c:Int} {α:Type} {E:α→PV}
theorem avu {o:Nat} {code:List Int} {p p':Int} {a:α} {qs:List PV} (hE:∀nm a,dY nm fuel (E a)=some (E a)) (ho:ob o=some (rdC T code p)) (h:Φ qs [rdC T code p]=some (E a,[rdC T code p'])):xZ Φ ob nx o qs (ob o)=some (E a,upd ob o (some (rdC T code p')),nx):=by
 have h1:∀(nm:Nat→Option Nat) (q:Int),[PV.agg [.lst false 1 (code.map fun n=>PV.val (.int .u8 n)),.val (.int .i64 q)]].mapM (dY nm fuel)=some [PV.agg [.lst false 1 (code.map fun n=>PV.val (.int .u8 n)),.val (.int .i64 q)]]:=fun nm q=>by simp only[jq,kY,vE,mapM_cons',mapM_nil',ny,qC,Option.bind_some,Option.map_some]
 rw[ho,oV,h1,Option.bind_some,h,ail,hE,Option.bind_some,h1];rfl
theorem bQ {D:Int→Prop} {R:Int→α→Prop} (hd:ads T Φ B c E D R) (hE:∀nm a,dY nm fuel (E a)=some (E a)) {d f ty o:Nat} {x y:Operand} {ts:Array TypeId} {pos:String} {af:Array Edge} {code:List Int} {p n:Int} (hio:Γ.io f=some Φ) (hx:look tm x=.own o 2 0 0) (hy:look tm y=.val (.int .i64 n)) (ho:ob o=some (rdC T code p)) (hok:oC code p) (hB:p≤B) (hD:D n)
 (he:kC Γ imm nx (look tm) (.call {callee:=.value (.func f),args:=#[x,y],argTypes:=ts})=true)
 (hk:∀a p',R n a→oC code p'→p≤p'→p'≤p+c→wq P Γ imm gs l Q (upd tm d (E a)) (upd ob o (some (rdC T code p'))) nx):
 wq P Γ imm gs ({dst:=some d,op:=.call {callee:=.value (.func f),args:=#[x,y],argTypes:=ts},type:=ty,pos:=pos,after:=af,guard:=none}::l) Q tm ob nx:=by
 obtain⟨a,p',h1,h2,h3,h4,h5⟩:=hd code p n hok hB hD;refine i_E (by simp[eP,lS,hio]) he ?_ (hk a p' h2 h3 h4 h5);rw[aa8,hio,qO];show abb Φ ob nx [look tm x,look tm y]=_;rw[hx,hy,an0];exact avu hE ho h1
end
section
variable {v:Int}
theorem gl2 {a0 a1:Int} (h:v<2):([.val (.int .i64 a0),.val (.int .i64 a1)]:List PV)[v.toNat]?=some (.val (.int .i64 (sel 0 [a0,a1] v.toNat))):=by
 have hx:v.toNat<2:=by omega
 have h2:=aov (f:=fun n=>PV.val (.int .i64 n)) (l:=[a0,a1]) (k:=v.toNat) hx;rw[←List.getElem?_map]at h2;exact h2
theorem gl3 {a0 a1 a2:Int} (h:v<3):([.val (.int .i64 a0),.val (.int .i64 a1),.val (.int .i64 a2)]:List PV)[v.toNat]?=some (.val (.int .i64 (sel 0 [a0,a1,a2] v.toNat))):=by
 have hx:v.toNat<3:=by omega
 have h2:=aov (f:=fun n=>PV.val (.int .i64 n)) (l:=[a0,a1,a2]) (k:=v.toNat) hx;rw[←List.getElem?_map]at h2;exact h2
theorem gs5 {a0 a1 a2 a3 a4:ByteArray} (h:v<5):([.val (.string a0),.val (.string a1),.val (.string a2),.val (.string a3),.val (.string a4)]:List PV)[v.toNat]?=some (.val (.string (sel .empty [a0,a1,a2,a3,a4] v.toNat))):=by
 have hx:v.toNat<5:=by omega
 have h2:=ahK (f:=fun n=>PV.val (.string n)) (l:=[a0,a1,a2,a3,a4]) (k:=v.toNat) hx;rw[←List.getElem?_map]at h2;exact h2
theorem gs8 {a0 a1 a2 a3 a4 a5 a6 a7:ByteArray} (h:v<8):([.val (.string a0),.val (.string a1),.val (.string a2),.val (.string a3),.val (.string a4),.val (.string a5),.val (.string a6),.val (.string a7)]:List PV)[v.toNat]?=some (.val (.string (sel .empty [a0,a1,a2,a3,a4,a5,a6,a7] v.toNat))):=by
 have hx:v.toNat<8:=by omega
 have h2:=ahK (f:=fun n=>PV.val (.string n)) (l:=[a0,a1,a2,a3,a4,a5,a6,a7]) (k:=v.toNat) hx;rw[←List.getElem?_map]at h2;exact h2
theorem axy {a0 a1 a2 a3 a4 a5 a6 a7 a8 a9 a10 a11:ByteArray} (h:v<12):([.val (.string a0),.val (.string a1),.val (.string a2),.val (.string a3),.val (.string a4),.val (.string a5),.val (.string a6),.val (.string a7),.val (.string a8),.val (.string a9),.val (.string a10),.val (.string a11)]:List PV)[v.toNat]?=some (.val (.string (sel .empty [a0,a1,a2,a3,a4,a5,a6,a7,a8,a9,a10,a11] v.toNat))):=by
 have hx:v.toNat<12:=by omega
 have h2:=ahK (f:=fun n=>PV.val (.string n)) (l:=[a0,a1,a2,a3,a4,a5,a6,a7,a8,a9,a10,a11]) (k:=v.toNat) hx;rw[←List.getElem?_map]at h2;exact h2
theorem axG {a0 a1 a2 a3 a4 a5 a6 a7 a8 a9 a10 a11 a12 a13 a14:ByteArray} (h:v<15):([.val (.string a0),.val (.string a1),.val (.string a2),.val (.string a3),.val (.string a4),.val (.string a5),.val (.string a6),.val (.string a7),.val (.string a8),.val (.string a9),.val (.string a10),.val (.string a11),.val (.string a12),.val (.string a13),.val (.string a14)]:List PV)[v.toNat]?=some (.val (.string (sel .empty [a0,a1,a2,a3,a4,a5,a6,a7,a8,a9,a10,a11,a12,a13,a14] v.toNat))):=by
 have hx:v.toNat<15:=by omega
 have h2:=ahK (f:=fun n=>PV.val (.string n)) (l:=[a0,a1,a2,a3,a4,a5,a6,a7,a8,a9,a10,a11,a12,a13,a14]) (k:=v.toNat) hx;rw[←List.getElem?_map]at h2;exact h2
theorem avZ (x:Nat):(x=x+1)=False:=by simp
theorem awZ (x:Nat):(x+1=x)=False:=by simp
theorem awr (x:Nat):(x=x+1+1)=False:=by simp;omega
theorem awg (x:Nat):(x+1+1=x)=False:=by simp;omega
theorem z_s (x:Nat):(0=x+1)=False:=by simp
theorem aw1 (x:Nat):(x=x+1+1+1)=False:=by simp;omega
theorem ava (x:Nat):(x+1+1+1=x)=False:=by simp;omega
end
theorem atA {l:List Int} {y:Int}:(l.map fun n=>PV.val (.int .i64 n))++[.val (.int .i64 y)]=(l++[y]).map fun n=>PV.val (.int .i64 n):=by simp
theorem arV {l:List ByteArray} {y:ByteArray}:(l.map fun n=>PV.val (.string n))++[.val (.string y)]=(l++[y]).map fun n=>PV.val (.string n):=by simp
theorem atv {l:List I4} {a b c d:Int}:(l.map fun x=>PV.agg [.val (.int .i64 x.1),.val (.int .i64 x.2.1),.val (.int .i64 x.2.2.1),.val (.int .i64 x.2.2.2)])++[.agg [.val (.int .i64 a),.val (.int .i64 b),.val (.int .i64 c),.val (.int .i64 d)]]=(l++[(a,b,c,d)]).map fun x=>PV.agg [.val (.int .i64 x.1),.val (.int .i64 x.2.1),.val (.int .i64 x.2.2.1),.val (.int .i64 x.2.2.2)]:=by simp
theorem aO {n:Nat} {a:Int}:List.replicate n (PV.val (.int .i64 a))=(List.replicate n a).map fun n=>PV.val (.int .i64 n):=by simp
theorem aL {n:Nat} {a:ByteArray}:List.replicate n (PV.val (.string a))=(List.replicate n a).map fun n=>PV.val (.string n):=by simp
theorem bH {n:Nat} {a:ByteArray} {b:Int}:List.replicate n (PV.agg [.val (.string a),.val (.int .i64 b)])=(List.replicate n ((a,b):W2)).map fun x=>PV.agg [.val (.string x.1),.val (.int .i64 x.2)]:=by simp
theorem aQ {n:Nat} {a b c:Int}:List.replicate n (PV.agg [.val (.int .i64 a),.val (.int .i64 b),.val (.int .i64 c)])=(List.replicate n ((a,b,c):I3)).map fun x=>PV.agg [.val (.int .i64 x.1),.val (.int .i64 x.2.1),.val (.int .i64 x.2.2)]:=by simp
theorem aP {n:Nat} {a b c d:Int}:List.replicate n (PV.agg [.val (.int .i64 a),.val (.int .i64 b),.val (.int .i64 c),.val (.int .i64 d)])=(List.replicate n ((a,b,c,d):I4)).map fun x=>PV.agg [.val (.int .i64 x.1),.val (.int .i64 x.2.1),.val (.int .i64 x.2.2.1),.val (.int .i64 x.2.2.2)]:=by simp
theorem nat_ne {a b:Nat} (h:¬a=b):(a=b)=False:=by simp[h]
attribute[push_cast low]
 nat_ne
attribute[push_cast]
 atA arV atv
attribute[push_cast]
 gl2 gl3 gs5 gs8 axy axG avZ awZ awr awg z_s aw1 ava Nat.le_refl Nat.add_right_cancel_iff
theorem agH {T:Nat} {code code':List Int} {p p':Int} (h:rdC T code p=rdC T code' p'):code=code'∧p=p':=by
 simp only[rdC,Prod.mk.injEq,true_and,List.cons.injEq,PV.agg.injEq,PV.lst.injEq,PV.val.injEq,Value.int.injEq,and_true]at h;refine⟨?_,h.2⟩;have:Function.Injective fun n:Int=>PV.val (.int .u8 n):=fun a b e=>by simpa using e
 exact(List.map_inj_right (fun a b e=>this e)).1 h.1
theorem oC.to {code:List Int} {p p':Int} (h:oC code p) (h1:0≤p') (h2:p'≤1000000000000):oC code p':=⟨h.len,h.byte,h1,h2⟩
section
variable {P:Program} {Γ:Ctx}
theorem oK (hm:P.follows .mixedOrders=true) {f:Nat} {fn:Func} {C:Code} (hΓ:ak P Γ) (hf:P.funcs[f]?=some fn) (hb:fn.body=some C) (N:Nat) (hN:fn.ntmps=N) (rs:List ResultVar) (hrs:fn.results.toList=rs) (hc:codeOk Γ true N C=true) (hN1:2≤N)
 (T:Nat) (B c:Int) {α:Type} (E:α→PV) (D:Int→Prop) (R:Int→α→Prop)
 (h:∀code p n,oC code p→p≤B→D n→pq P Γ N C (fun x s'=>∃a p',R n a∧oC code p'∧p≤p'∧p'≤p+c∧gL P rs 1 (E a) [rdC T code p'] x s') (bZ [.own 0 2 0 0,.val (.int .i64 n)]).tm (lo [(0,rdC T code p)]) 1):
 ∃Φ:dN,bK P f Φ∧ads T Φ B c E D R:=by
 obtain⟨Φ,h1,h2⟩:=abg hm hΓ hf hb N hN rs hrs hc
  (fun ps o=>∃code p n,ps=[.own 0 2 0 0,.val (.int .i64 n)]∧o=rdC T code p∧oC code p∧p≤B∧D n)
  (fun ps o r o'=>∃code p n a p',ps=[.own 0 2 0 0,.val (.int .i64 n)]∧o=rdC T code p∧r=E a∧o'=rdC T code p'∧R n a∧oC code p'∧p≤p'∧p'≤p+c)
  (fun ps o ⟨code,p,n,e,_⟩=>by rw[e];exact hN1) (fun ps o ⟨code,p,n,e1,e2,h3,h4,h5⟩=>by subst e1 e2;refine sG (fun x s' hx=>?_) _ _ (h code p n h3 h4 h5);obtain⟨a,p',k1,k2,k3,k4,k5⟩:=hx;exact⟨E a,rdC T code p',⟨code,p,n,a,p',rfl,rfl,rfl,rfl,k1,k2,k3,k4⟩,k5⟩)
 refine⟨Φ,h1,fun code p n h3 h4 h5=>?_⟩;obtain⟨r,o',e,code',p1,n1,a,p',e0,e1,rfl,rfl,k1,k2,k3,k4⟩:=h2 _ _ ⟨code,p,n,rfl,rfl,h3,h4,h5⟩;obtain⟨rfl,rfl⟩:=agH e1;have:n=n1:=by simpa using e0
 subst this;exact⟨a,p',e,k1,k2,k3,k4⟩
end
def avc (φ:Fun) {α:Type} (E:α→PV) (R:α→Prop):Prop:=∀code:List Int,(∀i:Nat,0≤code[i]?.getD 0∧code[i]?.getD 0≤255)→code.length≤1048576→∃a,φ [.lst false 1 (code.map fun n=>PV.val (.int .u8 n))]=some (E a)∧R a
theorem apX {P:Program} {Γ:Ctx} (hm:P.follows .mixedOrders=true) {f:Nat} {fn:Func} {C:Code} (hΓ:ak P Γ) (hf:P.funcs[f]?=some fn) (hb:fn.body=some C) (N:Nat) (hN:fn.ntmps=N) (rs:List ResultVar) (hrs:fn.results.toList=rs) (hc:codeOk Γ true N C=true) (hN1:1≤N)
 {α:Type} (E:α→PV) (R:α→Prop)
 (h:∀code:List Int,(∀i:Nat,0≤code[i]?.getD 0∧code[i]?.getD 0≤255)→code.length≤1048576→pq P Γ N C (fun x s'=>∃a,R a∧Post P rs (E a) x s') (bZ [.lst false 1 (code.map fun n=>PV.val (.int .u8 n))]).tm (fun _=>none) 0):
 ∃φ:Fun,Sound P f φ∧avc φ E R:=by
 obtain⟨φ,h1,h2⟩:=yj hm hΓ hf hb N hN rs hrs hc
  (fun ps=>∃code:List Int,ps=[.lst false 1 (code.map fun n=>PV.val (.int .u8 n))]∧(∀i:Nat,0≤code[i]?.getD 0∧code[i]?.getD 0≤255)∧code.length≤1048576)
  (fun ps r=>∃a,r=E a∧R a)
  (fun ps ⟨code,e,_⟩=>by rw[e];exact hN1) (fun ps ⟨code,e1,h3,h4⟩=>by subst e1;refine sG (fun x s' hx=>?_) _ _ (h code h3 h4);obtain⟨a,k1,k2⟩:=hx;exact⟨E a,⟨a,rfl,k1⟩,k2⟩)
 refine⟨φ,h1,fun code h3 h4=>?_⟩;obtain⟨r,e,a,rfl,k1⟩:=h2 _ ⟨code,rfl,h3,h4⟩;exact⟨a,e,k1⟩
theorem atL {P:Program} {t:Nat} {x y:Operand} {m n:Int}:mh P .xor t x y (some (.int .i64 m)) (some (.int .i64 n))=some (.val (.int .i64 (IntKind.i64.wrap ((BitVec.ofInt 64 m ^^^ BitVec.ofInt 64 n).toNat)))):=by
 have:ay P (do eqGuard .xor t x y (.int .i64 m) (.int .i64 n);binOp .xor t (.int .i64 m) (.int .i64 n))=some (.int .i64 (IntKind.i64.wrap ((BitVec.ofInt 64 m ^^^ BitVec.ofInt 64 n).toNat))):=by rfl
 simp only[mh,this,Option.map_some]
theorem afk {m n:Int} (hm:0≤m) (hm2:m≤4611686018427387903) (hn:0≤n) (hn2:n≤4611686018427387903):0≤IntKind.i64.wrap ((BitVec.ofInt 64 m ^^^ BitVec.ofInt 64 n).toNat)∧IntKind.i64.wrap ((BitVec.ofInt 64 m ^^^ BitVec.ofInt 64 n).toNat)≤4611686018427387903:=by
 have e1:(BitVec.ofInt 64 m).toNat=m.toNat:=by rw[BitVec.toNat_ofInt];omega
 have e2:(BitVec.ofInt 64 n).toNat=n.toNat:=by rw[BitVec.toNat_ofInt];omega
 rw[BitVec.toNat_xor,e1,e2];have h:m.toNat ^^^ n.toNat<2 ^ 62:=Nat.xor_lt_two_pow (by omega) (by omega);rw[dw (by omega) (by omega)];omega
theorem avF {P:Program} {Γ:Ctx} {imm:Md} {gs:List (Option Nat)} {l:List Oper} {Q:AS→Prop} {tm:Nat→PV} {ob:bC} {nx d ty t t':Nat} {x y:Operand} {pos:String} {af:Array Edge} {m n:Int}
 (h0:eP Γ imm {dst:=some d,op:=.binOp .xor t x y t',type:=ty,pos:=pos,after:=af,guard:=none}=false)
 (hx:look tm x=.val (.int .i64 m)) (hy:look tm y=.val (.int .i64 n)) (hm:0≤m) (hm2:m≤4611686018427387903) (hn:0≤n) (hn2:n≤4611686018427387903)
 (hk:∀z:Int,0≤z→z≤4611686018427387903→wq P Γ imm gs l Q (upd tm d (.val (.int .i64 z))) ob nx):
 wq P Γ imm gs ({dst:=some d,op:=.binOp .xor t x y t',type:=ty,pos:=pos,after:=af,guard:=none}::l) Q tm ob nx:=by
 obtain⟨h1,h2⟩:=afk hm hm2 hn hn2;refine i_V h0 rfl rfl ?_ (hk _ h1 h2);rw[acr,hx,hy];exact atL
theorem fO {P:Program} {rs:List ResultVar} {T:Nat} {α:Type} {E:α→PV} {R:α→Prop} {code:List Int} {p c:Int} {a:α} {p':Int} {x:X} {tm:Nat→PV} {ob:bC} {nx:Nat} (hx:x=.normal∨x=.ret)
 (h3:((fF P ⟨tm,ob,nx⟩ rs).bind fun qs=>bT [0] ob fuel (gH qs))=some (E a)) (h4:j5 [0] ob fuel 0=some (rdC T code p')) (hR:R a) (ho:oC code p') (h1:p≤p') (h2:p'≤p+c):
 ∃a p',R a∧oC code p'∧p≤p'∧p'≤p+c∧gL P rs 1 (E a) [rdC T code p'] x ⟨tm,ob,nx⟩:=⟨a,p',hR,ho,h1,h2,auv hx h3 h4⟩
theorem alO {P:Program} {rs:List ResultVar} {α:Type} {E:α→PV} {R:α→Prop} {a:α} {x:X} {tm:Nat→PV} {ob:bC} {nx:Nat} (hx:x=.normal∨x=.ret)
 (h3:((fF P ⟨tm,ob,nx⟩ rs).bind fun qs=>reify true 0 ob fuel (gH qs))=some (E a)) (hR:R a):
 ∃a,R a∧Post P rs (E a) x ⟨tm,ob,nx⟩:=⟨a,hR,hx,h3⟩
abbrev okI (n:Int):Prop:=-9223372036854775808≤n∧n≤9223372036854775807
abbrev atS (n:Int):Prop:=0≤n∧n≤255
abbrev okL {α:Type} (ok:α→Prop) (l:List α):Prop:=l.length≤9223372036854775807∧∀a∈l,ok a
theorem aiR {code:List Int} (h:okL atS code):∀i:Nat,0≤code[i]?.getD 0∧code[i]?.getD 0≤255:=fun i=>by
 by_cases hi:i<code.length
 ·simp only[List.getElem?_eq_getElem hi,Option.getD_some]
  exact h.2 _ (List.getElem_mem hi)
 ·rw[List.getElem?_eq_none (by omega)]
  simp
instance {α:Type} (ok:α→Prop) (l:List α):Decidable (okL ok l):=Classical.propDecidable _
theorem agM {code:List Int} (h:∀i:Nat,0≤code[i]?.getD 0∧code[i]?.getD 0≤255):oC (code.take 2000) 0:=by
 refine⟨by simp;omega,fun i=>?_,by omega,by omega⟩;rw[List.getElem?_take];split
 ·exact h i
 ·simp
theorem ahE (cs:List PV):toVal (.agg cs)=(gY cs).map fun vs=> .agg vs.toArray:=rfl
theorem aa1 (p q r:PV):gH [p,q,r]=.tup [p,q,r]:=rfl
theorem adR (p q r s:PV):gH [p,q,r,s]=.tup [p,q,r,s]:=rfl
theorem ael (p q r s t:PV):gH [p,q,r,s,t]=.tup [p,q,r,s,t]:=rfl
theorem agb {fr:Bool} {f sz m T:Nat} {ob:bC} {es:List PV} (hm:m=es.length):p9 fr f ob sz 0 m (some (T,sz,es))=(es.mapM (reify fr 0 ob f)).map (.lst fr sz):=by subst hm;simp[p9]
attribute[push_cast low]
 agb
attribute[push_cast]
 aa1 adR ael ahE beq_self_eq_true
theorem axE:bP (.int .i64 0)=.val (.int .i64 0):=rfl
theorem aiH:bn Tryz.prog 3=some 1:=by kernel_rfl
theorem axA:jC Tryz.prog 3=some false:=by kernel_rfl
theorem av4:eU Tryz.prog 3=some 8:=by kernel_rfl
theorem apN:zeroOf Tryz.prog 3=some (.int .i64 0):=by kernel_rfl
theorem avf:Tryz.prog.underlying 3=some (.int .i64):=by kernel_rfl
theorem axu:bP (.int .i64 0)=.val (.int .i64 0):=rfl
theorem axH:eT Tryz.prog 3=false:=by kernel_rfl
theorem axt:isStr Tryz.prog 3=false:=by kernel_rfl
theorem axj:bn Tryz.prog 4=some 1:=by kernel_rfl
theorem axF:jC Tryz.prog 4=some false:=by kernel_rfl
theorem axc:Tryz.prog.underlying 4=some .bool:=by kernel_rfl
theorem awx {x y:Operand} {a b:Bool}:mh Tryz.prog .neq 4 x y (some (.bool a)) (some (.bool b))=some (.val (.bool (!(a==b)))):=aop axc
theorem axo:bP (.bool false)=.val (.bool false):=rfl
theorem auU:bn Tryz.prog 5=some 1:=by kernel_rfl
theorem axI:jC Tryz.prog 5=some false:=by kernel_rfl
theorem axg:zeroOf Tryz.prog 5=some (.int .u8 0):=by kernel_rfl
theorem avA:Tryz.prog.underlying 5=some (.int .u8):=by kernel_rfl
theorem axx:bP (.int .u8 0)=.val (.int .u8 0):=rfl
theorem axw:eT Tryz.prog 5=false:=by kernel_rfl
theorem axr:isStr Tryz.prog 5=false:=by kernel_rfl
theorem axq:bP (.agg #[.int .i64 0,.int .i64 0,.bool false,.int .u8 0])=.agg [.val (.int .i64 0),.val (.int .i64 0),.val (.bool false),.val (.int .u8 0)]:=rfl
theorem agX:bn Tryz.prog 9=some 1:=by kernel_rfl
theorem axO:jC Tryz.prog 9=some false:=by kernel_rfl
theorem axd:eU Tryz.prog 9=some 16:=by kernel_rfl
theorem alQ:zeroOf Tryz.prog 9=some (.string ByteArray.empty):=by kernel_rfl
theorem awh:Tryz.prog.underlying 9=some .string:=by kernel_rfl
theorem awm {ty:Nat} {s:ByteArray}:qM Tryz.prog 9 ty (.val (.string s))=some (.val (.int .i64 s.size)):=atr awh
theorem awq {s:ByteArray} {i:Int} (h0:0≤i) (h1:i<s.size):au4 Tryz.prog 9 (some (.string s)) (some (.int .i64 i))=some (.val (.int .u8 (at8 s i.toNat))):=atM awh h0 h1
theorem axp:bP (.string ByteArray.empty)=.val (.string ByteArray.empty):=rfl
theorem axK:isStr Tryz.prog 9=true:=by kernel_rfl
theorem avk:bP (.int .u64 0)=.val (.int .u64 0):=rfl
theorem avq:bP (.agg #[.string ByteArray.empty,.int .u64 0])=.agg [.val (.string ByteArray.empty),.val (.int .u64 0)]:=rfl
theorem avj:bP (.int .i32 0)=.val (.int .i32 0):=rfl
theorem aw0:bP (.agg #[.slice none 0 0,.slice none 0 0,.int .i64 0,.int .i64 0,.int .i64 0])=.agg [.val (.slice none 0 0),.val (.slice none 0 0),.val (.int .i64 0),.val (.int .i64 0),.val (.int .i64 0)]:=rfl
theorem avM:bn Tryz.prog 26=some 5:=by kernel_rfl
theorem awU:jC Tryz.prog 26=some true:=by kernel_rfl
theorem aiV:zeroOf Tryz.prog 26=some (.agg #[.slice none 0 0,.slice none 0 0,.int .i64 0,.int .i64 0,.int .i64 0]):=by kernel_rfl
theorem aoV:bf Tryz.prog 26 0=some 0:=by kernel_rfl
theorem apg:bf Tryz.prog 26 1=some 1:=by kernel_rfl
theorem amy:bf Tryz.prog 26 2=some 2:=by kernel_rfl
theorem aoN:bf Tryz.prog 26 3=some 3:=by kernel_rfl
theorem an5:bf Tryz.prog 26 4=some 4:=by kernel_rfl
theorem auw:bV Tryz.prog 26=some #[(0,1),(1,1),(2,1),(3,1),(4,1)]:=by kernel_rfl
theorem awe (ps:List (Nat×PV)):eX Tryz.prog 26 ps=(jX (plF [(0,1),(1,1),(2,1),(3,1),(4,1)]) [.val (.slice none 0 0),.val (.slice none 0 0),.val (.int .i64 0),.val (.int .i64 0),.val (.int .i64 0)] ps).map .agg:=aad aiV rfl auw ps
theorem awu:bP (.agg #[.slice none 0 0,.slice none 0 0,.int .i64 0,.int .i64 0,.int .i64 0])=.agg [.val (.slice none 0 0),.val (.slice none 0 0),.val (.int .i64 0),.val (.int .i64 0),.val (.int .i64 0)]:=rfl
theorem avx {Γ:Ctx} (s:AS) (ρ:Operand→PV):bA Tryz.prog Γ s ρ (.alloc 26)=some (.own s.nx 5 0 0,upd s.ob s.nx (some (26,5,[.agg [.val (.slice none 0 0),.val (.slice none 0 0),.val (.int .i64 0),.val (.int .i64 0),.val (.int .i64 0)]])),s.nx+1):=aeu aiV (by kernel_rfl) rfl rfl s ρ
theorem awV:bP (.agg #[.slice none 0 0,.slice none 0 0,.int .i64 0,.int .i64 0,.int .i64 0])=.agg [.val (.slice none 0 0),.val (.slice none 0 0),.val (.int .i64 0),.val (.int .i64 0),.val (.int .i64 0)]:=rfl
theorem awf:bP (.agg #[.int .i64 0,.int .i64 0,.int .i64 0,.int .i64 0])=.agg [.val (.int .i64 0),.val (.int .i64 0),.val (.int .i64 0),.val (.int .i64 0)]:=rfl
theorem ajP:bn Tryz.prog 54=some 4:=by kernel_rfl
theorem avg:jC Tryz.prog 54=some true:=by kernel_rfl
theorem aqO:eU Tryz.prog 54=some 32:=by kernel_rfl
theorem ahe:zeroOf Tryz.prog 54=some (.agg #[.int .i64 0,.int .i64 0,.int .i64 0,.int .i64 0]):=by kernel_rfl
theorem aqs:bf Tryz.prog 54 0=some 0:=by kernel_rfl
theorem ao1:bf Tryz.prog 54 1=some 1:=by kernel_rfl
theorem an2:bf Tryz.prog 54 2=some 2:=by kernel_rfl
theorem amV:bf Tryz.prog 54 3=some 3:=by kernel_rfl
theorem atn:bV Tryz.prog 54=some #[(0,1),(1,1),(2,1),(3,1)]:=by kernel_rfl
theorem avJ (ps:List (Nat×PV)):eX Tryz.prog 54 ps=(jX (plF [(0,1),(1,1),(2,1),(3,1)]) [.val (.int .i64 0),.val (.int .i64 0),.val (.int .i64 0),.val (.int .i64 0)] ps).map .agg:=aad ahe rfl atn ps
theorem awK:bP (.agg #[.int .i64 0,.int .i64 0,.int .i64 0,.int .i64 0])=.agg [.val (.int .i64 0),.val (.int .i64 0),.val (.int .i64 0),.val (.int .i64 0)]:=rfl
theorem aw3 {Γ:Ctx} (s:AS) (ρ:Operand→PV):bA Tryz.prog Γ s ρ (.alloc 54)=some (.own s.nx 4 0 0,upd s.ob s.nx (some (54,4,[.agg [.val (.int .i64 0),.val (.int .i64 0),.val (.int .i64 0),.val (.int .i64 0)]])),s.nx+1):=aeu ahe (by kernel_rfl) rfl rfl s ρ
theorem avv {Γ:Ctx} {ob:bC} {ρ:Operand→PV} {ty:Nat}:aZ Tryz.prog Γ ob ρ ty (.build 54 #[])=some (.agg [.val (.int .i64 0),.val (.int .i64 0),.val (.int .i64 0),.val (.int .i64 0)]):=(show eX Tryz.prog 54 []=some (.agg [.val (.int .i64 0),.val (.int .i64 0),.val (.int .i64 0),.val (.int .i64 0)])from by kernel_rfl)
theorem avO:bP (.agg #[.slice none 0 0,.int .i64 0])=.agg [.val (.slice none 0 0),.val (.int .i64 0)]:=rfl
theorem atH:zeroOf Tryz.prog 65=some (.agg #[.slice none 0 0,.int .i64 0]):=by kernel_rfl
theorem amw:bf Tryz.prog 65 0=some 0:=by kernel_rfl
theorem aot:bf Tryz.prog 65 1=some 1:=by kernel_rfl
theorem asl:bV Tryz.prog 65=some #[(0,1),(1,1)]:=by kernel_rfl
theorem awo (ps:List (Nat×PV)):eX Tryz.prog 65 ps=(jX (plF [(0,1),(1,1)]) [.val (.slice none 0 0),.val (.int .i64 0)] ps).map .agg:=aad atH rfl asl ps
theorem avp:bP (.agg #[.slice none 0 0,.int .i64 0])=.agg [.val (.slice none 0 0),.val (.int .i64 0)]:=rfl
theorem avL:bP (.agg #[.int .i64 0,.bool false,.int .i64 0,.int .i64 0])=.agg [.val (.int .i64 0),.val (.bool false),.val (.int .i64 0),.val (.int .i64 0)]:=rfl
theorem aes:bn Tryz.prog 70=some 4:=by kernel_rfl
theorem ave:jC Tryz.prog 70=some true:=by kernel_rfl
theorem aqX:eU Tryz.prog 70=some 32:=by kernel_rfl
theorem adQ:zeroOf Tryz.prog 70=some (.agg #[.int .i64 0,.bool false,.int .i64 0,.int .i64 0]):=by kernel_rfl
theorem apV:bf Tryz.prog 70 0=some 0:=by kernel_rfl
theorem anv:bf Tryz.prog 70 1=some 1:=by kernel_rfl
theorem amK:bf Tryz.prog 70 2=some 2:=by kernel_rfl
theorem amQ:bf Tryz.prog 70 3=some 3:=by kernel_rfl
theorem asG:bV Tryz.prog 70=some #[(0,1),(1,1),(2,1),(3,1)]:=by kernel_rfl
theorem avz (ps:List (Nat×PV)):eX Tryz.prog 70 ps=(jX (plF [(0,1),(1,1),(2,1),(3,1)]) [.val (.int .i64 0),.val (.bool false),.val (.int .i64 0),.val (.int .i64 0)] ps).map .agg:=aad adQ rfl asG ps
theorem awy:bP (.agg #[.int .i64 0,.bool false,.int .i64 0,.int .i64 0])=.agg [.val (.int .i64 0),.val (.bool false),.val (.int .i64 0),.val (.int .i64 0)]:=rfl
theorem awj {Γ:Ctx} (s:AS) (ρ:Operand→PV):bA Tryz.prog Γ s ρ (.alloc 70)=some (.own s.nx 4 0 0,upd s.ob s.nx (some (70,4,[.agg [.val (.int .i64 0),.val (.bool false),.val (.int .i64 0),.val (.int .i64 0)]])),s.nx+1):=aeu adQ (by kernel_rfl) rfl rfl s ρ
theorem avK:bP (.agg #[.int .i64 0,.int .i64 0,.int .i64 0,.int .i64 0,.int .i64 0,.int .i64 0,.bool false])=.agg [.val (.int .i64 0),.val (.int .i64 0),.val (.int .i64 0),.val (.int .i64 0),.val (.int .i64 0),.val (.int .i64 0),.val (.bool false)]:=rfl
theorem adT:bn Tryz.prog 79=some 7:=by kernel_rfl
theorem awE:jC Tryz.prog 79=some true:=by kernel_rfl
theorem asP:eU Tryz.prog 79=some 56:=by kernel_rfl
theorem aa7:zeroOf Tryz.prog 79=some (.agg #[.int .i64 0,.int .i64 0,.int .i64 0,.int .i64 0,.int .i64 0,.int .i64 0,.bool false]):=by kernel_rfl
theorem anb:bf Tryz.prog 79 0=some 0:=by kernel_rfl
theorem aoY:bf Tryz.prog 79 1=some 1:=by kernel_rfl
theorem aqp:bf Tryz.prog 79 2=some 5:=by kernel_rfl
theorem an6:bf Tryz.prog 79 3=some 6:=by kernel_rfl
theorem aua:bV Tryz.prog 79=some #[(0,1),(1,4),(5,1),(6,1)]:=by kernel_rfl
theorem awW (ps:List (Nat×PV)):eX Tryz.prog 79 ps=(jX (plF [(0,1),(1,4),(5,1),(6,1)]) [.val (.int .i64 0),.val (.int .i64 0),.val (.int .i64 0),.val (.int .i64 0),.val (.int .i64 0),.val (.int .i64 0),.val (.bool false)] ps).map .agg:=aad aa7 rfl aua ps
theorem avm:bP (.agg #[.int .i64 0,.int .i64 0,.int .i64 0,.int .i64 0,.int .i64 0,.int .i64 0,.bool false])=.agg [.val (.int .i64 0),.val (.int .i64 0),.val (.int .i64 0),.val (.int .i64 0),.val (.int .i64 0),.val (.int .i64 0),.val (.bool false)]:=rfl
theorem awt {Γ:Ctx} (s:AS) (ρ:Operand→PV):bA Tryz.prog Γ s ρ (.alloc 79)=some (.own s.nx 7 0 0,upd s.ob s.nx (some (79,7,[.agg [.val (.int .i64 0),.val (.int .i64 0),.val (.int .i64 0),.val (.int .i64 0),.val (.int .i64 0),.val (.int .i64 0),.val (.bool false)]])),s.nx+1):=aeu aa7 (by kernel_rfl) rfl rfl s ρ
theorem awS:bP (.agg #[.int .i64 0,.bool false,.int .i64 0])=.agg [.val (.int .i64 0),.val (.bool false),.val (.int .i64 0)]:=rfl
theorem awJ:bn Tryz.prog 96=some 3:=by kernel_rfl
theorem avG:jC Tryz.prog 96=some true:=by kernel_rfl
theorem aeg:zeroOf Tryz.prog 96=some (.agg #[.int .i64 0,.bool false,.int .i64 0]):=by kernel_rfl
theorem apH:bf Tryz.prog 96 0=some 0:=by kernel_rfl
theorem apC:bf Tryz.prog 96 1=some 1:=by kernel_rfl
theorem aqd:bf Tryz.prog 96 2=some 2:=by kernel_rfl
theorem ar3:bV Tryz.prog 96=some #[(0,1),(1,1),(2,1)]:=by kernel_rfl
theorem awi (ps:List (Nat×PV)):eX Tryz.prog 96 ps=(jX (plF [(0,1),(1,1),(2,1)]) [.val (.int .i64 0),.val (.bool false),.val (.int .i64 0)] ps).map .agg:=aad aeg rfl ar3 ps
theorem avX:bP (.agg #[.int .i64 0,.bool false,.int .i64 0])=.agg [.val (.int .i64 0),.val (.bool false),.val (.int .i64 0)]:=rfl
theorem awH {Γ:Ctx} (s:AS) (ρ:Operand→PV):bA Tryz.prog Γ s ρ (.alloc 96)=some (.own s.nx 3 0 0,upd s.ob s.nx (some (96,3,[.agg [.val (.int .i64 0),.val (.bool false),.val (.int .i64 0)]])),s.nx+1):=aeu aeg (by kernel_rfl) rfl rfl s ρ
theorem aw5 {Γ:Ctx} {ob:bC} {ρ:Operand→PV} {ty:Nat}:aZ Tryz.prog Γ ob ρ ty (.build 96 #[])=some (.agg [.val (.int .i64 0),.val (.bool false),.val (.int .i64 0)]):=(show eX Tryz.prog 96 []=some (.agg [.val (.int .i64 0),.val (.bool false),.val (.int .i64 0)])from by kernel_rfl)
theorem asu:Tryz.prog.underlying 96=some (.struct (Go.Program.fieldsOf Tryz.prog 96)):=by kernel_rfl
theorem avR:bP (.agg #[.int .i64 0,.int .i64 0,.bool false,.int .i64 0])=.agg [.val (.int .i64 0),.val (.int .i64 0),.val (.bool false),.val (.int .i64 0)]:=rfl
theorem av0:bn Tryz.prog 98=some 4:=by kernel_rfl
theorem awd:jC Tryz.prog 98=some true:=by kernel_rfl
theorem afa:zeroOf Tryz.prog 98=some (.agg #[.int .i64 0,.int .i64 0,.bool false,.int .i64 0]):=by kernel_rfl
theorem aml:bf Tryz.prog 98 0=some 0:=by kernel_rfl
theorem anq:bf Tryz.prog 98 1=some 1:=by kernel_rfl
theorem asz:bV Tryz.prog 98=some #[(0,1),(1,3)]:=by kernel_rfl
theorem awn (ps:List (Nat×PV)):eX Tryz.prog 98 ps=(jX (plF [(0,1),(1,3)]) [.val (.int .i64 0),.val (.int .i64 0),.val (.bool false),.val (.int .i64 0)] ps).map .agg:=aad afa rfl asz ps
theorem avl:bP (.agg #[.int .i64 0,.int .i64 0,.bool false,.int .i64 0])=.agg [.val (.int .i64 0),.val (.int .i64 0),.val (.bool false),.val (.int .i64 0)]:=rfl
theorem avt {Γ:Ctx} (s:AS) (ρ:Operand→PV):bA Tryz.prog Γ s ρ (.alloc 98)=some (.own s.nx 4 0 0,upd s.ob s.nx (some (98,4,[.agg [.val (.int .i64 0),.val (.int .i64 0),.val (.bool false),.val (.int .i64 0)]])),s.nx+1):=aeu afa (by kernel_rfl) rfl rfl s ρ
theorem au7 {Γ:Ctx} {ob:bC} {ρ:Operand→PV} {ty:Nat}:aZ Tryz.prog Γ ob ρ ty (.build 98 #[])=some (.agg [.val (.int .i64 0),.val (.int .i64 0),.val (.bool false),.val (.int .i64 0)]):=(show eX Tryz.prog 98 []=some (.agg [.val (.int .i64 0),.val (.int .i64 0),.val (.bool false),.val (.int .i64 0)])from by kernel_rfl)
theorem agj:bn Tryz.prog 104=some 4:=by kernel_rfl
theorem alb:eU Tryz.prog 104=some 4:=by kernel_rfl
theorem alU:zeroOf Tryz.prog 104=some (.agg #[.bool false,.bool false,.bool false,.bool false]):=by kernel_rfl
theorem alT:Tryz.prog.underlying 104=some (.array 4 4):=by kernel_rfl
theorem apE {o sz j f:Nat} {i:Int} (h0:0≤i) (h1:i<4):aI Tryz.prog 104 (.own o sz j f) i=some (.own o sz j (f+i.toNat)):=by rw[alx alT axj h0 h1,Nat.mul_one]
theorem aur:bP (.agg #[.bool false,.bool false,.bool false,.bool false])=.agg [.val (.bool false),.val (.bool false),.val (.bool false),.val (.bool false)]:=rfl
theorem agI:bn Tryz.prog 110=some 4:=by kernel_rfl
theorem ak9:eU Tryz.prog 110=some 32:=by kernel_rfl
theorem alh:zeroOf Tryz.prog 110=some (.agg #[.int .i64 0,.int .i64 0,.int .i64 0,.int .i64 0]):=by kernel_rfl
theorem alr:Tryz.prog.underlying 110=some (.array 4 3):=by kernel_rfl
theorem anw {o sz j f:Nat} {i:Int} (h0:0≤i) (h1:i<4):aI Tryz.prog 110 (.own o sz j f) i=some (.own o sz j (f+i.toNat)):=by rw[alx alr aiH h0 h1,Nat.mul_one]
theorem as3:bP (.agg #[.int .i64 0,.int .i64 0,.int .i64 0,.int .i64 0])=.agg [.val (.int .i64 0),.val (.int .i64 0),.val (.int .i64 0),.val (.int .i64 0)]:=rfl
theorem arY:bP (.int .u32 0)=.val (.int .u32 0):=rfl
theorem avV:bn Tryz.prog 22=some 1:=by kernel_rfl
theorem awP:jC Tryz.prog 22=some false:=by kernel_rfl
theorem ao7:Tryz.prog.underlying 22=some (.slice 5):=by kernel_rfl
theorem amZ:dK Tryz.prog 22=some 5:=by kernel_rfl
theorem au8 {k:Bool} {es:List PV} {i:Int} (h0:0≤i) (h1:i<(es.length:Int)):aI Tryz.prog 22 (.lst k 1 es) i=some (.ptr k ((es[i.toNat]?).getD .dead) 0):=tO ao7 auU h0 h1
theorem av3 {k:Bool} {es:List PV} {lo hi:Option Int} (h0:0≤lo.getD 0) (h1:lo.getD 0≤hi.getD es.length) (h2:hi.getD es.length≤es.length):iX Tryz.prog 22 (.lst k 1 es) lo hi=some (.lst k 1 ((es.drop (lo.getD 0).toNat).take ((hi.getD es.length).toNat-(lo.getD 0).toNat))):=ahf ao7 auU h0 h1 h2
theorem auz {ty sz:Nat} {k:Bool} {es:List PV}:qM Tryz.prog 22 ty (.lst k sz es)=some (.val (.int .i64 es.length)):=tC amZ
theorem av7:bP (.slice none 0 0)=.val (.slice none 0 0):=rfl
theorem au9:eT Tryz.prog 22=true:=by kernel_rfl
theorem agu:bn Tryz.prog 24=some 1:=by kernel_rfl
theorem av5:jC Tryz.prog 24=some false:=by kernel_rfl
theorem arl:eU Tryz.prog 24=some 24:=by kernel_rfl
theorem ak8:zeroOf Tryz.prog 24=some (.slice none 0 0):=by kernel_rfl
theorem afC:Tryz.prog.underlying 24=some (.slice 9):=by kernel_rfl
theorem uy:dK Tryz.prog 24=some 9:=by kernel_rfl
theorem awI {k:Bool} {es:List PV} {i:Int} (h0:0≤i) (h1:i<(es.length:Int)):aI Tryz.prog 24 (.lst k 1 es) i=some (.ptr k ((es[i.toNat]?).getD .dead) 0):=tO afC agX h0 h1
theorem aqV {o j n:Nat} {i:Int} (h0:0≤i) (h1:i<(n:Int)):aI Tryz.prog 24 (.row o 1 j n) i=some (.own o 1 (j+i.toNat) 0):=adx afC agX h0 h1
theorem awv {k:Bool} {es:List PV} {lo hi:Option Int} (h0:0≤lo.getD 0) (h1:lo.getD 0≤hi.getD es.length) (h2:hi.getD es.length≤es.length):iX Tryz.prog 24 (.lst k 1 es) lo hi=some (.lst k 1 ((es.drop (lo.getD 0).toNat).take ((hi.getD es.length).toNat-(lo.getD 0).toNat))):=ahf afC agX h0 h1 h2
theorem ar2 {ty sz:Nat} {k:Bool} {es:List PV}:qM Tryz.prog 24 ty (.lst k sz es)=some (.val (.int .i64 es.length)):=tC uy
theorem auK {ty o sz i n:Nat}:qM Tryz.prog 24 ty (.row o sz i n)=some (.val (.int .i64 n)):=acv uy
theorem ar9 {ty:Nat}:qM Tryz.prog 24 ty (.val (.slice none 0 0))=some (.val (.int .i64 0)):=alz afC
theorem aw2:bP (.slice none 0 0)=.val (.slice none 0 0):=rfl
theorem ar4 {Γ:Ctx} (s:AS) (ρ:Operand→PV) (x y:Operand):bA Tryz.prog Γ s ρ (.call {callee:=.builtin .append,args:=#[x,y],argTypes:=#[24,24]})=afo 9 1 16 s.nx s.ob (ρ x) (aan s.ob (ρ x)) (bF s.ob 1 (ρ y)):=uV uy alQ agX axd (by decide) rfl s ρ x y
theorem aqm:Tryz.prog.underlying 30=some (.slice 3):=by kernel_rfl
theorem xC:dK Tryz.prog 30=some 3:=by kernel_rfl
theorem awQ {k:Bool} {es:List PV} {i:Int} (h0:0≤i) (h1:i<(es.length:Int)):aI Tryz.prog 30 (.lst k 1 es) i=some (.ptr k ((es[i.toNat]?).getD .dead) 0):=tO aqm aiH h0 h1
theorem atw {o j n:Nat} {i:Int} (h0:0≤i) (h1:i<(n:Int)):aI Tryz.prog 30 (.row o 1 j n) i=some (.own o 1 (j+i.toNat) 0):=adx aqm aiH h0 h1
theorem atN {ty sz:Nat} {k:Bool} {es:List PV}:qM Tryz.prog 30 ty (.lst k sz es)=some (.val (.int .i64 es.length)):=tC xC
theorem aum {ty o sz i n:Nat}:qM Tryz.prog 30 ty (.row o sz i n)=some (.val (.int .i64 n)):=acv xC
theorem avi:bP (.slice none 0 0)=.val (.slice none 0 0):=rfl
theorem aws {Γ:Ctx} (s:AS) (ρ:Operand→PV) (l c:Operand):bA Tryz.prog Γ s ρ (.makeSlice 30 l c)=anH 3 1 8 (.int .i64 0) s (ρ l) (ρ c):=anp xC apN aiH av4 (by kernel_rfl) rfl s ρ l c
theorem asA {Γ:Ctx} (s:AS) (ρ:Operand→PV) (x y:Operand):bA Tryz.prog Γ s ρ (.call {callee:=.builtin .append,args:=#[x,y],argTypes:=#[30,30]})=afo 3 1 8 s.nx s.ob (ρ x) (aan s.ob (ρ x)) (bF s.ob 1 (ρ y)):=uV xC apN aiH av4 (by decide) rfl s ρ x y
theorem ak6:Tryz.prog.underlying 49=some (.slice 70):=by kernel_rfl
theorem aec:dK Tryz.prog 49=some 70:=by kernel_rfl
theorem avy {k:Bool} {es:List PV} {i:Int} (h0:0≤i) (h1:i<(es.length:Int)):aI Tryz.prog 49 (.lst k 4 es) i=some (.ptr k ((es[i.toNat]?).getD .dead) 0):=tO ak6 aes h0 h1
theorem aw4 {k:Bool} {es:List PV} {lo hi:Option Int} (h0:0≤lo.getD 0) (h1:lo.getD 0≤hi.getD es.length) (h2:hi.getD es.length≤es.length):iX Tryz.prog 49 (.lst k 4 es) lo hi=some (.lst k 4 ((es.drop (lo.getD 0).toNat).take ((hi.getD es.length).toNat-(lo.getD 0).toNat))):=ahf ak6 aes h0 h1 h2
theorem auC {ty sz:Nat} {k:Bool} {es:List PV}:qM Tryz.prog 49 ty (.lst k sz es)=some (.val (.int .i64 es.length)):=tC aec
theorem arL {ty o sz i n:Nat}:qM Tryz.prog 49 ty (.row o sz i n)=some (.val (.int .i64 n)):=acv aec
theorem atV {ty:Nat}:qM Tryz.prog 49 ty (.val (.slice none 0 0))=some (.val (.int .i64 0)):=alz ak6
theorem avE:bP (.slice none 0 0)=.val (.slice none 0 0):=rfl
theorem asb {Γ:Ctx} (s:AS) (ρ:Operand→PV) (x y:Operand):bA Tryz.prog Γ s ρ (.call {callee:=.builtin .append,args:=#[x,y],argTypes:=#[49,49]})=afo 70 4 32 s.nx s.ob (ρ x) (aan s.ob (ρ x)) (bF s.ob 4 (ρ y)):=uV aec adQ aes aqX (by decide) rfl s ρ x y
theorem av1:bn Tryz.prog 73=some 1:=by kernel_rfl
theorem avr:jC Tryz.prog 73=some false:=by kernel_rfl
theorem at0:Tryz.prog.underlying 73=some (.slice 79):=by kernel_rfl
theorem abh:dK Tryz.prog 73=some 79:=by kernel_rfl
theorem avW {k:Bool} {es:List PV} {i:Int} (h0:0≤i) (h1:i<(es.length:Int)):aI Tryz.prog 73 (.lst k 7 es) i=some (.ptr k ((es[i.toNat]?).getD .dead) 0):=tO at0 adT h0 h1
theorem ath {ty sz:Nat} {k:Bool} {es:List PV}:qM Tryz.prog 73 ty (.lst k sz es)=some (.val (.int .i64 es.length)):=tC abh
theorem asE {ty o sz i n:Nat}:qM Tryz.prog 73 ty (.row o sz i n)=some (.val (.int .i64 n)):=acv abh
theorem avB:bP (.slice none 0 0)=.val (.slice none 0 0):=rfl
theorem asD {Γ:Ctx} (s:AS) (ρ:Operand→PV) (x y:Operand):bA Tryz.prog Γ s ρ (.call {callee:=.builtin .append,args:=#[x,y],argTypes:=#[73,73]})=afo 79 7 56 s.nx s.ob (ρ x) (aan s.ob (ρ x)) (bF s.ob 7 (ρ y)):=uV abh aa7 adT asP (by decide) rfl s ρ x y
theorem als:Tryz.prog.underlying 102=some (.slice 110):=by kernel_rfl
theorem alC:dK Tryz.prog 102=some 110:=by kernel_rfl
theorem amx {o j n:Nat} {i:Int} (h0:0≤i) (h1:i<(n:Int)):aI Tryz.prog 102 (.row o 4 j n) i=some (.own o 4 (j+i.toNat) 0):=adx als agI h0 h1
theorem atq:bP (.slice none 0 0)=.val (.slice none 0 0):=rfl
theorem aq7 {Γ:Ctx} (s:AS) (ρ:Operand→PV) (l c:Operand):bA Tryz.prog Γ s ρ (.makeSlice 102 l c)=anH 110 4 32 (.agg #[.int .i64 0,.int .i64 0,.int .i64 0,.int .i64 0]) s (ρ l) (ρ c):=anp alC alh agI ak9 (by kernel_rfl) rfl s ρ l c
theorem alD:Tryz.prog.underlying 103=some (.slice 104):=by kernel_rfl
theorem al4:dK Tryz.prog 103=some 104:=by kernel_rfl
theorem aox {o j n:Nat} {i:Int} (h0:0≤i) (h1:i<(n:Int)):aI Tryz.prog 103 (.row o 4 j n) i=some (.own o 4 (j+i.toNat) 0):=adx alD agj h0 h1
theorem aqS:bP (.slice none 0 0)=.val (.slice none 0 0):=rfl
theorem asO {Γ:Ctx} (s:AS) (ρ:Operand→PV) (l c:Operand):bA Tryz.prog Γ s ρ (.makeSlice 103 l c)=anH 104 4 4 (.agg #[.bool false,.bool false,.bool false,.bool false]) s (ρ l) (ρ c):=anp al4 alU agj alb (by kernel_rfl) rfl s ρ l c
theorem alY:Tryz.prog.underlying 133=some (.slice 54):=by kernel_rfl
theorem acT:dK Tryz.prog 133=some 54:=by kernel_rfl
theorem atg {k:Bool} {es:List PV} {i:Int} (h0:0≤i) (h1:i<(es.length:Int)):aI Tryz.prog 133 (.lst k 4 es) i=some (.ptr k ((es[i.toNat]?).getD .dead) 0):=tO alY ajP h0 h1
theorem ant {ty sz:Nat} {k:Bool} {es:List PV}:qM Tryz.prog 133 ty (.lst k sz es)=some (.val (.int .i64 es.length)):=tC acT
theorem aq6:bP (.slice none 0 0)=.val (.slice none 0 0):=rfl
theorem aoo {Γ:Ctx} (s:AS) (ρ:Operand→PV) (x y:Operand):bA Tryz.prog Γ s ρ (.call {callee:=.builtin .append,args:=#[x,y],argTypes:=#[133,133]})=afo 54 4 32 s.nx s.ob (ρ x) (aan s.ob (ρ x)) (bF s.ob 4 (ρ y)):=uV acT ahe ajP aqO (by decide) rfl s ρ x y
theorem avP:bn Tryz.prog 23=some 1:=by kernel_rfl
theorem awG:jC Tryz.prog 23=some false:=by kernel_rfl
theorem arB:Tryz.prog.underlying 23=some (.slice 24):=by kernel_rfl
theorem aiy:dK Tryz.prog 23=some 24:=by kernel_rfl
theorem avn {k:Bool} {es:List PV} {i:Int} (h0:0≤i) (h1:i<(es.length:Int)):aI Tryz.prog 23 (.lst k 1 es) i=some (.ptr k ((es[i.toNat]?).getD .dead) 0):=tO arB agu h0 h1
theorem ato {ty sz:Nat} {k:Bool} {es:List PV}:qM Tryz.prog 23 ty (.lst k sz es)=some (.val (.int .i64 es.length)):=tC aiy
theorem avs:bP (.slice none 0 0)=.val (.slice none 0 0):=rfl
theorem aq9 {Γ:Ctx} (s:AS) (ρ:Operand→PV) (x y:Operand):bA Tryz.prog Γ s ρ (.call {callee:=.builtin .append,args:=#[x,y],argTypes:=#[23,23]})=afo 24 1 24 s.nx s.ob (ρ x) (aan s.ob (ρ x)) (bF s.ob 1 (ρ y)):=uV aiy ak8 agu arl (by decide) rfl s ρ x y
theorem apQ {k:IntKind} {n:Int} {es:Option (List PV)}:yQ Tryz.prog 3 5 false es (some (.int k n))=some (.val (.int .u8 (IntKind.u8.wrap n))):=alG avf avA
theorem am8 {k:IntKind} {n:Int} {es:Option (List PV)}:yQ Tryz.prog 5 3 false es (some (.int k n))=some (.val (.int .i64 (IntKind.i64.wrap n))):=alG avA avf
theorem amX {a0:PV}:gG Tryz.prog 22 1 [(0,a0)]=tX 5 1 [a0] (okP 1 a0&&(true)):=jS amZ auU axg _ (by decide) (by decide) rfl
theorem ao2:gG Tryz.prog 23 0 []=tX 24 1 [] (true):=jS aiy agu ak8 _ (by decide) (by decide) rfl
theorem aoA {a0:PV}:gG Tryz.prog 23 1 [(0,a0)]=tX 24 1 [a0] (okP 1 a0&&(true)):=jS aiy agu ak8 _ (by decide) (by decide) rfl
theorem aoT:gG Tryz.prog 24 0 []=tX 9 1 [] (true):=jS uy agX alQ _ (by decide) (by decide) rfl
theorem aoU {a0:PV}:gG Tryz.prog 24 1 [(0,a0)]=tX 9 1 [a0] (okP 1 a0&&(true)):=jS uy agX alQ _ (by decide) (by decide) rfl
theorem anZ {a0 a1 a2 a3 a4:PV}:gG Tryz.prog 24 5 [(0,a0),(1,a1),(2,a2),(3,a3),(4,a4)]=tX 9 1 [a0,a1,a2,a3,a4] (okP 1 a0&&(okP 1 a1&&(okP 1 a2&&(okP 1 a3&&(okP 1 a4&&(true)))))):=jS uy agX alQ _ (by decide) (by decide) rfl
theorem anU {a0 a1 a2 a3 a4 a5 a6 a7:PV}:gG Tryz.prog 24 8 [(0,a0),(1,a1),(2,a2),(3,a3),(4,a4),(5,a5),(6,a6),(7,a7)]=tX 9 1 [a0,a1,a2,a3,a4,a5,a6,a7] (okP 1 a0&&(okP 1 a1&&(okP 1 a2&&(okP 1 a3&&(okP 1 a4&&(okP 1 a5&&(okP 1 a6&&(okP 1 a7&&(true))))))))):=jS uy agX alQ _ (by decide) (by decide) rfl
theorem akV {a0 a1 a2 a3 a4 a5 a6 a7 a8 a9 a10 a11:PV}:gG Tryz.prog 24 12 [(0,a0),(1,a1),(2,a2),(3,a3),(4,a4),(5,a5),(6,a6),(7,a7),(8,a8),(9,a9),(10,a10),(11,a11)]=tX 9 1 [a0,a1,a2,a3,a4,a5,a6,a7,a8,a9,a10,a11] (okP 1 a0&&(okP 1 a1&&(okP 1 a2&&(okP 1 a3&&(okP 1 a4&&(okP 1 a5&&(okP 1 a6&&(okP 1 a7&&(okP 1 a8&&(okP 1 a9&&(okP 1 a10&&(okP 1 a11&&(true))))))))))))):=jS uy agX alQ _ (by decide) (by decide) rfl
theorem akU {a0 a1 a2 a3 a4 a5 a6 a7 a8 a9 a10 a11 a12 a13 a14:PV}:gG Tryz.prog 24 15 [(0,a0),(1,a1),(2,a2),(3,a3),(4,a4),(5,a5),(6,a6),(7,a7),(8,a8),(9,a9),(10,a10),(11,a11),(12,a12),(13,a13),(14,a14)]=tX 9 1 [a0,a1,a2,a3,a4,a5,a6,a7,a8,a9,a10,a11,a12,a13,a14] (okP 1 a0&&(okP 1 a1&&(okP 1 a2&&(okP 1 a3&&(okP 1 a4&&(okP 1 a5&&(okP 1 a6&&(okP 1 a7&&(okP 1 a8&&(okP 1 a9&&(okP 1 a10&&(okP 1 a11&&(okP 1 a12&&(okP 1 a13&&(okP 1 a14&&(true)))))))))))))))):=jS uy agX alQ _ (by decide) (by decide) rfl
theorem ani:gG Tryz.prog 30 0 []=tX 3 1 [] (true):=jS xC aiH apN _ (by decide) (by decide) rfl
theorem apR {a0:PV}:gG Tryz.prog 30 1 [(0,a0)]=tX 3 1 [a0] (okP 1 a0&&(true)):=jS xC aiH apN _ (by decide) (by decide) rfl
theorem aoK {a0 a1:PV}:gG Tryz.prog 30 2 [(0,a0),(1,a1)]=tX 3 1 [a0,a1] (okP 1 a0&&(okP 1 a1&&(true))):=jS xC aiH apN _ (by decide) (by decide) rfl
theorem ao0 {a0 a1 a2:PV}:gG Tryz.prog 30 3 [(0,a0),(1,a1),(2,a2)]=tX 3 1 [a0,a1,a2] (okP 1 a0&&(okP 1 a1&&(okP 1 a2&&(true)))):=jS xC aiH apN _ (by decide) (by decide) rfl
theorem aoF:gG Tryz.prog 49 0 []=tX 70 4 [] (true):=jS aec aes adQ _ (by decide) (by decide) rfl
theorem aoe {a0:PV}:gG Tryz.prog 49 1 [(0,a0)]=tX 70 4 [a0] (okP 4 a0&&(true)):=jS aec aes adQ _ (by decide) (by decide) rfl
theorem ao3:gG Tryz.prog 73 0 []=tX 79 7 [] (true):=jS abh adT aa7 _ (by decide) (by decide) rfl
theorem anX {a0:PV}:gG Tryz.prog 73 1 [(0,a0)]=tX 79 7 [a0] (okP 7 a0&&(true)):=jS abh adT aa7 _ (by decide) (by decide) rfl
theorem amD {a0 a1 a2:PV}:gG Tryz.prog 73 3 [(0,a0),(1,a1),(2,a2)]=tX 79 7 [a0,a1,a2] (okP 7 a0&&(okP 7 a1&&(okP 7 a2&&(true)))):=jS abh adT aa7 _ (by decide) (by decide) rfl
theorem ak0 {a0:PV}:gG Tryz.prog 133 1 [(0,a0)]=tX 54 4 [a0] (okP 4 a0&&(true)):=jS acT ajP ahe _ (by decide) (by decide) rfl
theorem mixed:Tryz.prog.follows .mixedOrders=true:=by kernel_rfl
attribute[push_cast high]
 avv aw5 au7
attribute[push_cast]
 axE aiH axA av4 apN avf axu axH axt axj axF axc awx axo auU axI axg avA axx axw axr axq agX axO axd alQ awh awm awq axp axK avk avq avj aw0 avM awU aiV aoV apg amy aoN an5 auw awe awu avx awV awf ajP avg aqO ahe aqs ao1 an2 amV atn avJ awK aw3 avO atH amw aot asl awo avp avL aes ave aqX adQ apV anv amK amQ asG avz awy awj avK adT awE asP aa7 anb aoY aqp an6 aua awW avm awt awS awJ avG aeg apH apC aqd ar3 awi avX awH avR av0 awd afa aml anq asz awn avl avt agj alb alU alT apE aur agI ak9 alh alr anw as3 arY avV awP ao7 amZ au8 av3 auz av7 au9 agu av5 arl ak8 afC uy awI aqV awv ar2 auK ar9 aw2 ar4 aqm xC awQ atw atN aum avi aws asA ak6 aec avy aw4 auC arL atV avE asb av1 avr at0 abh avW ath asE avB asD als alC amx atq aq7 alD al4 aox aqS asO alY acT atg ant aq6 aoo avP awG arB aiy avn ato avs aq9 apQ am8 amX ao2 aoA aoT aoU anZ anU akV akU ani apR aoK ao0 aoF aoe ao3 anX amD ak0
end
end Go.Proofs.YtmmafcjjlbgnkaaGreat
namespace Go.Proofs
open Go.Shelf
def YtmmafcjjlbgnkaaGreat.aa4:Go.Shelf.Ren:=⟨fun|137=>118|217=>124|266=>126|n=>n,fun|9=>9|5=>5|3=>3|n=>n,fun|n=>n⟩
theorem YtmmafcjjlbgnkaaGreat.al8:Go.Proofs.Lays.n137 Tryz.prog YtmmafcjjlbgnkaaGreat.aa4:={
 mixed:=by kernel_rfl
 f137:=Tryz.func118.trans (congrArg some (by kernel_rfl))
 f217:=Tryz.func124.trans (congrArg some (by kernel_rfl))
 f266:=Tryz.func126.trans (congrArg some (by kernel_rfl))
 t3:=Tryz.underlying3
 a3:=Tryz.isAgg3
 z3:=Tryz.sizeOf3
 v3:=Tryz.zeroValue3
 t5:=Tryz.underlying5
 a5:=Tryz.isAgg5
 z5:=Tryz.sizeOf5
 v5:=Tryz.zeroValue5
 t9:=Tryz.underlying9
 a9:=Tryz.isAgg9
 z9:=Tryz.sizeOf9
 v9:=Tryz.zeroValue9}
open Go.RowKit in
theorem YtmmafcjjlbgnkaaGreat.strings_IndexByte (s:ByteArray) (c:Int) (w:World):
 Calls Tryz.prog 118 #[.string s,.int .u8 c] w fun e w'=>e=.returned (.int .i64 (Lib.indexByte s.data.toList c.toNat.toUInt8))∧w'=w:=Any.strings_IndexByte YtmmafcjjlbgnkaaGreat.al8 s c w
end Go.Proofs
namespace Go.Proofs.YtmmafcjjlbgnkaaGreat
open Go.RowKit
set_option linter.all false
set_option maxHeartbeats 32000000
noncomputable section
def PV.le (p q:PV):Prop:=∀(g:Gh) (w:World) (v:Value),Rep g w p v→Rep g w q v
theorem PV.le_refl (p:PV):p.le p:=fun _ _ _ h=>h
theorem nil_le (k:Bool) (sz:Nat):(PV.val (.slice none 0 0)).le (.lst k sz []):=fun g w v h=>by simp only[Rep]at h⊢;subst h;exact⟨none,0,rfl,Nat.le_refl _,by omega,.inl trivial⟩
def leL:List PV→List PV→Prop
 |[],[]=>True
 |p::ps,q::qs=>p.le q∧leL ps qs
 |_,_=>False
theorem ab4:∀(l:List PV),leL l l
 |[]=>trivial
 |p::l=>⟨p.le_refl,ab4 l⟩
theorem vY {g:Gh} {w:World}:∀{ps qs:List PV} {vs:List Value},leL ps qs→cu g w ps vs→cu g w qs vs
 |[],[],vs,_,h=>h
 |p::ps,q::qs,vs,hl,h=>by simp only[cu]at h⊢;obtain⟨v,vs',rfl,h1,h2⟩:=h;exact⟨v,vs',rfl,hl.1 _ _ _ h1,vY hl.2 h2⟩
 |[],_::_,vs,hl,_=>hl.elim
 |_::_,[],vs,hl,_=>hl.elim
theorem nL {ps qs:List PV} (h:leL ps qs):(PV.tup ps).le (.tup qs):=fun g w v hv=>by simp only[Rep]at hv⊢;obtain⟨vs,rfl,h1⟩:=hv;exact⟨vs,rfl,vY h h1⟩
theorem at6 {ps qs:List PV} (h:leL ps qs):(PV.agg ps).le (.agg qs):=fun g w v hv=>by simp only[Rep]at hv⊢;obtain⟨vs,rfl,h1⟩:=hv;exact⟨vs,rfl,vY h h1⟩
theorem Sound.weak {P:Program} {f:Nat} {φ φ':Fun} (h:Sound P f φ) (hw:∀ps r,φ' ps=some r→∃ps' r',leL ps ps'∧φ ps'=some r'∧r'.le r):Sound P f φ':=by intro w J ps args r hr hJ hT hargs;obtain⟨ps',r',h1,h2,h3⟩:=hw ps r hr;refine(h w J ps' args r' h2 hJ hT (vY h1 hargs)).mono ?_;rintro e w' ⟨v,rfl,hb,hrep⟩;exact⟨v,rfl,hb,fun g' hg=>h3 _ _ _ (hrep g' hg)⟩
def nrm (sz:Nat):PV→PV
 | .val (.slice none 0 0)=> .lst false sz []
 |p=>p
theorem alV (sz:Nat) (p:PV):p.le (nrm sz p):=by
 unfold nrm;split
 ·exact nil_le _ _
 ·exact p.le_refl
theorem aa5 (sz:Nat):∀ps:List PV,leL ps (ps.map (nrm sz))
 |[]=>trivial
 |p::ps=>⟨alV sz p,aa5 sz ps⟩
def au3 (sz:Nat) (φ:Fun):Fun:=fun ps=>φ (ps.map (nrm sz))
theorem Sound.nil {P:Program} {f:Nat} {φ:Fun} (h:Sound P f φ) (sz:Nat):Sound P f (au3 sz φ):=
 h.weak fun ps r hr=>⟨_,r,aa5 sz ps,hr,PV.le_refl _⟩
section
variable {P:Program} {Γ:Ctx}
theorem gP (hm:P.follows .mixedOrders=true) {f:Nat} {fn:Func} {c:Code} {φ:Fun} (hΓ:ak P Γ) (hf:P.funcs[f]?=some fn) (hb:fn.body=some c) (N:Nat) (hN:fn.ntmps=N) (rs:List ResultVar) (hrs:fn.results.toList=rs) (hc:codeOk Γ true N c=true)
 (h:∀ps r,φ ps=some r→ps.length≤N∧pq P Γ N c (fun x s'=>∃r',r'.le r∧Post P rs r' x s') (bZ ps).tm (fun _=>none) 0):Sound P f φ:=by
 obtain⟨φ',h1,h2⟩:=yj hm hΓ hf hb N hN rs hrs hc (fun ps=>∃r,φ ps=some r) (fun ps r'=>∀r,φ ps=some r→r'.le r) (fun ps ⟨r,hr⟩=>(h ps r hr).1) (fun ps ⟨r,hr⟩=>by refine sG (fun x s' hx=>?_) _ _ (h ps r hr).2;obtain⟨r',k1,k2⟩:=hx;exact⟨r',fun r1 hr1=>by rw[hr]at hr1;cases hr1;exact k1,k2⟩)
 refine h1.weak fun ps r hr=>?_;obtain⟨r',k1,k2⟩:=h2 ps ⟨r,hr⟩;exact⟨ps,r',ab4 _,k1,k2 r hr⟩
theorem cO {rs:List ResultVar} {r r':PV} {tm:Nat→PV} {ob:bC} {nx:Nat} {x:X} (hx:x=.normal∨x=.ret) (h:((fF P ⟨tm,ob,nx⟩ rs).bind fun qs=>reify true 0 ob fuel (gH qs))=some r') (hl:r'.le r):∃r',r'.le r∧Post P rs r' x ⟨tm,ob,nx⟩:=⟨r',hl,hx,h⟩
end
theorem adO {n f sz:Nat} {ob:bC} {k:Bool}:reify false n ob (f+1) (.lst k sz [])=some (.lst false sz []):=by simp[reify]
attribute[push_cast]
 adO
def nP (sz:Nat) (es:List PV) (x:Nat):PV:=match es with|[]=> .val (.slice none 0 0)|_::_=> .row x sz 0 es.length
def nO (T sz:Nat) (es:List PV) (x:Nat):List (Nat×aH):=match es with|[]=>[]|_::_=>[(x,T,sz,es)]
theorem eZ {sz x:Nat}:nP sz [] x=.val (.slice none 0 0):=rfl
theorem eF {T sz x:Nat}:nO T sz [] x=[]:=rfl
theorem aB {sz x:Nat} {es:List PV} (h:0<es.length):nP sz es x=.row x sz 0 es.length:=by
 cases es with
 |nil=>simp at h
 |cons e es=>rfl
theorem aF {T sz x:Nat} {es:List PV} (h:0<es.length):nO T sz es x=[(x,T,sz,es)]:=by
 cases es with
 |nil=>simp at h
 |cons e es=>rfl
attribute[push_cast]
 eZ eF
attribute[push_cast low]
 aB aF
theorem aqo {P:Program} {t:Nat} {x y:Operand} {a b:ByteArray} (h:a.size+b.size≤9223372036854775807):mh P .add t x y (some (.string a)) (some (.string b))=some (.val (.string (a++b))):=by
 have h2:¬(((a.size+b.size:Nat):Int)>IntKind.i64.max):=by
  have:IntKind.i64.max=9223372036854775807:=by decide
  rw[this];omega
 have:ay P (do eqGuard .add t x y (.string a) (.string b);binOp .add t (.string a) (.string b))=some (.string (a++b)):=by
  show ay P (Op.stringOp .add a b)=_;unfold Op.stringOp;dsimp only
  rw[if_neg h2];rfl
 simp only[mh,this,Option.map_some]
theorem size_push (ns:List Int) (r:ByteArray):(ns.foldl (fun r n=>r.push (UInt8.ofNat n.toNat)) r).size=r.size+ns.length:=by
 induction ns generalizing r with
 |nil=>simp
 |cons n ns ih=>rw[List.foldl_cons,ih,List.length_cons,ByteArray.size_push];omega
theorem pV (ns:List Int):(bytesOf ns).size=ns.length:=by unfold bytesOf;rw[size_push];simp
attribute[push_cast]
 aqo pV ByteArray.size_append jm
theorem jf {α β:Type} {P:Program} {m:Sem α} {f:α→Sem β} {a:α} (h:ay P m=some a):ay P (m>>=f)=ay P (f a):=by
 induction m with
 |pure x=>simp only[ay,Option.some.injEq]at h;subst h;rfl
 |program k ih=>exact ih P h
 |_=>simp[ay]at h
theorem xX {P:Program} {v:Int} {m:Nat} {k:BoundsCode} (h:0≤v) (h2:v≤m):ay P (Instr.sliceBound (.int .i64 v) m k)=some v.toNat:=by have e:Instr.sliceBound (.int .i64 v) m k=(if 0≤v∧v≤m then pure v.toNat else boundsPanic .i64 v m k):=rfl;rw[e,if_pos ⟨h,h2⟩];rfl
theorem alq {P:Program} {t:Nat} {d:TypeDesc} (hu:P.underlying t=some d):ay P (underlying t)=some d:=by unfold underlying;rw[jf (a:=P) rfl];simp only[hu];rfl
theorem sps {P:Program} {t:Nat} {s:ByteArray} {lo hi:Option Int} (hu:P.underlying t=some .string) (h0:0≤lo.getD 0) (h1:lo.getD 0≤hi.getD s.size) (h2:hi.getD s.size≤s.size):
 aqw P t (.val (.string s)) (some lo) (some hi)=some (.val (.string (s.extract (lo.getD 0).toNat (hi.getD s.size).toNat))):=by
 have hb:ay P (Instr.sliceBounds false s.size s.size (lo.map (Value.int .i64)) (hi.map (Value.int .i64)) none)=some ((lo.getD 0).toNat,(hi.getD s.size).toNat,s.size):=by
  unfold Instr.sliceBounds;rw[jf (a:=s.size) rfl];cases hi with
  |none=>
   simp only[Option.map_none,Option.getD_none]at h1⊢;rw[jf (a:=s.size) rfl];cases lo with
   |none=>simp only[Option.map_none,Option.getD_none,Int.toNat_natCast];rw[jf (a:=0) rfl];rfl
   |some l=>simp only[Option.map_some,Option.getD_some,Int.toNat_natCast]at h0 h1⊢;rw[jf (xX h0 h1)];rfl
  |some h=>
   simp only[Option.map_some,Option.getD_some]at h1 h2⊢;have h3:0≤h:=by omega
   rw[jf (xX h3 h2)];cases lo with
   |none=>simp only[Option.map_none,Option.getD_none];rw[jf (a:=0) rfl];rfl
   |some l=>simp only[Option.map_some,Option.getD_some]at h0 h1⊢;rw[jf (xX h0 (by omega))];rfl
 have hs:ay P (Instr.sliceAt t (.string s) (lo.map (Value.int .i64)) (hi.map (Value.int .i64)) none)=some (.string (s.extract (lo.getD 0).toNat (hi.getD s.size).toNat)):=by
  unfold Instr.sliceAt;rw[jf (alq hu)];dsimp only
  unfold Instr.slice;rw[jf (alq hu)];dsimp only
  simp only[Option.isSome_none,Bool.false_eq_true,if_false];rw[jf hb];rfl
 show(ay P _).map _=_;rw[hs];rfl
theorem amC {s:ByteArray} {lo hi:Option Int} (h0:0≤lo.getD 0) (h1:lo.getD 0≤hi.getD s.size) (h2:hi.getD s.size≤s.size):
 aqw Tryz.prog 9 (.val (.string s)) (some lo) (some hi)=some (.val (.string (s.extract (lo.getD 0).toNat (hi.getD s.size).toNat))):=sps Tryz.underlying9 h0 h1 h2
attribute[push_cast]
 amC
section
variable {P:Program} {Γ:Ctx}
theorem zQ (hm:P.follows .mixedOrders=true) {f:Nat} {fn:Func} {c:Code} (hΓ:ak P Γ) (hf:P.funcs[f]?=some fn) (hb:fn.body=some c) (N:Nat) (hN:fn.ntmps=N) (rs:List ResultVar) (hrs:fn.results.toList=rs) (hc:codeOk Γ true N c=true)
 (D:List PV→aH→Prop) (R:List PV→aH→PV→List aH→Prop) (hlen:∀ps o,D ps o→ps.length≤N)
 (h:∀ps o,D ps o→pq P Γ N c (fun x s'=>∃r os',R ps o r os'∧gL P rs 1 r os' x s') (bZ ps).tm (lo [(0,o)]) 1):∃Φ:dN,bK P f Φ∧∀ps o,D ps o→∃r os',Φ ps [o]=some (r,os')∧R ps o r os':=by
 classical
 subst hN hrs
 let Z:List PV→List aH→PV×List aH→Prop:=fun ps cs r=>∃o,cs=[o]∧D ps o∧R ps o r.1 r.2∧∃x s',Ev P Γ fn.ntmps c (nW ps cs) x s'∧gL P fn.results.toList 1 r.1 r.2 x s'
 let Φ:dN:=fun ps cs=>if h:∃r,Z ps cs r then some (Classical.choose h)else none
 have hΦ:∀ps cs r,Φ ps cs=some r→Z ps cs r:=fun ps cs r hr=>by
  simp only[Φ]at hr;split at hr
  ·rename_i hz
   cases hr;exact Classical.choose_spec hz
  ·cases hr
 refine⟨Φ,jW hΓ hf hb (fun ps cs r hr=>?_) fun ps cs r cs' hr=>?_,fun ps o hd=>?_⟩
 ·obtain⟨o,_,h1,_⟩:=hΦ ps cs r hr
  exact hlen ps o h1
 ·obtain⟨o,rfl,_,_,x,s',h1,h2,news,h3,h4,h5,h6⟩:=hΦ ps cs (r,cs') hr
  rw[Option.bind_eq_some_iff]at h5;obtain⟨qs,h8,h9⟩:=h5;refine⟨x,s',qs,List.range 1++news,h1,h2,h8,h9,by simp,fun i hi=>?_,?_,h6⟩
  ·have:i=0:=by simpa using hi
   subst this;rfl
  ·rw[List.nodup_append]
   exact⟨List.nodup_range,h4,fun a ha b hb e=>by have:=h3 b hb;have:=List.mem_range.1 ha;omega⟩
 ·have h':pw P Γ fn.ntmps c (fun x s'=>∃r os',R ps o r os'∧gL P fn.results.toList 1 r os' x s') (nW ps [o]):=by have:=h ps o hd;rw[←adz]at this;exact this
  obtain⟨x,s',h1,r,os',h2,h3⟩:=vv (mixed:=true) (fun _=>hm) c _ _ hc h';have hz:∃r,Z ps [o] r:=⟨(r,os'),o,rfl,hd,h2,x,s',h1,h3⟩;have he:Φ ps [o]=some (Classical.choose hz):=by simp only[Φ];rw[dif_pos hz]
  obtain⟨o1,e1,_,e3,_⟩:=hΦ ps [o] _ he;cases e1;exact⟨(Classical.choose hz).1,(Classical.choose hz).2,he,e3⟩
end
def akH (T:Nat) (Φ:dN) (B c:Int) {α:Type} (E:Nat→α→PV) (O:α→aH) (D:Int→Prop) (R:Int→α→Prop):Prop:=
 ∀code p n,oC code p→p≤B→D n→∃a p',Φ [.own 0 2 0 0,.val (.int .i64 n)] [rdC T code p]=some (E 1 a,[rdC T code p',O a])∧R n a∧oC code p'∧p≤p'∧p'≤p+c
theorem ai7 {P:Program} {Γ:Ctx} (hm:P.follows .mixedOrders=true) {f:Nat} {fn:Func} {C:Code} (hΓ:ak P Γ) (hf:P.funcs[f]?=some fn) (hb:fn.body=some C) (N:Nat) (hN:fn.ntmps=N) (rs:List ResultVar) (hrs:fn.results.toList=rs) (hc:codeOk Γ true N C=true) (hN1:2≤N)
 (T:Nat) (B c:Int) {α:Type} (E:Nat→α→PV) (O:α→aH) (D:Int→Prop) (R:Int→α→Prop)
 (h:∀code p n,oC code p→p≤B→D n→pq P Γ N C (fun x s'=>∃a p',R n a∧oC code p'∧p≤p'∧p'≤p+c∧gL P rs 1 (E 1 a) [rdC T code p',O a] x s') (bZ [.own 0 2 0 0,.val (.int .i64 n)]).tm (lo [(0,rdC T code p)]) 1):
 ∃Φ:dN,bK P f Φ∧akH T Φ B c E O D R:=by
 obtain⟨Φ,h1,h2⟩:=zQ hm hΓ hf hb N hN rs hrs hc
  (fun ps o=>∃code p n,ps=[.own 0 2 0 0,.val (.int .i64 n)]∧o=rdC T code p∧oC code p∧p≤B∧D n)
  (fun ps o r os'=>∃code p n a p',ps=[.own 0 2 0 0,.val (.int .i64 n)]∧o=rdC T code p∧r=E 1 a∧os'=[rdC T code p',O a]∧R n a∧oC code p'∧p≤p'∧p'≤p+c)
  (fun ps o ⟨code,p,n,e,_⟩=>by rw[e];exact hN1) (fun ps o ⟨code,p,n,e1,e2,h3,h4,h5⟩=>by subst e1 e2;refine sG (fun x s' hx=>?_) _ _ (h code p n h3 h4 h5);obtain⟨a,p',k1,k2,k3,k4,k5⟩:=hx;exact⟨E 1 a,[rdC T code p',O a],⟨code,p,n,a,p',rfl,rfl,rfl,rfl,k1,k2,k3,k4⟩,k5⟩)
 refine⟨Φ,h1,fun code p n h3 h4 h5=>?_⟩;obtain⟨r,os',e,code',p1,n1,a,p',e0,e1,rfl,rfl,k1,k2,k3,k4⟩:=h2 _ _ ⟨code,p,n,rfl,rfl,h3,h4,h5⟩;obtain⟨rfl,rfl⟩:=agH e1;have:n=n1:=by simpa using e0
 subst this;exact⟨a,p',e,k1,k2,k3,k4⟩
theorem aqD {o:Nat} (h:0<o):inn [0,o] o=some 1:=by
 have h0:¬(0:Nat)=o:=by omega
 have h1:(0==o)=false:=by simpa using h0
 simp[inn,List.idxOf_cons,h1]
theorem afs {o nx:Nat}:ug [o] nx 1=some nx:=by simp[ug,ng]
theorem afi {out:List Nat} {ob:bC} {l:List PV}:l.mapM (bT out ob fuel)=l.mapM (bT out ob 8):=rfl
attribute[push_cast]
 afi aqD afs
section
variable {P:Program} {Γ:Ctx} {imm:Md} {N:Nat} {gs:List (Option Nat)} {l:List Oper} {Q:AS→Prop} {tm:Nat→PV} {ob:bC} {nx T:Nat} {Φ:dN} {B c:Int} {α:Type} {E:Nat→α→PV} {O:α→aH}
theorem arA {o:Nat} {code:List Int} {p p':Int} {a:α} {qs:List PV} (hE:dY (ug [o] nx) fuel (E 1 a)=some (E nx a)) (hO:(O a).2.2.mapM (dY (ug [o] nx) fuel)=some (O a).2.2)
 (ho:ob o=some (rdC T code p)) (h:Φ qs [rdC T code p]=some (E 1 a,[rdC T code p',O a])):xZ Φ ob nx o qs (ob o)=some (E nx a,upd (upd ob o (some (rdC T code p'))) nx (some (O a)),nx+1):=by
 have h1:∀(nm:Nat→Option Nat) (q:Int),[PV.agg [.lst false 1 (code.map fun n=>PV.val (.int .u8 n)),.val (.int .i64 q)]].mapM (dY nm fuel)=some [PV.agg [.lst false 1 (code.map fun n=>PV.val (.int .u8 n)),.val (.int .i64 q)]]:=fun nm q=>by simp only[jq,kY,vE,mapM_cons',mapM_nil',ny,qC,Option.bind_some,Option.map_some]
 rw[ho,oV,h1,Option.bind_some,h];unfold ioR;simp only[hE,mapM_cons',mapM_nil',acg,h1,hO,Option.map_some,Option.bind_some];have e:O a=((O a).1,(O a).2.1,(O a).2.2):=rfl;simp only[List.length_cons,List.length_nil,Nat.zero_add,Nat.reduceAdd,Nat.reduceSub,Option.some.injEq,Prod.mk.injEq,true_and,and_true];show jB ob [(ng [o] nx 0,_),(ng [o] nx 1,_)]=_;simp only[jB,ng,List.length_cons,List.length_nil,Nat.zero_add,Nat.lt_one_iff,if_true,Nat.one_ne_zero,if_false,Nat.sub_self,Nat.add_zero,List.getD_cons_zero]
theorem abX {D:Int→Prop} {R:Int→α→Prop} (hd:akH T Φ B c E O D R) (hE:∀o nx a,dY (ug [o] nx) fuel (E 1 a)=some (E nx a)) (hO:∀nm a,(O a).2.2.mapM (dY nm fuel)=some (O a).2.2) {d f ty o:Nat} {x y:Operand} {ts:Array TypeId} {pos:String} {af:Array Edge} {code:List Int} {p n:Int} (hio:Γ.io f=some Φ) (hx:look tm x=.own o 2 0 0) (hy:look tm y=.val (.int .i64 n)) (ho:ob o=some (rdC T code p)) (hok:oC code p) (hB:p≤B) (hD:D n)
 (he:kC Γ imm nx (look tm) (.call {callee:=.value (.func f),args:=#[x,y],argTypes:=ts})=true)
 (hk:∀a p',R n a→oC code p'→p≤p'→p'≤p+c→wq P Γ imm gs l Q (upd tm d (E nx a)) (upd (upd ob o (some (rdC T code p'))) nx (some (O a))) (nx+1)):
 wq P Γ imm gs ({dst:=some d,op:=.call {callee:=.value (.func f),args:=#[x,y],argTypes:=ts},type:=ty,pos:=pos,after:=af,guard:=none}::l) Q tm ob nx:=by
 obtain⟨a,p',h1,h2,h3,h4,h5⟩:=hd code p n hok hB hD;refine i_E (by simp[eP,lS,hio]) he ?_ (hk a p' h2 h3 h4 h5);rw[aa8,hio,qO];show abb Φ ob nx [look tm x,look tm y]=_;rw[hx,hy,an0];exact arA (hE o nx a) (hO _ a) ho h1
theorem anP {rs:List ResultVar} {r:PV} {c1 c2:aH} {x:X} (o:Nat) (h0:0<o) (hx:x=.normal∨x=.ret) (h1:((fF P ⟨tm,ob,nx⟩ rs).bind fun qs=>bT [0,o] ob fuel (gH qs))=some r) (h2:j5 [0,o] ob fuel 0=some c1) (h3:j5 [0,o] ob fuel o=some c2):gL P rs 1 r [c1,c2] x ⟨tm,ob,nx⟩:=
 ⟨hx,[o],fun b hb=>by simp only[List.mem_singleton]at hb;omega,by simp,h1,by show [0,o].mapM (j5 [0,o] ob fuel)=some [c1,c2];rw[mapM_cons',h2,Option.bind_some,mapM_cons',h3,Option.bind_some,mapM_nil'];rfl⟩
theorem ab3 {rs:List ResultVar} {R:α→Prop} {code:List Int} {p:Int} {a:α} {p':Int} {x:X} (o:Nat) (h0:0<o) (hx:x=.normal∨x=.ret)
 (h5:j5 [0,o] ob fuel o=some (O a)) (h4:j5 [0,o] ob fuel 0=some (rdC T code p')) (h3:((fF P ⟨tm,ob,nx⟩ rs).bind fun qs=>bT [0,o] ob fuel (gH qs))=some (E 1 a)) (hR:R a) (ho:oC code p') (h1:p≤p') (h2:p'≤p+c):
 ∃a p',R a∧oC code p'∧p≤p'∧p'≤p+c∧gL P rs 1 (E 1 a) [rdC T code p',O a] x ⟨tm,ob,nx⟩:=⟨a,p',hR,ho,h1,h2,anP o h0 hx h3 h4 h5⟩
end
abbrev ajm:=List PV→Option (PV×List aH)
def tQ (P:Program) (f:Nat) (Ψ:ajm):Prop:=bK P f fun ps cs=>if cs=[]then Ψ ps else none
def ou (nm:Nat→Nat):Nat→PV→Option PV
 |0,_=>none
 |n+1,p=>match p with
  | .val v=>some (.val v)
  | .dead=>some .dead
  | .lst k sz es=>if k=false∧es≠[]then none else(es.mapM (ou nm n)).map (.lst k sz)
  | .ptr k e o=>if k=false then none else(ou nm n e).map (.ptr k · o)
  | .own o sz i f=>some (.own (nm o) sz i f)
  | .row o sz i m=>some (.row (nm o) sz i m)
  | .agg cs=>(cs.mapM (ou nm n)).map .agg
  | .tup cs=>(cs.mapM (ou nm n)).map .tup
theorem Rep.ou {nm:Nat→Nat} {g g':Gh} {w:World} (hI:∀b,g.I true b→g'.I true b) (ho:∀o,g.D o→g'.β (nm o)=g.β o∧g'.κ (nm o)=g.κ o∧g'.D (nm o)):
 ∀(f:Nat) (p q:PV) (v:Value),Rep g w p v→Proofs.YtmmafcjjlbgnkaaGreat.ou nm f p=some q→Rep g' w q v
 |0,p,q,v,h,hr=>by simp[Proofs.YtmmafcjjlbgnkaaGreat.ou]at hr
 |f+1,p,q,v,h,hr=>by
  cases p with
  |val u=>simp only[Proofs.YtmmafcjjlbgnkaaGreat.ou,Option.some.injEq]at hr;subst hr;simpa [Rep]using h
  |dead=>simp only[Proofs.YtmmafcjjlbgnkaaGreat.ou,Option.some.injEq]at hr;subst hr;simp[Rep]
  |lst k sz es=>
   simp only[Proofs.YtmmafcjjlbgnkaaGreat.ou]at hr;split at hr
   ·cases hr
   ·rename_i hk
    simp only[Option.map_eq_some_iff]at hr;obtain⟨es',h1,rfl⟩:=hr;have hl:=(bO h1).1;simp only[Rep]at h⊢;obtain⟨a,cap,rfl,h2,h3,h4⟩:=h;refine⟨a,cap,by rw[hl],by omega,h3,?_⟩;rcases h4 with rfl|⟨b,off,rfl,h5,h6⟩
    ·left;exact List.eq_nil_of_length_eq_zero (by simpa using hl)
    ·by_cases hnil:es=[]
     ·left;subst hnil;exact List.eq_nil_of_length_eq_zero (by simpa using hl)
     ·right
      cases k with
      |false=>simp[hnil]at hk
      |true=>exact⟨b,off,rfl,hI _ h5,bN.conv (g:=g) (g':=g') (Rep.ou hI ho f) h6 h1⟩
  |ptr k e o=>
   simp only[Proofs.YtmmafcjjlbgnkaaGreat.ou]at hr;split at hr
   ·cases hr
   ·rename_i hk
    simp only[Option.map_eq_some_iff]at hr;obtain⟨e',h1,rfl⟩:=hr;simp only[Rep]at h⊢;obtain⟨b,off,rfl,h2,u,h3,h4⟩:=h;cases k with
    |false=>simp at hk
    |true=>exact⟨b,off,rfl,hI _ h2,u,Rep.ou hI ho f e e' u h3 h1,h4⟩
  |own o sz i f'=>simp only[Proofs.YtmmafcjjlbgnkaaGreat.ou,Option.some.injEq]at hr;subst hr;simp only[Rep]at h⊢;obtain⟨e1,_,e3⟩:=ho o h.2;exact⟨by rw[e1];exact h.1,e3⟩
  |row o sz i m=>simp only[Proofs.YtmmafcjjlbgnkaaGreat.ou,Option.some.injEq]at hr;subst hr;simp only[Rep]at h⊢;obtain⟨c,h1,h2,h3,h4,h5⟩:=h;obtain⟨e1,e2,e3⟩:=ho o h5;exact⟨c,by rw[e1];exact h1,h2,h3,by rw[e2];exact h4,e3⟩
  |agg cs=>simp only[Proofs.YtmmafcjjlbgnkaaGreat.ou,Option.map_eq_some_iff]at hr;obtain⟨cs',h1,rfl⟩:=hr;simp only[Rep]at h⊢;obtain⟨vs,rfl,h2⟩:=h;exact⟨vs,rfl,cu.conv (g:=g) (g':=g') (Rep.ou hI ho f) h2 h1⟩
  |tup cs=>simp only[Proofs.YtmmafcjjlbgnkaaGreat.ou,Option.map_eq_some_iff]at hr;obtain⟨cs',h1,rfl⟩:=hr;simp only[Rep]at h⊢;obtain⟨vs,rfl,h2⟩:=h;exact⟨vs,rfl,cu.conv (g:=g) (g':=g') (Rep.ou hI ho f) h2 h1⟩
def adW (nm:Nat→Nat) (f:Nat) (c:aH):Option aH:=(c.2.2.mapM (ou nm f)).map fun es=>(c.1,c.2.1,es)
def abw (Ψ:ajm):Fun:=fun ps=>(Ψ ps).bind fun rc=>reify true 0 (fun o=>rc.2[o]?) fuel rc.1
theorem tQ.pure {P:Program} {f:Nat} {Ψ:ajm} (h:tQ P f Ψ):Sound P f (abw Ψ):=by
 intro w J ps args r hr hJ hT hargs;unfold abw at hr;simp only[Option.bind_eq_some_iff]at hr;obtain⟨⟨r0,cs0⟩,h2,h3⟩:=hr;dsimp only at h3
 let J':Bool→Nat→Prop:=fun k b=>k=false∧J b
 have hO':uN J' w (fun _=>0) (fun _=>0) []:=⟨fun o ho=>by simp at ho,fun o o' ho=>by simp at ho,fun o c ho=>by simp at ho⟩;refine(h w J' (fun _=>0) (fun _=>0) ps [] args r0 cs0 (by simpa using h2) (fun k b hb=>hJ b hb.2) hO' (hT.io fun t _ ⟨o,ho,_⟩=>by simp at ho) hargs).mono ?_;rintro e w' ⟨v,β',κ',M,rfl,hfr,_,_,hnew,hM,hO2,hrep⟩;refine⟨v,rfl,⟨hfr.os,hfr.tape,hfr.output,hfr.size,fun b hb=>hfr.block b hb (fun⟨o,ho,_⟩=>by simp at ho)⟩,fun g' hg=>?_⟩;refine Rep.seen (fr:=true) (n:=0) (s:=nW ps cs0) (g:=lV (addN J' M) β' κ' cs0.length) (g':=g') (fun o c ho=>hO2.at_ o c ho) ⟨fun e=>(by cases e),fun _=>⟨fun b hb=>?_,fun o ho _=>?_⟩⟩ fuel _ _ _ hrep h3
 ·rcases hb with⟨h6,_⟩|⟨_,h6⟩
  ·cases h6
  ·exact hg b (hM b h6).1 (hM b h6).2
 ·obtain⟨c,hc⟩:=Option.isSome_iff_exists.1 ho
  have hlt:=(List.getElem?_eq_some_iff.1 hc).1;exact hg _ (hnew o (Nat.zero_le _) hlt) (hO2.lt o hlt).1
section
variable {P:Program} {Γ:Ctx}
theorem yC (hm:P.follows .mixedOrders=true) {f:Nat} {fn:Func} {c:Code} {Ψ:ajm} (hΓ:ak P Γ) (hf:P.funcs[f]?=some fn) (hb:fn.body=some c) (N:Nat) (hN:fn.ntmps=N) (rs:List ResultVar) (hrs:fn.results.toList=rs) (hc:codeOk Γ true N c=true)
 (h:∀ps r cs',Ψ ps=some (r,cs')→ps.length≤N∧pq P Γ N c (gL P rs 0 r cs') (bZ ps).tm kP 0):tQ P f Ψ:=by
 refine yZ hm hΓ hf hb N hN rs hrs hc fun ps cs r cs' hr=>?_;split at hr
 ·rename_i hcs
  exact⟨hcs,h ps r cs' hr⟩
 ·cases hr
end
section
variable {α β γ δ ρ:Type} {A:Dec α} {B:Dec β} {C:Dec γ} {D:Dec δ} {ps:List PV} {r:ρ}
def G1 (A:Dec α) (F:α→Option ρ) (ps:List PV):Option ρ:=match ps with|[p]=>(A.d p).bind F|_=>none
def G4 (A:Dec α) (B:Dec β) (C:Dec γ) (D:Dec δ) (F:α→β→γ→δ→Option ρ) (ps:List PV):Option ρ:=match ps with|[p,q,r,s]=>(A.d p).bind fun a=>(B.d q).bind fun b=>(C.d r).bind fun c=>(D.d s).bind fun d=>F a b c d|_=>none
theorem amW {F:α→Option ρ} (h:G1 A F ps=some r):∃a,ps=[A.e a]∧F a=some r:=by
 unfold G1 at h;split at h
 ·rw[Option.bind_eq_some_iff]at h
  obtain⟨a,h1,h2⟩:=h;exact⟨a,by rw[A.h _ _ h1],h2⟩
 ·cases h
theorem aaA {F:α→β→γ→δ→Option ρ} (h:G4 A B C D F ps=some r):∃a b c d,ps=[A.e a,B.e b,C.e c,D.e d]∧F a b c d=some r:=by
 unfold G4 at h;split at h
 ·simp only[Option.bind_eq_some_iff]at h
  obtain⟨a,h1,b,h2,c,h3,d,h4,h5⟩:=h;exact⟨a,b,c,d,by rw[A.h _ _ h1,B.h _ _ h2,C.h _ _ h3,D.h _ _ h4],h5⟩
 ·cases h
theorem aq4 {F:α→Option ρ} (a:α):G1 A F [A.e a]=F a:=by simp[G1,A.h']
theorem aoO {F:α→β→γ→δ→Option ρ} (a:α) (b:β) (c:γ) (d:δ):G4 A B C D F [A.e a,B.e b,C.e c,D.e d]=F a b c d:=by simp[G4,A.h',B.h',C.h',D.h']
end
def nC (T sz:Nat) (es:List PV):List aH:=match es with|[]=>[]|_::_=>[(T,sz,es)]
theorem alH {T sz:Nat}:nC T sz []=[]:=rfl
theorem ald {T sz:Nat} {es:List PV} (h:0<es.length):nC T sz es=[(T,sz,es)]:=by
 cases es with
 |nil=>simp at h
 |cons e es=>rfl
section
variable {Ψ:ajm} {α:Type} {g:α→Value} {l:List α} {T sz:Nat}
theorem nI {ps:List PV} {cs0:List aH} {r r1:PV} (h2:Ψ ps=some (r,cs0)) (h3:reify true 0 (fun o=>cs0[o]?) fuel r=some r1):abw Ψ ps=some r1:=by unfold abw;rw[h2,Option.bind_some,h3]
theorem y9 {nm:Nat→Nat}:∀{f:Nat} {p:PV},eH f p=true→ou nm f p=some p
 |0,_,h=>by simp[eH]at h
 |f+1,p,h=>by
  cases p with
  |val v=>rfl
  |dead=>rfl
  |agg cs=>
   have h2:∀c∈cs,eH f c=true:=by simpa [eH]using h
   simp only[Proofs.YtmmafcjjlbgnkaaGreat.ou];rw[dV fun c hc=>y9 (h2 c hc)];rfl
  |_=>simp[eH]at h
theorem aeZ {β:Type} {nm:Nat→Nat} {f:Nat} {g:β→PV} {l:List β} (h:∀x,eH 2 (g x)=true):(l.map g).mapM (ou nm (f+2))=some (l.map g):=
 dV fun e he=>by obtain⟨x,_,rfl⟩:=List.mem_map.1 he;exact y9 (jG (by omega) (h x))
theorem ad9 {nm:Nat→Nat}:adW nm fuel (T,sz,l.map fun x=>PV.val (g x))=some (T,sz,l.map fun x=>PV.val (g x)):=by unfold adW;show((l.map fun x=>PV.val (g x)).mapM (ou nm (6+2))).map _=_;rw[aeZ fun _=>rfl];rfl
end
theorem agQ {nm:Nat→Option Nat} {l:List PV}:l.mapM (dY nm fuel)=l.mapM (dY nm 8):=rfl
attribute[push_cast]
 agQ
section
set_option linter.unusedVariables false
def inB (n a b:Int):Bool:=decide (a≤n)&&decide (n≤b)
theorem av {n a b:Int}:inB n a b=true↔a≤n∧n≤b:=by simp[inB]
end
def GE:Ctx:={fn:=aY [],io:=aY []}
theorem gV:ak Tryz.prog GE:=okΓ aj aj
def φIn:Fun:=F3 dI dI dI fun n a b=>some (bv (inB n a b))
theorem bL (n a b:Int):φIn [.val (.int .i64 n),.val (.int .i64 a),.val (.int .i64 b)]=some (.val (.bool (inB n a b))):=rfl
theorem iq:Sound Tryz.prog 48 φIn:=by
 refine au mixed gV Tryz.func48 rfl 15 rfl [.tmp 6] rfl (by kernel_rfl) fun ps r hr=>?_;obtain⟨n,a,b,rfl,hr⟩:=aaE hr;cases hr;refine⟨by simp,?_⟩;simp only[dIs,dUs,dSs,dx,dA,dz,dF,aS,dD,aT,aU,aR,aV];(refine wlkX6 ?_ ?_ ?_ ?_ ?_ ?_<;>intros<;>try with_reducible exact trivial);all_goals(refine fnG ?_;try with_reducible exact trivial)
 all_goals(first|(simp_all [inB];done)|(simp_all [inB];omega))
theorem pO:Sound Tryz.prog 43 φIn:=by
 refine au mixed gV Tryz.func43 rfl 15 rfl [.tmp 6] rfl (by kernel_rfl) fun ps r hr=>?_;obtain⟨n,a,b,rfl,hr⟩:=aaE hr;cases hr;refine⟨by simp,?_⟩;simp only[dIs,dUs,dSs,dx,dA,dz,dF,aS,dD,aT,aU,aR,aV];(refine wlkX6 ?_ ?_ ?_ ?_ ?_ ?_<;>intros<;>try with_reducible exact trivial);all_goals(refine fnG ?_;try with_reducible exact trivial)
 all_goals(first|(simp_all [inB];done)|(simp_all [inB];omega))
def dM (s:ByteArray):Bool:=(List.range s.size).all (fun k=>inB (at8 s k) 97 122)&&inB s.size 1 20
theorem acK {s:ByteArray} {k:Nat} (h:k<s.size) (hb:¬(97≤at8 s k∧at8 s k≤122)):dM s=false:=by
 unfold dM;have:(List.range s.size).all (fun k=>inB (at8 s k) 97 122)=false:=by rw[List.all_eq_false];exact⟨k,List.mem_range.2 h,by rw[av];exact hb⟩
 rw[this];rfl
theorem sQ {s:ByteArray} (h:∀j,j<s.size→97≤at8 s j∧at8 s j≤122):dM s=inB s.size 1 20:=by
 unfold dM;have:(List.range s.size).all (fun k=>inB (at8 s k) 97 122)=true:=by rw[List.all_eq_true];intro k hk;exact av.2 (h k (List.mem_range.1 hk))
 rw[this];rfl
def gJ:Fun:=F1 dS fun s=>if s.size≤1099511627776 then some (bv (dM s))else none
theorem iJ {s:ByteArray} (h:s.size≤1099511627776):gJ [.val (.string s)]=some (.val (.bool (dM s))):=
 (iA (A:=dS) s).trans (if_pos h)
def kM:Fun:=F1 dU fun n=>some (bv (inB n 97 122))
theorem o9 (n:Int):kM [.val (.int .u8 n)]=some (.val (.bool (inB n 97 122))):=rfl
theorem pG:Sound Tryz.prog 85 kM:=by
 refine au mixed gV Tryz.func85 rfl 9 rfl [.tmp 2] rfl (by kernel_rfl) fun ps r hr=>?_;obtain⟨n,rfl,hr⟩:=bR hr;cases hr;refine⟨by simp,?_⟩;simp only[dIs,dUs,dSs,dx,dA,dz,dF,aS,dD,aT,aU,aR,aV];(refine wlkX6 ?_ ?_ ?_ ?_ ?_ ?_<;>intros<;>try with_reducible exact trivial);all_goals(refine fnG ?_;try with_reducible exact trivial)
 all_goals(first|(simp_all [inB];done)|(simp_all [inB];omega))
def GWv:Ctx:={fn:=aY [(85,kM),(43,φIn)],io:=aY []}
theorem atB:ak Tryz.prog GWv:=okΓ (fC Tryz.func85 pG (fC Tryz.func43 pO aj)) aj
def atC:=ah (Γ:=GWv) (f:=85) (φ:=kM) rfl
def aqT:=ah (Γ:=GWv) (f:=43) (φ:=φIn) rfl
theorem gu:Sound Tryz.prog 66 gJ:=by
 refine au mixed atB Tryz.func66 rfl 18 rfl [.tmp 2] rfl (by kernel_rfl) fun ps r hr=>?_;obtain⟨s,rfl,hq⟩:=bR hr;clear hr;split at hq
 case isFalse=>cases hq
 case isTrue hlen=>
 cases hq;refine⟨by simp,?_⟩;simp only[dIs,dUs,dSs,dx,dA,dz,dF,aS,dD,aT,aU,aR,aV];have gwv_c85:=atC;have gwv_c43:=aqT;have ap:=o9;have ap2:=bL;(refine wlkX6 ?_ ?_ ?_ ?_ ?_ ?_<;>intros<;>try with_reducible exact trivial);refine aG (α:=Nat) mixed (fun k=>[(0,sv s),(5,iv s.size),(6,iv k)]) (fun _=>[]) (fun _=>0)
  (fun k=>k≤s.size∧∀j,j<k→97≤at8 s j∧at8 s j≤122) (fun k=>s.size-k) (by kernel_rfl) 0 ⟨Nat.zero_le _,fun j hj=>by omega⟩ ?_ trivial rfl ?_
 ·simp only[push_cast,↓reduceIte,Nat.reduceEqDiff,Nat.reduceBEq,Nat.reduceAdd,Nat.reduceSub,Int.reduceToNat]
 ·intro k ⟨hk,hok⟩
  have hrk:=iM s k;(refine wlkX6 ?_ ?_ ?_ ?_ ?_ ?_<;>intros<;>try with_reducible exact trivial);all_goals try(refine fnG ?_;try with_reducible exact trivial)
  ·rw[acK (s:=s) (k:=k) (by omega) (by(simp_all [inB];try omega))]
  ·refine⟨k+1,⟨by omega,fun j hj=>?_⟩,by dsimp only;omega,by simp only[push_cast,↓reduceIte,Nat.reduceEqDiff,Nat.reduceBEq,Nat.reduceAdd,Nat.reduceSub,Int.reduceToNat],trivial,rfl⟩
   by_cases h1:j<k
   ·exact hok j h1
   ·have:j=k:=by omega
    subst this;simp_all [inB]
  ·rw[sQ fun j hj=>hok j (by omega)]
def GWs:Ctx:={fn:=aY [(48,φIn)],io:=aY []}
theorem asT:ak Tryz.prog GWs:=okΓ (fC Tryz.func48 iq aj) aj
def arP:=ah (Γ:=GWs) (f:=48) (φ:=φIn) rfl
theorem fV:Sound Tryz.prog 74 gJ:=by
 refine au mixed asT Tryz.func74 rfl 23 rfl [.tmp 2] rfl (by kernel_rfl) fun ps r hr=>?_;obtain⟨s,rfl,hq⟩:=bR hr;clear hr;split at hq
 case isFalse=>cases hq
 case isTrue hlen=>
 cases hq;refine⟨by simp,?_⟩;simp only[dIs,dUs,dSs,dx,dA,dz,dF,aS,dD,aT,aU,aR,aV];have gws_c48:=arP;have ap2:=bL;(refine wlkX ?_;intros);refine aG (α:=Nat) mixed (fun k=>[(0,sv s),(3,iv k)]) (fun _=>[]) (fun _=>0)
  (fun k=>k≤s.size∧∀j,j<k→97≤at8 s j∧at8 s j≤122) (fun k=>s.size-k) (by kernel_rfl) 0 ⟨Nat.zero_le _,fun j hj=>by omega⟩ ?_ trivial rfl ?_
 ·simp only[push_cast,↓reduceIte,Nat.reduceEqDiff,Nat.reduceBEq,Nat.reduceAdd,Nat.reduceSub,Int.reduceToNat]
 ·intro k ⟨hk,hok⟩
  have hrk:=iM s k;(refine wlkX6 ?_ ?_ ?_ ?_ ?_ ?_<;>intros<;>try with_reducible exact trivial);all_goals try(refine fnG ?_;try with_reducible exact trivial)
  all_goals try(rw[acK (s:=s) (k:=k) (by omega) (by omega)];done)
  all_goals try(rw[sQ fun j hj=>hok j (by omega)];done)
  all_goals
   refine⟨k+1,⟨by omega,fun j hj=>?_⟩,by dsimp only;omega,by simp only[push_cast,↓reduceIte,Nat.reduceEqDiff,Nat.reduceBEq,Nat.reduceAdd,Nat.reduceSub,Int.reduceToNat],trivial,rfl⟩;by_cases h1:j<k
   ·exact hok j h1
   ·have:j=k:=by omega
    subst this;simp_all;try omega
end
end Go.Proofs.YtmmafcjjlbgnkaaGreat
