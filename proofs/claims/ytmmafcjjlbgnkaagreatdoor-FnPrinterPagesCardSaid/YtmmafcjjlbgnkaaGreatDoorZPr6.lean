/- What the proof rests on, part 6: contracts of functions. No condition beyond what each states. -/
import Derived.Test.YtmmafcjjlbgnkaaGreatDoorZPr5
namespace Go.Proofs.YtmmafcjjlbgnkaaGreatDoor
open Go.RowKit
set_option linter.all false
set_option maxHeartbeats 32000000
noncomputable section
section
variable {P:Program} {Γ:Ctx}
theorem zU (hm:P.follows .mixedOrders=true) {f:Nat} {fn:Func} {c:Code} (hΓ:ak P Γ) (hf:P.funcs[f]?=some fn) (hb:fn.body=some c) (N:Nat) (hN:fn.ntmps=N) (rs:List ResultVar) (hrs:fn.results.toList=rs) (hc:codeOk Γ true N c=true)
 (D:List PV→Prop) (R:List PV→PV→Prop) (hlen:∀ps,D ps→ps.length≤N)
 (h:∀ps,D ps→pq P Γ N c (fun x s'=>∃r,R ps r∧Post P rs r x s') (bY ps).tm (fun _=>none) 0):∃φ:Fun,Sound P f φ∧∀ps,D ps→∃r,φ ps=some r∧R ps r:=by
 classical
 subst hN hrs
 let Z:List PV→PV→Prop:=fun ps r=>D ps∧R ps r∧∃x s',Ev P Γ fn.ntmps c (bY ps) x s'∧Post P fn.results.toList r x s'
 let φ:Fun:=fun ps=>if h:∃r,Z ps r then some (Classical.choose h)else none
 have hφ:∀ps r,φ ps=some r→Z ps r:=fun ps r hr=>by
  simp only[φ]at hr;split at hr
  ·rename_i hz
   cases hr;exact Classical.choose_spec hz
  ·cases hr
 refine⟨φ,sS hΓ hf hb (fun ps r hr=>hlen ps (hφ ps r hr).1) fun ps r hr=>?_,fun ps hd=>?_⟩
 ·obtain⟨_,_,x,s',h1,h2,h3⟩:=hφ ps r hr
  rw[Option.bind_eq_some_iff]at h3;obtain⟨qs,h4,h5⟩:=h3;exact⟨x,s',qs,h1,h2,h4,h5⟩
 ·obtain⟨x,s',h1,r,h2,h3⟩:=wK (mixed:=true) (fun _=>hm) c _ _ hc (h ps hd)
  have hz:∃r,Z ps r:=⟨r,hd,h2,x,s',h1,h3⟩;have he:φ ps=some (Classical.choose hz):=by simp only[φ];rw[dif_pos hz]
  exact⟨_,he,(hφ ps _ he).2.1⟩
theorem acg (hm:P.follows .mixedOrders=true) {f:Nat} {fn:Func} {c:Code} (hΓ:ak P Γ) (hf:P.funcs[f]?=some fn) (hb:fn.body=some c) (N:Nat) (hN:fn.ntmps=N) (rs:List ResultVar) (hrs:fn.results.toList=rs) (hc:codeOk Γ true N c=true)
 (D:List PV→aH→Prop) (R:List PV→aH→PV→aH→Prop) (hlen:∀ps o,D ps o→ps.length≤N)
 (h:∀ps o,D ps o→pq P Γ N c (fun x s'=>∃r o',R ps o r o'∧gY P rs 1 r [o'] x s') (bY ps).tm (lo [(0,o)]) 1):∃Φ:dP,bO P f Φ∧∀ps o,D ps o→∃r o',Φ ps [o]=some (r,[o'])∧R ps o r o':=by
 classical
 subst hN hrs
 let Z:List PV→List aH→PV×List aH→Prop:=fun ps cs r=>∃o o',cs=[o]∧r.2=[o']∧D ps o∧R ps o r.1 o'∧∃x s',Ev P Γ fn.ntmps c (ou ps cs) x s'∧gY P fn.results.toList 1 r.1 [o'] x s'
 let Φ:dP:=fun ps cs=>if h:∃r,Z ps cs r then some (Classical.choose h)else none
 have hΦ:∀ps cs r,Φ ps cs=some r→Z ps cs r:=fun ps cs r hr=>by
  simp only[Φ]at hr;split at hr
  ·rename_i hz
   cases hr;exact Classical.choose_spec hz
  ·cases hr
 refine⟨Φ,kr hΓ hf hb (fun ps cs r hr=>?_) fun ps cs r cs' hr=>?_,fun ps o hd=>?_⟩
 ·obtain⟨o,o',_,_,h1,_⟩:=hΦ ps cs r hr
  exact hlen ps o h1
 ·obtain⟨o,o',rfl,h0,_,_,x,s',h1,h2,news,h3,h4,h5,h6⟩:=hΦ ps cs (r,cs') hr
  dsimp only at h0;subst h0;rw[Option.bind_eq_some_iff]at h5;obtain⟨qs,h8,h9⟩:=h5;refine⟨x,s',qs,List.range 1++news,h1,h2,h8,h9,by simp,fun i hi=>?_,?_,h6⟩
  ·have:i=0:=by simpa using hi
   subst this;rfl
  ·rw[List.nodup_append]
   exact⟨List.nodup_range,h4,fun a ha b hb e=>by have:=h3 b hb;have:=List.mem_range.1 ha;omega⟩
 ·have h':pw P Γ fn.ntmps c (fun x s'=>∃r o',R ps o r o'∧gY P fn.results.toList 1 r [o'] x s') (ou ps [o]):=by have:=h ps o hd;rw[←acQ]at this;exact this
  obtain⟨x,s',h1,r,o',h2,h3⟩:=wK (mixed:=true) (fun _=>hm) c _ _ hc h';have hz:∃r,Z ps [o] r:=⟨(r,[o']),o,o',rfl,rfl,hd,h2,x,s',h1,h3⟩;have he:Φ ps [o]=some (Classical.choose hz):=by simp only[Φ];rw[dif_pos hz]
  obtain⟨o1,o2,e1,e2,_,e3,_⟩:=hΦ ps [o] _ he;cases e1;exact⟨(Classical.choose hz).1,o2,by rw[he,←e2],e3⟩
end
abbrev rdC (T:Nat) (code:List Int) (p:Int):aH:=(T,2,[.agg [.lst false 1 (code.map fun n=>PV.val (.int .u8 n)),.val (.int .i64 p)]])
structure oU (code:List Int) (p:Int):Prop where
 len:code.length≤2000
 byte:∀i:Nat,0≤code[i]?.getD 0∧code[i]?.getD 0≤255
 pos:0≤p
 small:p≤1000000000000
def adv (T:Nat) (Φ:dP) (B c:Int) {α:Type} (E:α→PV) (D:Int→Prop) (R:Int→α→Prop):Prop:=
 ∀code p n,oU code p→p≤B→D n→∃a p',Φ [.own 0 2 0 0,.val (.int .i64 n)] [rdC T code p]=some (E a,[rdC T code p'])∧R n a∧oU code p'∧p≤p'∧p'≤p+c
section
variable {P:Program} {Γ:Ctx} {imm:Md} {N:Nat} {gs:List (Option Nat)} {l:List Oper} {Q:AS→Prop} {tm:Nat→PV} {ob:bD} {nx T:Nat} {Φ:dP} {B c:Int} {α:Type} {E:α→PV}
theorem axW {o:Nat} {code:List Int} {p p':Int} {a:α} {qs:List PV} (hE:∀nm a,eu nm fuel (E a)=some (E a)) (ho:ob o=some (rdC T code p)) (h:Φ qs [rdC T code p]=some (E a,[rdC T code p'])):aaI Φ ob nx o qs (ob o)=some (E a,upd ob o (some (rdC T code p')),nx):=by
 have h1:∀(nm:Nat→Option Nat) (q:Int),[PV.agg [.lst false 1 (code.map fun n=>PV.val (.int .u8 n)),.val (.int .i64 q)]].mapM (eu nm fuel)=some [PV.agg [.lst false 1 (code.map fun n=>PV.val (.int .u8 n)),.val (.int .i64 q)]]:=fun nm q=>by simp only[jv,lu,yG,mapM_cons',mapM_nil',nY,rG,Option.bind_some,Option.map_some]
 rw[ho,o7,h1,Option.bind_some,h,ajn,hE,Option.bind_some,h1];rfl
theorem bT {D:Int→Prop} {R:Int→α→Prop} (hd:adv T Φ B c E D R) (hE:∀nm a,eu nm fuel (E a)=some (E a)) {d f ty o:Nat} {x y:Operand} {ts:Array TypeId} {pos:String} {af:Array Edge} {code:List Int} {p n:Int} (hio:Γ.io f=some Φ) (hx:look tm x=.own o 2 0 0) (hy:look tm y=.val (.int .i64 n)) (ho:ob o=some (rdC T code p)) (hok:oU code p) (hB:p≤B) (hD:D n)
 (he:kQ Γ imm nx (look tm) (.call {callee:=.value (.func f),args:=#[x,y],argTypes:=ts})=true)
 (hk:∀a p',R n a→oU code p'→p≤p'→p'≤p+c→wq P Γ imm gs l Q (upd tm d (E a)) (upd ob o (some (rdC T code p'))) nx):
 wq P Γ imm gs ({dst:=some d,op:=.call {callee:=.value (.func f),args:=#[x,y],argTypes:=ts},type:=ty,pos:=pos,after:=af,guard:=none}::l) Q tm ob nx:=by
 obtain⟨a,p',h1,h2,h3,h4,h5⟩:=hd code p n hok hB hD;refine i_E (by simp[eT,l8,hio]) he ?_ (hk a p' h2 h3 h4 h5);rw[abB,hio,uq];show acj Φ ob nx [look tm x,look tm y]=_;rw[hx,hy,aqL];exact axW hE ho h1
end
section
variable {v:Int}
theorem gl2 {a0 a1:Int} (h:v<2):([.val (.int .i64 a0),.val (.int .i64 a1)]:List PV)[v.toNat]?=some (.val (.int .i64 (sel 0 [a0,a1] v.toNat))):=by
 have hx:v.toNat<2:=by omega
 have h2:=aqI (f:=fun n=>PV.val (.int .i64 n)) (l:=[a0,a1]) (k:=v.toNat) hx;rw[←List.getElem?_map]at h2;exact h2
theorem gl3 {a0 a1 a2:Int} (h:v<3):([.val (.int .i64 a0),.val (.int .i64 a1),.val (.int .i64 a2)]:List PV)[v.toNat]?=some (.val (.int .i64 (sel 0 [a0,a1,a2] v.toNat))):=by
 have hx:v.toNat<3:=by omega
 have h2:=aqI (f:=fun n=>PV.val (.int .i64 n)) (l:=[a0,a1,a2]) (k:=v.toNat) hx;rw[←List.getElem?_map]at h2;exact h2
theorem gs5 {a0 a1 a2 a3 a4:ByteArray} (h:v<5):([.val (.string a0),.val (.string a1),.val (.string a2),.val (.string a3),.val (.string a4)]:List PV)[v.toNat]?=some (.val (.string (sel .empty [a0,a1,a2,a3,a4] v.toNat))):=by
 have hx:v.toNat<5:=by omega
 have h2:=ah5 (f:=fun n=>PV.val (.string n)) (l:=[a0,a1,a2,a3,a4]) (k:=v.toNat) hx;rw[←List.getElem?_map]at h2;exact h2
theorem gs8 {a0 a1 a2 a3 a4 a5 a6 a7:ByteArray} (h:v<8):([.val (.string a0),.val (.string a1),.val (.string a2),.val (.string a3),.val (.string a4),.val (.string a5),.val (.string a6),.val (.string a7)]:List PV)[v.toNat]?=some (.val (.string (sel .empty [a0,a1,a2,a3,a4,a5,a6,a7] v.toNat))):=by
 have hx:v.toNat<8:=by omega
 have h2:=ah5 (f:=fun n=>PV.val (.string n)) (l:=[a0,a1,a2,a3,a4,a5,a6,a7]) (k:=v.toNat) hx;rw[←List.getElem?_map]at h2;exact h2
theorem azn {a0 a1 a2 a3 a4 a5 a6 a7 a8 a9 a10 a11:ByteArray} (h:v<12):([.val (.string a0),.val (.string a1),.val (.string a2),.val (.string a3),.val (.string a4),.val (.string a5),.val (.string a6),.val (.string a7),.val (.string a8),.val (.string a9),.val (.string a10),.val (.string a11)]:List PV)[v.toNat]?=some (.val (.string (sel .empty [a0,a1,a2,a3,a4,a5,a6,a7,a8,a9,a10,a11] v.toNat))):=by
 have hx:v.toNat<12:=by omega
 have h2:=ah5 (f:=fun n=>PV.val (.string n)) (l:=[a0,a1,a2,a3,a4,a5,a6,a7,a8,a9,a10,a11]) (k:=v.toNat) hx;rw[←List.getElem?_map]at h2;exact h2
theorem ay7 {a0 a1 a2 a3 a4 a5 a6 a7 a8 a9 a10 a11 a12 a13 a14:ByteArray} (h:v<15):([.val (.string a0),.val (.string a1),.val (.string a2),.val (.string a3),.val (.string a4),.val (.string a5),.val (.string a6),.val (.string a7),.val (.string a8),.val (.string a9),.val (.string a10),.val (.string a11),.val (.string a12),.val (.string a13),.val (.string a14)]:List PV)[v.toNat]?=some (.val (.string (sel .empty [a0,a1,a2,a3,a4,a5,a6,a7,a8,a9,a10,a11,a12,a13,a14] v.toNat))):=by
 have hx:v.toNat<15:=by omega
 have h2:=ah5 (f:=fun n=>PV.val (.string n)) (l:=[a0,a1,a2,a3,a4,a5,a6,a7,a8,a9,a10,a11,a12,a13,a14]) (k:=v.toNat) hx;rw[←List.getElem?_map]at h2;exact h2
theorem axE (x:Nat):(x=x+1)=False:=by simp
theorem axY (x:Nat):(x+1=x)=False:=by simp
theorem axn (x:Nat):(x=x+1+1)=False:=by simp;omega
theorem axd (x:Nat):(x+1+1=x)=False:=by simp;omega
theorem z_s (x:Nat):(0=x+1)=False:=by simp
theorem aya (x:Nat):(x=x+1+1+1)=False:=by simp;omega
theorem ayp (x:Nat):(x+1+1+1=x)=False:=by simp;omega
end
theorem as9 {l:List Int} {y:Int}:(l.map fun n=>PV.val (.int .i64 n))++[.val (.int .i64 y)]=(l++[y]).map fun n=>PV.val (.int .i64 n):=by simp
theorem ata {l:List ByteArray} {y:ByteArray}:(l.map fun n=>PV.val (.string n))++[.val (.string y)]=(l++[y]).map fun n=>PV.val (.string n):=by simp
theorem avj {l:List I4} {a b c d:Int}:(l.map fun x=>PV.agg [.val (.int .i64 x.1),.val (.int .i64 x.2.1),.val (.int .i64 x.2.2.1),.val (.int .i64 x.2.2.2)])++[.agg [.val (.int .i64 a),.val (.int .i64 b),.val (.int .i64 c),.val (.int .i64 d)]]=(l++[(a,b,c,d)]).map fun x=>PV.agg [.val (.int .i64 x.1),.val (.int .i64 x.2.1),.val (.int .i64 x.2.2.1),.val (.int .i64 x.2.2.2)]:=by simp
theorem aQ {n:Nat} {a:Int}:List.replicate n (PV.val (.int .i64 a))=(List.replicate n a).map fun n=>PV.val (.int .i64 n):=by simp
theorem aP {n:Nat} {a:ByteArray}:List.replicate n (PV.val (.string a))=(List.replicate n a).map fun n=>PV.val (.string n):=by simp
theorem bI {n:Nat} {a:ByteArray} {b:Int}:List.replicate n (PV.agg [.val (.string a),.val (.int .i64 b)])=(List.replicate n ((a,b):W2)).map fun x=>PV.agg [.val (.string x.1),.val (.int .i64 x.2)]:=by simp
theorem aO {n:Nat} {a b c:Int}:List.replicate n (PV.agg [.val (.int .i64 a),.val (.int .i64 b),.val (.int .i64 c)])=(List.replicate n ((a,b,c):I3)).map fun x=>PV.agg [.val (.int .i64 x.1),.val (.int .i64 x.2.1),.val (.int .i64 x.2.2)]:=by simp
theorem aL {n:Nat} {a b c d:Int}:List.replicate n (PV.agg [.val (.int .i64 a),.val (.int .i64 b),.val (.int .i64 c),.val (.int .i64 d)])=(List.replicate n ((a,b,c,d):I4)).map fun x=>PV.agg [.val (.int .i64 x.1),.val (.int .i64 x.2.1),.val (.int .i64 x.2.2.1),.val (.int .i64 x.2.2.2)]:=by simp
theorem nat_ne {a b:Nat} (h:¬a=b):(a=b)=False:=by simp[h]
attribute[push_cast low]
 nat_ne
attribute[push_cast]
 as9 ata avj
attribute[push_cast]
 gl2 gl3 gs5 gs8 azn ay7 axE axY axn axd z_s aya ayp Nat.le_refl Nat.add_right_cancel_iff
theorem agx {T:Nat} {code code':List Int} {p p':Int} (h:rdC T code p=rdC T code' p'):code=code'∧p=p':=by
 simp only[rdC,Prod.mk.injEq,true_and,List.cons.injEq,PV.agg.injEq,PV.lst.injEq,PV.val.injEq,Value.int.injEq,and_true]at h;refine⟨?_,h.2⟩;have:Function.Injective fun n:Int=>PV.val (.int .u8 n):=fun a b e=>by simpa using e
 exact(List.map_inj_right (fun a b e=>this e)).1 h.1
theorem oU.to {code:List Int} {p p':Int} (h:oU code p) (h1:0≤p') (h2:p'≤1000000000000):oU code p':=⟨h.len,h.byte,h1,h2⟩
section
variable {P:Program} {Γ:Ctx}
theorem o9 (hm:P.follows .mixedOrders=true) {f:Nat} {fn:Func} {C:Code} (hΓ:ak P Γ) (hf:P.funcs[f]?=some fn) (hb:fn.body=some C) (N:Nat) (hN:fn.ntmps=N) (rs:List ResultVar) (hrs:fn.results.toList=rs) (hc:codeOk Γ true N C=true) (hN1:2≤N)
 (T:Nat) (B c:Int) {α:Type} (E:α→PV) (D:Int→Prop) (R:Int→α→Prop)
 (h:∀code p n,oU code p→p≤B→D n→pq P Γ N C (fun x s'=>∃a p',R n a∧oU code p'∧p≤p'∧p'≤p+c∧gY P rs 1 (E a) [rdC T code p'] x s') (bY [.own 0 2 0 0,.val (.int .i64 n)]).tm (lo [(0,rdC T code p)]) 1):
 ∃Φ:dP,bO P f Φ∧adv T Φ B c E D R:=by
 obtain⟨Φ,h1,h2⟩:=acg hm hΓ hf hb N hN rs hrs hc
  (fun ps o=>∃code p n,ps=[.own 0 2 0 0,.val (.int .i64 n)]∧o=rdC T code p∧oU code p∧p≤B∧D n)
  (fun ps o r o'=>∃code p n a p',ps=[.own 0 2 0 0,.val (.int .i64 n)]∧o=rdC T code p∧r=E a∧o'=rdC T code p'∧R n a∧oU code p'∧p≤p'∧p'≤p+c)
  (fun ps o ⟨code,p,n,e,_⟩=>by rw[e];exact hN1) (fun ps o ⟨code,p,n,e1,e2,h3,h4,h5⟩=>by subst e1 e2;refine sW (fun x s' hx=>?_) _ _ (h code p n h3 h4 h5);obtain⟨a,p',k1,k2,k3,k4,k5⟩:=hx;exact⟨E a,rdC T code p',⟨code,p,n,a,p',rfl,rfl,rfl,rfl,k1,k2,k3,k4⟩,k5⟩)
 refine⟨Φ,h1,fun code p n h3 h4 h5=>?_⟩;obtain⟨r,o',e,code',p1,n1,a,p',e0,e1,rfl,rfl,k1,k2,k3,k4⟩:=h2 _ _ ⟨code,p,n,rfl,rfl,h3,h4,h5⟩;obtain⟨rfl,rfl⟩:=agx e1;have:n=n1:=by simpa using e0
 subst this;exact⟨a,p',e,k1,k2,k3,k4⟩
end
def axT (φ:Fun) {α:Type} (E:α→PV) (R:α→Prop):Prop:=∀code:List Int,(∀i:Nat,0≤code[i]?.getD 0∧code[i]?.getD 0≤255)→code.length≤1048576→∃a,φ [.lst false 1 (code.map fun n=>PV.val (.int .u8 n))]=some (E a)∧R a
theorem aqP {P:Program} {Γ:Ctx} (hm:P.follows .mixedOrders=true) {f:Nat} {fn:Func} {C:Code} (hΓ:ak P Γ) (hf:P.funcs[f]?=some fn) (hb:fn.body=some C) (N:Nat) (hN:fn.ntmps=N) (rs:List ResultVar) (hrs:fn.results.toList=rs) (hc:codeOk Γ true N C=true) (hN1:1≤N)
 {α:Type} (E:α→PV) (R:α→Prop)
 (h:∀code:List Int,(∀i:Nat,0≤code[i]?.getD 0∧code[i]?.getD 0≤255)→code.length≤1048576→pq P Γ N C (fun x s'=>∃a,R a∧Post P rs (E a) x s') (bY [.lst false 1 (code.map fun n=>PV.val (.int .u8 n))]).tm (fun _=>none) 0):
 ∃φ:Fun,Sound P f φ∧axT φ E R:=by
 obtain⟨φ,h1,h2⟩:=zU hm hΓ hf hb N hN rs hrs hc
  (fun ps=>∃code:List Int,ps=[.lst false 1 (code.map fun n=>PV.val (.int .u8 n))]∧(∀i:Nat,0≤code[i]?.getD 0∧code[i]?.getD 0≤255)∧code.length≤1048576)
  (fun ps r=>∃a,r=E a∧R a)
  (fun ps ⟨code,e,_⟩=>by rw[e];exact hN1) (fun ps ⟨code,e1,h3,h4⟩=>by subst e1;refine sW (fun x s' hx=>?_) _ _ (h code h3 h4);obtain⟨a,k1,k2⟩:=hx;exact⟨E a,⟨a,rfl,k1⟩,k2⟩)
 refine⟨φ,h1,fun code h3 h4=>?_⟩;obtain⟨r,e,a,rfl,k1⟩:=h2 _ ⟨code,rfl,h3,h4⟩;exact⟨a,e,k1⟩
theorem aur {P:Program} {t:Nat} {x y:Operand} {m n:Int}:lK P .xor t x y (some (.int .i64 m)) (some (.int .i64 n))=some (.val (.int .i64 (IntKind.i64.wrap ((BitVec.ofInt 64 m ^^^ BitVec.ofInt 64 n).toNat)))):=by
 have:ay P (do eqGuard .xor t x y (.int .i64 m) (.int .i64 n);binOp .xor t (.int .i64 m) (.int .i64 n))=some (.int .i64 (IntKind.i64.wrap ((BitVec.ofInt 64 m ^^^ BitVec.ofInt 64 n).toNat))):=by rfl
 simp only[lK,this,Option.map_some]
theorem afj {m n:Int} (hm:0≤m) (hm2:m≤4611686018427387903) (hn:0≤n) (hn2:n≤4611686018427387903):0≤IntKind.i64.wrap ((BitVec.ofInt 64 m ^^^ BitVec.ofInt 64 n).toNat)∧IntKind.i64.wrap ((BitVec.ofInt 64 m ^^^ BitVec.ofInt 64 n).toNat)≤4611686018427387903:=by
 have e1:(BitVec.ofInt 64 m).toNat=m.toNat:=by rw[BitVec.toNat_ofInt];omega
 have e2:(BitVec.ofInt 64 n).toNat=n.toNat:=by rw[BitVec.toNat_ofInt];omega
 rw[BitVec.toNat_xor,e1,e2];have h:m.toNat ^^^ n.toNat<2 ^ 62:=Nat.xor_lt_two_pow (by omega) (by omega);rw[dA (by omega) (by omega)];omega
theorem axB {P:Program} {Γ:Ctx} {imm:Md} {gs:List (Option Nat)} {l:List Oper} {Q:AS→Prop} {tm:Nat→PV} {ob:bD} {nx d ty t t':Nat} {x y:Operand} {pos:String} {af:Array Edge} {m n:Int}
 (h0:eT Γ imm {dst:=some d,op:=.binOp .xor t x y t',type:=ty,pos:=pos,after:=af,guard:=none}=false)
 (hx:look tm x=.val (.int .i64 m)) (hy:look tm y=.val (.int .i64 n)) (hm:0≤m) (hm2:m≤4611686018427387903) (hn:0≤n) (hn2:n≤4611686018427387903)
 (hk:∀z:Int,0≤z→z≤4611686018427387903→wq P Γ imm gs l Q (upd tm d (.val (.int .i64 z))) ob nx):
 wq P Γ imm gs ({dst:=some d,op:=.binOp .xor t x y t',type:=ty,pos:=pos,after:=af,guard:=none}::l) Q tm ob nx:=by
 obtain⟨h1,h2⟩:=afj hm hm2 hn hn2;refine i_V h0 rfl rfl ?_ (hk _ h1 h2);rw[ac0,hx,hy];exact aur
theorem fT {P:Program} {rs:List ResultVar} {T:Nat} {α:Type} {E:α→PV} {R:α→Prop} {code:List Int} {p c:Int} {a:α} {p':Int} {x:X} {tm:Nat→PV} {ob:bD} {nx:Nat} (hx:x=.normal∨x=.ret)
 (h3:((fF P ⟨tm,ob,nx⟩ rs).bind fun qs=>bU [0] ob fuel (gL qs))=some (E a)) (h4:kg [0] ob fuel 0=some (rdC T code p')) (hR:R a) (ho:oU code p') (h1:p≤p') (h2:p'≤p+c):
 ∃a p',R a∧oU code p'∧p≤p'∧p'≤p+c∧gY P rs 1 (E a) [rdC T code p'] x ⟨tm,ob,nx⟩:=⟨a,p',hR,ho,h1,h2,aty hx h3 h4⟩
theorem amD {P:Program} {rs:List ResultVar} {α:Type} {E:α→PV} {R:α→Prop} {a:α} {x:X} {tm:Nat→PV} {ob:bD} {nx:Nat} (hx:x=.normal∨x=.ret)
 (h3:((fF P ⟨tm,ob,nx⟩ rs).bind fun qs=>reify true 0 ob fuel (gL qs))=some (E a)) (hR:R a):
 ∃a,R a∧Post P rs (E a) x ⟨tm,ob,nx⟩:=⟨a,hR,hx,h3⟩
abbrev okI (n:Int):Prop:=-9223372036854775808≤n∧n≤9223372036854775807
abbrev avK (n:Int):Prop:=0≤n∧n≤255
abbrev okL {α:Type} (ok:α→Prop) (l:List α):Prop:=l.length≤9223372036854775807∧∀a∈l,ok a
theorem ajI {code:List Int} (h:okL avK code):∀i:Nat,0≤code[i]?.getD 0∧code[i]?.getD 0≤255:=fun i=>by
 by_cases hi:i<code.length
 ·simp only[List.getElem?_eq_getElem hi,Option.getD_some]
  exact h.2 _ (List.getElem_mem hi)
 ·rw[List.getElem?_eq_none (by omega)]
  simp
instance {α:Type} (ok:α→Prop) (l:List α):Decidable (okL ok l):=Classical.propDecidable _
theorem ajy {code:List Int} (h:∀i:Nat,0≤code[i]?.getD 0∧code[i]?.getD 0≤255):oU (code.take 2000) 0:=by
 refine⟨by simp;omega,fun i=>?_,by omega,by omega⟩;rw[List.getElem?_take];split
 ·exact h i
 ·simp
theorem aja (cs:List PV):toVal (.agg cs)=(iq cs).map fun vs=> .agg vs.toArray:=rfl
theorem abW (p q r:PV):gL [p,q,r]=.tup [p,q,r]:=rfl
theorem afg (p q r s:PV):gL [p,q,r,s]=.tup [p,q,r,s]:=rfl
theorem afd (p q r s t:PV):gL [p,q,r,s,t]=.tup [p,q,r,s,t]:=rfl
theorem ahH {fr:Bool} {f sz m T:Nat} {ob:bD} {es:List PV} (hm:m=es.length):qH fr f ob sz 0 m (some (T,sz,es))=(es.mapM (reify fr 0 ob f)).map (.lst fr sz):=by subst hm;simp[qH]
attribute[push_cast low]
 ahH
attribute[push_cast]
 abW afg afd aja beq_self_eq_true
theorem azl:bB (.int .i64 0)=.val (.int .i64 0):=rfl
theorem ajC:bn Tryz.prog 3=some 1:=by kernel_rfl
theorem azv:jN Tryz.prog 3=some false:=by kernel_rfl
theorem axr:fq Tryz.prog 3=some 8:=by kernel_rfl
theorem aoQ:zeroOf Tryz.prog 3=some (.int .i64 0):=by kernel_rfl
theorem axO:Tryz.prog.underlying 3=some (.int .i64):=by kernel_rfl
theorem azc:bB (.int .i64 0)=.val (.int .i64 0):=rfl
theorem ay9:eZ Tryz.prog 3=false:=by kernel_rfl
theorem azm:isStr Tryz.prog 3=false:=by kernel_rfl
theorem ay3:bn Tryz.prog 4=some 1:=by kernel_rfl
theorem azx:jN Tryz.prog 4=some false:=by kernel_rfl
theorem ayR:Tryz.prog.underlying 4=some .bool:=by kernel_rfl
theorem axI {x y:Operand} {a b:Bool}:lK Tryz.prog .neq 4 x y (some (.bool a)) (some (.bool b))=some (.val (.bool (!(a==b)))):=arL ayR
theorem azo:bB (.bool false)=.val (.bool false):=rfl
theorem aw6:bn Tryz.prog 5=some 1:=by kernel_rfl
theorem azd:jN Tryz.prog 5=some false:=by kernel_rfl
theorem ayW:zeroOf Tryz.prog 5=some (.int .u8 0):=by kernel_rfl
theorem axk:Tryz.prog.underlying 5=some (.int .u8):=by kernel_rfl
theorem azw:bB (.int .u8 0)=.val (.int .u8 0):=rfl
theorem aza:eZ Tryz.prog 5=false:=by kernel_rfl
theorem azs:isStr Tryz.prog 5=false:=by kernel_rfl
theorem azg:bB (.agg #[.int .i64 0,.int .i64 0,.bool false,.int .u8 0])=.agg [.val (.int .i64 0),.val (.int .i64 0),.val (.bool false),.val (.int .u8 0)]:=rfl
theorem agT:bn Tryz.prog 9=some 1:=by kernel_rfl
theorem aze:jN Tryz.prog 9=some false:=by kernel_rfl
theorem ayO:fq Tryz.prog 9=some 16:=by kernel_rfl
theorem anl:zeroOf Tryz.prog 9=some (.string ByteArray.empty):=by kernel_rfl
theorem axA:Tryz.prog.underlying 9=some .string:=by kernel_rfl
theorem ayc {ty:Nat} {s:ByteArray}:uD Tryz.prog 9 ty (.val (.string s))=some (.val (.int .i64 s.size)):=awp axA
theorem ayG {s:ByteArray} {i:Int} (h0:0≤i) (h1:i<s.size):aw0 Tryz.prog 9 (some (.string s)) (some (.int .i64 i))=some (.val (.int .u8 (at8 s i.toNat))):=au8 axA h0 h1
theorem azb:bB (.string ByteArray.empty)=.val (.string ByteArray.empty):=rfl
theorem azu:isStr Tryz.prog 9=true:=by kernel_rfl
theorem ax1:bB (.int .u64 0)=.val (.int .u64 0):=rfl
theorem ayb:bB (.agg #[.string ByteArray.empty,.int .u64 0])=.agg [.val (.string ByteArray.empty),.val (.int .u64 0)]:=rfl
theorem axC:bB (.int .i32 0)=.val (.int .i32 0):=rfl
theorem ayj:bB (.agg #[.slice none 0 0,.slice none 0 0,.int .i64 0,.int .i64 0,.int .i64 0])=.agg [.val (.slice none 0 0),.val (.slice none 0 0),.val (.int .i64 0),.val (.int .i64 0),.val (.int .i64 0)]:=rfl
theorem ayL:bn Tryz.prog 26=some 5:=by kernel_rfl
theorem ayg:jN Tryz.prog 26=some true:=by kernel_rfl
theorem amg:zeroOf Tryz.prog 26=some (.agg #[.slice none 0 0,.slice none 0 0,.int .i64 0,.int .i64 0,.int .i64 0]):=by kernel_rfl
theorem aot:bf Tryz.prog 26 0=some 0:=by kernel_rfl
theorem aoT:bf Tryz.prog 26 1=some 1:=by kernel_rfl
theorem aqo:bf Tryz.prog 26 2=some 2:=by kernel_rfl
theorem aox:bf Tryz.prog 26 3=some 3:=by kernel_rfl
theorem apI:bf Tryz.prog 26 4=some 4:=by kernel_rfl
theorem auD:bW Tryz.prog 26=some #[(0,1),(1,1),(2,1),(3,1),(4,1)]:=by kernel_rfl
theorem ayD (ps:List (Nat×PV)):eY Tryz.prog 26 ps=(j4 (plF [(0,1),(1,1),(2,1),(3,1),(4,1)]) [.val (.slice none 0 0),.val (.slice none 0 0),.val (.int .i64 0),.val (.int .i64 0),.val (.int .i64 0)] ps).map .agg:=zM amg rfl auD ps
theorem ayt:bB (.agg #[.slice none 0 0,.slice none 0 0,.int .i64 0,.int .i64 0,.int .i64 0])=.agg [.val (.slice none 0 0),.val (.slice none 0 0),.val (.int .i64 0),.val (.int .i64 0),.val (.int .i64 0)]:=rfl
theorem axq {Γ:Ctx} (s:AS) (ρ:Operand→PV):bA Tryz.prog Γ s ρ (.alloc 26)=some (.own s.nx 5 0 0,upd s.ob s.nx (some (26,5,[.agg [.val (.slice none 0 0),.val (.slice none 0 0),.val (.int .i64 0),.val (.int .i64 0),.val (.int .i64 0)]])),s.nx+1):=afb amg (by kernel_rfl) rfl rfl s ρ
theorem axX:bB (.agg #[.slice none 0 0,.slice none 0 0,.int .i64 0,.int .i64 0,.int .i64 0])=.agg [.val (.slice none 0 0),.val (.slice none 0 0),.val (.int .i64 0),.val (.int .i64 0),.val (.int .i64 0)]:=rfl
theorem ayr:bB (.agg #[.int .i64 0,.int .i64 0,.int .i64 0,.int .i64 0])=.agg [.val (.int .i64 0),.val (.int .i64 0),.val (.int .i64 0),.val (.int .i64 0)]:=rfl
theorem ak7:bn Tryz.prog 60=some 4:=by kernel_rfl
theorem axg:jN Tryz.prog 60=some true:=by kernel_rfl
theorem aug:fq Tryz.prog 60=some 32:=by kernel_rfl
theorem ah7:zeroOf Tryz.prog 60=some (.agg #[.int .i64 0,.int .i64 0,.int .i64 0,.int .i64 0]):=by kernel_rfl
theorem apP:bf Tryz.prog 60 0=some 0:=by kernel_rfl
theorem aqm:bf Tryz.prog 60 1=some 1:=by kernel_rfl
theorem aql:bf Tryz.prog 60 2=some 2:=by kernel_rfl
theorem ar8:bf Tryz.prog 60 3=some 3:=by kernel_rfl
theorem awf:bW Tryz.prog 60=some #[(0,1),(1,1),(2,1),(3,1)]:=by kernel_rfl
theorem ayH (ps:List (Nat×PV)):eY Tryz.prog 60 ps=(j4 (plF [(0,1),(1,1),(2,1),(3,1)]) [.val (.int .i64 0),.val (.int .i64 0),.val (.int .i64 0),.val (.int .i64 0)] ps).map .agg:=zM ah7 rfl awf ps
theorem ayf:bB (.agg #[.int .i64 0,.int .i64 0,.int .i64 0,.int .i64 0])=.agg [.val (.int .i64 0),.val (.int .i64 0),.val (.int .i64 0),.val (.int .i64 0)]:=rfl
theorem axh {Γ:Ctx} (s:AS) (ρ:Operand→PV):bA Tryz.prog Γ s ρ (.alloc 60)=some (.own s.nx 4 0 0,upd s.ob s.nx (some (60,4,[.agg [.val (.int .i64 0),.val (.int .i64 0),.val (.int .i64 0),.val (.int .i64 0)]])),s.nx+1):=afb ah7 (by kernel_rfl) rfl rfl s ρ
theorem axm {Γ:Ctx} {ob:bD} {ρ:Operand→PV} {ty:Nat}:aZ Tryz.prog Γ ob ρ ty (.build 60 #[])=some (.agg [.val (.int .i64 0),.val (.int .i64 0),.val (.int .i64 0),.val (.int .i64 0)]):=(show eY Tryz.prog 60 []=some (.agg [.val (.int .i64 0),.val (.int .i64 0),.val (.int .i64 0),.val (.int .i64 0)])from by kernel_rfl)
theorem axV:bB (.agg #[.string ByteArray.empty,.int .i64 0])=.agg [.val (.string ByteArray.empty),.val (.int .i64 0)]:=rfl
theorem ayA:bB (.agg #[.string ByteArray.empty,.int .i64 0])=.agg [.val (.string ByteArray.empty),.val (.int .i64 0)]:=rfl
theorem ax4:bB (.agg #[.slice none 0 0,.int .i64 0])=.agg [.val (.slice none 0 0),.val (.int .i64 0)]:=rfl
theorem asB:zeroOf Tryz.prog 83=some (.agg #[.slice none 0 0,.int .i64 0]):=by kernel_rfl
theorem aqQ:bf Tryz.prog 83 0=some 0:=by kernel_rfl
theorem aqU:bf Tryz.prog 83 1=some 1:=by kernel_rfl
theorem auc:bW Tryz.prog 83=some #[(0,1),(1,1)]:=by kernel_rfl
theorem axo (ps:List (Nat×PV)):eY Tryz.prog 83 ps=(j4 (plF [(0,1),(1,1)]) [.val (.slice none 0 0),.val (.int .i64 0)] ps).map .agg:=zM asB rfl auc ps
theorem ayv:bB (.agg #[.slice none 0 0,.int .i64 0])=.agg [.val (.slice none 0 0),.val (.int .i64 0)]:=rfl
theorem axv:bB (.agg #[.int .i64 0,.bool false,.int .i64 0,.int .i64 0])=.agg [.val (.int .i64 0),.val (.bool false),.val (.int .i64 0),.val (.int .i64 0)]:=rfl
theorem afr:bn Tryz.prog 88=some 4:=by kernel_rfl
theorem ax5:jN Tryz.prog 88=some true:=by kernel_rfl
theorem av8:fq Tryz.prog 88=some 32:=by kernel_rfl
theorem aeM:zeroOf Tryz.prog 88=some (.agg #[.int .i64 0,.bool false,.int .i64 0,.int .i64 0]):=by kernel_rfl
theorem apR:bf Tryz.prog 88 0=some 0:=by kernel_rfl
theorem aoh:bf Tryz.prog 88 1=some 1:=by kernel_rfl
theorem arj:bf Tryz.prog 88 2=some 2:=by kernel_rfl
theorem aoM:bf Tryz.prog 88 3=some 3:=by kernel_rfl
theorem asA:bW Tryz.prog 88=some #[(0,1),(1,1),(2,1),(3,1)]:=by kernel_rfl
theorem axc (ps:List (Nat×PV)):eY Tryz.prog 88 ps=(j4 (plF [(0,1),(1,1),(2,1),(3,1)]) [.val (.int .i64 0),.val (.bool false),.val (.int .i64 0),.val (.int .i64 0)] ps).map .agg:=zM aeM rfl asA ps
theorem axz:bB (.agg #[.int .i64 0,.bool false,.int .i64 0,.int .i64 0])=.agg [.val (.int .i64 0),.val (.bool false),.val (.int .i64 0),.val (.int .i64 0)]:=rfl
theorem aye {Γ:Ctx} (s:AS) (ρ:Operand→PV):bA Tryz.prog Γ s ρ (.alloc 88)=some (.own s.nx 4 0 0,upd s.ob s.nx (some (88,4,[.agg [.val (.int .i64 0),.val (.bool false),.val (.int .i64 0),.val (.int .i64 0)]])),s.nx+1):=afb aeM (by kernel_rfl) rfl rfl s ρ
theorem avO:bB (.agg #[.int .i64 0,.int .i64 0,.int .i64 0,.int .i64 0,.int .i64 0,.int .i64 0,.bool false])=.agg [.val (.int .i64 0),.val (.int .i64 0),.val (.int .i64 0),.val (.int .i64 0),.val (.int .i64 0),.val (.int .i64 0),.val (.bool false)]:=rfl
theorem vS:bn Tryz.prog 111=some 7:=by kernel_rfl
theorem awi:jN Tryz.prog 111=some true:=by kernel_rfl
theorem anz:fq Tryz.prog 111=some 56:=by kernel_rfl
theorem ug:zeroOf Tryz.prog 111=some (.agg #[.int .i64 0,.int .i64 0,.int .i64 0,.int .i64 0,.int .i64 0,.int .i64 0,.bool false]):=by kernel_rfl
theorem ajM:bf Tryz.prog 111 0=some 0:=by kernel_rfl
theorem akh:bf Tryz.prog 111 1=some 1:=by kernel_rfl
theorem alz:bf Tryz.prog 111 2=some 5:=by kernel_rfl
theorem ajT:bf Tryz.prog 111 3=some 6:=by kernel_rfl
theorem amF:bW Tryz.prog 111=some #[(0,1),(1,4),(5,1),(6,1)]:=by kernel_rfl
theorem aww (ps:List (Nat×PV)):eY Tryz.prog 111 ps=(j4 (plF [(0,1),(1,4),(5,1),(6,1)]) [.val (.int .i64 0),.val (.int .i64 0),.val (.int .i64 0),.val (.int .i64 0),.val (.int .i64 0),.val (.int .i64 0),.val (.bool false)] ps).map .agg:=zM ug rfl amF ps
theorem avN:bB (.agg #[.int .i64 0,.int .i64 0,.int .i64 0,.int .i64 0,.int .i64 0,.int .i64 0,.bool false])=.agg [.val (.int .i64 0),.val (.int .i64 0),.val (.int .i64 0),.val (.int .i64 0),.val (.int .i64 0),.val (.int .i64 0),.val (.bool false)]:=rfl
theorem atM {Γ:Ctx} (s:AS) (ρ:Operand→PV):bA Tryz.prog Γ s ρ (.alloc 111)=some (.own s.nx 7 0 0,upd s.ob s.nx (some (111,7,[.agg [.val (.int .i64 0),.val (.int .i64 0),.val (.int .i64 0),.val (.int .i64 0),.val (.int .i64 0),.val (.int .i64 0),.val (.bool false)]])),s.nx+1):=afb ug (by kernel_rfl) rfl rfl s ρ
theorem atW:bB (.int .u64 0)=.val (.int .u64 0):=rfl
theorem asU:bB (.agg #[.int .i64 0,.int .i64 0])=.agg [.val (.int .i64 0),.val (.int .i64 0)]:=rfl
theorem auT:bB (.agg #[.int .i64 0,.bool false,.int .i64 0])=.agg [.val (.int .i64 0),.val (.bool false),.val (.int .i64 0)]:=rfl
theorem auC:bn Tryz.prog 145=some 3:=by kernel_rfl
theorem atO:jN Tryz.prog 145=some true:=by kernel_rfl
theorem vQ:zeroOf Tryz.prog 145=some (.agg #[.int .i64 0,.bool false,.int .i64 0]):=by kernel_rfl
theorem alB:bf Tryz.prog 145 0=some 0:=by kernel_rfl
theorem amr:bf Tryz.prog 145 1=some 1:=by kernel_rfl
theorem alg:bf Tryz.prog 145 2=some 2:=by kernel_rfl
theorem anf:bW Tryz.prog 145=some #[(0,1),(1,1),(2,1)]:=by kernel_rfl
theorem avC (ps:List (Nat×PV)):eY Tryz.prog 145 ps=(j4 (plF [(0,1),(1,1),(2,1)]) [.val (.int .i64 0),.val (.bool false),.val (.int .i64 0)] ps).map .agg:=zM vQ rfl anf ps
theorem avt:bB (.agg #[.int .i64 0,.bool false,.int .i64 0])=.agg [.val (.int .i64 0),.val (.bool false),.val (.int .i64 0)]:=rfl
theorem auP {Γ:Ctx} (s:AS) (ρ:Operand→PV):bA Tryz.prog Γ s ρ (.alloc 145)=some (.own s.nx 3 0 0,upd s.ob s.nx (some (145,3,[.agg [.val (.int .i64 0),.val (.bool false),.val (.int .i64 0)]])),s.nx+1):=afb vQ (by kernel_rfl) rfl rfl s ρ
theorem avE {Γ:Ctx} {ob:bD} {ρ:Operand→PV} {ty:Nat}:aZ Tryz.prog Γ ob ρ ty (.build 145 #[])=some (.agg [.val (.int .i64 0),.val (.bool false),.val (.int .i64 0)]):=(show eY Tryz.prog 145 []=some (.agg [.val (.int .i64 0),.val (.bool false),.val (.int .i64 0)])from by kernel_rfl)
theorem ani:Tryz.prog.underlying 145=some (.struct (Go.Program.fieldsOf Tryz.prog 145)):=by kernel_rfl
theorem auy:bB (.agg #[.int .i64 0,.int .i64 0,.bool false,.int .i64 0])=.agg [.val (.int .i64 0),.val (.int .i64 0),.val (.bool false),.val (.int .i64 0)]:=rfl
theorem aua:bn Tryz.prog 147=some 4:=by kernel_rfl
theorem au0:jN Tryz.prog 147=some true:=by kernel_rfl
theorem vR:zeroOf Tryz.prog 147=some (.agg #[.int .i64 0,.int .i64 0,.bool false,.int .i64 0]):=by kernel_rfl
theorem aky:bf Tryz.prog 147 0=some 0:=by kernel_rfl
theorem akk:bf Tryz.prog 147 1=some 1:=by kernel_rfl
theorem amM:bW Tryz.prog 147=some #[(0,1),(1,3)]:=by kernel_rfl
theorem atL (ps:List (Nat×PV)):eY Tryz.prog 147 ps=(j4 (plF [(0,1),(1,3)]) [.val (.int .i64 0),.val (.int .i64 0),.val (.bool false),.val (.int .i64 0)] ps).map .agg:=zM vR rfl amM ps
theorem awc:bB (.agg #[.int .i64 0,.int .i64 0,.bool false,.int .i64 0])=.agg [.val (.int .i64 0),.val (.int .i64 0),.val (.bool false),.val (.int .i64 0)]:=rfl
theorem asu {Γ:Ctx} (s:AS) (ρ:Operand→PV):bA Tryz.prog Γ s ρ (.alloc 147)=some (.own s.nx 4 0 0,upd s.ob s.nx (some (147,4,[.agg [.val (.int .i64 0),.val (.int .i64 0),.val (.bool false),.val (.int .i64 0)]])),s.nx+1):=afb vR (by kernel_rfl) rfl rfl s ρ
theorem atb {Γ:Ctx} {ob:bD} {ρ:Operand→PV} {ty:Nat}:aZ Tryz.prog Γ ob ρ ty (.build 147 #[])=some (.agg [.val (.int .i64 0),.val (.int .i64 0),.val (.bool false),.val (.int .i64 0)]):=(show eY Tryz.prog 147 []=some (.agg [.val (.int .i64 0),.val (.int .i64 0),.val (.bool false),.val (.int .i64 0)])from by kernel_rfl)
theorem aiQ:bn Tryz.prog 153=some 4:=by kernel_rfl
theorem anB:fq Tryz.prog 153=some 4:=by kernel_rfl
theorem anD:zeroOf Tryz.prog 153=some (.agg #[.bool false,.bool false,.bool false,.bool false]):=by kernel_rfl
theorem ant:Tryz.prog.underlying 153=some (.array 4 4):=by kernel_rfl
theorem apB {o sz j f:Nat} {i:Int} (h0:0≤i) (h1:i<4):aI Tryz.prog 153 (.own o sz j f) i=some (.own o sz j (f+i.toNat)):=by rw[amY ant ay3 h0 h1,Nat.mul_one]
theorem avT:bB (.agg #[.bool false,.bool false,.bool false,.bool false])=.agg [.val (.bool false),.val (.bool false),.val (.bool false),.val (.bool false)]:=rfl
theorem agI:bn Tryz.prog 158=some 4:=by kernel_rfl
theorem anh:fq Tryz.prog 158=some 32:=by kernel_rfl
theorem ank:zeroOf Tryz.prog 158=some (.agg #[.int .i64 0,.int .i64 0,.int .i64 0,.int .i64 0]):=by kernel_rfl
theorem am1:Tryz.prog.underlying 158=some (.array 4 3):=by kernel_rfl
theorem ape {o sz j f:Nat} {i:Int} (h0:0≤i) (h1:i<4):aI Tryz.prog 158 (.own o sz j f) i=some (.own o sz j (f+i.toNat)):=by rw[amY am1 ajC h0 h1,Nat.mul_one]
theorem awJ:bB (.agg #[.int .i64 0,.int .i64 0,.int .i64 0,.int .i64 0])=.agg [.val (.int .i64 0),.val (.int .i64 0),.val (.int .i64 0),.val (.int .i64 0)]:=rfl
theorem as8:bB (.agg #[.int .u8 0,.int .u8 0,.int .u8 0,.int .u8 0,.int .u8 0,.int .u8 0,.int .u8 0,.int .u8 0,.int .u8 0,.int .u8 0,.int .u8 0,.int .u8 0,.int .u8 0,.int .u8 0,.int .u8 0,.int .u8 0,.int .u8 0,.int .u8 0,.int .u8 0,.int .u8 0,.int .u8 0,.int .u8 0,.int .u8 0,.int .u8 0])=.agg [.val (.int .u8 0),.val (.int .u8 0),.val (.int .u8 0),.val (.int .u8 0),.val (.int .u8 0),.val (.int .u8 0),.val (.int .u8 0),.val (.int .u8 0),.val (.int .u8 0),.val (.int .u8 0),.val (.int .u8 0),.val (.int .u8 0),.val (.int .u8 0),.val (.int .u8 0),.val (.int .u8 0),.val (.int .u8 0),.val (.int .u8 0),.val (.int .u8 0),.val (.int .u8 0),.val (.int .u8 0),.val (.int .u8 0),.val (.int .u8 0),.val (.int .u8 0),.val (.int .u8 0)]:=rfl
theorem avS:bB (.int .u64 0)=.val (.int .u64 0):=rfl
theorem auR:bB (.int .i64 0)=.val (.int .i64 0):=rfl
theorem atT:bB (.int .u32 0)=.val (.int .u32 0):=rfl
theorem asH:bB (.agg #[.int .u64 0,.int .u64 0,.int .u64 0,.int .u64 0,.int .u64 0,.int .u64 0,.int .u64 0,.int .u64 0,.int .u64 0,.int .u64 0,.int .u64 0,.int .u64 0,.int .u64 0,.int .u64 0,.int .u64 0,.int .u64 0,.int .u64 0,.int .u64 0,.int .u64 0,.int .u64 0])=.agg [.val (.int .u64 0),.val (.int .u64 0),.val (.int .u64 0),.val (.int .u64 0),.val (.int .u64 0),.val (.int .u64 0),.val (.int .u64 0),.val (.int .u64 0),.val (.int .u64 0),.val (.int .u64 0),.val (.int .u64 0),.val (.int .u64 0),.val (.int .u64 0),.val (.int .u64 0),.val (.int .u64 0),.val (.int .u64 0),.val (.int .u64 0),.val (.int .u64 0),.val (.int .u64 0),.val (.int .u64 0)]:=rfl
theorem av7:bB (.int .u64 0)=.val (.int .u64 0):=rfl
theorem aup:bB (.agg #[.int .u8 0,.int .u8 0])=.agg [.val (.int .u8 0),.val (.int .u8 0)]:=rfl
theorem avw:bB (.agg #[.int .u8 0,.int .u8 0])=.agg [.val (.int .u8 0),.val (.int .u8 0)]:=rfl
theorem avP:bB (.agg #[.int .u8 0,.int .u8 0,.int .u8 0,.int .u8 0,.int .u8 0,.int .u8 0,.int .u8 0,.int .u8 0,.int .u8 0,.int .u8 0,.int .u8 0,.int .u8 0,.int .u8 0,.int .u8 0,.int .u8 0,.int .u8 0,.int .u8 0,.int .u8 0,.int .u8 0,.int .u8 0,.int .u8 0,.int .u8 0,.int .u8 0,.int .u8 0,.int .u8 0,.int .u8 0,.int .u8 0,.int .u8 0,.int .u8 0,.int .u8 0,.int .u8 0,.int .u8 0])=.agg [.val (.int .u8 0),.val (.int .u8 0),.val (.int .u8 0),.val (.int .u8 0),.val (.int .u8 0),.val (.int .u8 0),.val (.int .u8 0),.val (.int .u8 0),.val (.int .u8 0),.val (.int .u8 0),.val (.int .u8 0),.val (.int .u8 0),.val (.int .u8 0),.val (.int .u8 0),.val (.int .u8 0),.val (.int .u8 0),.val (.int .u8 0),.val (.int .u8 0),.val (.int .u8 0),.val (.int .u8 0),.val (.int .u8 0),.val (.int .u8 0),.val (.int .u8 0),.val (.int .u8 0),.val (.int .u8 0),.val (.int .u8 0),.val (.int .u8 0),.val (.int .u8 0),.val (.int .u8 0),.val (.int .u8 0),.val (.int .u8 0),.val (.int .u8 0)]:=rfl
theorem auL:bB (.agg #[.string ByteArray.empty])=.agg [.val (.string ByteArray.empty)]:=rfl
theorem awM:bB (.agg #[.string ByteArray.empty])=.agg [.val (.string ByteArray.empty)]:=rfl
theorem asE:bB (.agg #[.int .u8 0,.int .u8 0,.int .u8 0,.int .u8 0,.int .u8 0,.int .u8 0,.int .u8 0,.int .u8 0,.int .u8 0,.int .u8 0,.int .u8 0,.int .u8 0,.int .u8 0,.int .u8 0,.int .u8 0,.int .u8 0,.int .u8 0,.int .u8 0,.int .u8 0,.int .u8 0,.int .u8 0,.int .u8 0,.int .u8 0,.int .u8 0,.int .u8 0,.int .u8 0,.int .u8 0,.int .u8 0,.int .u8 0,.int .u8 0,.int .u8 0,.int .u8 0])=.agg [.val (.int .u8 0),.val (.int .u8 0),.val (.int .u8 0),.val (.int .u8 0),.val (.int .u8 0),.val (.int .u8 0),.val (.int .u8 0),.val (.int .u8 0),.val (.int .u8 0),.val (.int .u8 0),.val (.int .u8 0),.val (.int .u8 0),.val (.int .u8 0),.val (.int .u8 0),.val (.int .u8 0),.val (.int .u8 0),.val (.int .u8 0),.val (.int .u8 0),.val (.int .u8 0),.val (.int .u8 0),.val (.int .u8 0),.val (.int .u8 0),.val (.int .u8 0),.val (.int .u8 0),.val (.int .u8 0),.val (.int .u8 0),.val (.int .u8 0),.val (.int .u8 0),.val (.int .u8 0),.val (.int .u8 0),.val (.int .u8 0),.val (.int .u8 0)]:=rfl
theorem awj:bB (.agg #[.int .u8 0,.int .u8 0,.int .u8 0,.int .u8 0,.int .u8 0,.int .u8 0,.int .u8 0,.int .u8 0,.int .u8 0,.int .u8 0,.int .u8 0,.int .u8 0,.int .u8 0,.int .u8 0,.int .u8 0,.int .u8 0,.int .u8 0,.int .u8 0,.int .u8 0,.int .u8 0,.int .u8 0,.int .u8 0,.int .u8 0,.int .u8 0,.int .u8 0,.int .u8 0,.int .u8 0,.int .u8 0,.int .u8 0,.int .u8 0,.int .u8 0,.int .u8 0,.int .u8 0,.int .u8 0,.int .u8 0,.int .u8 0,.int .u8 0,.int .u8 0,.int .u8 0,.int .u8 0,.int .u8 0,.int .u8 0,.int .u8 0,.int .u8 0,.int .u8 0,.int .u8 0,.int .u8 0,.int .u8 0,.int .u8 0,.int .u8 0,.int .u8 0,.int .u8 0,.int .u8 0,.int .u8 0,.int .u8 0,.int .u8 0,.int .u8 0,.int .u8 0,.int .u8 0,.int .u8 0,.int .u8 0,.int .u8 0,.int .u8 0,.int .u8 0])=.agg [.val (.int .u8 0),.val (.int .u8 0),.val (.int .u8 0),.val (.int .u8 0),.val (.int .u8 0),.val (.int .u8 0),.val (.int .u8 0),.val (.int .u8 0),.val (.int .u8 0),.val (.int .u8 0),.val (.int .u8 0),.val (.int .u8 0),.val (.int .u8 0),.val (.int .u8 0),.val (.int .u8 0),.val (.int .u8 0),.val (.int .u8 0),.val (.int .u8 0),.val (.int .u8 0),.val (.int .u8 0),.val (.int .u8 0),.val (.int .u8 0),.val (.int .u8 0),.val (.int .u8 0),.val (.int .u8 0),.val (.int .u8 0),.val (.int .u8 0),.val (.int .u8 0),.val (.int .u8 0),.val (.int .u8 0),.val (.int .u8 0),.val (.int .u8 0),.val (.int .u8 0),.val (.int .u8 0),.val (.int .u8 0),.val (.int .u8 0),.val (.int .u8 0),.val (.int .u8 0),.val (.int .u8 0),.val (.int .u8 0),.val (.int .u8 0),.val (.int .u8 0),.val (.int .u8 0),.val (.int .u8 0),.val (.int .u8 0),.val (.int .u8 0),.val (.int .u8 0),.val (.int .u8 0),.val (.int .u8 0),.val (.int .u8 0),.val (.int .u8 0),.val (.int .u8 0),.val (.int .u8 0),.val (.int .u8 0),.val (.int .u8 0),.val (.int .u8 0),.val (.int .u8 0),.val (.int .u8 0),.val (.int .u8 0),.val (.int .u8 0),.val (.int .u8 0),.val (.int .u8 0),.val (.int .u8 0),.val (.int .u8 0)]:=rfl
theorem axP:bn Tryz.prog 22=some 1:=by kernel_rfl
theorem ayx:jN Tryz.prog 22=some false:=by kernel_rfl
theorem arP:Tryz.prog.underlying 22=some (.slice 5):=by kernel_rfl
theorem an7:dN Tryz.prog 22=some 5:=by kernel_rfl
theorem axe {k:Bool} {es:List PV} {i:Int} (h0:0≤i) (h1:i<(es.length:Int)):aI Tryz.prog 22 (.lst k 1 es) i=some (.ptr k ((es[i.toNat]?).getD .dead) 0):=rZ arP aw6 h0 h1
theorem axZ {k:Bool} {es:List PV} {lo hi:Option Int} (h0:0≤lo.getD 0) (h1:lo.getD 0≤hi.getD es.length) (h2:hi.getD es.length≤es.length):iV Tryz.prog 22 (.lst k 1 es) lo hi=some (.lst k 1 ((es.drop (lo.getD 0).toNat).take ((hi.getD es.length).toNat-(lo.getD 0).toNat))):=ahK arP aw6 h0 h1 h2
theorem awH {ty sz:Nat} {k:Bool} {es:List PV}:uD Tryz.prog 22 ty (.lst k sz es)=some (.val (.int .i64 es.length)):=uX an7
theorem axj:bB (.slice none 0 0)=.val (.slice none 0 0):=rfl
theorem ax3:eZ Tryz.prog 22=true:=by kernel_rfl
theorem agZ:bn Tryz.prog 24=some 1:=by kernel_rfl
theorem ayM:jN Tryz.prog 24=some false:=by kernel_rfl
theorem awK:fq Tryz.prog 24=some 24:=by kernel_rfl
theorem al3:zeroOf Tryz.prog 24=some (.slice none 0 0):=by kernel_rfl
theorem ahD:Tryz.prog.underlying 24=some (.slice 9):=by kernel_rfl
theorem vk:dN Tryz.prog 24=some 9:=by kernel_rfl
theorem axN {k:Bool} {es:List PV} {i:Int} (h0:0≤i) (h1:i<(es.length:Int)):aI Tryz.prog 24 (.lst k 1 es) i=some (.ptr k ((es[i.toNat]?).getD .dead) 0):=rZ ahD agT h0 h1
theorem avG {o j n:Nat} {i:Int} (h0:0≤i) (h1:i<(n:Int)):aI Tryz.prog 24 (.row o 1 j n) i=some (.own o 1 (j+i.toNat) 0):=ad8 ahD agT h0 h1
theorem axi {k:Bool} {es:List PV} {lo hi:Option Int} (h0:0≤lo.getD 0) (h1:lo.getD 0≤hi.getD es.length) (h2:hi.getD es.length≤es.length):iV Tryz.prog 24 (.lst k 1 es) lo hi=some (.lst k 1 ((es.drop (lo.getD 0).toNat).take ((hi.getD es.length).toNat-(lo.getD 0).toNat))):=ahK ahD agT h0 h1 h2
theorem awn {ty sz:Nat} {k:Bool} {es:List PV}:uD Tryz.prog 24 ty (.lst k sz es)=some (.val (.int .i64 es.length)):=uX vk
theorem avl {ty o sz i n:Nat}:uD Tryz.prog 24 ty (.row o sz i n)=some (.val (.int .i64 n)):=adr vk
theorem auV {ty:Nat}:uD Tryz.prog 24 ty (.val (.slice none 0 0))=some (.val (.int .i64 0)):=am5 ahD
theorem ax9:bB (.slice none 0 0)=.val (.slice none 0 0):=rfl
theorem awy {Γ:Ctx} (s:AS) (ρ:Operand→PV) (x y:Operand):bA Tryz.prog Γ s ρ (.call {callee:=.builtin .append,args:=#[x,y],argTypes:=#[24,24]})=acM 9 1 16 s.nx s.ob (ρ x) (aaP s.ob (ρ x)) (bG s.ob 1 (ρ y)):=vW vk anl agT ayO (by decide) rfl s ρ x y
theorem aoA:Tryz.prog.underlying 48=some (.slice 3):=by kernel_rfl
theorem xA:dN Tryz.prog 48=some 3:=by kernel_rfl
theorem ayk {k:Bool} {es:List PV} {i:Int} (h0:0≤i) (h1:i<(es.length:Int)):aI Tryz.prog 48 (.lst k 1 es) i=some (.ptr k ((es[i.toNat]?).getD .dead) 0):=rZ aoA ajC h0 h1
theorem auZ {o j n:Nat} {i:Int} (h0:0≤i) (h1:i<(n:Int)):aI Tryz.prog 48 (.row o 1 j n) i=some (.own o 1 (j+i.toNat) 0):=ad8 aoA ajC h0 h1
theorem av0 {ty sz:Nat} {k:Bool} {es:List PV}:uD Tryz.prog 48 ty (.lst k sz es)=some (.val (.int .i64 es.length)):=uX xA
theorem asV {ty o sz i n:Nat}:uD Tryz.prog 48 ty (.row o sz i n)=some (.val (.int .i64 n)):=adr xA
theorem ayF:bB (.slice none 0 0)=.val (.slice none 0 0):=rfl
theorem ayw {Γ:Ctx} (s:AS) (ρ:Operand→PV) (l c:Operand):bA Tryz.prog Γ s ρ (.makeSlice 48 l c)=aoP 3 1 8 (.int .i64 0) s (ρ l) (ρ c):=arY xA aoQ ajC axr (by kernel_rfl) rfl s ρ l c
theorem at7 {Γ:Ctx} (s:AS) (ρ:Operand→PV) (x y:Operand):bA Tryz.prog Γ s ρ (.call {callee:=.builtin .append,args:=#[x,y],argTypes:=#[48,48]})=acM 3 1 8 s.nx s.ob (ρ x) (aaP s.ob (ρ x)) (bG s.ob 1 (ρ y)):=vW xA aoQ ajC axr (by decide) rfl s ρ x y
theorem akP:Tryz.prog.underlying 53=some (.slice 88):=by kernel_rfl
theorem aeC:dN Tryz.prog 53=some 88:=by kernel_rfl
theorem ax8 {k:Bool} {es:List PV} {i:Int} (h0:0≤i) (h1:i<(es.length:Int)):aI Tryz.prog 53 (.lst k 4 es) i=some (.ptr k ((es[i.toNat]?).getD .dead) 0):=rZ akP afr h0 h1
theorem ayq {k:Bool} {es:List PV} {lo hi:Option Int} (h0:0≤lo.getD 0) (h1:lo.getD 0≤hi.getD es.length) (h2:hi.getD es.length≤es.length):iV Tryz.prog 53 (.lst k 4 es) lo hi=some (.lst k 4 ((es.drop (lo.getD 0).toNat).take ((hi.getD es.length).toNat-(lo.getD 0).toNat))):=ahK akP afr h0 h1 h2
theorem asC {ty sz:Nat} {k:Bool} {es:List PV}:uD Tryz.prog 53 ty (.lst k sz es)=some (.val (.int .i64 es.length)):=uX aeC
theorem avX {ty o sz i n:Nat}:uD Tryz.prog 53 ty (.row o sz i n)=some (.val (.int .i64 n)):=adr aeC
theorem aun {ty:Nat}:uD Tryz.prog 53 ty (.val (.slice none 0 0))=some (.val (.int .i64 0)):=am5 akP
theorem axx:bB (.slice none 0 0)=.val (.slice none 0 0):=rfl
theorem asX {Γ:Ctx} (s:AS) (ρ:Operand→PV) (x y:Operand):bA Tryz.prog Γ s ρ (.call {callee:=.builtin .append,args:=#[x,y],argTypes:=#[53,53]})=acM 88 4 32 s.nx s.ob (ρ x) (aaP s.ob (ρ x)) (bG s.ob 4 (ρ y)):=vW aeC aeM afr av8 (by decide) rfl s ρ x y
theorem ax0:bB (.slice none 0 0)=.val (.slice none 0 0):=rfl
theorem awO:bn Tryz.prog 105=some 1:=by kernel_rfl
theorem aus:jN Tryz.prog 105=some false:=by kernel_rfl
theorem anp:Tryz.prog.underlying 105=some (.slice 111):=by kernel_rfl
theorem sP:dN Tryz.prog 105=some 111:=by kernel_rfl
theorem avv {k:Bool} {es:List PV} {i:Int} (h0:0≤i) (h1:i<(es.length:Int)):aI Tryz.prog 105 (.lst k 7 es) i=some (.ptr k ((es[i.toNat]?).getD .dead) 0):=rZ anp vS h0 h1
theorem aqn {ty sz:Nat} {k:Bool} {es:List PV}:uD Tryz.prog 105 ty (.lst k sz es)=some (.val (.int .i64 es.length)):=uX sP
theorem aoX {ty o sz i n:Nat}:uD Tryz.prog 105 ty (.row o sz i n)=some (.val (.int .i64 n)):=adr sP
theorem awg:bB (.slice none 0 0)=.val (.slice none 0 0):=rfl
theorem asa {Γ:Ctx} (s:AS) (ρ:Operand→PV) (x y:Operand):bA Tryz.prog Γ s ρ (.call {callee:=.builtin .append,args:=#[x,y],argTypes:=#[105,105]})=acM 111 7 56 s.nx s.ob (ρ x) (aaP s.ob (ρ x)) (bG s.ob 7 (ρ y)):=vW sP ug vS anz (by decide) rfl s ρ x y
theorem asD:bB (.slice none 0 0)=.val (.slice none 0 0):=rfl
theorem am8:Tryz.prog.underlying 151=some (.slice 158):=by kernel_rfl
theorem ana:dN Tryz.prog 151=some 158:=by kernel_rfl
theorem apz {o j n:Nat} {i:Int} (h0:0≤i) (h1:i<(n:Int)):aI Tryz.prog 151 (.row o 4 j n) i=some (.own o 4 (j+i.toNat) 0):=ad8 am8 agI h0 h1
theorem awC:bB (.slice none 0 0)=.val (.slice none 0 0):=rfl
theorem au7 {Γ:Ctx} (s:AS) (ρ:Operand→PV) (l c:Operand):bA Tryz.prog Γ s ρ (.makeSlice 151 l c)=aoP 158 4 32 (.agg #[.int .i64 0,.int .i64 0,.int .i64 0,.int .i64 0]) s (ρ l) (ρ c):=arY ana ank agI anh (by kernel_rfl) rfl s ρ l c
theorem amW:Tryz.prog.underlying 152=some (.slice 153):=by kernel_rfl
theorem am7:dN Tryz.prog 152=some 153:=by kernel_rfl
theorem ao4 {o j n:Nat} {i:Int} (h0:0≤i) (h1:i<(n:Int)):aI Tryz.prog 152 (.row o 4 j n) i=some (.own o 4 (j+i.toNat) 0):=ad8 amW aiQ h0 h1
theorem avy:bB (.slice none 0 0)=.val (.slice none 0 0):=rfl
theorem auu {Γ:Ctx} (s:AS) (ρ:Operand→PV) (l c:Operand):bA Tryz.prog Γ s ρ (.makeSlice 152 l c)=aoP 153 4 4 (.agg #[.bool false,.bool false,.bool false,.bool false]) s (ρ l) (ρ c):=arY am7 anD aiQ anB (by kernel_rfl) rfl s ρ l c
theorem amT:Tryz.prog.underlying 245=some (.slice 60):=by kernel_rfl
theorem acN:dN Tryz.prog 245=some 60:=by kernel_rfl
theorem atf {k:Bool} {es:List PV} {i:Int} (h0:0≤i) (h1:i<(es.length:Int)):aI Tryz.prog 245 (.lst k 4 es) i=some (.ptr k ((es[i.toNat]?).getD .dead) 0):=rZ amT ak7 h0 h1
theorem arR {ty sz:Nat} {k:Bool} {es:List PV}:uD Tryz.prog 245 ty (.lst k sz es)=some (.val (.int .i64 es.length)):=uX acN
theorem awd:bB (.slice none 0 0)=.val (.slice none 0 0):=rfl
theorem aqc {Γ:Ctx} (s:AS) (ρ:Operand→PV) (x y:Operand):bA Tryz.prog Γ s ρ (.call {callee:=.builtin .append,args:=#[x,y],argTypes:=#[245,245]})=acM 60 4 32 s.nx s.ob (ρ x) (aaP s.ob (ρ x)) (bG s.ob 4 (ρ y)):=vW acN ah7 ak7 aug (by decide) rfl s ρ x y
theorem axp:bn Tryz.prog 23=some 1:=by kernel_rfl
theorem axU:jN Tryz.prog 23=some false:=by kernel_rfl
theorem avd:Tryz.prog.underlying 23=some (.slice 24):=by kernel_rfl
theorem ag6:dN Tryz.prog 23=some 24:=by kernel_rfl
theorem ax6 {k:Bool} {es:List PV} {i:Int} (h0:0≤i) (h1:i<(es.length:Int)):aI Tryz.prog 23 (.lst k 1 es) i=some (.ptr k ((es[i.toNat]?).getD .dead) 0):=rZ avd agZ h0 h1
theorem att {ty sz:Nat} {k:Bool} {es:List PV}:uD Tryz.prog 23 ty (.lst k sz es)=some (.val (.int .i64 es.length)):=uX ag6
theorem ax7:bB (.slice none 0 0)=.val (.slice none 0 0):=rfl
theorem au2 {Γ:Ctx} (s:AS) (ρ:Operand→PV) (x y:Operand):bA Tryz.prog Γ s ρ (.call {callee:=.builtin .append,args:=#[x,y],argTypes:=#[23,23]})=acM 24 1 24 s.nx s.ob (ρ x) (aaP s.ob (ρ x)) (bG s.ob 1 (ρ y)):=vW ag6 al3 agZ awK (by decide) rfl s ρ x y
theorem arE {k:IntKind} {n:Int} {es:Option (List PV)}:aay Tryz.prog 3 5 false es (some (.int k n))=some (.val (.int .u8 (IntKind.u8.wrap n))):=amJ axO axk
theorem aqG {k:IntKind} {n:Int} {es:Option (List PV)}:aay Tryz.prog 5 3 false es (some (.int k n))=some (.val (.int .i64 (IntKind.i64.wrap n))):=amJ axk axO
theorem arH {a0:PV}:gK Tryz.prog 22 1 [(0,a0)]=u7 5 1 [a0] (okP 1 a0&&(true)):=jY an7 aw6 ayW _ (by decide) (by decide) rfl
theorem arO:gK Tryz.prog 23 0 []=u7 24 1 [] (true):=jY ag6 agZ al3 _ (by decide) (by decide) rfl
theorem an9 {a0:PV}:gK Tryz.prog 23 1 [(0,a0)]=u7 24 1 [a0] (okP 1 a0&&(true)):=jY ag6 agZ al3 _ (by decide) (by decide) rfl
theorem aqJ:gK Tryz.prog 24 0 []=u7 9 1 [] (true):=jY vk agT anl _ (by decide) (by decide) rfl
theorem an8 {a0:PV}:gK Tryz.prog 24 1 [(0,a0)]=u7 9 1 [a0] (okP 1 a0&&(true)):=jY vk agT anl _ (by decide) (by decide) rfl
theorem anN {a0 a1 a2 a3 a4:PV}:gK Tryz.prog 24 5 [(0,a0),(1,a1),(2,a2),(3,a3),(4,a4)]=u7 9 1 [a0,a1,a2,a3,a4] (okP 1 a0&&(okP 1 a1&&(okP 1 a2&&(okP 1 a3&&(okP 1 a4&&(true)))))):=jY vk agT anl _ (by decide) (by decide) rfl
theorem apJ {a0 a1 a2 a3 a4 a5 a6 a7:PV}:gK Tryz.prog 24 8 [(0,a0),(1,a1),(2,a2),(3,a3),(4,a4),(5,a5),(6,a6),(7,a7)]=u7 9 1 [a0,a1,a2,a3,a4,a5,a6,a7] (okP 1 a0&&(okP 1 a1&&(okP 1 a2&&(okP 1 a3&&(okP 1 a4&&(okP 1 a5&&(okP 1 a6&&(okP 1 a7&&(true))))))))):=jY vk agT anl _ (by decide) (by decide) rfl
theorem ama {a0 a1 a2 a3 a4 a5 a6 a7 a8 a9 a10 a11:PV}:gK Tryz.prog 24 12 [(0,a0),(1,a1),(2,a2),(3,a3),(4,a4),(5,a5),(6,a6),(7,a7),(8,a8),(9,a9),(10,a10),(11,a11)]=u7 9 1 [a0,a1,a2,a3,a4,a5,a6,a7,a8,a9,a10,a11] (okP 1 a0&&(okP 1 a1&&(okP 1 a2&&(okP 1 a3&&(okP 1 a4&&(okP 1 a5&&(okP 1 a6&&(okP 1 a7&&(okP 1 a8&&(okP 1 a9&&(okP 1 a10&&(okP 1 a11&&(true))))))))))))):=jY vk agT anl _ (by decide) (by decide) rfl
theorem ak4 {a0 a1 a2 a3 a4 a5 a6 a7 a8 a9 a10 a11 a12 a13 a14:PV}:gK Tryz.prog 24 15 [(0,a0),(1,a1),(2,a2),(3,a3),(4,a4),(5,a5),(6,a6),(7,a7),(8,a8),(9,a9),(10,a10),(11,a11),(12,a12),(13,a13),(14,a14)]=u7 9 1 [a0,a1,a2,a3,a4,a5,a6,a7,a8,a9,a10,a11,a12,a13,a14] (okP 1 a0&&(okP 1 a1&&(okP 1 a2&&(okP 1 a3&&(okP 1 a4&&(okP 1 a5&&(okP 1 a6&&(okP 1 a7&&(okP 1 a8&&(okP 1 a9&&(okP 1 a10&&(okP 1 a11&&(okP 1 a12&&(okP 1 a13&&(okP 1 a14&&(true)))))))))))))))):=jY vk agT anl _ (by decide) (by decide) rfl
theorem aqT:gK Tryz.prog 48 0 []=u7 3 1 [] (true):=jY xA ajC aoQ _ (by decide) (by decide) rfl
theorem aqO {a0:PV}:gK Tryz.prog 48 1 [(0,a0)]=u7 3 1 [a0] (okP 1 a0&&(true)):=jY xA ajC aoQ _ (by decide) (by decide) rfl
theorem anQ {a0 a1:PV}:gK Tryz.prog 48 2 [(0,a0),(1,a1)]=u7 3 1 [a0,a1] (okP 1 a0&&(okP 1 a1&&(true))):=jY xA ajC aoQ _ (by decide) (by decide) rfl
theorem anW {a0 a1 a2:PV}:gK Tryz.prog 48 3 [(0,a0),(1,a1),(2,a2)]=u7 3 1 [a0,a1,a2] (okP 1 a0&&(okP 1 a1&&(okP 1 a2&&(true)))):=jY xA ajC aoQ _ (by decide) (by decide) rfl
theorem aoJ:gK Tryz.prog 53 0 []=u7 88 4 [] (true):=jY aeC afr aeM _ (by decide) (by decide) rfl
theorem aof {a0:PV}:gK Tryz.prog 53 1 [(0,a0)]=u7 88 4 [a0] (okP 4 a0&&(true)):=jY aeC afr aeM _ (by decide) (by decide) rfl
theorem aj1:gK Tryz.prog 105 0 []=u7 111 7 [] (true):=jY sP vS ug _ (by decide) (by decide) rfl
theorem alp {a0:PV}:gK Tryz.prog 105 1 [(0,a0)]=u7 111 7 [a0] (okP 7 a0&&(true)):=jY sP vS ug _ (by decide) (by decide) rfl
theorem amw {a0 a1 a2:PV}:gK Tryz.prog 105 3 [(0,a0),(1,a1),(2,a2)]=u7 111 7 [a0,a1,a2] (okP 7 a0&&(okP 7 a1&&(okP 7 a2&&(true)))):=jY sP vS ug _ (by decide) (by decide) rfl
theorem aj3 {a0:PV}:gK Tryz.prog 245 1 [(0,a0)]=u7 60 4 [a0] (okP 4 a0&&(true)):=jY acN ak7 ah7 _ (by decide) (by decide) rfl
theorem mixed:Tryz.prog.follows .mixedOrders=true:=by kernel_rfl
attribute[push_cast high]
 axm avE atb
attribute[push_cast]
 azl ajC azv axr aoQ axO azc ay9 azm ay3 azx ayR axI azo aw6 azd ayW axk azw aza azs azg agT aze ayO anl axA ayc ayG azb azu ax1 ayb axC ayj ayL ayg amg aot aoT aqo aox apI auD ayD ayt axq axX ayr ak7 axg aug ah7 apP aqm aql ar8 awf ayH ayf axh axV ayA ax4 asB aqQ aqU auc axo ayv axv afr ax5 av8 aeM apR aoh arj aoM asA axc axz aye avO vS awi anz ug ajM akh alz ajT amF aww avN atM atW asU auT auC atO vQ alB amr alg anf avC avt auP auy aua au0 vR aky akk amM atL awc asu aiQ anB anD ant apB avT agI anh ank am1 ape awJ as8 avS auR atT asH av7 aup avw avP auL awM asE awj axP ayx arP an7 axe axZ awH axj ax3 agZ ayM awK al3 ahD vk axN avG axi awn avl auV ax9 awy aoA xA ayk auZ av0 asV ayF ayw at7 akP aeC ax8 ayq asC avX aun axx asX ax0 awO aus anp sP avv aqn aoX awg asa asD am8 ana apz awC au7 amW am7 ao4 avy auu amT acN atf arR awd aqc axp axU avd ag6 ax6 att ax7 au2 arE aqG arH arO an9 aqJ an8 anN apJ ama ak4 aqT aqO anQ anW aoJ aof aj1 alp amw aj3
end
end Go.Proofs.YtmmafcjjlbgnkaaGreatDoor
namespace Go.Proofs
open Go.Shelf
def YtmmafcjjlbgnkaaGreatDoor.sN:Go.Shelf.Ren:=⟨fun|156=>76|165=>107|166=>108|169=>109|240=>149|241=>150|276=>199|277=>200|n=>n,fun|31=>24|9=>9|3=>3|4=>4|0=>0|20=>20|72=>124|76=>94|70=>122|37=>22|75=>93|127=>176|164=>210|5=>5|80=>126|n=>n,fun|n=>n⟩
theorem YtmmafcjjlbgnkaaGreatDoor.agA:Go.Proofs.Lays.n156 Tryz.prog YtmmafcjjlbgnkaaGreatDoor.sN:={
 mixed:=by kernel_rfl
 f156:=Tryz.func76.trans (congrArg some (by kernel_rfl))
 f165:=Tryz.func107.trans (congrArg some (by kernel_rfl))
 f166:=Tryz.func108.trans (congrArg some (by kernel_rfl))
 f169:=Tryz.func109.trans (congrArg some (by kernel_rfl))
 f240:=Tryz.func149.trans (congrArg some (by kernel_rfl))
 f241:=Tryz.func150.trans (congrArg some (by kernel_rfl))
 f276:=Tryz.func199.trans (congrArg some (by kernel_rfl))
 f277:=Tryz.func200.trans (congrArg some (by kernel_rfl))
 t0:=Tryz.underlying0
 a0:=Tryz.isAgg0
 z0:=Tryz.sizeOf0
 v0:=Tryz.zeroValue0
 t3:=Tryz.underlying3
 a3:=Tryz.isAgg3
 z3:=Tryz.sizeOf3
 v3:=Tryz.zeroValue3
 t4:=Tryz.underlying4
 a4:=Tryz.isAgg4
 z4:=Tryz.sizeOf4
 v4:=Tryz.zeroValue4
 t9:=Tryz.underlying9
 a9:=Tryz.isAgg9
 z9:=Tryz.sizeOf9
 v9:=Tryz.zeroValue9
 t20:=Tryz.underlying20
 a20:=Tryz.isAgg20
 z20:=Tryz.sizeOf20
 v20:=Tryz.zeroValue20
 t31:=Tryz.underlying24
 a31:=Tryz.isAgg24
 z31:=Tryz.sizeOf24
 v31:=Tryz.zeroValue24
 t37:=Tryz.underlying22
 a37:=Tryz.isAgg22
 z37:=Tryz.sizeOf22
 v37:=Tryz.zeroValue22
 t70:=Tryz.underlying122
 a70:=Tryz.isAgg122
 z70:=Tryz.sizeOf122
 v70:=Tryz.zeroValue122
 t72:=Tryz.underlying124
 a72:=Tryz.isAgg124
 z72:=Tryz.sizeOf124
 v72:=Tryz.zeroValue124
 t75:=Tryz.underlying93
 a75:=Tryz.isAgg93
 z75:=Tryz.sizeOf93
 v75:=Tryz.zeroValue93
 t76:=Tryz.underlying94
 a76:=Tryz.isAgg94
 z76:=Tryz.sizeOf94
 v76:=Tryz.zeroValue94
 t127:=Tryz.underlying176
 a127:=Tryz.isAgg176
 z127:=Tryz.sizeOf176
 v127:=Tryz.zeroValue176
 t164:=Tryz.underlying210
 a164:=Tryz.isAgg210
 z164:=Tryz.sizeOf210
 v164:=Tryz.zeroValue210}
theorem YtmmafcjjlbgnkaaGreatDoor.jJ:Builder.Extra Tryz.prog YtmmafcjjlbgnkaaGreatDoor.sN:={
 sizeBuilder:=by kernel_rfl
 liesBuilder:=by kernel_rfl
 t5:=Tryz.underlying5
 a5:=Tryz.isAgg5
 z5:=Tryz.sizeOf5
 v5:=Tryz.zeroValue5
 infoByte:=by kernel_rfl
 cellsByte:=by kernel_rfl
 sizeByte:=by kernel_rfl
 neB5:=by decide}
open Go.RowKit in
theorem YtmmafcjjlbgnkaaGreatDoor.strings_Join_none (a:Option Addr) (c:Nat) (sep:ByteArray) (w:World):
 Calls Tryz.prog 76 #[.slice a 0 c,.string sep] w fun e w'=>e=.returned (.string ⟨#[]⟩)∧w'=w:=Any.strings_Join_none YtmmafcjjlbgnkaaGreatDoor.agA YtmmafcjjlbgnkaaGreatDoor.jJ a c sep w
open Go.RowKit in
theorem YtmmafcjjlbgnkaaGreatDoor.strings_Join (bk o c:Nat) (xs:List ByteArray) (sep:ByteArray) (w:World) (hcells:∀(j:Nat) x,xs[j]?=some x→w.cell? ⟨bk,o+j,none⟩=some (.string x)) (hbk:bk<w.heap.size) (hN:xs.length≤140737488355328) (hcap:xs.length≤c) (hlen:(Lib.join (xs.map (·.data.toList)) sep.data.toList).length≤140737488355328):
 Calls Tryz.prog 76 #[.slice (some ⟨bk,o,none⟩) xs.length c,.string sep] w fun e w'=>e=.returned (.string ⟨(Lib.join (xs.map (·.data.toList)) sep.data.toList).toArray⟩)∧Below w.heap.size w w':=Any.strings_Join YtmmafcjjlbgnkaaGreatDoor.agA YtmmafcjjlbgnkaaGreatDoor.jJ bk o c xs sep w hcells hbk hN hcap hlen
def YtmmafcjjlbgnkaaGreatDoor.abI:Go.Shelf.Ren:=⟨fun|137=>234|217=>188|266=>225|n=>n,fun|9=>9|5=>5|3=>3|n=>n,fun|n=>n⟩
theorem YtmmafcjjlbgnkaaGreatDoor.an4:Go.Proofs.Lays.n137 Tryz.prog YtmmafcjjlbgnkaaGreatDoor.abI:={
 mixed:=by kernel_rfl
 f137:=Tryz.func234.trans (congrArg some (by kernel_rfl))
 f217:=Tryz.func188.trans (congrArg some (by kernel_rfl))
 f266:=Tryz.func225.trans (congrArg some (by kernel_rfl))
 t3:=Tryz.underlying3
 a3:=Tryz.isAgg3
 z3:=Tryz.sizeOf3
 v3:=Tryz.zeroValue3
 t5:=Tryz.underlying5
 a5:=Tryz.isAgg5
 z5:=Tryz.sizeOf5
 v5:=Tryz.zeroValue5
 t9:=Tryz.underlying9
 a9:=Tryz.isAgg9
 z9:=Tryz.sizeOf9
 v9:=Tryz.zeroValue9}
open Go.RowKit in
theorem YtmmafcjjlbgnkaaGreatDoor.strings_IndexByte (s:ByteArray) (c:Int) (w:World):
 Calls Tryz.prog 234 #[.string s,.int .u8 c] w fun e w'=>e=.returned (.int .i64 (Lib.indexByte s.data.toList c.toNat.toUInt8))∧w'=w:=Any.strings_IndexByte YtmmafcjjlbgnkaaGreatDoor.an4 s c w
def YtmmafcjjlbgnkaaGreatDoor.acs:Go.Shelf.Ren:=⟨fun|172=>75|244=>105|245=>106|247=>144|279=>145|280=>146|281=>147|282=>148|287=>196|316=>197|171=>39|205=>198|321=>229|322=>230|243=>74|246=>104|283=>140|284=>141|285=>142|286=>143|129=>161|317=>192|318=>193|319=>194|320=>195|337=>227|338=>228|n=>n,fun|9=>9|3=>3|75=>93|76=>94|4=>4|5=>5|167=>170|37=>22|0=>0|85=>171|2=>2|168=>173|53=>165|175=>204|46=>131|210=>208|127=>176|145=>234|143=>232|21=>21|171=>164|173=>168|212=>202|51=>186|20=>20|213=>203|232=>241|233=>242|80=>126|n=>n,fun|15=>2|16=>3|17=>1|18=>6|19=>7|n=>n⟩
theorem YtmmafcjjlbgnkaaGreatDoor.aq5:Go.Proofs.Lays.n172 Tryz.prog YtmmafcjjlbgnkaaGreatDoor.acs:={
 mixed:=by kernel_rfl
 f129:=Tryz.func161.trans (congrArg some (by kernel_rfl))
 f171:=Tryz.func39.trans (congrArg some (by kernel_rfl))
 f172:=Tryz.func75.trans (congrArg some (by kernel_rfl))
 f205:=Tryz.func198.trans (congrArg some (by kernel_rfl))
 f243:=Tryz.func74.trans (congrArg some (by kernel_rfl))
 f244:=Tryz.func105.trans (congrArg some (by kernel_rfl))
 f245:=Tryz.func106.trans (congrArg some (by kernel_rfl))
 f246:=Tryz.func104.trans (congrArg some (by kernel_rfl))
 f247:=Tryz.func144.trans (congrArg some (by kernel_rfl))
 f279:=Tryz.func145.trans (congrArg some (by kernel_rfl))
 f280:=Tryz.func146.trans (congrArg some (by kernel_rfl))
 f281:=Tryz.func147.trans (congrArg some (by kernel_rfl))
 f282:=Tryz.func148.trans (congrArg some (by kernel_rfl))
 f283:=Tryz.func140.trans (congrArg some (by kernel_rfl))
 f284:=Tryz.func141.trans (congrArg some (by kernel_rfl))
 f285:=Tryz.func142.trans (congrArg some (by kernel_rfl))
 f286:=Tryz.func143.trans (congrArg some (by kernel_rfl))
 f287:=Tryz.func196.trans (congrArg some (by kernel_rfl))
 f316:=Tryz.func197.trans (congrArg some (by kernel_rfl))
 f317:=Tryz.func192.trans (congrArg some (by kernel_rfl))
 f318:=Tryz.func193.trans (congrArg some (by kernel_rfl))
 f319:=Tryz.func194.trans (congrArg some (by kernel_rfl))
 f320:=Tryz.func195.trans (congrArg some (by kernel_rfl))
 f321:=Tryz.func229.trans (congrArg some (by kernel_rfl))
 f322:=Tryz.func230.trans (congrArg some (by kernel_rfl))
 f337:=Tryz.func227.trans (congrArg some (by kernel_rfl))
 f338:=Tryz.func228.trans (congrArg some (by kernel_rfl))
 t0:=Tryz.underlying0
 a0:=Tryz.isAgg0
 z0:=Tryz.sizeOf0
 v0:=Tryz.zeroValue0
 t2:=Tryz.underlying2
 a2:=Tryz.isAgg2
 z2:=Tryz.sizeOf2
 v2:=Tryz.zeroValue2
 t3:=Tryz.underlying3
 a3:=Tryz.isAgg3
 z3:=Tryz.sizeOf3
 v3:=Tryz.zeroValue3
 t4:=Tryz.underlying4
 a4:=Tryz.isAgg4
 z4:=Tryz.sizeOf4
 v4:=Tryz.zeroValue4
 t5:=Tryz.underlying5
 a5:=Tryz.isAgg5
 z5:=Tryz.sizeOf5
 v5:=Tryz.zeroValue5
 t9:=Tryz.underlying9
 a9:=Tryz.isAgg9
 z9:=Tryz.sizeOf9
 v9:=Tryz.zeroValue9
 t20:=Tryz.underlying20
 a20:=Tryz.isAgg20
 z20:=Tryz.sizeOf20
 v20:=Tryz.zeroValue20
 t21:=Tryz.underlying21
 a21:=Tryz.isAgg21
 z21:=Tryz.sizeOf21
 v21:=Tryz.zeroValue21
 t37:=Tryz.underlying22
 a37:=Tryz.isAgg22
 z37:=Tryz.sizeOf22
 v37:=Tryz.zeroValue22
 t46:=Tryz.underlying131
 a46:=Tryz.isAgg131
 z46:=Tryz.sizeOf131
 v46:=Tryz.zeroValue131
 t51:=Tryz.underlying186
 a51:=Tryz.isAgg186
 z51:=Tryz.sizeOf186
 v51:=Tryz.zeroValue186
 t53:=Tryz.underlying165
 a53:=Tryz.isAgg165
 z53:=Tryz.sizeOf165
 v53:=Tryz.zeroValue165
 t75:=Tryz.underlying93
 a75:=Tryz.isAgg93
 z75:=Tryz.sizeOf93
 v75:=Tryz.zeroValue93
 t76:=Tryz.underlying94
 a76:=Tryz.isAgg94
 z76:=Tryz.sizeOf94
 v76:=Tryz.zeroValue94
 t85:=Tryz.underlying171
 a85:=Tryz.isAgg171
 z85:=Tryz.sizeOf171
 v85:=Tryz.zeroValue171
 t127:=Tryz.underlying176
 a127:=Tryz.isAgg176
 z127:=Tryz.sizeOf176
 v127:=Tryz.zeroValue176
 t143:=Tryz.underlying232
 a143:=Tryz.isAgg232
 z143:=Tryz.sizeOf232
 v143:=Tryz.zeroValue232
 t145:=Tryz.underlying234
 a145:=Tryz.isAgg234
 z145:=Tryz.sizeOf234
 v145:=Tryz.zeroValue234
 t167:=Tryz.underlying170
 a167:=Tryz.isAgg170
 z167:=Tryz.sizeOf170
 v167:=Tryz.zeroValue170
 t168:=Tryz.underlying173
 a168:=Tryz.isAgg173
 z168:=Tryz.sizeOf173
 v168:=Tryz.zeroValue173
 t171:=Tryz.underlying164
 a171:=Tryz.isAgg164
 z171:=Tryz.sizeOf164
 v171:=Tryz.zeroValue164
 t173:=Tryz.underlying168
 a173:=Tryz.isAgg168
 z173:=Tryz.sizeOf168
 v173:=Tryz.zeroValue168
 t175:=Tryz.underlying204
 a175:=Tryz.isAgg204
 z175:=Tryz.sizeOf204
 v175:=Tryz.zeroValue204
 t210:=Tryz.underlying208
 a210:=Tryz.isAgg208
 z210:=Tryz.sizeOf208
 v210:=Tryz.zeroValue208
 t212:=Tryz.underlying202
 a212:=Tryz.isAgg202
 z212:=Tryz.sizeOf202
 v212:=Tryz.zeroValue202
 t213:=Tryz.underlying203
 a213:=Tryz.isAgg203
 z213:=Tryz.sizeOf203
 t232:=Tryz.underlying241
 a232:=Tryz.isAgg241
 z232:=Tryz.sizeOf241
 v232:=Tryz.zeroValue241
 t233:=Tryz.underlying242
 a233:=Tryz.isAgg242
 z233:=Tryz.sizeOf242
 v233:=Tryz.zeroValue242
 g15:=by kernel_rfl
 g16:=by kernel_rfl
 g17:=by kernel_rfl
 g18:=by kernel_rfl
 g19:=by kernel_rfl}
open Go.RowKit in
theorem YtmmafcjjlbgnkaaGreatDoor.strconv_Atoi (s:ByteArray) (n:Int) (hl:s.size≤18) (h:Lib.atoi s.data.toList=some n) (w:World):
 Calls Tryz.prog 75 #[.string s] w fun e w'=>e=.returned (.tuple #[.int .i64 n,.nilIface])∧∃t,w'=Lib.bytesWorld w 5 t:=Any.strconv_Atoi YtmmafcjjlbgnkaaGreatDoor.aq5 s n hl h w
def YtmmafcjjlbgnkaaGreatDoor.zC:Go.Shelf.Ren:=⟨fun|171=>39|243=>74|246=>104|283=>140|284=>141|285=>142|286=>143|129=>161|317=>192|318=>193|319=>194|320=>195|337=>227|338=>228|n=>n,fun|3=>3|9=>9|2=>2|4=>4|171=>164|0=>0|53=>165|37=>22|5=>5|173=>168|212=>202|51=>186|20=>20|213=>203|46=>131|232=>241|233=>242|n=>n,fun|17=>1|18=>6|19=>7|n=>n⟩
theorem YtmmafcjjlbgnkaaGreatDoor.amk:Go.Proofs.LaysM.n171 Tryz.prog YtmmafcjjlbgnkaaGreatDoor.zC:={
 mixed:=by kernel_rfl
 f129:=Tryz.func161.trans (congrArg some (by kernel_rfl))
 f171:=Tryz.func39.trans (congrArg some (by kernel_rfl))
 f243:=Tryz.func74.trans (congrArg some (by kernel_rfl))
 f246:=Tryz.func104.trans (congrArg some (by kernel_rfl))
 f283:=Tryz.func140.trans (congrArg some (by kernel_rfl))
 f284:=Tryz.func141.trans (congrArg some (by kernel_rfl))
 f285:=Tryz.func142.trans (congrArg some (by kernel_rfl))
 f286:=Tryz.func143.trans (congrArg some (by kernel_rfl))
 f317:=Tryz.func192.trans (congrArg some (by kernel_rfl))
 f318:=Tryz.func193.trans (congrArg some (by kernel_rfl))
 f319:=Tryz.func194.trans (congrArg some (by kernel_rfl))
 f320:=Tryz.func195.trans (congrArg some (by kernel_rfl))
 f337:=Tryz.func227.trans (congrArg some (by kernel_rfl))
 f338:=Tryz.func228.trans (congrArg some (by kernel_rfl))
 t0:=Tryz.underlying0
 a0:=Tryz.isAgg0
 z0:=Tryz.sizeOf0
 v0:=Tryz.zeroValue0
 t2:=Tryz.underlying2
 a2:=Tryz.isAgg2
 z2:=Tryz.sizeOf2
 v2:=Tryz.zeroValue2
 t3:=Tryz.underlying3
 a3:=Tryz.isAgg3
 z3:=Tryz.sizeOf3
 v3:=Tryz.zeroValue3
 t4:=Tryz.underlying4
 a4:=Tryz.isAgg4
 z4:=Tryz.sizeOf4
 v4:=Tryz.zeroValue4
 t5:=Tryz.underlying5
 a5:=Tryz.isAgg5
 z5:=Tryz.sizeOf5
 v5:=Tryz.zeroValue5
 t9:=Tryz.underlying9
 a9:=Tryz.isAgg9
 z9:=Tryz.sizeOf9
 v9:=Tryz.zeroValue9
 t20:=Tryz.underlying20
 a20:=Tryz.isAgg20
 z20:=Tryz.sizeOf20
 v20:=Tryz.zeroValue20
 t37:=Tryz.underlying22
 a37:=Tryz.isAgg22
 z37:=Tryz.sizeOf22
 v37:=Tryz.zeroValue22
 t46:=Tryz.underlying131
 a46:=Tryz.isAgg131
 z46:=Tryz.sizeOf131
 v46:=Tryz.zeroValue131
 t51:=Tryz.underlying186
 a51:=Tryz.isAgg186
 z51:=Tryz.sizeOf186
 v51:=Tryz.zeroValue186
 t53:=Tryz.underlying165
 a53:=Tryz.isAgg165
 z53:=Tryz.sizeOf165
 v53:=Tryz.zeroValue165
 t171:=Tryz.underlying164
 a171:=Tryz.isAgg164
 z171:=Tryz.sizeOf164
 v171:=Tryz.zeroValue164
 t173:=Tryz.underlying168
 a173:=Tryz.isAgg168
 z173:=Tryz.sizeOf168
 v173:=Tryz.zeroValue168
 t212:=Tryz.underlying202
 a212:=Tryz.isAgg202
 z212:=Tryz.sizeOf202
 v212:=Tryz.zeroValue202
 t213:=Tryz.underlying203
 a213:=Tryz.isAgg203
 z213:=Tryz.sizeOf203
 t232:=Tryz.underlying241
 a232:=Tryz.isAgg241
 z232:=Tryz.sizeOf241
 v232:=Tryz.zeroValue241
 t233:=Tryz.underlying242
 a233:=Tryz.isAgg242
 z233:=Tryz.sizeOf242
 v233:=Tryz.zeroValue242
 g17:=by kernel_rfl
 g18:=by kernel_rfl
 g19:=by kernel_rfl
 i0:=by kernel_rfl
 i2:=by kernel_rfl
 i3:=by kernel_rfl
 i4:=by kernel_rfl
 i5:=by kernel_rfl
 i9:=by kernel_rfl
 i20:=by kernel_rfl
 i37:=by kernel_rfl
 i46:=by kernel_rfl
 i51:=by kernel_rfl
 i53:=by kernel_rfl
 i171:=by kernel_rfl
 i173:=by kernel_rfl
 i212:=by kernel_rfl
 i232:=by kernel_rfl
 i233:=by kernel_rfl
 m17:=by kernel_rfl
 m18:=by kernel_rfl
 m19:=by kernel_rfl}
open Go.RowKit Go.Sort Go.Lib in
theorem YtmmafcjjlbgnkaaGreatDoor.strconv_Itoa (n:Int) (h0:-9223372036854775808≤n) (h1:n≤9223372036854775807) (w:World) (htab:Lib.TabIs Tryz.prog w "internal/strconv.uint64pow10" .u64 Lib.pow10Tab):
 Calls Tryz.prog 39 #[.int .i64 n] w fun e w'=>e=.returned (.string ⟨(Lib.itoa n).toArray⟩)∧∃k os,w'=grow (w.drewN k) os:=Any.strconv_Itoa YtmmafcjjlbgnkaaGreatDoor.amk n h0 h1 w htab
def YtmmafcjjlbgnkaaGreatDoor.abm:Go.Shelf.Ren:=⟨fun|143=>103|219=>139|217=>188|225=>189|224=>190|267=>191|266=>225|314=>226|n=>n,fun|9=>9|3=>3|4=>4|5=>5|46=>131|146=>229|51=>186|n=>n,fun|1=>0|n=>n⟩
theorem YtmmafcjjlbgnkaaGreatDoor.aq8:Go.Proofs.Lays.n143 Tryz.prog YtmmafcjjlbgnkaaGreatDoor.abm:={
 mixed:=by kernel_rfl
 f143:=Tryz.func103.trans (congrArg some (by kernel_rfl))
 f217:=Tryz.func188.trans (congrArg some (by kernel_rfl))
 f219:=Tryz.func139.trans (congrArg some (by kernel_rfl))
 f224:=Tryz.func190.trans (congrArg some (by kernel_rfl))
 f225:=Tryz.func189.trans (congrArg some (by kernel_rfl))
 f266:=Tryz.func225.trans (congrArg some (by kernel_rfl))
 f267:=Tryz.func191.trans (congrArg some (by kernel_rfl))
 f314:=Tryz.func226.trans (congrArg some (by kernel_rfl))
 t3:=Tryz.underlying3
 a3:=Tryz.isAgg3
 z3:=Tryz.sizeOf3
 v3:=Tryz.zeroValue3
 t4:=Tryz.underlying4
 a4:=Tryz.isAgg4
 z4:=Tryz.sizeOf4
 v4:=Tryz.zeroValue4
 t5:=Tryz.underlying5
 a5:=Tryz.isAgg5
 z5:=Tryz.sizeOf5
 v5:=Tryz.zeroValue5
 t9:=Tryz.underlying9
 a9:=Tryz.isAgg9
 z9:=Tryz.sizeOf9
 v9:=Tryz.zeroValue9
 t46:=Tryz.underlying131
 a46:=Tryz.isAgg131
 z46:=Tryz.sizeOf131
 v46:=Tryz.zeroValue131
 t51:=Tryz.underlying186
 a51:=Tryz.isAgg186
 z51:=Tryz.sizeOf186
 v51:=Tryz.zeroValue186
 t146:=Tryz.underlying229
 a146:=Tryz.isAgg229
 z146:=Tryz.sizeOf229
 v146:=Tryz.zeroValue229
 g1:=by kernel_rfl}
open Go.RowKit Go.Lib in
theorem YtmmafcjjlbgnkaaGreatDoor.strings_Index_one (s:ByteArray) (c:UInt8) (w:World):
 Calls Tryz.prog 103 #[.string s,.string ⟨#[c]⟩] w fun e w'=>e=.returned (.int .i64 (Lib.indexByte s.data.toList c))∧w'=w:=Any.strings_Index_one YtmmafcjjlbgnkaaGreatDoor.aq8 s c w
def YtmmafcjjlbgnkaaGreatDoor.acA:Go.Shelf.Ren:=⟨fun|138=>102|195=>136|218=>138|143=>103|219=>139|217=>188|225=>189|224=>190|267=>191|266=>225|314=>226|n=>n,fun|9=>9|3=>3|4=>4|5=>5|0=>0|46=>131|146=>229|51=>186|n=>n,fun|1=>0|n=>n⟩
theorem YtmmafcjjlbgnkaaGreatDoor.ard:Go.Proofs.Lays.n138 Tryz.prog YtmmafcjjlbgnkaaGreatDoor.acA:={
 mixed:=by kernel_rfl
 f138:=Tryz.func102.trans (congrArg some (by kernel_rfl))
 f143:=Tryz.func103.trans (congrArg some (by kernel_rfl))
 f195:=Tryz.func136.trans (congrArg some (by kernel_rfl))
 f217:=Tryz.func188.trans (congrArg some (by kernel_rfl))
 f218:=Tryz.func138.trans (congrArg some (by kernel_rfl))
 f219:=Tryz.func139.trans (congrArg some (by kernel_rfl))
 f224:=Tryz.func190.trans (congrArg some (by kernel_rfl))
 f225:=Tryz.func189.trans (congrArg some (by kernel_rfl))
 f266:=Tryz.func225.trans (congrArg some (by kernel_rfl))
 f267:=Tryz.func191.trans (congrArg some (by kernel_rfl))
 f314:=Tryz.func226.trans (congrArg some (by kernel_rfl))
 t0:=Tryz.underlying0
 a0:=Tryz.isAgg0
 z0:=Tryz.sizeOf0
 v0:=Tryz.zeroValue0
 t3:=Tryz.underlying3
 a3:=Tryz.isAgg3
 z3:=Tryz.sizeOf3
 v3:=Tryz.zeroValue3
 t4:=Tryz.underlying4
 a4:=Tryz.isAgg4
 z4:=Tryz.sizeOf4
 v4:=Tryz.zeroValue4
 t5:=Tryz.underlying5
 a5:=Tryz.isAgg5
 z5:=Tryz.sizeOf5
 v5:=Tryz.zeroValue5
 t9:=Tryz.underlying9
 a9:=Tryz.isAgg9
 z9:=Tryz.sizeOf9
 v9:=Tryz.zeroValue9
 t46:=Tryz.underlying131
 a46:=Tryz.isAgg131
 z46:=Tryz.sizeOf131
 v46:=Tryz.zeroValue131
 t51:=Tryz.underlying186
 a51:=Tryz.isAgg186
 z51:=Tryz.sizeOf186
 v51:=Tryz.zeroValue186
 t146:=Tryz.underlying229
 a146:=Tryz.isAgg229
 z146:=Tryz.sizeOf229
 v146:=Tryz.zeroValue229
 g1:=by kernel_rfl}
open Go.RowKit Go.Lib in
theorem YtmmafcjjlbgnkaaGreatDoor.strings_Count_one (s:ByteArray) (c:UInt8) (w:World):
 Calls Tryz.prog 102 #[.string s,.string ⟨#[c]⟩] w fun e w'=>e=.returned (.int .i64 (Lib.countByte s.data.toList c))∧w'=w:=Any.strings_Count_one YtmmafcjjlbgnkaaGreatDoor.ard s c w
def YtmmafcjjlbgnkaaGreatDoor.acJ:Go.Shelf.Ren:=⟨fun|221=>73|268=>101|138=>102|143=>103|195=>136|197=>137|218=>138|219=>139|260=>187|217=>188|225=>189|224=>190|267=>191|266=>225|314=>226|n=>n,fun|9=>9|3=>3|31=>24|4=>4|0=>0|105=>161|21=>21|5=>5|46=>131|119=>225|139=>228|138=>227|146=>229|51=>186|n=>n,fun|1=>0|3=>4|4=>5|n=>n⟩
theorem YtmmafcjjlbgnkaaGreatDoor.ap9:Go.Proofs.Lays.n221 Tryz.prog YtmmafcjjlbgnkaaGreatDoor.acJ:={
 mixed:=by kernel_rfl
 f138:=Tryz.func102.trans (congrArg some (by kernel_rfl))
 f143:=Tryz.func103.trans (congrArg some (by kernel_rfl))
 f195:=Tryz.func136.trans (congrArg some (by kernel_rfl))
 f197:=Tryz.func137.trans (congrArg some (by kernel_rfl))
 f217:=Tryz.func188.trans (congrArg some (by kernel_rfl))
 f218:=Tryz.func138.trans (congrArg some (by kernel_rfl))
 f219:=Tryz.func139.trans (congrArg some (by kernel_rfl))
 f221:=Tryz.func73.trans (congrArg some (by kernel_rfl))
 f224:=Tryz.func190.trans (congrArg some (by kernel_rfl))
 f225:=Tryz.func189.trans (congrArg some (by kernel_rfl))
 f260:=Tryz.func187.trans (congrArg some (by kernel_rfl))
 f266:=Tryz.func225.trans (congrArg some (by kernel_rfl))
 f267:=Tryz.func191.trans (congrArg some (by kernel_rfl))
 f268:=Tryz.func101.trans (congrArg some (by kernel_rfl))
 f314:=Tryz.func226.trans (congrArg some (by kernel_rfl))
 t0:=Tryz.underlying0
 a0:=Tryz.isAgg0
 z0:=Tryz.sizeOf0
 v0:=Tryz.zeroValue0
 t3:=Tryz.underlying3
 a3:=Tryz.isAgg3
 z3:=Tryz.sizeOf3
 v3:=Tryz.zeroValue3
 t4:=Tryz.underlying4
 a4:=Tryz.isAgg4
 z4:=Tryz.sizeOf4
 v4:=Tryz.zeroValue4
 t5:=Tryz.underlying5
 a5:=Tryz.isAgg5
 z5:=Tryz.sizeOf5
 v5:=Tryz.zeroValue5
 t9:=Tryz.underlying9
 a9:=Tryz.isAgg9
 z9:=Tryz.sizeOf9
 v9:=Tryz.zeroValue9
 t21:=Tryz.underlying21
 a21:=Tryz.isAgg21
 z21:=Tryz.sizeOf21
 v21:=Tryz.zeroValue21
 t31:=Tryz.underlying24
 a31:=Tryz.isAgg24
 z31:=Tryz.sizeOf24
 v31:=Tryz.zeroValue24
 t46:=Tryz.underlying131
 a46:=Tryz.isAgg131
 z46:=Tryz.sizeOf131
 v46:=Tryz.zeroValue131
 t51:=Tryz.underlying186
 a51:=Tryz.isAgg186
 z51:=Tryz.sizeOf186
 v51:=Tryz.zeroValue186
 t105:=Tryz.underlying161
 a105:=Tryz.isAgg161
 z105:=Tryz.sizeOf161
 v105:=Tryz.zeroValue161
 t119:=Tryz.underlying225
 a119:=Tryz.isAgg225
 z119:=Tryz.sizeOf225
 t138:=Tryz.underlying227
 a138:=Tryz.isAgg227
 z138:=Tryz.sizeOf227
 v138:=Tryz.zeroValue227
 t139:=Tryz.underlying228
 a139:=Tryz.isAgg228
 z139:=Tryz.sizeOf228
 v139:=Tryz.zeroValue228
 t146:=Tryz.underlying229
 a146:=Tryz.isAgg229
 z146:=Tryz.sizeOf229
 v146:=Tryz.zeroValue229
 g1:=by kernel_rfl
 g3:=by kernel_rfl
 g4:=by kernel_rfl}
end Go.Proofs
namespace Go.Proofs.YtmmafcjjlbgnkaaGreatDoor
open Go.RowKit
set_option linter.all false
set_option maxHeartbeats 32000000
noncomputable section
end
end Go.Proofs.YtmmafcjjlbgnkaaGreatDoor
