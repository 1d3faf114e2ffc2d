/- What the proof rests on, part 6: contracts of functions. No condition beyond what each states. -/
import Derived.Test.YtmmafcjjlbgnkaaGreatDoorZBi5
namespace Go.Proofs.YtmmafcjjlbgnkaaGreatDoor
open Go.RowKit
set_option linter.all false
set_option maxHeartbeats 32000000
noncomputable section
section
variable {P:Program} {Γ:Ctx}
theorem adq (hm:P.follows .mixedOrders=true) {f:Nat} {fn:Func} {c:Code} (hΓ:ak P Γ) (hf:P.funcs[f]?=some fn) (hb:fn.body=some c) (N:Nat) (hN:fn.ntmps=N) (rs:List ResultVar) (hrs:fn.results.toList=rs) (hc:codeOk Γ true N c=true)
 (D:List PV→Prop) (R:List PV→PV→Prop) (hlen:∀ps,D ps→ps.length≤N)
 (h:∀ps,D ps→pq P Γ N c (fun x s'=>∃r,R ps r∧Post P rs r x s') (dG ps).tm (fun _=>none) 0):∃φ:Fun,Sound P f φ∧∀ps,D ps→∃r,φ ps=some r∧R ps r:=by
 classical
 subst hN hrs
 let Z:List PV→PV→Prop:=fun ps r=>D ps∧R ps r∧∃x s',Ev P Γ fn.ntmps c (dG ps) x s'∧Post P fn.results.toList r x s'
 let φ:Fun:=fun ps=>if h:∃r,Z ps r then some (Classical.choose h)else none
 have hφ:∀ps r,φ ps=some r→Z ps r:=fun ps r hr=>by
  simp only[φ]at hr;split at hr
  ·rename_i hz
   cases hr;exact Classical.choose_spec hz
  ·cases hr
 refine⟨φ,yB hΓ hf hb (fun ps r hr=>hlen ps (hφ ps r hr).1) fun ps r hr=>?_,fun ps hd=>?_⟩
 ·obtain⟨_,_,x,s',h1,h2,h3⟩:=hφ ps r hr
  rw[Option.bind_eq_some_iff]at h3;obtain⟨qs,h4,h5⟩:=h3;exact⟨x,s',qs,h1,h2,h4,h5⟩
 ·obtain⟨x,s',h1,r,h2,h3⟩:=abh (mixed:=true) (fun _=>hm) c _ _ hc (h ps hd)
  have hz:∃r,Z ps r:=⟨r,hd,h2,x,s',h1,h3⟩;have he:φ ps=some (Classical.choose hz):=by simp only[φ];rw[dif_pos hz]
  exact⟨_,he,(hφ ps _ he).2.1⟩
theorem afk (hm:P.follows .mixedOrders=true) {f:Nat} {fn:Func} {c:Code} (hΓ:ak P Γ) (hf:P.funcs[f]?=some fn) (hb:fn.body=some c) (N:Nat) (hN:fn.ntmps=N) (rs:List ResultVar) (hrs:fn.results.toList=rs) (hc:codeOk Γ true N c=true)
 (D:List PV→aL→Prop) (R:List PV→aL→PV→aL→Prop) (hlen:∀ps o,D ps o→ps.length≤N)
 (h:∀ps o,D ps o→pq P Γ N c (fun x s'=>∃r o',R ps o r o'∧iI P rs 1 r [o'] x s') (dG ps).tm (lo [(0,o)]) 1):∃Φ:d9,bQ P f Φ∧∀ps o,D ps o→∃r o',Φ ps [o]=some (r,[o'])∧R ps o r o':=by
 classical
 subst hN hrs
 let Z:List PV→List aL→PV×List aL→Prop:=fun ps cs r=>∃o o',cs=[o]∧r.2=[o']∧D ps o∧R ps o r.1 o'∧∃x s',Ev P Γ fn.ntmps c (ru ps cs) x s'∧iI P fn.results.toList 1 r.1 [o'] x s'
 let Φ:d9:=fun ps cs=>if h:∃r,Z ps cs r then some (Classical.choose h)else none
 have hΦ:∀ps cs r,Φ ps cs=some r→Z ps cs r:=fun ps cs r hr=>by
  simp only[Φ]at hr;split at hr
  ·rename_i hz
   cases hr;exact Classical.choose_spec hz
  ·cases hr
 refine⟨Φ,l8 hΓ hf hb (fun ps cs r hr=>?_) fun ps cs r cs' hr=>?_,fun ps o hd=>?_⟩
 ·obtain⟨o,o',_,_,h1,_⟩:=hΦ ps cs r hr
  exact hlen ps o h1
 ·obtain⟨o,o',rfl,h0,_,_,x,s',h1,h2,news,h3,h4,h5,h6⟩:=hΦ ps cs (r,cs') hr
  dsimp only at h0;subst h0;rw[Option.bind_eq_some_iff]at h5;obtain⟨qs,h8,h9⟩:=h5;refine⟨x,s',qs,List.range 1++news,h1,h2,h8,h9,by simp,fun i hi=>?_,?_,h6⟩
  ·have:i=0:=by simpa using hi
   subst this;rfl
  ·rw[List.nodup_append]
   exact⟨List.nodup_range,h4,fun a ha b hb e=>by have:=h3 b hb;have:=List.mem_range.1 ha;omega⟩
 ·have h':pw P Γ fn.ntmps c (fun x s'=>∃r o',R ps o r o'∧iI P fn.results.toList 1 r [o'] x s') (ru ps [o]):=by have:=h ps o hd;rw[←acK]at this;exact this
  obtain⟨x,s',h1,r,o',h2,h3⟩:=abh (mixed:=true) (fun _=>hm) c _ _ hc h';have hz:∃r,Z ps [o] r:=⟨(r,[o']),o,o',rfl,rfl,hd,h2,x,s',h1,h3⟩;have he:Φ ps [o]=some (Classical.choose hz):=by simp only[Φ];rw[dif_pos hz]
  obtain⟨o1,o2,e1,e2,_,e3,_⟩:=hΦ ps [o] _ he;cases e1;exact⟨(Classical.choose hz).1,o2,by rw[he,←e2],e3⟩
end
abbrev rdC (T:Nat) (code:List Int) (p:Int):aL:=(T,2,[.agg [.lst false 1 (code.map fun n=>PV.val (.int .u8 n)),.val (.int .i64 p)]])
structure rY (code:List Int) (p:Int):Prop where
 len:code.length≤2000
 byte:∀i:Nat,0≤code[i]?.getD 0∧code[i]?.getD 0≤255
 pos:0≤p
 small:p≤1000000000000
def ahj (T:Nat) (Φ:d9) (B c:Int) {α:Type} (E:α→PV) (D:Int→Prop) (R:Int→α→Prop):Prop:=
 ∀code p n,rY code p→p≤B→D n→∃a p',Φ [.own 0 2 0 0,.val (.int .i64 n)] [rdC T code p]=some (E a,[rdC T code p'])∧R n a∧rY code p'∧p≤p'∧p'≤p+c
section
variable {P:Program} {Γ:Ctx} {imm:Md} {N:Nat} {gs:List (Option Nat)} {l:List Oper} {Q:AS→Prop} {tm:Nat→PV} {ob:bJ} {nx T:Nat} {Φ:d9} {B c:Int} {α:Type} {E:α→PV}
theorem aFf {o:Nat} {code:List Int} {p p':Int} {a:α} {qs:List PV} (hE:∀nm a,eF nm fuel (E a)=some (E a)) (ho:ob o=some (rdC T code p)) (h:Φ qs [rdC T code p]=some (E a,[rdC T code p'])):adb Φ ob nx o qs (ob o)=some (E a,upd ob o (some (rdC T code p')),nx):=by
 have h1:∀(nm:Nat→Option Nat) (q:Int),[PV.agg [.lst false 1 (code.map fun n=>PV.val (.int .u8 n)),.val (.int .i64 q)]].mapM (eF nm fuel)=some [PV.agg [.lst false 1 (code.map fun n=>PV.val (.int .u8 n)),.val (.int .i64 q)]]:=fun nm q=>by simp only[kD,oz,aaC,mapM_cons',mapM_nil',qC,uX,Option.bind_some,Option.map_some]
 rw[ho,sN,h1,Option.bind_some,h,anN,hE,Option.bind_some,h1];rfl
theorem bY {D:Int→Prop} {R:Int→α→Prop} (hd:ahj T Φ B c E D R) (hE:∀nm a,eF nm fuel (E a)=some (E a)) {d f ty o:Nat} {x y:Operand} {ts:Array TypeId} {pos:String} {af:Array Edge} {code:List Int} {p n:Int} (hio:Γ.io f=some Φ) (hx:look tm x=.own o 2 0 0) (hy:look tm y=.val (.int .i64 n)) (ho:ob o=some (rdC T code p)) (hok:rY code p) (hB:p≤B) (hD:D n)
 (he:mD Γ imm nx (look tm) (.call {callee:=.value (.func f),args:=#[x,y],argTypes:=ts})=true)
 (hk:∀a p',R n a→rY code p'→p≤p'→p'≤p+c→wq P Γ imm gs l Q (upd tm d (E a)) (upd ob o (some (rdC T code p'))) nx):
 wq P Γ imm gs ({dst:=some d,op:=.call {callee:=.value (.func f),args:=#[x,y],argTypes:=ts},type:=ty,pos:=pos,after:=af,guard:=none}::l) Q tm ob nx:=by
 obtain⟨a,p',h1,h2,h3,h4,h5⟩:=hd code p n hok hB hD;refine i_E (by simp[fA,oW,hio]) he ?_ (hk a p' h2 h3 h4 h5);rw[aeB,hio,xX];show aeS Φ ob nx [look tm x,look tm y]=_;rw[hx,hy,aw1];exact aFf hE ho h1
end
section
variable {v:Int}
theorem gl2 {a0 a1:Int} (h:v<2):([.val (.int .i64 a0),.val (.int .i64 a1)]:List PV)[v.toNat]?=some (.val (.int .i64 (sel 0 [a0,a1] v.toNat))):=by
 have hx:v.toNat<2:=by omega
 have h2:=aw0 (f:=fun n=>PV.val (.int .i64 n)) (l:=[a0,a1]) (k:=v.toNat) hx;rw[←List.getElem?_map]at h2;exact h2
theorem gl3 {a0 a1 a2:Int} (h:v<3):([.val (.int .i64 a0),.val (.int .i64 a1),.val (.int .i64 a2)]:List PV)[v.toNat]?=some (.val (.int .i64 (sel 0 [a0,a1,a2] v.toNat))):=by
 have hx:v.toNat<3:=by omega
 have h2:=aw0 (f:=fun n=>PV.val (.int .i64 n)) (l:=[a0,a1,a2]) (k:=v.toNat) hx;rw[←List.getElem?_map]at h2;exact h2
theorem gs5 {a0 a1 a2 a3 a4:ByteArray} (h:v<5):([.val (.string a0),.val (.string a1),.val (.string a2),.val (.string a3),.val (.string a4)]:List PV)[v.toNat]?=some (.val (.string (sel .empty [a0,a1,a2,a3,a4] v.toNat))):=by
 have hx:v.toNat<5:=by omega
 have h2:=akt (f:=fun n=>PV.val (.string n)) (l:=[a0,a1,a2,a3,a4]) (k:=v.toNat) hx;rw[←List.getElem?_map]at h2;exact h2
theorem gs8 {a0 a1 a2 a3 a4 a5 a6 a7:ByteArray} (h:v<8):([.val (.string a0),.val (.string a1),.val (.string a2),.val (.string a3),.val (.string a4),.val (.string a5),.val (.string a6),.val (.string a7)]:List PV)[v.toNat]?=some (.val (.string (sel .empty [a0,a1,a2,a3,a4,a5,a6,a7] v.toNat))):=by
 have hx:v.toNat<8:=by omega
 have h2:=akt (f:=fun n=>PV.val (.string n)) (l:=[a0,a1,a2,a3,a4,a5,a6,a7]) (k:=v.toNat) hx;rw[←List.getElem?_map]at h2;exact h2
theorem aGO {a0 a1 a2 a3 a4 a5 a6 a7 a8 a9 a10 a11:ByteArray} (h:v<12):([.val (.string a0),.val (.string a1),.val (.string a2),.val (.string a3),.val (.string a4),.val (.string a5),.val (.string a6),.val (.string a7),.val (.string a8),.val (.string a9),.val (.string a10),.val (.string a11)]:List PV)[v.toNat]?=some (.val (.string (sel .empty [a0,a1,a2,a3,a4,a5,a6,a7,a8,a9,a10,a11] v.toNat))):=by
 have hx:v.toNat<12:=by omega
 have h2:=akt (f:=fun n=>PV.val (.string n)) (l:=[a0,a1,a2,a3,a4,a5,a6,a7,a8,a9,a10,a11]) (k:=v.toNat) hx;rw[←List.getElem?_map]at h2;exact h2
theorem aGU {a0 a1 a2 a3 a4 a5 a6 a7 a8 a9 a10 a11 a12 a13 a14:ByteArray} (h:v<15):([.val (.string a0),.val (.string a1),.val (.string a2),.val (.string a3),.val (.string a4),.val (.string a5),.val (.string a6),.val (.string a7),.val (.string a8),.val (.string a9),.val (.string a10),.val (.string a11),.val (.string a12),.val (.string a13),.val (.string a14)]:List PV)[v.toNat]?=some (.val (.string (sel .empty [a0,a1,a2,a3,a4,a5,a6,a7,a8,a9,a10,a11,a12,a13,a14] v.toNat))):=by
 have hx:v.toNat<15:=by omega
 have h2:=akt (f:=fun n=>PV.val (.string n)) (l:=[a0,a1,a2,a3,a4,a5,a6,a7,a8,a9,a10,a11,a12,a13,a14]) (k:=v.toNat) hx;rw[←List.getElem?_map]at h2;exact h2
theorem aF9 (x:Nat):(x=x+1)=False:=by simp
theorem aFh (x:Nat):(x+1=x)=False:=by simp
theorem aFx (x:Nat):(x=x+1+1)=False:=by simp;omega
theorem aEI (x:Nat):(x+1+1=x)=False:=by simp;omega
theorem z_s (x:Nat):(0=x+1)=False:=by simp
theorem aGc (x:Nat):(x=x+1+1+1)=False:=by simp;omega
theorem aFW (x:Nat):(x+1+1+1=x)=False:=by simp;omega
end
theorem azT {l:List Int} {y:Int}:(l.map fun n=>PV.val (.int .i64 n))++[.val (.int .i64 y)]=(l++[y]).map fun n=>PV.val (.int .i64 n):=by simp
theorem aDY {l:List ByteArray} {y:ByteArray}:(l.map fun n=>PV.val (.string n))++[.val (.string y)]=(l++[y]).map fun n=>PV.val (.string n):=by simp
theorem aFO {l:List W2} {a:ByteArray} {b:Int}:(l.map fun x=>PV.agg [.val (.string x.1),.val (.int .i64 x.2)])++[.agg [.val (.string a),.val (.int .i64 b)]]=(l++[(a,b)]).map fun x=>PV.agg [.val (.string x.1),.val (.int .i64 x.2)]:=by simp
theorem aCb {l:List I4} {a b c d:Int}:(l.map fun x=>PV.agg [.val (.int .i64 x.1),.val (.int .i64 x.2.1),.val (.int .i64 x.2.2.1),.val (.int .i64 x.2.2.2)])++[.agg [.val (.int .i64 a),.val (.int .i64 b),.val (.int .i64 c),.val (.int .i64 d)]]=(l++[(a,b,c,d)]).map fun x=>PV.agg [.val (.int .i64 x.1),.val (.int .i64 x.2.1),.val (.int .i64 x.2.2.1),.val (.int .i64 x.2.2.2)]:=by simp
theorem aW {n:Nat} {a:Int}:List.replicate n (PV.val (.int .i64 a))=(List.replicate n a).map fun n=>PV.val (.int .i64 n):=by simp
theorem aX {n:Nat} {a:ByteArray}:List.replicate n (PV.val (.string a))=(List.replicate n a).map fun n=>PV.val (.string n):=by simp
theorem bR {n:Nat} {a:ByteArray} {b:Int}:List.replicate n (PV.agg [.val (.string a),.val (.int .i64 b)])=(List.replicate n ((a,b):W2)).map fun x=>PV.agg [.val (.string x.1),.val (.int .i64 x.2)]:=by simp
theorem aY {n:Nat} {a b c:Int}:List.replicate n (PV.agg [.val (.int .i64 a),.val (.int .i64 b),.val (.int .i64 c)])=(List.replicate n ((a,b,c):I3)).map fun x=>PV.agg [.val (.int .i64 x.1),.val (.int .i64 x.2.1),.val (.int .i64 x.2.2)]:=by simp
theorem aV {n:Nat} {a b c d:Int}:List.replicate n (PV.agg [.val (.int .i64 a),.val (.int .i64 b),.val (.int .i64 c),.val (.int .i64 d)])=(List.replicate n ((a,b,c,d):I4)).map fun x=>PV.agg [.val (.int .i64 x.1),.val (.int .i64 x.2.1),.val (.int .i64 x.2.2.1),.val (.int .i64 x.2.2.2)]:=by simp
theorem nat_ne {a b:Nat} (h:¬a=b):(a=b)=False:=by simp[h]
attribute[push_cast low]
 nat_ne
attribute[push_cast]
 azT aDY aFO aCb
attribute[push_cast]
 gl2 gl3 gs5 gs8 aGO aGU aF9 aFh aFx aEI z_s aGc aFW Nat.le_refl Nat.add_right_cancel_iff
theorem aon {T:Nat} {code code':List Int} {p p':Int} (h:rdC T code p=rdC T code' p'):code=code'∧p=p':=by
 simp only[rdC,Prod.mk.injEq,true_and,List.cons.injEq,PV.agg.injEq,PV.lst.injEq,PV.val.injEq,Value.int.injEq,and_true]at h;refine⟨?_,h.2⟩;have:Function.Injective fun n:Int=>PV.val (.int .u8 n):=fun a b e=>by simpa using e
 exact(List.map_inj_right (fun a b e=>this e)).1 h.1
theorem rY.to {code:List Int} {p p':Int} (h:rY code p) (h1:0≤p') (h2:p'≤1000000000000):rY code p':=⟨h.len,h.byte,h1,h2⟩
section
variable {P:Program} {Γ:Ctx}
theorem tq (hm:P.follows .mixedOrders=true) {f:Nat} {fn:Func} {C:Code} (hΓ:ak P Γ) (hf:P.funcs[f]?=some fn) (hb:fn.body=some C) (N:Nat) (hN:fn.ntmps=N) (rs:List ResultVar) (hrs:fn.results.toList=rs) (hc:codeOk Γ true N C=true) (hN1:2≤N)
 (T:Nat) (B c:Int) {α:Type} (E:α→PV) (D:Int→Prop) (R:Int→α→Prop)
 (h:∀code p n,rY code p→p≤B→D n→pq P Γ N C (fun x s'=>∃a p',R n a∧rY code p'∧p≤p'∧p'≤p+c∧iI P rs 1 (E a) [rdC T code p'] x s') (dG [.own 0 2 0 0,.val (.int .i64 n)]).tm (lo [(0,rdC T code p)]) 1):
 ∃Φ:d9,bQ P f Φ∧ahj T Φ B c E D R:=by
 obtain⟨Φ,h1,h2⟩:=afk hm hΓ hf hb N hN rs hrs hc
  (fun ps o=>∃code p n,ps=[.own 0 2 0 0,.val (.int .i64 n)]∧o=rdC T code p∧rY code p∧p≤B∧D n)
  (fun ps o r o'=>∃code p n a p',ps=[.own 0 2 0 0,.val (.int .i64 n)]∧o=rdC T code p∧r=E a∧o'=rdC T code p'∧R n a∧rY code p'∧p≤p'∧p'≤p+c)
  (fun ps o ⟨code,p,n,e,_⟩=>by rw[e];exact hN1) (fun ps o ⟨code,p,n,e1,e2,h3,h4,h5⟩=>by subst e1 e2;refine xk (fun x s' hx=>?_) _ _ (h code p n h3 h4 h5);obtain⟨a,p',k1,k2,k3,k4,k5⟩:=hx;exact⟨E a,rdC T code p',⟨code,p,n,a,p',rfl,rfl,rfl,rfl,k1,k2,k3,k4⟩,k5⟩)
 refine⟨Φ,h1,fun code p n h3 h4 h5=>?_⟩;obtain⟨r,o',e,code',p1,n1,a,p',e0,e1,rfl,rfl,k1,k2,k3,k4⟩:=h2 _ _ ⟨code,p,n,rfl,rfl,h3,h4,h5⟩;obtain⟨rfl,rfl⟩:=aon e1;have:n=n1:=by simpa using e0
 subst this;exact⟨a,p',e,k1,k2,k3,k4⟩
end
def aEy (φ:Fun) {α:Type} (E:α→PV) (R:α→Prop):Prop:=∀code:List Int,(∀i:Nat,0≤code[i]?.getD 0∧code[i]?.getD 0≤255)→code.length≤1048576→∃a,φ [.lst false 1 (code.map fun n=>PV.val (.int .u8 n))]=some (E a)∧R a
theorem avk {P:Program} {Γ:Ctx} (hm:P.follows .mixedOrders=true) {f:Nat} {fn:Func} {C:Code} (hΓ:ak P Γ) (hf:P.funcs[f]?=some fn) (hb:fn.body=some C) (N:Nat) (hN:fn.ntmps=N) (rs:List ResultVar) (hrs:fn.results.toList=rs) (hc:codeOk Γ true N C=true) (hN1:1≤N)
 {α:Type} (E:α→PV) (R:α→Prop)
 (h:∀code:List Int,(∀i:Nat,0≤code[i]?.getD 0∧code[i]?.getD 0≤255)→code.length≤1048576→pq P Γ N C (fun x s'=>∃a,R a∧Post P rs (E a) x s') (dG [.lst false 1 (code.map fun n=>PV.val (.int .u8 n))]).tm (fun _=>none) 0):
 ∃φ:Fun,Sound P f φ∧aEy φ E R:=by
 obtain⟨φ,h1,h2⟩:=adq hm hΓ hf hb N hN rs hrs hc
  (fun ps=>∃code:List Int,ps=[.lst false 1 (code.map fun n=>PV.val (.int .u8 n))]∧(∀i:Nat,0≤code[i]?.getD 0∧code[i]?.getD 0≤255)∧code.length≤1048576)
  (fun ps r=>∃a,r=E a∧R a)
  (fun ps ⟨code,e,_⟩=>by rw[e];exact hN1) (fun ps ⟨code,e1,h3,h4⟩=>by subst e1;refine xk (fun x s' hx=>?_) _ _ (h code h3 h4);obtain⟨a,k1,k2⟩:=hx;exact⟨E a,⟨a,rfl,k1⟩,k2⟩)
 refine⟨φ,h1,fun code h3 h4=>?_⟩;obtain⟨r,e,a,rfl,k1⟩:=h2 _ ⟨code,rfl,h3,h4⟩;exact⟨a,e,k1⟩
theorem az4 {P:Program} {t:Nat} {x y:Operand} {m n:Int}:lX P .xor t x y (some (.int .i64 m)) (some (.int .i64 n))=some (.val (.int .i64 (IntKind.i64.wrap ((BitVec.ofInt 64 m ^^^ BitVec.ofInt 64 n).toNat)))):=by
 have:aA P (do eqGuard .xor t x y (.int .i64 m) (.int .i64 n);binOp .xor t (.int .i64 m) (.int .i64 n))=some (.int .i64 (IntKind.i64.wrap ((BitVec.ofInt 64 m ^^^ BitVec.ofInt 64 n).toNat))):=by rfl
 simp only[lX,this,Option.map_some]
theorem ajB {m n:Int} (hm:0≤m) (hm2:m≤4611686018427387903) (hn:0≤n) (hn2:n≤4611686018427387903):0≤IntKind.i64.wrap ((BitVec.ofInt 64 m ^^^ BitVec.ofInt 64 n).toNat)∧IntKind.i64.wrap ((BitVec.ofInt 64 m ^^^ BitVec.ofInt 64 n).toNat)≤4611686018427387903:=by
 have e1:(BitVec.ofInt 64 m).toNat=m.toNat:=by rw[BitVec.toNat_ofInt];omega
 have e2:(BitVec.ofInt 64 n).toNat=n.toNat:=by rw[BitVec.toNat_ofInt];omega
 rw[BitVec.toNat_xor,e1,e2];have h:m.toNat ^^^ n.toNat<2 ^ 62:=Nat.xor_lt_two_pow (by omega) (by omega);rw[dV (by omega) (by omega)];omega
theorem aEJ {P:Program} {Γ:Ctx} {imm:Md} {gs:List (Option Nat)} {l:List Oper} {Q:AS→Prop} {tm:Nat→PV} {ob:bJ} {nx d ty t t':Nat} {x y:Operand} {pos:String} {af:Array Edge} {m n:Int}
 (h0:fA Γ imm {dst:=some d,op:=.binOp .xor t x y t',type:=ty,pos:=pos,after:=af,guard:=none}=false)
 (hx:look tm x=.val (.int .i64 m)) (hy:look tm y=.val (.int .i64 n)) (hm:0≤m) (hm2:m≤4611686018427387903) (hn:0≤n) (hn2:n≤4611686018427387903)
 (hk:∀z:Int,0≤z→z≤4611686018427387903→wq P Γ imm gs l Q (upd tm d (.val (.int .i64 z))) ob nx):
 wq P Γ imm gs ({dst:=some d,op:=.binOp .xor t x y t',type:=ty,pos:=pos,after:=af,guard:=none}::l) Q tm ob nx:=by
 obtain⟨h1,h2⟩:=ajB hm hm2 hn hn2;refine i_V h0 rfl rfl ?_ (hk _ h1 h2);rw[agI,hx,hy];exact az4
theorem iB {P:Program} {rs:List ResultVar} {T:Nat} {α:Type} {E:α→PV} {R:α→Prop} {code:List Int} {p c:Int} {a:α} {p':Int} {x:X} {tm:Nat→PV} {ob:bJ} {nx:Nat} (hx:x=.normal∨x=.ret)
 (h3:((gV P ⟨tm,ob,nx⟩ rs).bind fun qs=>bX [0] ob fuel (iJ qs))=some (E a)) (h4:lg [0] ob fuel 0=some (rdC T code p')) (hR:R a) (ho:rY code p') (h1:p≤p') (h2:p'≤p+c):
 ∃a p',R a∧rY code p'∧p≤p'∧p'≤p+c∧iI P rs 1 (E a) [rdC T code p'] x ⟨tm,ob,nx⟩:=⟨a,p',hR,ho,h1,h2,aBr hx h3 h4⟩
theorem atz {P:Program} {rs:List ResultVar} {α:Type} {E:α→PV} {R:α→Prop} {a:α} {x:X} {tm:Nat→PV} {ob:bJ} {nx:Nat} (hx:x=.normal∨x=.ret)
 (h3:((gV P ⟨tm,ob,nx⟩ rs).bind fun qs=>reify true 0 ob fuel (iJ qs))=some (E a)) (hR:R a):
 ∃a,R a∧Post P rs (E a) x ⟨tm,ob,nx⟩:=⟨a,hR,hx,h3⟩
abbrev okI (n:Int):Prop:=-9223372036854775808≤n∧n≤9223372036854775807
abbrev aAB (n:Int):Prop:=0≤n∧n≤255
abbrev okL {α:Type} (ok:α→Prop) (l:List α):Prop:=l.length≤9223372036854775807∧∀a∈l,ok a
theorem asb {code:List Int} (h:okL aAB code):∀i:Nat,0≤code[i]?.getD 0∧code[i]?.getD 0≤255:=fun i=>by
 by_cases hi:i<code.length
 ·simp only[List.getElem?_eq_getElem hi,Option.getD_some]
  exact h.2 _ (List.getElem_mem hi)
 ·rw[List.getElem?_eq_none (by omega)]
  simp
instance {α:Type} (ok:α→Prop) (l:List α):Decidable (okL ok l):=Classical.propDecidable _
theorem an4 {code:List Int} (h:∀i:Nat,0≤code[i]?.getD 0∧code[i]?.getD 0≤255):rY (code.take 2000) 0:=by
 refine⟨by simp;omega,fun i=>?_,by omega,by omega⟩;rw[List.getElem?_take];split
 ·exact h i
 ·simp
theorem amF (cs:List PV):toVal (.agg cs)=(iY cs).map fun vs=> .agg vs.toArray:=rfl
theorem afA (p q r:PV):iJ [p,q,r]=.tup [p,q,r]:=rfl
theorem ajJ (p q r s:PV):iJ [p,q,r,s]=.tup [p,q,r,s]:=rfl
theorem aiY (p q r s t:PV):iJ [p,q,r,s,t]=.tup [p,q,r,s,t]:=rfl
theorem akE {fr:Bool} {f sz m T:Nat} {ob:bJ} {es:List PV} (hm:m=es.length):rZ fr f ob sz 0 m (some (T,sz,es))=(es.mapM (reify fr 0 ob f)).map (.lst fr sz):=by subst hm;simp[rZ]
attribute[push_cast low]
 akE
attribute[push_cast]
 afA ajJ aiY amF beq_self_eq_true
theorem aG0:bD (.int .i64 0)=.val (.int .i64 0):=rfl
theorem alG:bB Tryz.prog 3=some 1:=by kernel_rfl
theorem aHa:j6 Tryz.prog 3=some false:=by kernel_rfl
theorem aGa:eH Tryz.prog 3=some 8:=by kernel_rfl
theorem auG:zeroOf Tryz.prog 3=some (.int .i64 0):=by kernel_rfl
theorem aGd:Tryz.prog.underlying 3=some (.int .i64):=by kernel_rfl
theorem aG8:bD (.int .i64 0)=.val (.int .i64 0):=rfl
theorem aGJ:gF Tryz.prog 3=false:=by kernel_rfl
theorem aGQ:isStr Tryz.prog 3=false:=by kernel_rfl
theorem aGp:bB Tryz.prog 4=some 1:=by kernel_rfl
theorem aGM:j6 Tryz.prog 4=some false:=by kernel_rfl
theorem aGw:Tryz.prog.underlying 4=some .bool:=by kernel_rfl
theorem aFc {x y:Operand} {a b:Bool}:lX Tryz.prog .neq 4 x y (some (.bool a)) (some (.bool b))=some (.val (.bool (!(a==b)))):=ayd aGw
theorem aG6:bD (.bool false)=.val (.bool false):=rfl
theorem aEm:bB Tryz.prog 5=some 1:=by kernel_rfl
theorem aGY:j6 Tryz.prog 5=some false:=by kernel_rfl
theorem aGs:zeroOf Tryz.prog 5=some (.int .u8 0):=by kernel_rfl
theorem aEP:Tryz.prog.underlying 5=some (.int .u8):=by kernel_rfl
theorem aG9:bD (.int .u8 0)=.val (.int .u8 0):=rfl
theorem aG5:gF Tryz.prog 5=false:=by kernel_rfl
theorem aG4:isStr Tryz.prog 5=false:=by kernel_rfl
theorem aGR:bD (.agg #[.int .i64 0,.int .i64 0,.bool false,.int .u8 0])=.agg [.val (.int .i64 0),.val (.int .i64 0),.val (.bool false),.val (.int .u8 0)]:=rfl
theorem amt:bB Tryz.prog 9=some 1:=by kernel_rfl
theorem aGT:j6 Tryz.prog 9=some false:=by kernel_rfl
theorem aGA:eH Tryz.prog 9=some 16:=by kernel_rfl
theorem atW:zeroOf Tryz.prog 9=some (.string ByteArray.empty):=by kernel_rfl
theorem aFw:Tryz.prog.underlying 9=some .string:=by kernel_rfl
theorem aE7 {ty:Nat} {s:ByteArray}:rW Tryz.prog 9 ty (.val (.string s))=some (.val (.int .i64 s.size)):=aA3 aFw
theorem aF6 {s:ByteArray} {i:Int} (h0:0≤i) (h1:i<s.size):aEf Tryz.prog 9 (some (.string s)) (some (.int .i64 i))=some (.val (.int .u8 (at8 s i.toNat))):=aAn aFw h0 h1
theorem aGL:bD (.string ByteArray.empty)=.val (.string ByteArray.empty):=rfl
theorem aGK:isStr Tryz.prog 9=true:=by kernel_rfl
theorem aE5:bD (.int .u64 0)=.val (.int .u64 0):=rfl
theorem aEC:bD (.agg #[.string ByteArray.empty,.int .u64 0])=.agg [.val (.string ByteArray.empty),.val (.int .u64 0)]:=rfl
theorem aFv:bD (.int .i32 0)=.val (.int .i32 0):=rfl
theorem aFr:bD (.agg #[.slice none 0 0,.slice none 0 0,.int .i64 0,.int .i64 0,.int .i64 0])=.agg [.val (.slice none 0 0),.val (.slice none 0 0),.val (.int .i64 0),.val (.int .i64 0),.val (.int .i64 0)]:=rfl
theorem aEz:bB Tryz.prog 26=some 5:=by kernel_rfl
theorem aEw:j6 Tryz.prog 26=some true:=by kernel_rfl
theorem arI:zeroOf Tryz.prog 26=some (.agg #[.slice none 0 0,.slice none 0 0,.int .i64 0,.int .i64 0,.int .i64 0]):=by kernel_rfl
theorem ax2:bg Tryz.prog 26 0=some 0:=by kernel_rfl
theorem axP:bg Tryz.prog 26 1=some 1:=by kernel_rfl
theorem awK:bg Tryz.prog 26 2=some 2:=by kernel_rfl
theorem au8:bg Tryz.prog 26 3=some 3:=by kernel_rfl
theorem axE:bg Tryz.prog 26 4=some 4:=by kernel_rfl
theorem aBz:bT Tryz.prog 26=some #[(0,1),(1,1),(2,1),(3,1),(4,1)]:=by kernel_rfl
theorem aEL (ps:List (Nat×PV)):dZ Tryz.prog 26 ps=(jZ (plF [(0,1),(1,1),(2,1),(3,1),(4,1)]) [.val (.slice none 0 0),.val (.slice none 0 0),.val (.int .i64 0),.val (.int .i64 0),.val (.int .i64 0)] ps).map .agg:=aaD arI rfl aBz ps
theorem aFU:bD (.agg #[.slice none 0 0,.slice none 0 0,.int .i64 0,.int .i64 0,.int .i64 0])=.agg [.val (.slice none 0 0),.val (.slice none 0 0),.val (.int .i64 0),.val (.int .i64 0),.val (.int .i64 0)]:=rfl
theorem aER {Γ:Ctx} (s:AS) (ρ:Operand→PV):bC Tryz.prog Γ s ρ (.alloc 26)=some (.own s.nx 5 0 0,upd s.ob s.nx (some (26,5,[.agg [.val (.slice none 0 0),.val (.slice none 0 0),.val (.int .i64 0),.val (.int .i64 0),.val (.int .i64 0)]])),s.nx+1):=ab9 arI (by kernel_rfl) rfl rfl s ρ
theorem aFZ:bD (.agg #[.slice none 0 0,.slice none 0 0,.int .i64 0,.int .i64 0,.int .i64 0])=.agg [.val (.slice none 0 0),.val (.slice none 0 0),.val (.int .i64 0),.val (.int .i64 0),.val (.int .i64 0)]:=rfl
theorem aFE:bD (.agg #[.int .i64 0,.int .i64 0,.int .i64 0,.int .i64 0])=.agg [.val (.int .i64 0),.val (.int .i64 0),.val (.int .i64 0),.val (.int .i64 0)]:=rfl
theorem aqu:bB Tryz.prog 60=some 4:=by kernel_rfl
theorem aEY:j6 Tryz.prog 60=some true:=by kernel_rfl
theorem azk:eH Tryz.prog 60=some 32:=by kernel_rfl
theorem akz:zeroOf Tryz.prog 60=some (.agg #[.int .i64 0,.int .i64 0,.int .i64 0,.int .i64 0]):=by kernel_rfl
theorem ayo:bg Tryz.prog 60 0=some 0:=by kernel_rfl
theorem awZ:bg Tryz.prog 60 1=some 1:=by kernel_rfl
theorem ayY:bg Tryz.prog 60 2=some 2:=by kernel_rfl
theorem axY:bg Tryz.prog 60 3=some 3:=by kernel_rfl
theorem aCR:bT Tryz.prog 60=some #[(0,1),(1,1),(2,1),(3,1)]:=by kernel_rfl
theorem aEU (ps:List (Nat×PV)):dZ Tryz.prog 60 ps=(jZ (plF [(0,1),(1,1),(2,1),(3,1)]) [.val (.int .i64 0),.val (.int .i64 0),.val (.int .i64 0),.val (.int .i64 0)] ps).map .agg:=aaD akz rfl aCR ps
theorem aGl:bD (.agg #[.int .i64 0,.int .i64 0,.int .i64 0,.int .i64 0])=.agg [.val (.int .i64 0),.val (.int .i64 0),.val (.int .i64 0),.val (.int .i64 0)]:=rfl
theorem aF5 {Γ:Ctx} (s:AS) (ρ:Operand→PV):bC Tryz.prog Γ s ρ (.alloc 60)=some (.own s.nx 4 0 0,upd s.ob s.nx (some (60,4,[.agg [.val (.int .i64 0),.val (.int .i64 0),.val (.int .i64 0),.val (.int .i64 0)]])),s.nx+1):=ab9 akz (by kernel_rfl) rfl rfl s ρ
theorem aGf {Γ:Ctx} {ob:bJ} {ρ:Operand→PV} {ty:Nat}:bA Tryz.prog Γ ob ρ ty (.build 60 #[])=some (.agg [.val (.int .i64 0),.val (.int .i64 0),.val (.int .i64 0),.val (.int .i64 0)]):=(show dZ Tryz.prog 60 []=some (.agg [.val (.int .i64 0),.val (.int .i64 0),.val (.int .i64 0),.val (.int .i64 0)])from by kernel_rfl)
theorem aFS:bD (.agg #[.string ByteArray.empty,.int .i64 0])=.agg [.val (.string ByteArray.empty),.val (.int .i64 0)]:=rfl
theorem aiv:bB Tryz.prog 71=some 2:=by kernel_rfl
theorem aFt:j6 Tryz.prog 71=some true:=by kernel_rfl
theorem aCD:eH Tryz.prog 71=some 24:=by kernel_rfl
theorem ajv:zeroOf Tryz.prog 71=some (.agg #[.string ByteArray.empty,.int .i64 0]):=by kernel_rfl
theorem ax5:bg Tryz.prog 71 0=some 0:=by kernel_rfl
theorem axq:bg Tryz.prog 71 1=some 1:=by kernel_rfl
theorem aDj:bT Tryz.prog 71=some #[(0,1),(1,1)]:=by kernel_rfl
theorem aFM (ps:List (Nat×PV)):dZ Tryz.prog 71 ps=(jZ (plF [(0,1),(1,1)]) [.val (.string ByteArray.empty),.val (.int .i64 0)] ps).map .agg:=aaD ajv rfl aDj ps
theorem aE4:bD (.agg #[.string ByteArray.empty,.int .i64 0])=.agg [.val (.string ByteArray.empty),.val (.int .i64 0)]:=rfl
theorem aF2 {Γ:Ctx} (s:AS) (ρ:Operand→PV):bC Tryz.prog Γ s ρ (.alloc 71)=some (.own s.nx 2 0 0,upd s.ob s.nx (some (71,2,[.agg [.val (.string ByteArray.empty),.val (.int .i64 0)]])),s.nx+1):=ab9 ajv (by kernel_rfl) rfl rfl s ρ
theorem aED:bD (.agg #[.slice none 0 0,.int .i64 0])=.agg [.val (.slice none 0 0),.val (.int .i64 0)]:=rfl
theorem aAq:zeroOf Tryz.prog 83=some (.agg #[.slice none 0 0,.int .i64 0]):=by kernel_rfl
theorem ayH:bg Tryz.prog 83 0=some 0:=by kernel_rfl
theorem awI:bg Tryz.prog 83 1=some 1:=by kernel_rfl
theorem azj:bT Tryz.prog 83=some #[(0,1),(1,1)]:=by kernel_rfl
theorem aEZ (ps:List (Nat×PV)):dZ Tryz.prog 83 ps=(jZ (plF [(0,1),(1,1)]) [.val (.slice none 0 0),.val (.int .i64 0)] ps).map .agg:=aaD aAq rfl azj ps
theorem aEM:bD (.agg #[.slice none 0 0,.int .i64 0])=.agg [.val (.slice none 0 0),.val (.int .i64 0)]:=rfl
theorem aEE:bD (.agg #[.int .i64 0,.bool false,.int .i64 0,.int .i64 0])=.agg [.val (.int .i64 0),.val (.bool false),.val (.int .i64 0),.val (.int .i64 0)]:=rfl
theorem ajs:bB Tryz.prog 88=some 4:=by kernel_rfl
theorem aGe:j6 Tryz.prog 88=some true:=by kernel_rfl
theorem aCL:eH Tryz.prog 88=some 32:=by kernel_rfl
theorem aij:zeroOf Tryz.prog 88=some (.agg #[.int .i64 0,.bool false,.int .i64 0,.int .i64 0]):=by kernel_rfl
theorem ayl:bg Tryz.prog 88 0=some 0:=by kernel_rfl
theorem axw:bg Tryz.prog 88 1=some 1:=by kernel_rfl
theorem auZ:bg Tryz.prog 88 2=some 2:=by kernel_rfl
theorem axG:bg Tryz.prog 88 3=some 3:=by kernel_rfl
theorem az0:bT Tryz.prog 88=some #[(0,1),(1,1),(2,1),(3,1)]:=by kernel_rfl
theorem aE2 (ps:List (Nat×PV)):dZ Tryz.prog 88 ps=(jZ (plF [(0,1),(1,1),(2,1),(3,1)]) [.val (.int .i64 0),.val (.bool false),.val (.int .i64 0),.val (.int .i64 0)] ps).map .agg:=aaD aij rfl az0 ps
theorem aE9:bD (.agg #[.int .i64 0,.bool false,.int .i64 0,.int .i64 0])=.agg [.val (.int .i64 0),.val (.bool false),.val (.int .i64 0),.val (.int .i64 0)]:=rfl
theorem aFY {Γ:Ctx} (s:AS) (ρ:Operand→PV):bC Tryz.prog Γ s ρ (.alloc 88)=some (.own s.nx 4 0 0,upd s.ob s.nx (some (88,4,[.agg [.val (.int .i64 0),.val (.bool false),.val (.int .i64 0),.val (.int .i64 0)]])),s.nx+1):=ab9 aij (by kernel_rfl) rfl rfl s ρ
theorem aBS:bD (.agg #[.int .i64 0,.int .i64 0,.int .i64 0,.int .i64 0,.int .i64 0,.int .i64 0,.bool false])=.agg [.val (.int .i64 0),.val (.int .i64 0),.val (.int .i64 0),.val (.int .i64 0),.val (.int .i64 0),.val (.int .i64 0),.val (.bool false)]:=rfl
theorem aai:bB Tryz.prog 111=some 7:=by kernel_rfl
theorem azS:j6 Tryz.prog 111=some true:=by kernel_rfl
theorem atU:eH Tryz.prog 111=some 56:=by kernel_rfl
theorem xu:zeroOf Tryz.prog 111=some (.agg #[.int .i64 0,.int .i64 0,.int .i64 0,.int .i64 0,.int .i64 0,.int .i64 0,.bool false]):=by kernel_rfl
theorem apU:bg Tryz.prog 111 0=some 0:=by kernel_rfl
theorem aoR:bg Tryz.prog 111 1=some 1:=by kernel_rfl
theorem apF:bg Tryz.prog 111 2=some 5:=by kernel_rfl
theorem aqX:bg Tryz.prog 111 3=some 6:=by kernel_rfl
theorem atK:bT Tryz.prog 111=some #[(0,1),(1,4),(5,1),(6,1)]:=by kernel_rfl
theorem aDX (ps:List (Nat×PV)):dZ Tryz.prog 111 ps=(jZ (plF [(0,1),(1,4),(5,1),(6,1)]) [.val (.int .i64 0),.val (.int .i64 0),.val (.int .i64 0),.val (.int .i64 0),.val (.int .i64 0),.val (.int .i64 0),.val (.bool false)] ps).map .agg:=aaD xu rfl atK ps
theorem aC2:bD (.agg #[.int .i64 0,.int .i64 0,.int .i64 0,.int .i64 0,.int .i64 0,.int .i64 0,.bool false])=.agg [.val (.int .i64 0),.val (.int .i64 0),.val (.int .i64 0),.val (.int .i64 0),.val (.int .i64 0),.val (.int .i64 0),.val (.bool false)]:=rfl
theorem aBg {Γ:Ctx} (s:AS) (ρ:Operand→PV):bC Tryz.prog Γ s ρ (.alloc 111)=some (.own s.nx 7 0 0,upd s.ob s.nx (some (111,7,[.agg [.val (.int .i64 0),.val (.int .i64 0),.val (.int .i64 0),.val (.int .i64 0),.val (.int .i64 0),.val (.int .i64 0),.val (.bool false)]])),s.nx+1):=ab9 xu (by kernel_rfl) rfl rfl s ρ
theorem aBJ:bD (.int .u64 0)=.val (.int .u64 0):=rfl
theorem adw:bB Tryz.prog 136=some 2:=by kernel_rfl
theorem aCn:j6 Tryz.prog 136=some true:=by kernel_rfl
theorem aui:eH Tryz.prog 136=some 16:=by kernel_rfl
theorem acG:zeroOf Tryz.prog 136=some (.agg #[.int .i64 0,.int .i64 0]):=by kernel_rfl
theorem at5:Tryz.prog.underlying 136=some (.array 2 3):=by kernel_rfl
theorem axk {o sz j f:Nat} {i:Int} (h0:0≤i) (h1:i<2):aJ Tryz.prog 136 (.own o sz j f) i=some (.own o sz j (f+i.toNat)):=by rw[aoH at5 alG h0 h1,Nat.mul_one]
theorem aAo (ps:List (Nat×PV)):dZ Tryz.prog 136 ps=(jZ (plF [(0,1),(1,1)]) [.val (.int .i64 0),.val (.int .i64 0)] ps).map .agg:=aDE acG rfl (by kernel_rfl) (pl:=#[(0,1),(1,1)]) (by kernel_rfl) ps
theorem azm:bD (.agg #[.int .i64 0,.int .i64 0])=.agg [.val (.int .i64 0),.val (.int .i64 0)]:=rfl
theorem aBa {Γ:Ctx} (s:AS) (ρ:Operand→PV):bC Tryz.prog Γ s ρ (.alloc 136)=some (.own s.nx 2 0 0,upd s.ob s.nx (some (136,2,[.agg [.val (.int .i64 0),.val (.int .i64 0)]])),s.nx+1):=ab9 acG (by kernel_rfl) rfl rfl s ρ
theorem aA9:bD (.agg #[.int .i64 0,.bool false,.int .i64 0])=.agg [.val (.int .i64 0),.val (.bool false),.val (.int .i64 0)]:=rfl
theorem aB5:bB Tryz.prog 145=some 3:=by kernel_rfl
theorem aCY:j6 Tryz.prog 145=some true:=by kernel_rfl
theorem zo:zeroOf Tryz.prog 145=some (.agg #[.int .i64 0,.bool false,.int .i64 0]):=by kernel_rfl
theorem aqo:bg Tryz.prog 145 0=some 0:=by kernel_rfl
theorem aqe:bg Tryz.prog 145 1=some 1:=by kernel_rfl
theorem aoQ:bg Tryz.prog 145 2=some 2:=by kernel_rfl
theorem atn:bT Tryz.prog 145=some #[(0,1),(1,1),(2,1)]:=by kernel_rfl
theorem aC7 (ps:List (Nat×PV)):dZ Tryz.prog 145 ps=(jZ (plF [(0,1),(1,1),(2,1)]) [.val (.int .i64 0),.val (.bool false),.val (.int .i64 0)] ps).map .agg:=aaD zo rfl atn ps
theorem aDC:bD (.agg #[.int .i64 0,.bool false,.int .i64 0])=.agg [.val (.int .i64 0),.val (.bool false),.val (.int .i64 0)]:=rfl
theorem aCE {Γ:Ctx} (s:AS) (ρ:Operand→PV):bC Tryz.prog Γ s ρ (.alloc 145)=some (.own s.nx 3 0 0,upd s.ob s.nx (some (145,3,[.agg [.val (.int .i64 0),.val (.bool false),.val (.int .i64 0)]])),s.nx+1):=ab9 zo (by kernel_rfl) rfl rfl s ρ
theorem azl {Γ:Ctx} {ob:bJ} {ρ:Operand→PV} {ty:Nat}:bA Tryz.prog Γ ob ρ ty (.build 145 #[])=some (.agg [.val (.int .i64 0),.val (.bool false),.val (.int .i64 0)]):=(show dZ Tryz.prog 145 []=some (.agg [.val (.int .i64 0),.val (.bool false),.val (.int .i64 0)])from by kernel_rfl)
theorem auf:Tryz.prog.underlying 145=some (.struct (Go.Program.fieldsOf Tryz.prog 145)):=by kernel_rfl
theorem aB1:bD (.agg #[.int .i64 0,.int .i64 0,.bool false,.int .i64 0])=.agg [.val (.int .i64 0),.val (.int .i64 0),.val (.bool false),.val (.int .i64 0)]:=rfl
theorem azn:bB Tryz.prog 147=some 4:=by kernel_rfl
theorem aCJ:j6 Tryz.prog 147=some true:=by kernel_rfl
theorem zL:zeroOf Tryz.prog 147=some (.agg #[.int .i64 0,.int .i64 0,.bool false,.int .i64 0]):=by kernel_rfl
theorem apS:bg Tryz.prog 147 0=some 0:=by kernel_rfl
theorem asi:bg Tryz.prog 147 1=some 1:=by kernel_rfl
theorem atB:bT Tryz.prog 147=some #[(0,1),(1,3)]:=by kernel_rfl
theorem aDB (ps:List (Nat×PV)):dZ Tryz.prog 147 ps=(jZ (plF [(0,1),(1,3)]) [.val (.int .i64 0),.val (.int .i64 0),.val (.bool false),.val (.int .i64 0)] ps).map .agg:=aaD zL rfl atB ps
theorem aDF:bD (.agg #[.int .i64 0,.int .i64 0,.bool false,.int .i64 0])=.agg [.val (.int .i64 0),.val (.int .i64 0),.val (.bool false),.val (.int .i64 0)]:=rfl
theorem aBH {Γ:Ctx} (s:AS) (ρ:Operand→PV):bC Tryz.prog Γ s ρ (.alloc 147)=some (.own s.nx 4 0 0,upd s.ob s.nx (some (147,4,[.agg [.val (.int .i64 0),.val (.int .i64 0),.val (.bool false),.val (.int .i64 0)]])),s.nx+1):=ab9 zL (by kernel_rfl) rfl rfl s ρ
theorem aDh {Γ:Ctx} {ob:bJ} {ρ:Operand→PV} {ty:Nat}:bA Tryz.prog Γ ob ρ ty (.build 147 #[])=some (.agg [.val (.int .i64 0),.val (.int .i64 0),.val (.bool false),.val (.int .i64 0)]):=(show dZ Tryz.prog 147 []=some (.agg [.val (.int .i64 0),.val (.int .i64 0),.val (.bool false),.val (.int .i64 0)])from by kernel_rfl)
theorem anR:bB Tryz.prog 153=some 4:=by kernel_rfl
theorem aum:eH Tryz.prog 153=some 4:=by kernel_rfl
theorem atN:zeroOf Tryz.prog 153=some (.agg #[.bool false,.bool false,.bool false,.bool false]):=by kernel_rfl
theorem atD:Tryz.prog.underlying 153=some (.array 4 4):=by kernel_rfl
theorem av2 {o sz j f:Nat} {i:Int} (h0:0≤i) (h1:i<4):aJ Tryz.prog 153 (.own o sz j f) i=some (.own o sz j (f+i.toNat)):=by rw[aoH atD aGp h0 h1,Nat.mul_one]
theorem aC6:bD (.agg #[.bool false,.bool false,.bool false,.bool false])=.agg [.val (.bool false),.val (.bool false),.val (.bool false),.val (.bool false)]:=rfl
theorem al6:bB Tryz.prog 158=some 4:=by kernel_rfl
theorem auk:eH Tryz.prog 158=some 32:=by kernel_rfl
theorem auh:zeroOf Tryz.prog 158=some (.agg #[.int .i64 0,.int .i64 0,.int .i64 0,.int .i64 0]):=by kernel_rfl
theorem atm:Tryz.prog.underlying 158=some (.array 4 3):=by kernel_rfl
theorem avx {o sz j f:Nat} {i:Int} (h0:0≤i) (h1:i<4):aJ Tryz.prog 158 (.own o sz j f) i=some (.own o sz j (f+i.toNat)):=by rw[aoH atm alG h0 h1,Nat.mul_one]
theorem aCt:bD (.agg #[.int .i64 0,.int .i64 0,.int .i64 0,.int .i64 0])=.agg [.val (.int .i64 0),.val (.int .i64 0),.val (.int .i64 0),.val (.int .i64 0)]:=rfl
theorem aD1:bD (.agg #[.int .u8 0,.int .u8 0,.int .u8 0,.int .u8 0,.int .u8 0,.int .u8 0,.int .u8 0,.int .u8 0,.int .u8 0,.int .u8 0,.int .u8 0,.int .u8 0,.int .u8 0,.int .u8 0,.int .u8 0,.int .u8 0,.int .u8 0,.int .u8 0,.int .u8 0,.int .u8 0,.int .u8 0,.int .u8 0,.int .u8 0,.int .u8 0])=.agg [.val (.int .u8 0),.val (.int .u8 0),.val (.int .u8 0),.val (.int .u8 0),.val (.int .u8 0),.val (.int .u8 0),.val (.int .u8 0),.val (.int .u8 0),.val (.int .u8 0),.val (.int .u8 0),.val (.int .u8 0),.val (.int .u8 0),.val (.int .u8 0),.val (.int .u8 0),.val (.int .u8 0),.val (.int .u8 0),.val (.int .u8 0),.val (.int .u8 0),.val (.int .u8 0),.val (.int .u8 0),.val (.int .u8 0),.val (.int .u8 0),.val (.int .u8 0),.val (.int .u8 0)]:=rfl
theorem aA1:bD (.int .u64 0)=.val (.int .u64 0):=rfl
theorem aCg:bD (.int .i64 0)=.val (.int .i64 0):=rfl
theorem aCc:bD (.int .u32 0)=.val (.int .u32 0):=rfl
theorem aCl:bD (.agg #[.int .u64 0,.int .u64 0,.int .u64 0,.int .u64 0,.int .u64 0,.int .u64 0,.int .u64 0,.int .u64 0,.int .u64 0,.int .u64 0,.int .u64 0,.int .u64 0,.int .u64 0,.int .u64 0,.int .u64 0,.int .u64 0,.int .u64 0,.int .u64 0,.int .u64 0,.int .u64 0])=.agg [.val (.int .u64 0),.val (.int .u64 0),.val (.int .u64 0),.val (.int .u64 0),.val (.int .u64 0),.val (.int .u64 0),.val (.int .u64 0),.val (.int .u64 0),.val (.int .u64 0),.val (.int .u64 0),.val (.int .u64 0),.val (.int .u64 0),.val (.int .u64 0),.val (.int .u64 0),.val (.int .u64 0),.val (.int .u64 0),.val (.int .u64 0),.val (.int .u64 0),.val (.int .u64 0),.val (.int .u64 0)]:=rfl
theorem azK:bD (.int .u64 0)=.val (.int .u64 0):=rfl
theorem aAO:bD (.agg #[.int .u8 0,.int .u8 0])=.agg [.val (.int .u8 0),.val (.int .u8 0)]:=rfl
theorem aAg:bD (.agg #[.int .u8 0,.int .u8 0])=.agg [.val (.int .u8 0),.val (.int .u8 0)]:=rfl
theorem aCa:bD (.agg #[.int .u8 0,.int .u8 0,.int .u8 0,.int .u8 0,.int .u8 0,.int .u8 0,.int .u8 0,.int .u8 0,.int .u8 0,.int .u8 0,.int .u8 0,.int .u8 0,.int .u8 0,.int .u8 0,.int .u8 0,.int .u8 0,.int .u8 0,.int .u8 0,.int .u8 0,.int .u8 0,.int .u8 0,.int .u8 0,.int .u8 0,.int .u8 0,.int .u8 0,.int .u8 0,.int .u8 0,.int .u8 0,.int .u8 0,.int .u8 0,.int .u8 0,.int .u8 0])=.agg [.val (.int .u8 0),.val (.int .u8 0),.val (.int .u8 0),.val (.int .u8 0),.val (.int .u8 0),.val (.int .u8 0),.val (.int .u8 0),.val (.int .u8 0),.val (.int .u8 0),.val (.int .u8 0),.val (.int .u8 0),.val (.int .u8 0),.val (.int .u8 0),.val (.int .u8 0),.val (.int .u8 0),.val (.int .u8 0),.val (.int .u8 0),.val (.int .u8 0),.val (.int .u8 0),.val (.int .u8 0),.val (.int .u8 0),.val (.int .u8 0),.val (.int .u8 0),.val (.int .u8 0),.val (.int .u8 0),.val (.int .u8 0),.val (.int .u8 0),.val (.int .u8 0),.val (.int .u8 0),.val (.int .u8 0),.val (.int .u8 0),.val (.int .u8 0)]:=rfl
theorem aBh:bD (.agg #[.string ByteArray.empty])=.agg [.val (.string ByteArray.empty)]:=rfl
theorem aBI:bD (.agg #[.string ByteArray.empty])=.agg [.val (.string ByteArray.empty)]:=rfl
theorem aCT:bD (.agg #[.int .u8 0,.int .u8 0,.int .u8 0,.int .u8 0,.int .u8 0,.int .u8 0,.int .u8 0,.int .u8 0,.int .u8 0,.int .u8 0,.int .u8 0,.int .u8 0,.int .u8 0,.int .u8 0,.int .u8 0,.int .u8 0,.int .u8 0,.int .u8 0,.int .u8 0,.int .u8 0,.int .u8 0,.int .u8 0,.int .u8 0,.int .u8 0,.int .u8 0,.int .u8 0,.int .u8 0,.int .u8 0,.int .u8 0,.int .u8 0,.int .u8 0,.int .u8 0])=.agg [.val (.int .u8 0),.val (.int .u8 0),.val (.int .u8 0),.val (.int .u8 0),.val (.int .u8 0),.val (.int .u8 0),.val (.int .u8 0),.val (.int .u8 0),.val (.int .u8 0),.val (.int .u8 0),.val (.int .u8 0),.val (.int .u8 0),.val (.int .u8 0),.val (.int .u8 0),.val (.int .u8 0),.val (.int .u8 0),.val (.int .u8 0),.val (.int .u8 0),.val (.int .u8 0),.val (.int .u8 0),.val (.int .u8 0),.val (.int .u8 0),.val (.int .u8 0),.val (.int .u8 0),.val (.int .u8 0),.val (.int .u8 0),.val (.int .u8 0),.val (.int .u8 0),.val (.int .u8 0),.val (.int .u8 0),.val (.int .u8 0),.val (.int .u8 0)]:=rfl
theorem azP:bD (.agg #[.int .u8 0,.int .u8 0,.int .u8 0,.int .u8 0,.int .u8 0,.int .u8 0,.int .u8 0,.int .u8 0,.int .u8 0,.int .u8 0,.int .u8 0,.int .u8 0,.int .u8 0,.int .u8 0,.int .u8 0,.int .u8 0,.int .u8 0,.int .u8 0,.int .u8 0,.int .u8 0,.int .u8 0,.int .u8 0,.int .u8 0,.int .u8 0,.int .u8 0,.int .u8 0,.int .u8 0,.int .u8 0,.int .u8 0,.int .u8 0,.int .u8 0,.int .u8 0,.int .u8 0,.int .u8 0,.int .u8 0,.int .u8 0,.int .u8 0,.int .u8 0,.int .u8 0,.int .u8 0,.int .u8 0,.int .u8 0,.int .u8 0,.int .u8 0,.int .u8 0,.int .u8 0,.int .u8 0,.int .u8 0,.int .u8 0,.int .u8 0,.int .u8 0,.int .u8 0,.int .u8 0,.int .u8 0,.int .u8 0,.int .u8 0,.int .u8 0,.int .u8 0,.int .u8 0,.int .u8 0,.int .u8 0,.int .u8 0,.int .u8 0,.int .u8 0])=.agg [.val (.int .u8 0),.val (.int .u8 0),.val (.int .u8 0),.val (.int .u8 0),.val (.int .u8 0),.val (.int .u8 0),.val (.int .u8 0),.val (.int .u8 0),.val (.int .u8 0),.val (.int .u8 0),.val (.int .u8 0),.val (.int .u8 0),.val (.int .u8 0),.val (.int .u8 0),.val (.int .u8 0),.val (.int .u8 0),.val (.int .u8 0),.val (.int .u8 0),.val (.int .u8 0),.val (.int .u8 0),.val (.int .u8 0),.val (.int .u8 0),.val (.int .u8 0),.val (.int .u8 0),.val (.int .u8 0),.val (.int .u8 0),.val (.int .u8 0),.val (.int .u8 0),.val (.int .u8 0),.val (.int .u8 0),.val (.int .u8 0),.val (.int .u8 0),.val (.int .u8 0),.val (.int .u8 0),.val (.int .u8 0),.val (.int .u8 0),.val (.int .u8 0),.val (.int .u8 0),.val (.int .u8 0),.val (.int .u8 0),.val (.int .u8 0),.val (.int .u8 0),.val (.int .u8 0),.val (.int .u8 0),.val (.int .u8 0),.val (.int .u8 0),.val (.int .u8 0),.val (.int .u8 0),.val (.int .u8 0),.val (.int .u8 0),.val (.int .u8 0),.val (.int .u8 0),.val (.int .u8 0),.val (.int .u8 0),.val (.int .u8 0),.val (.int .u8 0),.val (.int .u8 0),.val (.int .u8 0),.val (.int .u8 0),.val (.int .u8 0),.val (.int .u8 0),.val (.int .u8 0),.val (.int .u8 0),.val (.int .u8 0)]:=rfl
theorem aE6:bB Tryz.prog 22=some 1:=by kernel_rfl
theorem aGg:j6 Tryz.prog 22=some false:=by kernel_rfl
theorem aw2:Tryz.prog.underlying 22=some (.slice 5):=by kernel_rfl
theorem aw5:dR Tryz.prog 22=some 5:=by kernel_rfl
theorem aEO {k:Bool} {es:List PV} {i:Int} (h0:0≤i) (h1:i<(es.length:Int)):aJ Tryz.prog 22 (.lst k 1 es) i=some (.ptr k ((es[i.toNat]?).getD .dead) 0):=qY aw2 aEm h0 h1
theorem aGk {k:Bool} {es:List PV} {lo hi:Option Int} (h0:0≤lo.getD 0) (h1:lo.getD 0≤hi.getD es.length) (h2:hi.getD es.length≤es.length):jS Tryz.prog 22 (.lst k 1 es) lo hi=some (.lst k 1 ((es.drop (lo.getD 0).toNat).take ((hi.getD es.length).toNat-(lo.getD 0).toNat))):=amk aw2 aEm h0 h1 h2
theorem aDz {ty sz:Nat} {k:Bool} {es:List PV}:rW Tryz.prog 22 ty (.lst k sz es)=some (.val (.int .i64 es.length)):=qW aw5
theorem aFA:bD (.slice none 0 0)=.val (.slice none 0 0):=rfl
theorem aFK:gF Tryz.prog 22=true:=by kernel_rfl
theorem aoa:bB Tryz.prog 24=some 1:=by kernel_rfl
theorem aFd:j6 Tryz.prog 24=some false:=by kernel_rfl
theorem aC4:eH Tryz.prog 24=some 24:=by kernel_rfl
theorem asN:zeroOf Tryz.prog 24=some (.slice none 0 0):=by kernel_rfl
theorem amT:Tryz.prog.underlying 24=some (.slice 9):=by kernel_rfl
theorem za:dR Tryz.prog 24=some 9:=by kernel_rfl
theorem aFo {k:Bool} {es:List PV} {i:Int} (h0:0≤i) (h1:i<(es.length:Int)):aJ Tryz.prog 24 (.lst k 1 es) i=some (.ptr k ((es[i.toNat]?).getD .dead) 0):=qY amT amt h0 h1
theorem azw {o j n:Nat} {i:Int} (h0:0≤i) (h1:i<(n:Int)):aJ Tryz.prog 24 (.row o 1 j n) i=some (.own o 1 (j+i.toNat) 0):=aaj amT amt h0 h1
theorem aFG {k:Bool} {es:List PV} {lo hi:Option Int} (h0:0≤lo.getD 0) (h1:lo.getD 0≤hi.getD es.length) (h2:hi.getD es.length≤es.length):jS Tryz.prog 24 (.lst k 1 es) lo hi=some (.lst k 1 ((es.drop (lo.getD 0).toNat).take ((hi.getD es.length).toNat-(lo.getD 0).toNat))):=amk amT amt h0 h1 h2
theorem aBx {ty sz:Nat} {k:Bool} {es:List PV}:rW Tryz.prog 24 ty (.lst k sz es)=some (.val (.int .i64 es.length)):=qW za
theorem aBq {ty o sz i n:Nat}:rW Tryz.prog 24 ty (.row o sz i n)=some (.val (.int .i64 n)):=zG za
theorem aAa {ty:Nat}:rW Tryz.prog 24 ty (.val (.slice none 0 0))=some (.val (.int .i64 0)):=amz amT
theorem aF7:bD (.slice none 0 0)=.val (.slice none 0 0):=rfl
theorem aBG {Γ:Ctx} (s:AS) (ρ:Operand→PV) (x y:Operand):bC Tryz.prog Γ s ρ (.call {callee:=.builtin .append,args:=#[x,y],argTypes:=#[24,24]})=ahG 9 1 16 s.nx s.ob (ρ x) (ab6 s.ob (ρ x)) (bH s.ob 1 (ρ y)):=uL za atW amt aGA (by decide) rfl s ρ x y
theorem awf:Tryz.prog.underlying 48=some (.slice 3):=by kernel_rfl
theorem abM:dR Tryz.prog 48=some 3:=by kernel_rfl
theorem aES {k:Bool} {es:List PV} {i:Int} (h0:0≤i) (h1:i<(es.length:Int)):aJ Tryz.prog 48 (.lst k 1 es) i=some (.ptr k ((es[i.toNat]?).getD .dead) 0):=qY awf alG h0 h1
theorem azU {o j n:Nat} {i:Int} (h0:0≤i) (h1:i<(n:Int)):aJ Tryz.prog 48 (.row o 1 j n) i=some (.own o 1 (j+i.toNat) 0):=aaj awf alG h0 h1
theorem aCw {ty sz:Nat} {k:Bool} {es:List PV}:rW Tryz.prog 48 ty (.lst k sz es)=some (.val (.int .i64 es.length)):=qW abM
theorem aAA {ty o sz i n:Nat}:rW Tryz.prog 48 ty (.row o sz i n)=some (.val (.int .i64 n)):=zG abM
theorem aFL:bD (.slice none 0 0)=.val (.slice none 0 0):=rfl
theorem aFX {Γ:Ctx} (s:AS) (ρ:Operand→PV) (l c:Operand):bC Tryz.prog Γ s ρ (.makeSlice 48 l c)=ayV 3 1 8 (.int .i64 0) s (ρ l) (ρ c):=ayz abM auG alG aGa (by kernel_rfl) rfl s ρ l c
theorem aCB {Γ:Ctx} (s:AS) (ρ:Operand→PV) (x y:Operand):bC Tryz.prog Γ s ρ (.call {callee:=.builtin .append,args:=#[x,y],argTypes:=#[48,48]})=ahG 3 1 8 s.nx s.ob (ρ x) (ab6 s.ob (ρ x)) (bH s.ob 1 (ρ y)):=uL abM auG alG aGa (by decide) rfl s ρ x y
theorem ao9:Tryz.prog.underlying 53=some (.slice 88):=by kernel_rfl
theorem aiS:dR Tryz.prog 53=some 88:=by kernel_rfl
theorem aE8 {k:Bool} {es:List PV} {i:Int} (h0:0≤i) (h1:i<(es.length:Int)):aJ Tryz.prog 53 (.lst k 4 es) i=some (.ptr k ((es[i.toNat]?).getD .dead) 0):=qY ao9 ajs h0 h1
theorem aFy {k:Bool} {es:List PV} {lo hi:Option Int} (h0:0≤lo.getD 0) (h1:lo.getD 0≤hi.getD es.length) (h2:hi.getD es.length≤es.length):jS Tryz.prog 53 (.lst k 4 es) lo hi=some (.lst k 4 ((es.drop (lo.getD 0).toNat).take ((hi.getD es.length).toNat-(lo.getD 0).toNat))):=amk ao9 ajs h0 h1 h2
theorem azt {ty sz:Nat} {k:Bool} {es:List PV}:rW Tryz.prog 53 ty (.lst k sz es)=some (.val (.int .i64 es.length)):=qW aiS
theorem aDP {ty o sz i n:Nat}:rW Tryz.prog 53 ty (.row o sz i n)=some (.val (.int .i64 n)):=zG aiS
theorem aBi {ty:Nat}:rW Tryz.prog 53 ty (.val (.slice none 0 0))=some (.val (.int .i64 0)):=amz ao9
theorem aEN:bD (.slice none 0 0)=.val (.slice none 0 0):=rfl
theorem azE {Γ:Ctx} (s:AS) (ρ:Operand→PV) (x y:Operand):bC Tryz.prog Γ s ρ (.call {callee:=.builtin .append,args:=#[x,y],argTypes:=#[53,53]})=ahG 88 4 32 s.nx s.ob (ρ x) (ab6 s.ob (ρ x)) (bH s.ob 4 (ρ y)):=uL aiS aij ajs aCL (by decide) rfl s ρ x y
theorem av9:Tryz.prog.underlying 68=some (.slice 71):=by kernel_rfl
theorem ajn:dR Tryz.prog 68=some 71:=by kernel_rfl
theorem aGj {k:Bool} {es:List PV} {i:Int} (h0:0≤i) (h1:i<(es.length:Int)):aJ Tryz.prog 68 (.lst k 2 es) i=some (.ptr k ((es[i.toNat]?).getD .dead) 0):=qY av9 aiv h0 h1
theorem aDL {o j n:Nat} {i:Int} (h0:0≤i) (h1:i<(n:Int)):aJ Tryz.prog 68 (.row o 2 j n) i=some (.own o 2 (j+i.toNat) 0):=aaj av9 aiv h0 h1
theorem aCX {ty sz:Nat} {k:Bool} {es:List PV}:rW Tryz.prog 68 ty (.lst k sz es)=some (.val (.int .i64 es.length)):=qW ajn
theorem aAw {ty o sz i n:Nat}:rW Tryz.prog 68 ty (.row o sz i n)=some (.val (.int .i64 n)):=zG ajn
theorem aFs:bD (.slice none 0 0)=.val (.slice none 0 0):=rfl
theorem azr {Γ:Ctx} (s:AS) (ρ:Operand→PV) (x y:Operand):bC Tryz.prog Γ s ρ (.call {callee:=.builtin .append,args:=#[x,y],argTypes:=#[68,68]})=ahG 71 2 24 s.nx s.ob (ρ x) (ab6 s.ob (ρ x)) (bH s.ob 2 (ρ y)):=uL ajn ajv aiv aCD (by decide) rfl s ρ x y
theorem aAI:bB Tryz.prog 105=some 1:=by kernel_rfl
theorem aAj:j6 Tryz.prog 105=some false:=by kernel_rfl
theorem aul:Tryz.prog.underlying 105=some (.slice 111):=by kernel_rfl
theorem wH:dR Tryz.prog 105=some 111:=by kernel_rfl
theorem aDw {k:Bool} {es:List PV} {i:Int} (h0:0≤i) (h1:i<(es.length:Int)):aJ Tryz.prog 105 (.lst k 7 es) i=some (.ptr k ((es[i.toNat]?).getD .dead) 0):=qY aul aai h0 h1
theorem av5 {ty sz:Nat} {k:Bool} {es:List PV}:rW Tryz.prog 105 ty (.lst k sz es)=some (.val (.int .i64 es.length)):=qW wH
theorem auo {ty o sz i n:Nat}:rW Tryz.prog 105 ty (.row o sz i n)=some (.val (.int .i64 n)):=zG wH
theorem aAR:bD (.slice none 0 0)=.val (.slice none 0 0):=rfl
theorem avB {Γ:Ctx} (s:AS) (ρ:Operand→PV) (x y:Operand):bC Tryz.prog Γ s ρ (.call {callee:=.builtin .append,args:=#[x,y],argTypes:=#[105,105]})=ahG 111 7 56 s.nx s.ob (ρ x) (ab6 s.ob (ρ x)) (bH s.ob 7 (ρ y)):=uL wH xu aai atU (by decide) rfl s ρ x y
theorem ahE:Tryz.prog.underlying 134=some (.slice 136):=by kernel_rfl
theorem adr:dR Tryz.prog 134=some 136:=by kernel_rfl
theorem aAd {k:Bool} {es:List PV} {i:Int} (h0:0≤i) (h1:i<(es.length:Int)):aJ Tryz.prog 134 (.lst k 2 es) i=some (.ptr k ((es[i.toNat]?).getD .dead) 0):=qY ahE adw h0 h1
theorem ayX {o j n:Nat} {i:Int} (h0:0≤i) (h1:i<(n:Int)):aJ Tryz.prog 134 (.row o 2 j n) i=some (.own o 2 (j+i.toNat) 0):=aaj ahE adw h0 h1
theorem awt {ty sz:Nat} {k:Bool} {es:List PV}:rW Tryz.prog 134 ty (.lst k sz es)=some (.val (.int .i64 es.length)):=qW adr
theorem aup {ty o sz i n:Nat}:rW Tryz.prog 134 ty (.row o sz i n)=some (.val (.int .i64 n)):=zG adr
theorem auw {ty:Nat}:rW Tryz.prog 134 ty (.val (.slice none 0 0))=some (.val (.int .i64 0)):=amz ahE
theorem aAX:bD (.slice none 0 0)=.val (.slice none 0 0):=rfl
theorem axg {Γ:Ctx} (s:AS) (ρ:Operand→PV) (x y:Operand):bC Tryz.prog Γ s ρ (.call {callee:=.builtin .append,args:=#[x,y],argTypes:=#[134,134]})=ahG 136 2 16 s.nx s.ob (ρ x) (ab6 s.ob (ρ x)) (bH s.ob 2 (ρ y)):=uL adr acG adw aui (by decide) rfl s ρ x y
theorem aua:Tryz.prog.underlying 151=some (.slice 158):=by kernel_rfl
theorem atJ:dR Tryz.prog 151=some 158:=by kernel_rfl
theorem avu {o j n:Nat} {i:Int} (h0:0≤i) (h1:i<(n:Int)):aJ Tryz.prog 151 (.row o 4 j n) i=some (.own o 4 (j+i.toNat) 0):=aaj aua al6 h0 h1
theorem aB4:bD (.slice none 0 0)=.val (.slice none 0 0):=rfl
theorem aDg {Γ:Ctx} (s:AS) (ρ:Operand→PV) (l c:Operand):bC Tryz.prog Γ s ρ (.makeSlice 151 l c)=ayV 158 4 32 (.agg #[.int .i64 0,.int .i64 0,.int .i64 0,.int .i64 0]) s (ρ l) (ρ c):=ayz atJ auh al6 auk (by kernel_rfl) rfl s ρ l c
theorem at1:Tryz.prog.underlying 152=some (.slice 153):=by kernel_rfl
theorem atu:dR Tryz.prog 152=some 153:=by kernel_rfl
theorem avP {o j n:Nat} {i:Int} (h0:0≤i) (h1:i<(n:Int)):aJ Tryz.prog 152 (.row o 4 j n) i=some (.own o 4 (j+i.toNat) 0):=aaj at1 anR h0 h1
theorem aBL:bD (.slice none 0 0)=.val (.slice none 0 0):=rfl
theorem aBs {Γ:Ctx} (s:AS) (ρ:Operand→PV) (l c:Operand):bC Tryz.prog Γ s ρ (.makeSlice 152 l c)=ayV 153 4 4 (.agg #[.bool false,.bool false,.bool false,.bool false]) s (ρ l) (ρ c):=ayz atu atN anR aum (by kernel_rfl) rfl s ρ l c
theorem as4:Tryz.prog.underlying 245=some (.slice 60):=by kernel_rfl
theorem afN:dR Tryz.prog 245=some 60:=by kernel_rfl
theorem aAV {k:Bool} {es:List PV} {i:Int} (h0:0≤i) (h1:i<(es.length:Int)):aJ Tryz.prog 245 (.lst k 4 es) i=some (.ptr k ((es[i.toNat]?).getD .dead) 0):=qY as4 aqu h0 h1
theorem awO {ty sz:Nat} {k:Bool} {es:List PV}:rW Tryz.prog 245 ty (.lst k sz es)=some (.val (.int .i64 es.length)):=qW afN
theorem aA8:bD (.slice none 0 0)=.val (.slice none 0 0):=rfl
theorem axD {Γ:Ctx} (s:AS) (ρ:Operand→PV) (x y:Operand):bC Tryz.prog Γ s ρ (.call {callee:=.builtin .append,args:=#[x,y],argTypes:=#[245,245]})=ahG 60 4 32 s.nx s.ob (ρ x) (ab6 s.ob (ρ x)) (bH s.ob 4 (ρ y)):=uL afN akz aqu azk (by decide) rfl s ρ x y
theorem aFV:bB Tryz.prog 23=some 1:=by kernel_rfl
theorem aFN:j6 Tryz.prog 23=some false:=by kernel_rfl
theorem azp:Tryz.prog.underlying 23=some (.slice 24):=by kernel_rfl
theorem an3:dR Tryz.prog 23=some 24:=by kernel_rfl
theorem aEB {k:Bool} {es:List PV} {i:Int} (h0:0≤i) (h1:i<(es.length:Int)):aJ Tryz.prog 23 (.lst k 1 es) i=some (.ptr k ((es[i.toNat]?).getD .dead) 0):=qY azp aoa h0 h1
theorem aDx {ty sz:Nat} {k:Bool} {es:List PV}:rW Tryz.prog 23 ty (.lst k sz es)=some (.val (.int .i64 es.length)):=qW an3
theorem aEF:bD (.slice none 0 0)=.val (.slice none 0 0):=rfl
theorem aDv {Γ:Ctx} (s:AS) (ρ:Operand→PV) (x y:Operand):bC Tryz.prog Γ s ρ (.call {callee:=.builtin .append,args:=#[x,y],argTypes:=#[23,23]})=ahG 24 1 24 s.nx s.ob (ρ x) (ab6 s.ob (ρ x)) (bH s.ob 1 (ρ y)):=uL an3 asN aoa aC4 (by decide) rfl s ρ x y
theorem avC {k:IntKind} {n:Int} {es:Option (List PV)}:acy Tryz.prog 3 5 false es (some (.int k n))=some (.val (.int .u8 (IntKind.u8.wrap n))):=atv aGd aEP
theorem axb {k:IntKind} {n:Int} {es:Option (List PV)}:acy Tryz.prog 5 3 false es (some (.int k n))=some (.val (.int .i64 (IntKind.i64.wrap n))):=atv aEP aGd
theorem auT {a0:PV}:gX Tryz.prog 22 1 [(0,a0)]=uT 5 1 [a0] (okP 1 a0&&(true)):=j5 aw5 aEm aGs _ (by decide) (by decide) rfl
theorem au7:gX Tryz.prog 23 0 []=uT 24 1 [] (true):=j5 an3 aoa asN _ (by decide) (by decide) rfl
theorem axW {a0:PV}:gX Tryz.prog 23 1 [(0,a0)]=uT 24 1 [a0] (okP 1 a0&&(true)):=j5 an3 aoa asN _ (by decide) (by decide) rfl
theorem aw7:gX Tryz.prog 24 0 []=uT 9 1 [] (true):=j5 za amt atW _ (by decide) (by decide) rfl
theorem ayK {a0:PV}:gX Tryz.prog 24 1 [(0,a0)]=uT 9 1 [a0] (okP 1 a0&&(true)):=j5 za amt atW _ (by decide) (by decide) rfl
theorem avN {a0 a1 a2 a3 a4:PV}:gX Tryz.prog 24 5 [(0,a0),(1,a1),(2,a2),(3,a3),(4,a4)]=uT 9 1 [a0,a1,a2,a3,a4] (okP 1 a0&&(okP 1 a1&&(okP 1 a2&&(okP 1 a3&&(okP 1 a4&&(true)))))):=j5 za amt atW _ (by decide) (by decide) rfl
theorem auI {a0 a1 a2 a3 a4 a5 a6 a7:PV}:gX Tryz.prog 24 8 [(0,a0),(1,a1),(2,a2),(3,a3),(4,a4),(5,a5),(6,a6),(7,a7)]=uT 9 1 [a0,a1,a2,a3,a4,a5,a6,a7] (okP 1 a0&&(okP 1 a1&&(okP 1 a2&&(okP 1 a3&&(okP 1 a4&&(okP 1 a5&&(okP 1 a6&&(okP 1 a7&&(true))))))))):=j5 za amt atW _ (by decide) (by decide) rfl
theorem aoY {a0 a1 a2 a3 a4 a5 a6 a7 a8 a9 a10 a11:PV}:gX Tryz.prog 24 12 [(0,a0),(1,a1),(2,a2),(3,a3),(4,a4),(5,a5),(6,a6),(7,a7),(8,a8),(9,a9),(10,a10),(11,a11)]=uT 9 1 [a0,a1,a2,a3,a4,a5,a6,a7,a8,a9,a10,a11] (okP 1 a0&&(okP 1 a1&&(okP 1 a2&&(okP 1 a3&&(okP 1 a4&&(okP 1 a5&&(okP 1 a6&&(okP 1 a7&&(okP 1 a8&&(okP 1 a9&&(okP 1 a10&&(okP 1 a11&&(true))))))))))))):=j5 za amt atW _ (by decide) (by decide) rfl
theorem ao4 {a0 a1 a2 a3 a4 a5 a6 a7 a8 a9 a10 a11 a12 a13 a14:PV}:gX Tryz.prog 24 15 [(0,a0),(1,a1),(2,a2),(3,a3),(4,a4),(5,a5),(6,a6),(7,a7),(8,a8),(9,a9),(10,a10),(11,a11),(12,a12),(13,a13),(14,a14)]=uT 9 1 [a0,a1,a2,a3,a4,a5,a6,a7,a8,a9,a10,a11,a12,a13,a14] (okP 1 a0&&(okP 1 a1&&(okP 1 a2&&(okP 1 a3&&(okP 1 a4&&(okP 1 a5&&(okP 1 a6&&(okP 1 a7&&(okP 1 a8&&(okP 1 a9&&(okP 1 a10&&(okP 1 a11&&(okP 1 a12&&(okP 1 a13&&(okP 1 a14&&(true)))))))))))))))):=j5 za amt atW _ (by decide) (by decide) rfl
theorem auP:gX Tryz.prog 48 0 []=uT 3 1 [] (true):=j5 abM alG auG _ (by decide) (by decide) rfl
theorem avD {a0:PV}:gX Tryz.prog 48 1 [(0,a0)]=uT 3 1 [a0] (okP 1 a0&&(true)):=j5 abM alG auG _ (by decide) (by decide) rfl
theorem avd {a0 a1:PV}:gX Tryz.prog 48 2 [(0,a0),(1,a1)]=uT 3 1 [a0,a1] (okP 1 a0&&(okP 1 a1&&(true))):=j5 abM alG auG _ (by decide) (by decide) rfl
theorem axy {a0 a1 a2:PV}:gX Tryz.prog 48 3 [(0,a0),(1,a1),(2,a2)]=uT 3 1 [a0,a1,a2] (okP 1 a0&&(okP 1 a1&&(okP 1 a2&&(true)))):=j5 abM alG auG _ (by decide) (by decide) rfl
theorem awv:gX Tryz.prog 53 0 []=uT 88 4 [] (true):=j5 aiS ajs aij _ (by decide) (by decide) rfl
theorem ayc {a0:PV}:gX Tryz.prog 53 1 [(0,a0)]=uT 88 4 [a0] (okP 4 a0&&(true)):=j5 aiS ajs aij _ (by decide) (by decide) rfl
theorem avt:gX Tryz.prog 68 0 []=uT 71 2 [] (true):=j5 ajn aiv ajv _ (by decide) (by decide) rfl
theorem avh {a0:PV}:gX Tryz.prog 68 1 [(0,a0)]=uT 71 2 [a0] (okP 2 a0&&(true)):=j5 ajn aiv ajv _ (by decide) (by decide) rfl
theorem arK:gX Tryz.prog 105 0 []=uT 111 7 [] (true):=j5 wH aai xu _ (by decide) (by decide) rfl
theorem aqA {a0:PV}:gX Tryz.prog 105 1 [(0,a0)]=uT 111 7 [a0] (okP 7 a0&&(true)):=j5 wH aai xu _ (by decide) (by decide) rfl
theorem apK {a0 a1 a2:PV}:gX Tryz.prog 105 3 [(0,a0),(1,a1),(2,a2)]=uT 111 7 [a0,a1,a2] (okP 7 a0&&(okP 7 a1&&(okP 7 a2&&(true)))):=j5 wH aai xu _ (by decide) (by decide) rfl
theorem asv {a0:PV}:gX Tryz.prog 134 1 [(0,a0)]=uT 136 2 [a0] (okP 2 a0&&(true)):=j5 adr adw acG _ (by decide) (by decide) rfl
theorem arO {a0:PV}:gX Tryz.prog 245 1 [(0,a0)]=uT 60 4 [a0] (okP 4 a0&&(true)):=j5 afN aqu akz _ (by decide) (by decide) rfl
theorem mixed:Tryz.prog.follows .mixedOrders=true:=by kernel_rfl
attribute[push_cast high]
 aGf azl aDh
attribute[push_cast]
 aG0 alG aHa aGa auG aGd aG8 aGJ aGQ aGp aGM aGw aFc aG6 aEm aGY aGs aEP aG9 aG5 aG4 aGR amt aGT aGA atW aFw aE7 aF6 aGL aGK aE5 aEC aFv aFr aEz aEw arI ax2 axP awK au8 axE aBz aEL aFU aER aFZ aFE aqu aEY azk akz ayo awZ ayY axY aCR aEU aGl aF5 aFS aiv aFt aCD ajv ax5 axq aDj aFM aE4 aF2 aED aAq ayH awI azj aEZ aEM aEE ajs aGe aCL aij ayl axw auZ axG az0 aE2 aE9 aFY aBS aai azS atU xu apU aoR apF aqX atK aDX aC2 aBg aBJ adw aCn aui acG at5 axk aAo azm aBa aA9 aB5 aCY zo aqo aqe aoQ atn aC7 aDC aCE aB1 azn aCJ zL apS asi atB aDB aDF aBH anR aum atN atD av2 aC6 al6 auk auh atm avx aCt aD1 aA1 aCg aCc aCl azK aAO aAg aCa aBh aBI aCT azP aE6 aGg aw2 aw5 aEO aGk aDz aFA aFK aoa aFd aC4 asN amT za aFo azw aFG aBx aBq aAa aF7 aBG awf abM aES azU aCw aAA aFL aFX aCB ao9 aiS aE8 aFy azt aDP aBi aEN azE av9 ajn aGj aDL aCX aAw aFs azr aAI aAj aul wH aDw av5 auo aAR avB ahE adr aAd ayX awt aup auw aAX axg aua atJ avu aB4 aDg at1 atu avP aBL aBs as4 afN aAV awO aA8 axD aFV aFN azp an3 aEB aDx aEF aDv avC axb auT au7 axW aw7 ayK avN auI aoY ao4 auP avD avd axy awv ayc avt avh arK aqA apK asv arO
end
end Go.Proofs.YtmmafcjjlbgnkaaGreatDoor
