/- What the proof rests on, part 7: contracts of functions. No condition beyond what each states. -/
import Derived.Test.YtmmafcjjlbgnkaaGreatDoorZPr6
namespace Go.Proofs.YtmmafcjjlbgnkaaGreatDoor
open Go.RowKit
set_option linter.all false
set_option maxHeartbeats 32000000
noncomputable section
def PV.le (p q:PV):Prop:=∀(g:Gh) (w:World) (v:Value),Rep g w p v→Rep g w q v
theorem PV.le_refl (p:PV):p.le p:=fun _ _ _ h=>h
theorem nil_le (k:Bool) (sz:Nat):(PV.val (.slice none 0 0)).le (.lst k sz []):=fun g w v h=>by simp only[Rep]at h⊢;subst h;exact⟨none,0,rfl,Nat.le_refl _,by omega,.inl trivial⟩
def leL:List PV→List PV→Prop
 |[],[]=>True
 |p::ps,q::qs=>p.le q∧leL ps qs
 |_,_=>False
theorem ad1:∀(l:List PV),leL l l
 |[]=>trivial
 |p::l=>⟨p.le_refl,ad1 l⟩
theorem wO {g:Gh} {w:World}:∀{ps qs:List PV} {vs:List Value},leL ps qs→bX g w ps vs→bX g w qs vs
 |[],[],vs,_,h=>h
 |p::ps,q::qs,vs,hl,h=>by simp only[bX]at h⊢;obtain⟨v,vs',rfl,h1,h2⟩:=h;exact⟨v,vs',rfl,hl.1 _ _ _ h1,wO hl.2 h2⟩
 |[],_::_,vs,hl,_=>hl.elim
 |_::_,[],vs,hl,_=>hl.elim
theorem oM {ps qs:List PV} (h:leL ps qs):(PV.tup ps).le (.tup qs):=fun g w v hv=>by simp only[Rep]at hv⊢;obtain⟨vs,rfl,h1⟩:=hv;exact⟨vs,rfl,wO h h1⟩
theorem adl {ps qs:List PV} (h:leL ps qs):(PV.agg ps).le (.agg qs):=fun g w v hv=>by simp only[Rep]at hv⊢;obtain⟨vs,rfl,h1⟩:=hv;exact⟨vs,rfl,wO h h1⟩
theorem Sound.weak {P:Program} {f:Nat} {φ φ':Fun} (h:Sound P f φ) (hw:∀ps r,φ' ps=some r→∃ps' r',leL ps ps'∧φ ps'=some r'∧r'.le r):Sound P f φ':=by intro w J ps args r hr hJ hT hargs;obtain⟨ps',r',h1,h2,h3⟩:=hw ps r hr;refine(h w J ps' args r' h2 hJ hT (wO h1 hargs)).mono ?_;rintro e w' ⟨v,rfl,hb,hrep⟩;exact⟨v,rfl,hb,fun g' hg=>h3 _ _ _ (hrep g' hg)⟩
def nrm (sz:Nat):PV→PV
 | .val (.slice none 0 0)=> .lst false sz []
 |p=>p
theorem amR (sz:Nat) (p:PV):p.le (nrm sz p):=by
 unfold nrm;split
 ·exact nil_le _ _
 ·exact p.le_refl
theorem abh (sz:Nat):∀ps:List PV,leL ps (ps.map (nrm sz))
 |[]=>trivial
 |p::ps=>⟨amR sz p,abh sz ps⟩
def ayd (sz:Nat) (φ:Fun):Fun:=fun ps=>φ (ps.map (nrm sz))
theorem Sound.nil {P:Program} {f:Nat} {φ:Fun} (h:Sound P f φ) (sz:Nat):Sound P f (ayd sz φ):=
 h.weak fun ps r hr=>⟨_,r,abh sz ps,hr,PV.le_refl _⟩
section
variable {P:Program} {Γ:Ctx}
theorem gM (hm:P.follows .mixedOrders=true) {f:Nat} {fn:Func} {c:Code} {φ:Fun} (hΓ:ak P Γ) (hf:P.funcs[f]?=some fn) (hb:fn.body=some c) (N:Nat) (hN:fn.ntmps=N) (rs:List ResultVar) (hrs:fn.results.toList=rs) (hc:codeOk Γ true N c=true)
 (h:∀ps r,φ ps=some r→ps.length≤N∧pq P Γ N c (fun x s'=>∃r',r'.le r∧Post P rs r' x s') (bY ps).tm (fun _=>none) 0):Sound P f φ:=by
 obtain⟨φ',h1,h2⟩:=zU hm hΓ hf hb N hN rs hrs hc (fun ps=>∃r,φ ps=some r) (fun ps r'=>∀r,φ ps=some r→r'.le r) (fun ps ⟨r,hr⟩=>(h ps r hr).1) (fun ps ⟨r,hr⟩=>by refine sW (fun x s' hx=>?_) _ _ (h ps r hr).2;obtain⟨r',k1,k2⟩:=hx;exact⟨r',fun r1 hr1=>by rw[hr]at hr1;cases hr1;exact k1,k2⟩)
 refine h1.weak fun ps r hr=>?_;obtain⟨r',k1,k2⟩:=h2 ps ⟨r,hr⟩;exact⟨ps,r',ad1 _,k1,k2 r hr⟩
theorem dw {rs:List ResultVar} {r r':PV} {tm:Nat→PV} {ob:bD} {nx:Nat} {x:X} (hx:x=.normal∨x=.ret) (h:((fF P ⟨tm,ob,nx⟩ rs).bind fun qs=>reify true 0 ob fuel (gL qs))=some r') (hl:r'.le r):∃r',r'.le r∧Post P rs r' x ⟨tm,ob,nx⟩:=⟨r',hl,hx,h⟩
end
theorem afq {n f sz:Nat} {ob:bD} {k:Bool}:reify false n ob (f+1) (.lst k sz [])=some (.lst false sz []):=by simp[reify]
attribute[push_cast]
 afq
def nP (sz:Nat) (es:List PV) (x:Nat):PV:=match es with|[]=> .val (.slice none 0 0)|_::_=> .row x sz 0 es.length
def nO (T sz:Nat) (es:List PV) (x:Nat):List (Nat×aH):=match es with|[]=>[]|_::_=>[(x,T,sz,es)]
theorem eO {sz x:Nat}:nP sz [] x=.val (.slice none 0 0):=rfl
theorem dO {T sz x:Nat}:nO T sz [] x=[]:=rfl
theorem aA {sz x:Nat} {es:List PV} (h:0<es.length):nP sz es x=.row x sz 0 es.length:=by
 cases es with
 |nil=>simp at h
 |cons e es=>rfl
theorem aB {T sz x:Nat} {es:List PV} (h:0<es.length):nO T sz es x=[(x,T,sz,es)]:=by
 cases es with
 |nil=>simp at h
 |cons e es=>rfl
attribute[push_cast]
 eO dO
attribute[push_cast low]
 aA aB
theorem aqA {P:Program} {t:Nat} {x y:Operand} {a b:ByteArray} (h:a.size+b.size≤9223372036854775807):lK P .add t x y (some (.string a)) (some (.string b))=some (.val (.string (a++b))):=by
 have h2:¬(((a.size+b.size:Nat):Int)>IntKind.i64.max):=by
  have:IntKind.i64.max=9223372036854775807:=by decide
  rw[this];omega
 have:ay P (do eqGuard .add t x y (.string a) (.string b);binOp .add t (.string a) (.string b))=some (.string (a++b)):=by
  show ay P (Op.stringOp .add a b)=_;unfold Op.stringOp;dsimp only
  rw[if_neg h2];rfl
 simp only[lK,this,Option.map_some]
theorem size_push (ns:List Int) (r:ByteArray):(ns.foldl (fun r n=>r.push (UInt8.ofNat n.toNat)) r).size=r.size+ns.length:=by
 induction ns generalizing r with
 |nil=>simp
 |cons n ns ih=>rw[List.foldl_cons,ih,List.length_cons,ByteArray.size_push];omega
theorem qp (ns:List Int):(bytesOf ns).size=ns.length:=by unfold bytesOf;rw[size_push];simp
attribute[push_cast]
 aqA qp ByteArray.size_append jr
def pW (l:List ByteArray) (sep:ByteArray):ByteArray:=⟨(Lib.join (l.map (·.data.toList)) sep.data.toList).toArray⟩
def zT:Fun:=F2 dSs dS fun l sep=>if l.length≤1048576∧(pW l sep).size≤140737488355328 then some (.val (.string (pW l sep)))else none
theorem agU {l:List ByteArray} {sep:ByteArray} (h:l.length≤1048576) (h2:(pW l sep).size≤140737488355328):zT [.lst false 1 (l.map fun s=> .val (.string s)),.val (.string sep)]=some (.val (.string (pW l sep))):=
 (jm (A:=dSs) (B:=dS) l sep).trans (if_pos ⟨h,h2⟩)
theorem ahF {g:Gh} {w:World} {b off:Nat} {l:List ByteArray} (h:bM g w 1 (l.map fun s=>PV.val (.string s)) b off):∀(j:Nat) x,l[j]?=some x→w.cell? ⟨b,off+j,none⟩=some (.string x):=fun j x hx=>by obtain⟨u,h1,h2,_⟩:=h.get (i:=j) (e:=.val (.string x)) (by simp[hx]);simp only[Rep]at h1;subst h1;have:=h2.2 0 (by simp[Value.cells]);simpa [Value.cells]using this
theorem afw {P:Program} {f:Nat} (H0:∀(a:Option Addr) (c:Nat) (sep:ByteArray) (w:World),Calls P f #[.slice a 0 c,.string sep] w fun e w'=>e=.returned (.string ⟨#[]⟩)∧w'=w)
 (H1:∀(bk o c:Nat) (xs:List ByteArray) (sep:ByteArray) (w:World),(∀(j:Nat) x,xs[j]?=some x→w.cell? ⟨bk,o+j,none⟩=some (.string x))→bk<w.heap.size→xs.length≤140737488355328→xs.length≤c→(Lib.join (xs.map (·.data.toList)) sep.data.toList).length≤140737488355328→
   Calls P f #[.slice (some ⟨bk,o,none⟩) xs.length c,.string sep] w fun e w'=>e=.returned (.string ⟨(Lib.join (xs.map (·.data.toList)) sep.data.toList).toArray⟩)∧Below w.heap.size w w'):Sound P f zT:=by
 intro w J ps args r hr hJ hT hargs;obtain⟨l,sep,rfl,hq⟩:=uz hr;split at hq
 case isFalse=>cases hq
 case isTrue hok=>
 cases hq;have hargs:=hargs;simp only[bX]at hargs;obtain⟨v1,vs1,e1,h1,v2,vs2,rfl,h2,rfl⟩:=hargs;obtain rfl:args=#[v1,v2]:=by obtain⟨a⟩:=args;simp only at e1;rw[e1]
 simp only[dSs,dL,dS,Rep]at h1 h2;subst h2;obtain⟨a,cap,rfl,k1,k2,k3⟩:=h1;simp only[List.length_map]at k1⊢;have hsz:(pW l sep).size=(Lib.join (l.map (·.data.toList)) sep.data.toList).length:=by simp[pW,ByteArray.size]
 rcases k3 with k3|⟨b,off,rfl,k4,k5⟩
 ·have:l=[]:=by simpa using k3
  subst this;refine(H0 a cap sep w).mono ?_;rintro e w' ⟨rfl,rfl⟩;exact⟨_,rfl,Below.refl _ _,fun g' _=>by simp only[Rep];rfl⟩
 ·refine(H1 b off cap l sep w (ahF k5) (hJ b k4.2) (by omega) k1 (by omega)).mono ?_
  rintro e w' ⟨rfl,hb⟩;exact⟨_,rfl,hb,fun g' _=>by simp only[Rep];rfl⟩
theorem qE (sep:List UInt8):∀(r:List (List UInt8)),(Lib.joinTail sep r).length=(r.map List.length).sum+r.length*sep.length
 |[]=>by simp[Lib.joinTail]
 |x::r=>by have ih:=qE sep r;unfold Lib.joinTail at ih⊢;simp only[List.map_cons,List.flatten_cons,List.length_append,List.sum_cons,List.length_cons,ih,Nat.add_mul];omega
def asc (l:List ByteArray):Nat:=(l.map (·.size)).sum
theorem aeN (l:List ByteArray) (sep:ByteArray):(pW l sep).size=asc l+(l.length-1)*sep.size:=by
 have hsz:(pW l sep).size=(Lib.join (l.map (·.data.toList)) sep.data.toList).length:=by simp[pW,ByteArray.size]
 rw[hsz];clear hsz;have e:∀s:ByteArray,s.data.toList.length=s.size:=fun s=>Array.length_toList;cases l with
 |nil=>simp[Lib.join_nil,asc]
 |cons x r=>rw[List.map_cons,Lib.join_cons,List.length_append,qE];simp only[List.map_map,List.length_map,asc,List.map_cons,List.sum_cons,List.length_cons,Nat.add_sub_cancel,e];have h2:(List.length∘fun x:ByteArray=>x.data.toList)=fun x=>x.size:=funext fun s=>e s;rw[h2];omega
theorem ar1 {l:List ByteArray} {c:Nat} (h:∀i:Nat,(l[i]?.getD .empty).size≤c):asc l≤l.length*c:=by
 induction l with
 |nil=>simp[asc]
 |cons x l ih=>
  have h0:=h 0;have:=ih fun i=>by simpa using h (i+1)
  simp only[List.getElem?_cons_zero,Option.getD_some]at h0;simp only[asc,List.map_cons,List.sum_cons,List.length_cons,Nat.add_mul,Nat.one_mul]at this⊢;omega
theorem aoe:Sound Tryz.prog 76 zT:=afw YtmmafcjjlbgnkaaGreatDoor.strings_Join_none YtmmafcjjlbgnkaaGreatDoor.strings_Join
theorem ji {α β:Type} {P:Program} {m:Sem α} {f:α→Sem β} {a:α} (h:ay P m=some a):ay P (m>>=f)=ay P (f a):=by
 induction m with
 |pure x=>simp only[ay,Option.some.injEq]at h;subst h;rfl
 |program k ih=>exact ih P h
 |_=>simp[ay]at h
theorem yx {P:Program} {v:Int} {m:Nat} {k:BoundsCode} (h:0≤v) (h2:v≤m):ay P (Instr.sliceBound (.int .i64 v) m k)=some v.toNat:=by have e:Instr.sliceBound (.int .i64 v) m k=(if 0≤v∧v≤m then pure v.toNat else boundsPanic .i64 v m k):=rfl;rw[e,if_pos ⟨h,h2⟩];rfl
theorem amU {P:Program} {t:Nat} {d:TypeDesc} (hu:P.underlying t=some d):ay P (underlying t)=some d:=by unfold underlying;rw[ji (a:=P) rfl];simp only[hu];rfl
theorem sps {P:Program} {t:Nat} {s:ByteArray} {lo hi:Option Int} (hu:P.underlying t=some .string) (h0:0≤lo.getD 0) (h1:lo.getD 0≤hi.getD s.size) (h2:hi.getD s.size≤s.size):
 ash P t (.val (.string s)) (some lo) (some hi)=some (.val (.string (s.extract (lo.getD 0).toNat (hi.getD s.size).toNat))):=by
 have hb:ay P (Instr.sliceBounds false s.size s.size (lo.map (Value.int .i64)) (hi.map (Value.int .i64)) none)=some ((lo.getD 0).toNat,(hi.getD s.size).toNat,s.size):=by
  unfold Instr.sliceBounds;rw[ji (a:=s.size) rfl];cases hi with
  |none=>
   simp only[Option.map_none,Option.getD_none]at h1⊢;rw[ji (a:=s.size) rfl];cases lo with
   |none=>simp only[Option.map_none,Option.getD_none,Int.toNat_natCast];rw[ji (a:=0) rfl];rfl
   |some l=>simp only[Option.map_some,Option.getD_some,Int.toNat_natCast]at h0 h1⊢;rw[ji (yx h0 h1)];rfl
  |some h=>
   simp only[Option.map_some,Option.getD_some]at h1 h2⊢;have h3:0≤h:=by omega
   rw[ji (yx h3 h2)];cases lo with
   |none=>simp only[Option.map_none,Option.getD_none];rw[ji (a:=0) rfl];rfl
   |some l=>simp only[Option.map_some,Option.getD_some]at h0 h1⊢;rw[ji (yx h0 (by omega))];rfl
 have hs:ay P (Instr.sliceAt t (.string s) (lo.map (Value.int .i64)) (hi.map (Value.int .i64)) none)=some (.string (s.extract (lo.getD 0).toNat (hi.getD s.size).toNat)):=by
  unfold Instr.sliceAt;rw[ji (amU hu)];dsimp only
  unfold Instr.slice;rw[ji (amU hu)];dsimp only
  simp only[Option.isSome_none,Bool.false_eq_true,if_false];rw[ji hb];rfl
 show(ay P _).map _=_;rw[hs];rfl
theorem aoC {s:ByteArray} {lo hi:Option Int} (h0:0≤lo.getD 0) (h1:lo.getD 0≤hi.getD s.size) (h2:hi.getD s.size≤s.size):
 ash Tryz.prog 9 (.val (.string s)) (some lo) (some hi)=some (.val (.string (s.extract (lo.getD 0).toNat (hi.getD s.size).toNat))):=sps Tryz.underlying9 h0 h1 h2
attribute[push_cast]
 aoC
section
variable {P:Program} {Γ:Ctx}
theorem zf (hm:P.follows .mixedOrders=true) {f:Nat} {fn:Func} {c:Code} (hΓ:ak P Γ) (hf:P.funcs[f]?=some fn) (hb:fn.body=some c) (N:Nat) (hN:fn.ntmps=N) (rs:List ResultVar) (hrs:fn.results.toList=rs) (hc:codeOk Γ true N c=true)
 (D:List PV→aH→Prop) (R:List PV→aH→PV→List aH→Prop) (hlen:∀ps o,D ps o→ps.length≤N)
 (h:∀ps o,D ps o→pq P Γ N c (fun x s'=>∃r os',R ps o r os'∧gY P rs 1 r os' x s') (bY ps).tm (lo [(0,o)]) 1):∃Φ:dP,bO P f Φ∧∀ps o,D ps o→∃r os',Φ ps [o]=some (r,os')∧R ps o r os':=by
 classical
 subst hN hrs
 let Z:List PV→List aH→PV×List aH→Prop:=fun ps cs r=>∃o,cs=[o]∧D ps o∧R ps o r.1 r.2∧∃x s',Ev P Γ fn.ntmps c (ou ps cs) x s'∧gY P fn.results.toList 1 r.1 r.2 x s'
 let Φ:dP:=fun ps cs=>if h:∃r,Z ps cs r then some (Classical.choose h)else none
 have hΦ:∀ps cs r,Φ ps cs=some r→Z ps cs r:=fun ps cs r hr=>by
  simp only[Φ]at hr;split at hr
  ·rename_i hz
   cases hr;exact Classical.choose_spec hz
  ·cases hr
 refine⟨Φ,kr hΓ hf hb (fun ps cs r hr=>?_) fun ps cs r cs' hr=>?_,fun ps o hd=>?_⟩
 ·obtain⟨o,_,h1,_⟩:=hΦ ps cs r hr
  exact hlen ps o h1
 ·obtain⟨o,rfl,_,_,x,s',h1,h2,news,h3,h4,h5,h6⟩:=hΦ ps cs (r,cs') hr
  rw[Option.bind_eq_some_iff]at h5;obtain⟨qs,h8,h9⟩:=h5;refine⟨x,s',qs,List.range 1++news,h1,h2,h8,h9,by simp,fun i hi=>?_,?_,h6⟩
  ·have:i=0:=by simpa using hi
   subst this;rfl
  ·rw[List.nodup_append]
   exact⟨List.nodup_range,h4,fun a ha b hb e=>by have:=h3 b hb;have:=List.mem_range.1 ha;omega⟩
 ·have h':pw P Γ fn.ntmps c (fun x s'=>∃r os',R ps o r os'∧gY P fn.results.toList 1 r os' x s') (ou ps [o]):=by have:=h ps o hd;rw[←acQ]at this;exact this
  obtain⟨x,s',h1,r,os',h2,h3⟩:=wK (mixed:=true) (fun _=>hm) c _ _ hc h';have hz:∃r,Z ps [o] r:=⟨(r,os'),o,rfl,hd,h2,x,s',h1,h3⟩;have he:Φ ps [o]=some (Classical.choose hz):=by simp only[Φ];rw[dif_pos hz]
  obtain⟨o1,e1,_,e3,_⟩:=hΦ ps [o] _ he;cases e1;exact⟨(Classical.choose hz).1,(Classical.choose hz).2,he,e3⟩
end
def akw (T:Nat) (Φ:dP) (B c:Int) {α:Type} (E:Nat→α→PV) (O:α→aH) (D:Int→Prop) (R:Int→α→Prop):Prop:=
 ∀code p n,oU code p→p≤B→D n→∃a p',Φ [.own 0 2 0 0,.val (.int .i64 n)] [rdC T code p]=some (E 1 a,[rdC T code p',O a])∧R n a∧oU code p'∧p≤p'∧p'≤p+c
theorem akg {P:Program} {Γ:Ctx} (hm:P.follows .mixedOrders=true) {f:Nat} {fn:Func} {C:Code} (hΓ:ak P Γ) (hf:P.funcs[f]?=some fn) (hb:fn.body=some C) (N:Nat) (hN:fn.ntmps=N) (rs:List ResultVar) (hrs:fn.results.toList=rs) (hc:codeOk Γ true N C=true) (hN1:2≤N)
 (T:Nat) (B c:Int) {α:Type} (E:Nat→α→PV) (O:α→aH) (D:Int→Prop) (R:Int→α→Prop)
 (h:∀code p n,oU code p→p≤B→D n→pq P Γ N C (fun x s'=>∃a p',R n a∧oU code p'∧p≤p'∧p'≤p+c∧gY P rs 1 (E 1 a) [rdC T code p',O a] x s') (bY [.own 0 2 0 0,.val (.int .i64 n)]).tm (lo [(0,rdC T code p)]) 1):
 ∃Φ:dP,bO P f Φ∧akw T Φ B c E O D R:=by
 obtain⟨Φ,h1,h2⟩:=zf hm hΓ hf hb N hN rs hrs hc
  (fun ps o=>∃code p n,ps=[.own 0 2 0 0,.val (.int .i64 n)]∧o=rdC T code p∧oU code p∧p≤B∧D n)
  (fun ps o r os'=>∃code p n a p',ps=[.own 0 2 0 0,.val (.int .i64 n)]∧o=rdC T code p∧r=E 1 a∧os'=[rdC T code p',O a]∧R n a∧oU code p'∧p≤p'∧p'≤p+c)
  (fun ps o ⟨code,p,n,e,_⟩=>by rw[e];exact hN1) (fun ps o ⟨code,p,n,e1,e2,h3,h4,h5⟩=>by subst e1 e2;refine sW (fun x s' hx=>?_) _ _ (h code p n h3 h4 h5);obtain⟨a,p',k1,k2,k3,k4,k5⟩:=hx;exact⟨E 1 a,[rdC T code p',O a],⟨code,p,n,a,p',rfl,rfl,rfl,rfl,k1,k2,k3,k4⟩,k5⟩)
 refine⟨Φ,h1,fun code p n h3 h4 h5=>?_⟩;obtain⟨r,os',e,code',p1,n1,a,p',e0,e1,rfl,rfl,k1,k2,k3,k4⟩:=h2 _ _ ⟨code,p,n,rfl,rfl,h3,h4,h5⟩;obtain⟨rfl,rfl⟩:=agx e1;have:n=n1:=by simpa using e0
 subst this;exact⟨a,p',e,k1,k2,k3,k4⟩
theorem atC {o:Nat} (h:0<o):inn [0,o] o=some 1:=by
 have h0:¬(0:Nat)=o:=by omega
 have h1:(0==o)=false:=by simpa using h0
 simp[inn,List.idxOf_cons,h1]
theorem ahm {o nx:Nat}:vg [o] nx 1=some nx:=by simp[vg,nJ]
theorem aeY {out:List Nat} {ob:bD} {l:List PV}:l.mapM (bU out ob fuel)=l.mapM (bU out ob 8):=rfl
attribute[push_cast]
 aeY atC ahm
section
variable {P:Program} {Γ:Ctx} {imm:Md} {N:Nat} {gs:List (Option Nat)} {l:List Oper} {Q:AS→Prop} {tm:Nat→PV} {ob:bD} {nx T:Nat} {Φ:dP} {B c:Int} {α:Type} {E:Nat→α→PV} {O:α→aH}
theorem auK {o:Nat} {code:List Int} {p p':Int} {a:α} {qs:List PV} (hE:eu (vg [o] nx) fuel (E 1 a)=some (E nx a)) (hO:(O a).2.2.mapM (eu (vg [o] nx) fuel)=some (O a).2.2)
 (ho:ob o=some (rdC T code p)) (h:Φ qs [rdC T code p]=some (E 1 a,[rdC T code p',O a])):aaI Φ ob nx o qs (ob o)=some (E nx a,upd (upd ob o (some (rdC T code p'))) nx (some (O a)),nx+1):=by
 have h1:∀(nm:Nat→Option Nat) (q:Int),[PV.agg [.lst false 1 (code.map fun n=>PV.val (.int .u8 n)),.val (.int .i64 q)]].mapM (eu nm fuel)=some [PV.agg [.lst false 1 (code.map fun n=>PV.val (.int .u8 n)),.val (.int .i64 q)]]:=fun nm q=>by simp only[jv,lu,yG,mapM_cons',mapM_nil',nY,rG,Option.bind_some,Option.map_some]
 rw[ho,o7,h1,Option.bind_some,h];unfold ioR;simp only[hE,mapM_cons',mapM_nil',ada,h1,hO,Option.map_some,Option.bind_some];have e:O a=((O a).1,(O a).2.1,(O a).2.2):=rfl;simp only[List.length_cons,List.length_nil,Nat.zero_add,Nat.reduceAdd,Nat.reduceSub,Option.some.injEq,Prod.mk.injEq,true_and,and_true];show jM ob [(nJ [o] nx 0,_),(nJ [o] nx 1,_)]=_;simp only[jM,nJ,List.length_cons,List.length_nil,Nat.zero_add,Nat.lt_one_iff,if_true,Nat.one_ne_zero,if_false,Nat.sub_self,Nat.add_zero,List.getD_cons_zero]
theorem acB {D:Int→Prop} {R:Int→α→Prop} (hd:akw T Φ B c E O D R) (hE:∀o nx a,eu (vg [o] nx) fuel (E 1 a)=some (E nx a)) (hO:∀nm a,(O a).2.2.mapM (eu nm fuel)=some (O a).2.2) {d f ty o:Nat} {x y:Operand} {ts:Array TypeId} {pos:String} {af:Array Edge} {code:List Int} {p n:Int} (hio:Γ.io f=some Φ) (hx:look tm x=.own o 2 0 0) (hy:look tm y=.val (.int .i64 n)) (ho:ob o=some (rdC T code p)) (hok:oU code p) (hB:p≤B) (hD:D n)
 (he:kQ Γ imm nx (look tm) (.call {callee:=.value (.func f),args:=#[x,y],argTypes:=ts})=true)
 (hk:∀a p',R n a→oU code p'→p≤p'→p'≤p+c→wq P Γ imm gs l Q (upd tm d (E nx a)) (upd (upd ob o (some (rdC T code p'))) nx (some (O a))) (nx+1)):
 wq P Γ imm gs ({dst:=some d,op:=.call {callee:=.value (.func f),args:=#[x,y],argTypes:=ts},type:=ty,pos:=pos,after:=af,guard:=none}::l) Q tm ob nx:=by
 obtain⟨a,p',h1,h2,h3,h4,h5⟩:=hd code p n hok hB hD;refine i_E (by simp[eT,l8,hio]) he ?_ (hk a p' h2 h3 h4 h5);rw[abB,hio,uq];show acj Φ ob nx [look tm x,look tm y]=_;rw[hx,hy,aqL];exact auK (hE o nx a) (hO _ a) ho h1
theorem aoO {rs:List ResultVar} {r:PV} {c1 c2:aH} {x:X} (o:Nat) (h0:0<o) (hx:x=.normal∨x=.ret) (h1:((fF P ⟨tm,ob,nx⟩ rs).bind fun qs=>bU [0,o] ob fuel (gL qs))=some r) (h2:kg [0,o] ob fuel 0=some c1) (h3:kg [0,o] ob fuel o=some c2):gY P rs 1 r [c1,c2] x ⟨tm,ob,nx⟩:=
 ⟨hx,[o],fun b hb=>by simp only[List.mem_singleton]at hb;omega,by simp,h1,by show [0,o].mapM (kg [0,o] ob fuel)=some [c1,c2];rw[mapM_cons',h2,Option.bind_some,mapM_cons',h3,Option.bind_some,mapM_nil'];rfl⟩
theorem acf {rs:List ResultVar} {R:α→Prop} {code:List Int} {p:Int} {a:α} {p':Int} {x:X} (o:Nat) (h0:0<o) (hx:x=.normal∨x=.ret)
 (h5:kg [0,o] ob fuel o=some (O a)) (h4:kg [0,o] ob fuel 0=some (rdC T code p')) (h3:((fF P ⟨tm,ob,nx⟩ rs).bind fun qs=>bU [0,o] ob fuel (gL qs))=some (E 1 a)) (hR:R a) (ho:oU code p') (h1:p≤p') (h2:p'≤p+c):
 ∃a p',R a∧oU code p'∧p≤p'∧p'≤p+c∧gY P rs 1 (E 1 a) [rdC T code p',O a] x ⟨tm,ob,nx⟩:=⟨a,p',hR,ho,h1,h2,aoO o h0 hx h3 h4 h5⟩
end
abbrev alX:=List PV→Option (PV×List aH)
def sK (P:Program) (f:Nat) (Ψ:alX):Prop:=bO P f fun ps cs=>if cs=[]then Ψ ps else none
def oq (nm:Nat→Nat):Nat→PV→Option PV
 |0,_=>none
 |n+1,p=>match p with
  | .val v=>some (.val v)
  | .dead=>some .dead
  | .lst k sz es=>if k=false∧es≠[]then none else(es.mapM (oq nm n)).map (.lst k sz)
  | .ptr k e o=>if k=false then none else(oq nm n e).map (.ptr k · o)
  | .own o sz i f=>some (.own (nm o) sz i f)
  | .row o sz i m=>some (.row (nm o) sz i m)
  | .agg cs=>(cs.mapM (oq nm n)).map .agg
  | .tup cs=>(cs.mapM (oq nm n)).map .tup
theorem Rep.oq {nm:Nat→Nat} {g g':Gh} {w:World} (hI:∀b,g.I true b→g'.I true b) (ho:∀o,g.D o→g'.β (nm o)=g.β o∧g'.κ (nm o)=g.κ o∧g'.D (nm o)):
 ∀(f:Nat) (p q:PV) (v:Value),Rep g w p v→Proofs.YtmmafcjjlbgnkaaGreatDoor.oq nm f p=some q→Rep g' w q v
 |0,p,q,v,h,hr=>by simp[Proofs.YtmmafcjjlbgnkaaGreatDoor.oq]at hr
 |f+1,p,q,v,h,hr=>by
  cases p with
  |val u=>simp only[Proofs.YtmmafcjjlbgnkaaGreatDoor.oq,Option.some.injEq]at hr;subst hr;simpa [Rep]using h
  |dead=>simp only[Proofs.YtmmafcjjlbgnkaaGreatDoor.oq,Option.some.injEq]at hr;subst hr;simp[Rep]
  |lst k sz es=>
   simp only[Proofs.YtmmafcjjlbgnkaaGreatDoor.oq]at hr;split at hr
   ·cases hr
   ·rename_i hk
    simp only[Option.map_eq_some_iff]at hr;obtain⟨es',h1,rfl⟩:=hr;have hl:=(bR h1).1;simp only[Rep]at h⊢;obtain⟨a,cap,rfl,h2,h3,h4⟩:=h;refine⟨a,cap,by rw[hl],by omega,h3,?_⟩;rcases h4 with rfl|⟨b,off,rfl,h5,h6⟩
    ·left;exact List.eq_nil_of_length_eq_zero (by simpa using hl)
    ·by_cases hnil:es=[]
     ·left;subst hnil;exact List.eq_nil_of_length_eq_zero (by simpa using hl)
     ·right
      cases k with
      |false=>simp[hnil]at hk
      |true=>exact⟨b,off,rfl,hI _ h5,bM.conv (g:=g) (g':=g') (Rep.oq hI ho f) h6 h1⟩
  |ptr k e o=>
   simp only[Proofs.YtmmafcjjlbgnkaaGreatDoor.oq]at hr;split at hr
   ·cases hr
   ·rename_i hk
    simp only[Option.map_eq_some_iff]at hr;obtain⟨e',h1,rfl⟩:=hr;simp only[Rep]at h⊢;obtain⟨b,off,rfl,h2,u,h3,h4⟩:=h;cases k with
    |false=>simp at hk
    |true=>exact⟨b,off,rfl,hI _ h2,u,Rep.oq hI ho f e e' u h3 h1,h4⟩
  |own o sz i f'=>simp only[Proofs.YtmmafcjjlbgnkaaGreatDoor.oq,Option.some.injEq]at hr;subst hr;simp only[Rep]at h⊢;obtain⟨e1,_,e3⟩:=ho o h.2;exact⟨by rw[e1];exact h.1,e3⟩
  |row o sz i m=>simp only[Proofs.YtmmafcjjlbgnkaaGreatDoor.oq,Option.some.injEq]at hr;subst hr;simp only[Rep]at h⊢;obtain⟨c,h1,h2,h3,h4,h5⟩:=h;obtain⟨e1,e2,e3⟩:=ho o h5;exact⟨c,by rw[e1];exact h1,h2,h3,by rw[e2];exact h4,e3⟩
  |agg cs=>simp only[Proofs.YtmmafcjjlbgnkaaGreatDoor.oq,Option.map_eq_some_iff]at hr;obtain⟨cs',h1,rfl⟩:=hr;simp only[Rep]at h⊢;obtain⟨vs,rfl,h2⟩:=h;exact⟨vs,rfl,bX.conv (g:=g) (g':=g') (Rep.oq hI ho f) h2 h1⟩
  |tup cs=>simp only[Proofs.YtmmafcjjlbgnkaaGreatDoor.oq,Option.map_eq_some_iff]at hr;obtain⟨cs',h1,rfl⟩:=hr;simp only[Rep]at h⊢;obtain⟨vs,rfl,h2⟩:=h;exact⟨vs,rfl,bX.conv (g:=g) (g':=g') (Rep.oq hI ho f) h2 h1⟩
def af0 (nm:Nat→Nat) (f:Nat) (c:aH):Option aH:=(c.2.2.mapM (oq nm f)).map fun es=>(c.1,c.2.1,es)
def ach (Ψ:alX):Fun:=fun ps=>(Ψ ps).bind fun rc=>reify true 0 (fun o=>rc.2[o]?) fuel rc.1
theorem sK.pure {P:Program} {f:Nat} {Ψ:alX} (h:sK P f Ψ):Sound P f (ach Ψ):=by
 intro w J ps args r hr hJ hT hargs;unfold ach at hr;simp only[Option.bind_eq_some_iff]at hr;obtain⟨⟨r0,cs0⟩,h2,h3⟩:=hr;dsimp only at h3
 let J':Bool→Nat→Prop:=fun k b=>k=false∧J b
 have hO':wz J' w (fun _=>0) (fun _=>0) []:=⟨fun o ho=>by simp at ho,fun o o' ho=>by simp at ho,fun o c ho=>by simp at ho⟩;refine(h w J' (fun _=>0) (fun _=>0) ps [] args r0 cs0 (by simpa using h2) (fun k b hb=>hJ b hb.2) hO' (hT.io fun t _ ⟨o,ho,_⟩=>by simp at ho) hargs).mono ?_;rintro e w' ⟨v,β',κ',M,rfl,hfr,_,_,hnew,hM,hO2,hrep⟩;refine⟨v,rfl,⟨hfr.os,hfr.tape,hfr.output,hfr.size,fun b hb=>hfr.block b hb (fun⟨o,ho,_⟩=>by simp at ho)⟩,fun g' hg=>?_⟩;refine Rep.seen (fr:=true) (n:=0) (s:=ou ps cs0) (g:=l7 (addN J' M) β' κ' cs0.length) (g':=g') (fun o c ho=>hO2.at_ o c ho) ⟨fun e=>(by cases e),fun _=>⟨fun b hb=>?_,fun o ho _=>?_⟩⟩ fuel _ _ _ hrep h3
 ·rcases hb with⟨h6,_⟩|⟨_,h6⟩
  ·cases h6
  ·exact hg b (hM b h6).1 (hM b h6).2
 ·obtain⟨c,hc⟩:=Option.isSome_iff_exists.1 ho
  have hlt:=(List.getElem?_eq_some_iff.1 hc).1;exact hg _ (hnew o (Nat.zero_le _) hlt) (hO2.lt o hlt).1
section
variable {P:Program} {Γ:Ctx}
theorem aat (hm:P.follows .mixedOrders=true) {f:Nat} {fn:Func} {c:Code} {Ψ:alX} (hΓ:ak P Γ) (hf:P.funcs[f]?=some fn) (hb:fn.body=some c) (N:Nat) (hN:fn.ntmps=N) (rs:List ResultVar) (hrs:fn.results.toList=rs) (hc:codeOk Γ true N c=true)
 (h:∀ps r cs',Ψ ps=some (r,cs')→ps.length≤N∧pq P Γ N c (gY P rs 0 r cs') (bY ps).tm lV 0):sK P f Ψ:=by
 refine zO hm hΓ hf hb N hN rs hrs hc fun ps cs r cs' hr=>?_;split at hr
 ·rename_i hcs
  exact⟨hcs,h ps r cs' hr⟩
 ·cases hr
end
section
variable {α β γ δ ρ:Type} {A:Dec α} {B:Dec β} {C:Dec γ} {D:Dec δ} {ps:List PV} {r:ρ}
def G1 (A:Dec α) (F:α→Option ρ) (ps:List PV):Option ρ:=match ps with|[p]=>(A.d p).bind F|_=>none
def G4 (A:Dec α) (B:Dec β) (C:Dec γ) (D:Dec δ) (F:α→β→γ→δ→Option ρ) (ps:List PV):Option ρ:=match ps with|[p,q,r,s]=>(A.d p).bind fun a=>(B.d q).bind fun b=>(C.d r).bind fun c=>(D.d s).bind fun d=>F a b c d|_=>none
theorem aqh {F:α→Option ρ} (h:G1 A F ps=some r):∃a,ps=[A.e a]∧F a=some r:=by
 unfold G1 at h;split at h
 ·rw[Option.bind_eq_some_iff]at h
  obtain⟨a,h1,h2⟩:=h;exact⟨a,by rw[A.h _ _ h1],h2⟩
 ·cases h
theorem acD {F:α→β→γ→δ→Option ρ} (h:G4 A B C D F ps=some r):∃a b c d,ps=[A.e a,B.e b,C.e c,D.e d]∧F a b c d=some r:=by
 unfold G4 at h;split at h
 ·simp only[Option.bind_eq_some_iff]at h
  obtain⟨a,h1,b,h2,c,h3,d,h4,h5⟩:=h;exact⟨a,b,c,d,by rw[A.h _ _ h1,B.h _ _ h2,C.h _ _ h3,D.h _ _ h4],h5⟩
 ·cases h
theorem au3 {F:α→Option ρ} (a:α):G1 A F [A.e a]=F a:=by simp[G1,A.h']
theorem aqu {F:α→β→γ→δ→Option ρ} (a:α) (b:β) (c:γ) (d:δ):G4 A B C D F [A.e a,B.e b,C.e c,D.e d]=F a b c d:=by simp[G4,A.h',B.h',C.h',D.h']
end
def nC (T sz:Nat) (es:List PV):List aH:=match es with|[]=>[]|_::_=>[(T,sz,es)]
theorem amO {T sz:Nat}:nC T sz []=[]:=rfl
theorem am6 {T sz:Nat} {es:List PV} (h:0<es.length):nC T sz es=[(T,sz,es)]:=by
 cases es with
 |nil=>simp at h
 |cons e es=>rfl
section
variable {Ψ:alX} {α:Type} {g:α→Value} {l:List α} {T sz:Nat}
theorem nT {ps:List PV} {cs0:List aH} {r r1:PV} (h2:Ψ ps=some (r,cs0)) (h3:reify true 0 (fun o=>cs0[o]?) fuel r=some r1):ach Ψ ps=some r1:=by unfold ach;rw[h2,Option.bind_some,h3]
theorem aaD {nm:Nat→Nat}:∀{f:Nat} {p:PV},eX f p=true→oq nm f p=some p
 |0,_,h=>by simp[eX]at h
 |f+1,p,h=>by
  cases p with
  |val v=>rfl
  |dead=>rfl
  |agg cs=>
   have h2:∀c∈cs,eX f c=true:=by simpa [eX]using h
   simp only[Proofs.YtmmafcjjlbgnkaaGreatDoor.oq];rw[d9 fun c hc=>aaD (h2 c hc)];rfl
  |_=>simp[eX]at h
theorem aeS {β:Type} {nm:Nat→Nat} {f:Nat} {g:β→PV} {l:List β} (h:∀x,eX 2 (g x)=true):(l.map g).mapM (oq nm (f+2))=some (l.map g):=
 d9 fun e he=>by obtain⟨x,_,rfl⟩:=List.mem_map.1 he;exact aaD (jS (by omega) (h x))
theorem aew {nm:Nat→Nat}:af0 nm fuel (T,sz,l.map fun x=>PV.val (g x))=some (T,sz,l.map fun x=>PV.val (g x)):=by unfold af0;show((l.map fun x=>PV.val (g x)).mapM (oq nm (6+2))).map _=_;rw[aeS fun _=>rfl];rfl
end
theorem ag3 {nm:Nat→Option Nat} {l:List PV}:l.mapM (eu nm fuel)=l.mapM (eu nm 8):=rfl
attribute[push_cast]
 ag3
section
set_option linter.unusedVariables false
def inB (n a b:Int):Bool:=decide (a≤n)&&decide (n≤b)
theorem av {n a b:Int}:inB n a b=true↔a≤n∧n≤b:=by simp[inB]
theorem abQ {a w:World} {o:Obj} (h:Below a.heap.size a w):Below a.heap.size a (w.alloc o):=h.alloc h.size o
end
def GE:Ctx:={fn:=aY [],io:=aY []}
theorem bJ:ak Tryz.prog GE:=okΓ aj aj
def φIn:Fun:=F3 dI dI dI fun n a b=>some (bv (inB n a b))
theorem bK (n a b:Int):φIn [.val (.int .i64 n),.val (.int .i64 a),.val (.int .i64 b)]=some (.val (.bool (inB n a b))):=rfl
theorem iy:Sound Tryz.prog 34 φIn:=by
 refine au mixed bJ Tryz.func34 rfl 15 rfl [.tmp 6] rfl (by kernel_rfl) fun ps r hr=>?_;obtain⟨n,a,b,rfl,hr⟩:=acF hr;cases hr;refine⟨by simp,?_⟩;simp only[dIs,dUs,dSs,dz,dF,dx,dG,aR,dD,aU,aV,aS,aT];(refine wlkX6 ?_ ?_ ?_ ?_ ?_ ?_<;>intros<;>try with_reducible exact trivial);all_goals(refine fnG ?_;try with_reducible exact trivial)
 all_goals(first|(simp_all [inB];done)|(simp_all [inB];omega))
theorem oH:Sound Tryz.prog 64 φIn:=by
 refine au mixed bJ Tryz.func64 rfl 15 rfl [.tmp 6] rfl (by kernel_rfl) fun ps r hr=>?_;obtain⟨n,a,b,rfl,hr⟩:=acF hr;cases hr;refine⟨by simp,?_⟩;simp only[dIs,dUs,dSs,dz,dF,dx,dG,aR,dD,aU,aV,aS,aT];(refine wlkX6 ?_ ?_ ?_ ?_ ?_ ?_<;>intros<;>try with_reducible exact trivial);all_goals(refine fnG ?_;try with_reducible exact trivial)
 all_goals(first|(simp_all [inB];done)|(simp_all [inB];omega))
def dM (s:ByteArray):Bool:=(List.range s.size).all (fun k=>inB (at8 s k) 97 122)&&inB s.size 1 20
theorem adh {s:ByteArray} {k:Nat} (h:k<s.size) (hb:¬(97≤at8 s k∧at8 s k≤122)):dM s=false:=by
 unfold dM;have:(List.range s.size).all (fun k=>inB (at8 s k) 97 122)=false:=by rw[List.all_eq_false];exact⟨k,List.mem_range.2 h,by rw[av];exact hb⟩
 rw[this];rfl
theorem rO {s:ByteArray} (h:∀j,j<s.size→97≤at8 s j∧at8 s j≤122):dM s=inB s.size 1 20:=by
 unfold dM;have:(List.range s.size).all (fun k=>inB (at8 s k) 97 122)=true:=by rw[List.all_eq_true];intro k hk;exact av.2 (h k (List.mem_range.1 hk))
 rw[this];rfl
def gP:Fun:=F1 dS fun s=>if s.size≤1099511627776 then some (bv (dM s))else none
theorem iH {s:ByteArray} (h:s.size≤1099511627776):gP [.val (.string s)]=some (.val (.bool (dM s))):=
 (gu (A:=dS) s).trans (if_pos h)
def kW:Fun:=F1 dU fun n=>some (bv (inB n 97 122))
theorem pR (n:Int):kW [.val (.int .u8 n)]=some (.val (.bool (inB n 97 122))):=rfl
theorem pX:Sound Tryz.prog 111 kW:=by
 refine au mixed bJ Tryz.func111 rfl 9 rfl [.tmp 2] rfl (by kernel_rfl) fun ps r hr=>?_;obtain⟨n,rfl,hr⟩:=bQ hr;cases hr;refine⟨by simp,?_⟩;simp only[dIs,dUs,dSs,dz,dF,dx,dG,aR,dD,aU,aV,aS,aT];(refine wlkX6 ?_ ?_ ?_ ?_ ?_ ?_<;>intros<;>try with_reducible exact trivial);all_goals(refine fnG ?_;try with_reducible exact trivial)
 all_goals(first|(simp_all [inB];done)|(simp_all [inB];omega))
def GWv:Ctx:={fn:=aY [(111,kW),(64,φIn)],io:=aY []}
theorem awr:ak Tryz.prog GWv:=okΓ (fC Tryz.func111 pX (fC Tryz.func64 oH aj)) aj
def aq3:=ah (Γ:=GWv) (f:=111) (φ:=kW) rfl
def atI:=ah (Γ:=GWv) (f:=64) (φ:=φIn) rfl
theorem gy:Sound Tryz.prog 81 gP:=by
 refine au mixed awr Tryz.func81 rfl 18 rfl [.tmp 2] rfl (by kernel_rfl) fun ps r hr=>?_;obtain⟨s,rfl,hq⟩:=bQ hr;clear hr;split at hq
 case isFalse=>cases hq
 case isTrue hlen=>
 cases hq;refine⟨by simp,?_⟩;simp only[dIs,dUs,dSs,dz,dF,dx,dG,aR,dD,aU,aV,aS,aT];have gwv_c111:=aq3;have gwv_c64:=atI;have ap:=pR;have ap2:=bK;(refine wlkX6 ?_ ?_ ?_ ?_ ?_ ?_<;>intros<;>try with_reducible exact trivial);refine aG (α:=Nat) mixed (fun k=>[(0,sv s),(5,iv s.size),(6,iv k)]) (fun _=>[]) (fun _=>0)
  (fun k=>k≤s.size∧∀j,j<k→97≤at8 s j∧at8 s j≤122) (fun k=>s.size-k) (by kernel_rfl) 0 ⟨Nat.zero_le _,fun j hj=>by omega⟩ ?_ trivial rfl ?_
 ·simp only[push_cast,↓reduceIte,Nat.reduceEqDiff,Nat.reduceBEq,Nat.reduceAdd,Nat.reduceSub,Int.reduceToNat]
 ·intro k ⟨hk,hok⟩
  have hrk:=iN s k;(refine wlkX6 ?_ ?_ ?_ ?_ ?_ ?_<;>intros<;>try with_reducible exact trivial);all_goals try(refine fnG ?_;try with_reducible exact trivial)
  ·rw[adh (s:=s) (k:=k) (by omega) (by(simp_all [inB];try omega))]
  ·refine⟨k+1,⟨by omega,fun j hj=>?_⟩,by dsimp only;omega,by simp only[push_cast,↓reduceIte,Nat.reduceEqDiff,Nat.reduceBEq,Nat.reduceAdd,Nat.reduceSub,Int.reduceToNat],trivial,rfl⟩
   by_cases h1:j<k
   ·exact hok j h1
   ·have:j=k:=by omega
    subst this;simp_all [inB]
  ·rw[rO fun j hj=>hok j (by omega)]
def GWs:Ctx:={fn:=aY [(34,φIn)],io:=aY []}
theorem auG:ak Tryz.prog GWs:=okΓ (fC Tryz.func34 iy aj) aj
def awL:=ah (Γ:=GWs) (f:=34) (φ:=φIn) rfl
theorem gD:Sound Tryz.prog 68 gP:=by
 refine au mixed auG Tryz.func68 rfl 23 rfl [.tmp 2] rfl (by kernel_rfl) fun ps r hr=>?_;obtain⟨s,rfl,hq⟩:=bQ hr;clear hr;split at hq
 case isFalse=>cases hq
 case isTrue hlen=>
 cases hq;refine⟨by simp,?_⟩;simp only[dIs,dUs,dSs,dz,dF,dx,dG,aR,dD,aU,aV,aS,aT];have gws_c34:=awL;have ap2:=bK;(refine wlkX ?_;intros);refine aG (α:=Nat) mixed (fun k=>[(0,sv s),(3,iv k)]) (fun _=>[]) (fun _=>0)
  (fun k=>k≤s.size∧∀j,j<k→97≤at8 s j∧at8 s j≤122) (fun k=>s.size-k) (by kernel_rfl) 0 ⟨Nat.zero_le _,fun j hj=>by omega⟩ ?_ trivial rfl ?_
 ·simp only[push_cast,↓reduceIte,Nat.reduceEqDiff,Nat.reduceBEq,Nat.reduceAdd,Nat.reduceSub,Int.reduceToNat]
 ·intro k ⟨hk,hok⟩
  have hrk:=iN s k;(refine wlkX6 ?_ ?_ ?_ ?_ ?_ ?_<;>intros<;>try with_reducible exact trivial);all_goals try(refine fnG ?_;try with_reducible exact trivial)
  all_goals try(rw[adh (s:=s) (k:=k) (by omega) (by omega)];done)
  all_goals try(rw[rO fun j hj=>hok j (by omega)];done)
  all_goals
   refine⟨k+1,⟨by omega,fun j hj=>?_⟩,by dsimp only;omega,by simp only[push_cast,↓reduceIte,Nat.reduceEqDiff,Nat.reduceBEq,Nat.reduceAdd,Nat.reduceSub,Int.reduceToNat],trivial,rfl⟩;by_cases h1:j<k
   ·exact hok j h1
   ·have:j=k:=by omega
    subst this;simp_all;try omega
def azj (x:W2):Bool:= !dM x.1|| !inB x.2 1 999
def indexB (l:List W2):Bool:=decide (l.length≤30)&& !l.any azj
abbrev LS:=List ByteArray
abbrev dSS:Dec (List LS):=dL 1 dSs
section
variable {α β:Type} {n sz sz' f i:Nat} {ob:bD} {k k' fr:Bool} {l:List LS}
theorem asw {g:LS→β} (h:i<l.length):Option.map g l[i]?=some (g ((l[i]?).getD [])):=by simp[h]
theorem jR {F:PV→Option PV} {g g':α→PV} (h:∀x,F (g x)=some (g' x)):∀{l:List α},(l.map g).mapM F=some (l.map g')
 |[]=>rfl
 |x::l=>by rw[List.map_cons,List.mapM_cons,h x,jR h];rfl
theorem aff {m:Nat} {p:LS}:reify false m ob (f+2) (.lst k sz (p.map fun s=> .val (.string s)))=some (.lst false sz (p.map fun s=> .val (.string s))):=nA
theorem rX {m:Nat} {p:LS}:reify fr m ob (f+2) (.lst true sz (p.map fun s=> .val (.string s)))=some (.lst fr sz (p.map fun s=> .val (.string s))):=by
 cases fr
 ·exact nA
 ·exact uf
theorem abE:reify false n ob (f+3) (.lst k sz (l.map fun p=> .lst k' sz' (p.map fun s=> .val (.string s))))=some (.lst false sz (l.map fun p=> .lst false sz' (p.map fun s=> .val (.string s)))):=by show(if false=true∧k=false∧(l.map fun p=>PV.lst k' sz' (p.map fun s=>PV.val (.string s)))≠[]then none else((l.map fun p=>PV.lst k' sz' (p.map fun s=>PV.val (.string s))).mapM (reify false n ob (f+2))).map (PV.lst false sz))=_;rw[jR (g':=fun p=>PV.lst false sz' (p.map fun s=>PV.val (.string s))) fun p=>aff];simp
theorem abx:reify true n ob (f+3) (.lst true sz (l.map fun p=> .lst true sz' (p.map fun s=> .val (.string s))))=some (.lst true sz (l.map fun p=> .lst true sz' (p.map fun s=> .val (.string s)))):=by show(if true=true∧true=false∧(l.map fun p=>PV.lst true sz' (p.map fun s=>PV.val (.string s)))≠[]then none else((l.map fun p=>PV.lst true sz' (p.map fun s=>PV.val (.string s))).mapM (reify true n ob (f+2))).map (PV.lst true sz))=_;rw[jR (g':=fun p=>PV.lst true sz' (p.map fun s=>PV.val (.string s))) fun p=>rX];simp
theorem ae3 {m T:Nat} (hm:m=l.length):qH fr (f+2) ob sz 0 m (some (T,sz,l.map fun p=> .lst true sz' (p.map fun s=> .val (.string s))))=some (.lst fr sz (l.map fun p=> .lst fr sz' (p.map fun s=> .val (.string s)))):=by
 subst hm;have e:((l.map fun p=>PV.lst true sz' (p.map fun s=>PV.val (.string s))).drop 0).take l.length=l.map fun p=>PV.lst true sz' (p.map fun s=>PV.val (.string s)):=by rw[List.drop_zero,List.take_of_length_le (by simp)]
 have e2:=jR (l:=l) (F:=reify fr 0 ob (f+2)) (g:=fun p=>PV.lst true sz' (p.map fun s=>PV.val (.string s))) (g':=fun p=>PV.lst fr sz' (p.map fun s=>PV.val (.string s))) fun p=>rX;simp only[qH,e,e2,Nat.zero_add,List.length_map,Nat.le_refl,and_self,if_true,Option.map_some]
end
attribute[push_cast]
 asw abE abx ae3
abbrev oo (l:LS):Prop:=l.length≤1048576∧∀i:Nat,(l[i]?.getD .empty).size≤1048576
instance (l:LS):Decidable (oo l):=Classical.propDecidable _
theorem jy {α:Type} {d:α} {p:α→Bool} {l:List α} {k:Nat} (h:k<l.length) (hb:p (l[k]?.getD d)=false):l.all p=false:=by rw[List.all_eq_false];exact⟨l[k],List.getElem_mem h,by simp[h]at hb;simp[hb]⟩
theorem gB {α:Type} {d:α} {p:α→Bool} {l:List α} (h:∀j,j<l.length→p (l[j]?.getD d)=true):l.all p=true:=by rw[List.all_eq_true];intro x hx;obtain⟨j,hj,rfl⟩:=List.getElem_of_mem hx;simpa [hj]using h j hj
def sF (c:Int):Bool:=inB c 97 122
def ab9 (c:Int):Bool:=inB c 48 57
def ab7 (s:ByteArray) (k:Nat):Bool:=decide (0<k)&&ab9 (at8 s (k-1))
def vE (s:ByteArray) (k:Nat):Bool:=sF (at8 s k)||(ab9 (at8 s k)&& !ab7 s k)||(decide (at8 s k=46)&&(decide (k=0)||decide (k+1=s.size)))
def anyS (s:ByteArray) (k:Nat):Bool:=(List.range k).any fun j=>sF (at8 s j)
theorem zl (s:ByteArray) (k:Nat):anyS s (k+1)=(anyS s k||sF (at8 s k)):=by simp[anyS,List.range_succ,List.any_append]
def aaw (s:ByteArray):Bool:=(List.range s.size).all (vE s)&&(anyS s s.size&&decide (s.size≤12))
theorem agX {s:ByteArray} {k:Nat} (h:k<s.size) (hb:vE s k=false):aaw s=false:=by
 have:(List.range s.size).all (vE s)=false:=by rw[List.all_eq_false];exact⟨k,List.mem_range.2 h,by simp[hb]⟩
 simp[aaw,this]
theorem amx {s:ByteArray} (h:∀j,j<s.size→vE s j=true):aaw s=(anyS s s.size&&decide (s.size≤12)):=by
 have:(List.range s.size).all (vE s)=true:=by rw[List.all_eq_true];exact fun k hk=>h k (List.mem_range.1 hk)
 simp[aaw,this]
def xO:Fun:=F1 dS fun s=>if s.size≤1099511627776 then some (bv (aaw s))else none
theorem qU {s:ByteArray} (h:s.size≤1099511627776):xO [.val (.string s)]=some (.val (.bool (aaw s))):=
 (gu (A:=dS) s).trans (if_pos h)
theorem jT {s:ByteArray} {k:Nat}:vE s k=true↔(97≤at8 s k∧at8 s k≤122)∨(48≤at8 s k∧at8 s k≤57∧ab7 s k=false)∨(at8 s k=46∧(k=0∨k+1=s.size)):=by simp[vE,sF,ab9,inB,or_assoc,and_assoc]
theorem aeb {c:Int} (h:c<97∨122<c):sF c=false:=Bool.eq_false_iff.2 fun h2=>by have:=av.1 h2;omega
theorem anq {c:Int} (h:c<48∨57<c):ab9 c=false:=Bool.eq_false_iff.2 fun h2=>by have:=av.1 h2;omega
structure acS (s:ByteArray) (k:Nat) (n:Int):Prop where
 kk:k≤s.size
 n0:0≤n
 n1:n≤k
 all:∀j,j<k→vE s j=true
 any:decide (0<n)=anyS s k
theorem acS.zero (s:ByteArray):acS s 0 0:=⟨Nat.zero_le _,by omega,by omega,fun j hj=>by omega,rfl⟩
theorem acS.letter {s:ByteArray} {k:Nat} {n:Int} (h:acS s k n) (hk:k<s.size) (hs:sF (at8 s k)=true):acS s (k+1) (n+1):=
 ⟨by omega,by have:=h.n0;omega,by have:=h.n1;omega,fun j hj=>by
   by_cases h1:j<k
   ·exact h.all j h1
   ·have:j=k:=by omega
    subst this;simp[vE,hs],by
   rw[zl,hs,Bool.or_true];have:=h.n0;simp;omega⟩
theorem acS.other {s:ByteArray} {k:Nat} {n:Int} (h:acS s k n) (hk:k<s.size) (hp:vE s k=true) (hs:sF (at8 s k)=false):acS s (k+1) n:=
 ⟨by omega,h.n0,by have:=h.n1;omega,fun j hj=>by
   by_cases h1:j<k
   ·exact h.all j h1
   ·have:j=k:=by omega
    subst this;exact hp,by rw[zl,hs,Bool.or_false];exact h.any⟩
theorem acS.done {s:ByteArray} {k:Nat} {n:Int} (h:acS s k n) (hk:¬k<s.size):aaw s=(decide (0<n)&&decide (s.size≤12)):=by
 have hk2:=h.kk;have:k=s.size:=by omega
 subst this;rw[amx h.all,h.any]
theorem pQ (s:ByteArray) (k:Nat):ab7 s (k+1)=ab9 (at8 s k):=by simp[ab7]
theorem jg:Sound Tryz.prog 69 xO:=by
 refine au mixed bJ Tryz.func69 rfl 57 rfl [.tmp 2] rfl (by kernel_rfl) fun ps r hr=>?_;obtain⟨s,rfl,hq⟩:=bQ hr;clear hr;split at hq
 case isFalse=>cases hq
 case isTrue hlen=>
 cases hq;refine⟨by simp,?_⟩;simp only[dIs,dUs,dSs,dz,dF,dx,dG,aR,dD,aU,aV,aS,aT];(refine wlkX ?_;intros);refine aG (α:=Nat×Int) mixed (fun k=>[(0,sv s),(3,iv k.2),(4,bv (ab7 s k.1)),(5,iv k.1)]) (fun _=>[]) (fun _=>0)
  (fun k=>acS s k.1 k.2) (fun k=>s.size-k.1) (by kernel_rfl) (0,0) (acS.zero s) ?_ trivial rfl ?_
 ·simp only[push_cast,↓reduceIte,Nat.reduceEqDiff,Nat.reduceBEq,Nat.reduceAdd,Nat.reduceSub,Int.reduceToNat]
  rfl
 ·rintro⟨k,n⟩ hi
  dsimp only at hi;have hk:=hi.kk;have hn0:=hi.n0;have hn1:=hi.n1;have hrk:=iN s k;generalize hd:ab7 s k=d
  repeat' (first|(with_reducible first|apply fM|apply bF|apply cO|apply dn|apply fG|apply mJ|apply fK|apply fP|apply mH|apply fB|apply fE|apply mI|apply fO|apply fH|apply fJ)|((with_reducible apply bg);(simp only[List.map_cons,List.map_nil]<;>exact rfl))|((with_reducible apply dh);(simp only[List.map_cons,List.map_nil]<;>exact rfl);decide+kernel)|((with_reducible apply fI);rfl)|((first|((with_reducible apply i_V);rfl;rfl;rfl)|((first|((with_reducible apply i_E);rfl)|((with_reducible apply i_S);rfl));first|rfl|(simp only[push_cast,↓reduceIte]))|((with_reducible apply mM);rfl;rfl)|((with_reducible apply mE);rfl;rfl;rfl)|(with_reducible first|apply mG|apply cZ));(simp(disch:=(first|omega|(simp only[push_cast];first|done|omega))) only[push_cast,↓reduceIte,Nat.reduceEqDiff,Nat.reduceBEq,Nat.reduceAdd,Nat.reduceSub,Int.reduceToNat, *]<;>with_reducible exact rfl);all_goals try(first|(with_reducible first|refine hyT ?_|refine hyF ?_|exact hyA|exact hyB)|(intro hX;first|(cases hX;done)|((try simp only[decide_eq_true_eq,decide_eq_false_iff_not,Bool.not_eq_true',Bool.not_eq_false']at hX);(try have hXb:=av.1 hX))))))
  all_goals try(refine fnG ?_;try with_reducible exact trivial)
  all_goals try(exfalso;omega)
  all_goals(first
   |(rw[agX (k:=k) (by omega) (Bool.eq_false_iff.2 fun h=>by rcases jT.1 h with h|h|h<;>(first|omega|(simp_all;done)|(simp_all;omega)))];done)
   |exact⟨(k+1,n+1),hi.letter (by omega) (av.2 ⟨by omega,by omega⟩),by dsimp only;omega,by(have hdg:=@anq (at8 s k) (by omega);simp only[push_cast,↓reduceIte,Nat.reduceEqDiff,Nat.reduceBEq,Nat.reduceAdd,Nat.reduceSub,Int.reduceToNat,pQ,hdg]),trivial,rfl⟩
   |exact⟨(k+1,n),hi.other (by omega) (jT.2 (.inr (.inr ⟨by omega,by omega⟩))) (aeb (by omega)),by dsimp only;omega,by(have hdg:=@anq (at8 s k) (by omega);simp only[push_cast,↓reduceIte,Nat.reduceEqDiff,Nat.reduceBEq,Nat.reduceAdd,Nat.reduceSub,Int.reduceToNat,pQ,hdg];try exact congrArg (fun z=>PV.val (Value.int .i64 z)) (by omega)),trivial,rfl⟩
   |exact⟨(k+1,n),hi.other (by omega) (jT.2 (.inr (.inl ⟨by omega,by omega,by simp_all⟩))) (aeb (by omega)),by dsimp only;omega,by(have hdg:ab9 (at8 s k)=true:=av.2 ⟨by omega,by omega⟩;simp only[push_cast,↓reduceIte,Nat.reduceEqDiff,Nat.reduceBEq,Nat.reduceAdd,Nat.reduceSub,Int.reduceToNat,pQ,hdg]),trivial,rfl⟩
   |(rw[hi.done (by omega)];simp_all;done)
   |(rw[hi.done (by omega)];simp_all;omega))
def aeQ:Fun:=F1 dU fun n=>some (bv (inB n 48 57))
theorem aem (n:Int):aeQ [.val (.int .u8 n)]=some (.val (.bool (inB n 48 57))):=rfl
theorem wh:Sound Tryz.prog 135 aeQ:=by
 refine au mixed bJ Tryz.func135 rfl 9 rfl [.tmp 2] rfl (by kernel_rfl) fun ps r hr=>?_;obtain⟨n,rfl,hr⟩:=bQ hr;cases hr;refine⟨by simp,?_⟩;simp only[dIs,dUs,dSs,dz,dF,dx,dG,aR,dD,aU,aV,aS,aT];(refine wlkX6 ?_ ?_ ?_ ?_ ?_ ?_<;>intros<;>try with_reducible exact trivial);all_goals(refine fnG ?_;try with_reducible exact trivial)
 all_goals(first|(simp_all [inB];done)|(simp_all [inB];omega))
def GPt:Ctx:={fn:=aY [(111,kW),(135,aeQ)],io:=aY []}
theorem au6:ak Tryz.prog GPt:=okΓ (fC Tryz.func111 pX (fC Tryz.func135 wh aj)) aj
def apX:=ah (Γ:=GPt) (f:=111) (φ:=kW) rfl
def aoS:=ah (Γ:=GPt) (f:=135) (φ:=aeQ) rfl
theorem nu:Sound Tryz.prog 100 xO:=by
 refine au mixed au6 Tryz.func100 rfl 51 rfl [.tmp 2] rfl (by kernel_rfl) fun ps r hr=>?_;obtain⟨s,rfl,hq⟩:=bQ hr;clear hr;split at hq
 case isFalse=>cases hq
 case isTrue hlen=>
 cases hq;refine⟨by simp,?_⟩;simp only[dIs,dUs,dSs,dz,dF,dx,dG,aR,dD,aU,aV,aS,aT];have gpt_c111:=apX;have gpt_c135:=aoS;have ap:=pR;have ap2:=aem;(refine wlkX ?_;intros);refine aG (α:=Nat×Int) mixed (fun k=>[(0,sv s),(3,iv k.2),(7,iv s.size),(8,iv k.1)]) (fun _=>[]) (fun _=>0)
  (fun k=>acS s k.1 k.2) (fun k=>s.size-k.1) (by kernel_rfl) (0,0) (acS.zero s) ?_ trivial rfl ?_
 ·simp only[push_cast,↓reduceIte,Nat.reduceEqDiff,Nat.reduceBEq,Nat.reduceAdd,Nat.reduceSub,Int.reduceToNat]
 ·rintro⟨k,n⟩ hi
  dsimp only at hi;have hk:=hi.kk;have hn0:=hi.n0;have hn1:=hi.n1;have hrk:=iN s k;have hpd:ab7 s k=(decide (0<k)&&inB (at8 s (k-1)) 48 57):=rfl;have hsm:inB (at8 s k) 97 122=false→(at8 s k<97∨122<at8 s k):=fun h=>by
   by_cases hh:97≤at8 s k∧at8 s k≤122
   ·rw[av.2 hh]at h;cases h
   ·omega
  have hdgk:inB (at8 s k) 48 57=false→(at8 s k<48∨57<at8 s k):=fun h=>by
   by_cases hh:48≤at8 s k∧at8 s k≤57
   ·rw[av.2 hh]at h;cases h
   ·omega
  have hpd:=Lib.hid hpd;have hsm:=Lib.hid hsm;have hdgk:=Lib.hid hdgk
  repeat' (first|(with_reducible first|apply fM|apply bF|apply cO|apply dn|apply fG|apply mJ|apply fK|apply fP|apply mH|apply fB|apply fE|apply mI|apply fO|apply fH|apply fJ)|((with_reducible apply bg);(simp only[List.map_cons,List.map_nil]<;>exact rfl))|((with_reducible apply dh);(simp only[List.map_cons,List.map_nil]<;>exact rfl);decide+kernel)|((with_reducible apply fI);rfl)|((first|((with_reducible apply i_V);rfl;rfl;rfl)|((first|((with_reducible apply i_E);rfl)|((with_reducible apply i_S);rfl));first|rfl|(simp only[push_cast,↓reduceIte]))|((with_reducible apply mM);rfl;rfl)|((with_reducible apply mE);rfl;rfl;rfl)|(with_reducible first|apply mG|apply cZ));(simp(disch:=(first|omega|(simp only[push_cast];first|done|omega))) only[push_cast,↓reduceIte,Nat.reduceEqDiff,Nat.reduceBEq,Nat.reduceAdd,Nat.reduceSub,Int.reduceToNat, *]<;>with_reducible exact rfl);all_goals try(first|(with_reducible first|refine hyT ?_|refine hyF ?_|exact hyA|exact hyB)|(intro hX;first|(cases hX;done)|((try simp only[decide_eq_true_eq,decide_eq_false_iff_not,Bool.not_eq_true',Bool.not_eq_false']at hX);(try have hXb:=av.1 hX))))))
  all_goals try(refine fnG ?_;try with_reducible exact trivial)
  all_goals try(exfalso;omega)
  all_goals(have hpd1:=hpd.out;have hsm1:=hsm.out;have hdgk1:=hdgk.out)
  all_goals(first
   |(rw[agX (k:=k) (by omega) (Bool.eq_false_iff.2 fun h=>by rcases jT.1 h with h|h|h<;>(first|omega|(simp_all;done)|(simp_all;omega)))];done)
   |exact⟨(k+1,n+1),hi.letter (by omega) (by assumption),by dsimp only;omega,by simp only[push_cast,↓reduceIte,Nat.reduceEqDiff,Nat.reduceBEq,Nat.reduceAdd,Nat.reduceSub,Int.reduceToNat],trivial,rfl⟩
   |exact⟨(k+1,n),hi.other (by omega) (jT.2 (.inr (.inr ⟨by omega,by omega⟩))) (by assumption),by dsimp only;omega,by(simp only[push_cast,↓reduceIte,Nat.reduceEqDiff,Nat.reduceBEq,Nat.reduceAdd,Nat.reduceSub,Int.reduceToNat];try exact congrArg (fun z=>PV.val (Value.int .i64 z)) (by omega)),trivial,rfl⟩
   |exact⟨(k+1,n),hi.other (by omega) (jT.2 (.inr (.inl ⟨by omega,by omega,by simp_all⟩))) (by assumption),by dsimp only;omega,by simp only[push_cast,↓reduceIte,Nat.reduceEqDiff,Nat.reduceBEq,Nat.reduceAdd,Nat.reduceSub,Int.reduceToNat],trivial,rfl⟩
   |(rw[hi.done (by omega)];simp_all;done)
   |(rw[hi.done (by omega)];simp_all;omega))
def bN (l:LS):Bool:=decide (l.length≤12)&&l.all dM
def iX:Fun:=F1 dSs fun l=>if oo l then some (bv (bN l))else none
theorem lX {l:LS} (h:oo l):iX [.lst false 1 (l.map fun s=> .val (.string s))]=some (.val (.bool (bN l))):=
 (gu (A:=dSs) l).trans (if_pos h)
def ag9:Ctx:={fn:=aY [(68,gP)],io:=aY []}
theorem aeB:ak Tryz.prog ag9:=okΓ (fC Tryz.func68 gD aj) aj
def afA:=ah (Γ:=ag9) (f:=68) (φ:=gP) rfl
theorem jO:Sound Tryz.prog 32 iX:=by
 refine au mixed aeB Tryz.func32 rfl 19 rfl [.tmp 2] rfl (by kernel_rfl) fun ps r hr=>?_;obtain⟨l,rfl,hq⟩:=bQ hr;clear hr;split at hq
 case isFalse=>cases hq
 case isTrue hok=>
 cases hq;obtain⟨hlen,hsz⟩:=hok;refine⟨by simp,?_⟩;simp only[dIs,dUs,dSs,dz,dF,dx,dG,aR,dD,aU,aV,aS,aT];have gswords_c68:=afA;(refine wlkX6 ?_ ?_ ?_ ?_ ?_ ?_<;>intros<;>try with_reducible exact trivial);refine aG (α:=Nat) mixed (fun k=>[(0,.lst false 1 (l.map fun s=> .val (.string s))),(3,iv k)]) (fun _=>[]) (fun _=>0)
  (fun k=>k≤l.length∧∀j,j<k→dM (l[j]?.getD .empty)=true) (fun k=>l.length-k) (by kernel_rfl) 0 ⟨Nat.zero_le _,fun j hj=>by omega⟩ ?_ trivial rfl ?_
 ·simp only[push_cast,↓reduceIte,Nat.reduceEqDiff,Nat.reduceBEq,Nat.reduceAdd,Nat.reduceSub,Int.reduceToNat]
 ·intro k ⟨hk,hok⟩
  have ap:=@iH (l[k]?.getD .empty) (by have:=hsz k;omega);clear hsz;(refine wlkX6 ?_ ?_ ?_ ?_ ?_ ?_<;>intros<;>try with_reducible exact trivial);all_goals try(refine fnG ?_;try with_reducible exact trivial)
  ·rw[show bN l=false from by(unfold bN;rw[jy (d:=.empty) (k:=k) (by omega) (by simp_all),Bool.and_false])]
  ·refine⟨k+1,⟨by omega,fun j hj=>?_⟩,by dsimp only;omega,by simp only[push_cast,↓reduceIte,Nat.reduceEqDiff,Nat.reduceBEq,Nat.reduceAdd,Nat.reduceSub,Int.reduceToNat],trivial,rfl⟩
   by_cases h1:j<k
   ·exact hok j h1
   ·have:j=k:=by omega
    subst this;simp_all
  ·rw[show bN l=decide (l.length≤12)from by(unfold bN;rw[gB (d:=.empty) fun j hj=>hok j (by omega),Bool.and_true])]
   simp;omega
def aiD:Ctx:={fn:=aY [(81,gP)],io:=aY []}
theorem afZ:ak Tryz.prog aiD:=okΓ (fC Tryz.func81 gy aj) aj
def ae8:=ah (Γ:=aiD) (f:=81) (φ:=gP) rfl
theorem jH:Sound Tryz.prog 70 iX:=by
 refine au mixed afZ Tryz.func70 rfl 18 rfl [.tmp 2] rfl (by kernel_rfl) fun ps r hr=>?_;obtain⟨l,rfl,hq⟩:=bQ hr;clear hr;split at hq
 case isFalse=>cases hq
 case isTrue hok=>
 cases hq;obtain⟨hlen,hsz⟩:=hok;refine⟨by simp,?_⟩;simp only[dIs,dUs,dSs,dz,dF,dx,dG,aR,dD,aU,aV,aS,aT];have giwords_c81:=ae8;(refine wlkX6 ?_ ?_ ?_ ?_ ?_ ?_<;>intros<;>try with_reducible exact trivial);refine aG (α:=Nat) mixed (fun k=>[(0,.lst false 1 (l.map fun s=> .val (.string s))),(5,.lst false 1 (l.map fun s=> .val (.string s))),(6,iv l.length),(7,iv k)]) (fun _=>[]) (fun _=>0)
  (fun k=>k≤l.length∧∀j,j<k→dM (l[j]?.getD .empty)=true) (fun k=>l.length-k) (by kernel_rfl) 0 ⟨Nat.zero_le _,fun j hj=>by omega⟩ ?_ trivial rfl ?_
 ·simp only[push_cast,↓reduceIte,Nat.reduceEqDiff,Nat.reduceBEq,Nat.reduceAdd,Nat.reduceSub,Int.reduceToNat]
 ·intro k ⟨hk,hok⟩
  have ap:=@iH (l[k]?.getD .empty) (by have:=hsz k;omega);clear hsz;(refine wlkX6 ?_ ?_ ?_ ?_ ?_ ?_<;>intros<;>try with_reducible exact trivial);all_goals try(refine fnG ?_;try with_reducible exact trivial)
  ·rw[show bN l=false from by(unfold bN;rw[jy (d:=.empty) (k:=k) (by omega) (by simp_all),Bool.and_false])]
  ·refine⟨k+1,⟨by omega,fun j hj=>?_⟩,by dsimp only;omega,by simp only[push_cast,↓reduceIte,Nat.reduceEqDiff,Nat.reduceBEq,Nat.reduceAdd,Nat.reduceSub,Int.reduceToNat],trivial,rfl⟩
   by_cases h1:j<k
   ·exact hok j h1
   ·have:j=k:=by omega
    subst this;simp_all
  ·rw[show bN l=decide (l.length≤12)from by(unfold bN;rw[gB (d:=.empty) fun j hj=>hok j (by omega),Bool.and_true])]
   simp;omega
def bE (l:LS):Bool:=decide (l.length≤20)&&l.all aaw
def gX:Fun:=F1 dSs fun l=>if oo l then some (bv (bE l))else none
theorem iJ {l:LS} (h:oo l):gX [.lst false 1 (l.map fun s=> .val (.string s))]=some (.val (.bool (bE l))):=
 (gu (A:=dSs) l).trans (if_pos h)
def anu:Ctx:={fn:=aY [(69,xO)],io:=aY []}
theorem agy:ak Tryz.prog anu:=okΓ (fC Tryz.func69 jg aj) aj
def agh:=ah (Γ:=anu) (f:=69) (φ:=xO) rfl
theorem dQ:Sound Tryz.prog 33 gX:=by
 refine au mixed agy Tryz.func33 rfl 19 rfl [.tmp 2] rfl (by kernel_rfl) fun ps r hr=>?_;obtain⟨l,rfl,hq⟩:=bQ hr;clear hr;split at hq
 case isFalse=>cases hq
 case isTrue hok=>
 cases hq;obtain⟨hlen,hsz⟩:=hok;refine⟨by simp,?_⟩;simp only[dIs,dUs,dSs,dz,dF,dx,dG,aR,dD,aU,aV,aS,aT];have gspats_c69:=agh;(refine wlkX6 ?_ ?_ ?_ ?_ ?_ ?_<;>intros<;>try with_reducible exact trivial);refine aG (α:=Nat) mixed (fun k=>[(0,.lst false 1 (l.map fun s=> .val (.string s))),(3,iv k)]) (fun _=>[]) (fun _=>0)
  (fun k=>k≤l.length∧∀j,j<k→aaw (l[j]?.getD .empty)=true) (fun k=>l.length-k) (by kernel_rfl) 0 ⟨Nat.zero_le _,fun j hj=>by omega⟩ ?_ trivial rfl ?_
 ·simp only[push_cast,↓reduceIte,Nat.reduceEqDiff,Nat.reduceBEq,Nat.reduceAdd,Nat.reduceSub,Int.reduceToNat]
 ·intro k ⟨hk,hok⟩
  have ap:=@qU (l[k]?.getD .empty) (by have:=hsz k;omega);clear hsz;(refine wlkX6 ?_ ?_ ?_ ?_ ?_ ?_<;>intros<;>try with_reducible exact trivial);all_goals try(refine fnG ?_;try with_reducible exact trivial)
  ·rw[show bE l=false from by(unfold bE;rw[jy (d:=.empty) (k:=k) (by omega) (by simp_all),Bool.and_false])]
  ·refine⟨k+1,⟨by omega,fun j hj=>?_⟩,by dsimp only;omega,by simp only[push_cast,↓reduceIte,Nat.reduceEqDiff,Nat.reduceBEq,Nat.reduceAdd,Nat.reduceSub,Int.reduceToNat],trivial,rfl⟩
   by_cases h1:j<k
   ·exact hok j h1
   ·have:j=k:=by omega
    subst this;simp_all
  ·rw[show bE l=decide (l.length≤20)from by(unfold bE;rw[gB (d:=.empty) fun j hj=>hok j (by omega),Bool.and_true])]
   simp;omega
def am0:Ctx:={fn:=aY [(100,xO)],io:=aY []}
theorem ags:ak Tryz.prog am0:=okΓ (fC Tryz.func100 nu aj) aj
def aeU:=ah (Γ:=am0) (f:=100) (φ:=xO) rfl
theorem dR:Sound Tryz.prog 71 gX:=by
 refine au mixed ags Tryz.func71 rfl 18 rfl [.tmp 2] rfl (by kernel_rfl) fun ps r hr=>?_;obtain⟨l,rfl,hq⟩:=bQ hr;clear hr;split at hq
 case isFalse=>cases hq
 case isTrue hok=>
 cases hq;obtain⟨hlen,hsz⟩:=hok;refine⟨by simp,?_⟩;simp only[dIs,dUs,dSs,dz,dF,dx,dG,aR,dD,aU,aV,aS,aT];have gipats_c100:=aeU;(refine wlkX6 ?_ ?_ ?_ ?_ ?_ ?_<;>intros<;>try with_reducible exact trivial);refine aG (α:=Nat) mixed (fun k=>[(0,.lst false 1 (l.map fun s=> .val (.string s))),(5,.lst false 1 (l.map fun s=> .val (.string s))),(6,iv l.length),(7,iv k)]) (fun _=>[]) (fun _=>0)
  (fun k=>k≤l.length∧∀j,j<k→aaw (l[j]?.getD .empty)=true) (fun k=>l.length-k) (by kernel_rfl) 0 ⟨Nat.zero_le _,fun j hj=>by omega⟩ ?_ trivial rfl ?_
 ·simp only[push_cast,↓reduceIte,Nat.reduceEqDiff,Nat.reduceBEq,Nat.reduceAdd,Nat.reduceSub,Int.reduceToNat]
 ·intro k ⟨hk,hok⟩
  have ap:=@qU (l[k]?.getD .empty) (by have:=hsz k;omega);clear hsz;(refine wlkX6 ?_ ?_ ?_ ?_ ?_ ?_<;>intros<;>try with_reducible exact trivial);all_goals try(refine fnG ?_;try with_reducible exact trivial)
  ·rw[show bE l=false from by(unfold bE;rw[jy (d:=.empty) (k:=k) (by omega) (by simp_all),Bool.and_false])]
  ·refine⟨k+1,⟨by omega,fun j hj=>?_⟩,by dsimp only;omega,by simp only[push_cast,↓reduceIte,Nat.reduceEqDiff,Nat.reduceBEq,Nat.reduceAdd,Nat.reduceSub,Int.reduceToNat],trivial,rfl⟩
   by_cases h1:j<k
   ·exact hok j h1
   ·have:j=k:=by omega
    subst this;simp_all
  ·rw[show bE l=decide (l.length≤20)from by(unfold bE;rw[gB (d:=.empty) fun j hj=>hok j (by omega),Bool.and_true])]
   simp;omega
abbrev BK:=List LS×LS×Int×Int×Int
abbrev kD:Dec BK:=dA5 dSS dSs dI dI dI
def asi (w:LS):Bool:=bN w&& !decide (w.length=0)
def fA (p:List LS) (q:LS) (x y z:Int):Bool:=p.all asi&&(decide (p.length≤6)&&(bE q&&(inB x 0 1000&&(inB y 0 10000&&inB z 1 30))))
abbrev wF (p:List LS) (q:LS):Prop:=p.length≤1048576∧(∀i:Nat,oo (p[i]?.getD []))∧oo q
instance (p:List LS) (q:LS):Decidable (wF p q):=Classical.propDecidable _
def iY:Fun:=F1 kD fun b=>if wF b.1 b.2.1 then some (bv (fA b.1 b.2.1 b.2.2.1 b.2.2.2.1 b.2.2.2.2))else none
theorem pY {p:List LS} {q:LS} {x y z:Int} (h:wF p q):iY [.agg [.lst false 1 (p.map fun p=> .lst false 1 (p.map fun s=> .val (.string s))),.lst false 1 (q.map fun s=> .val (.string s)),.val (.int .i64 x),.val (.int .i64 y),.val (.int .i64 z)]]=some (.val (.bool (fA p q x y z))):=
 (gu (A:=kD) (p,q,x,y,z)).trans (if_pos h)
def oL:Fun:=F1 dI fun n=>some (bv (inB n 0 10000))
theorem mD (n:Int):oL [.val (.int .i64 n)]=some (.val (.bool (inB n 0 10000))):=rfl
def GBd:Ctx:={fn:=aY [(64,φIn)],io:=aY []}
theorem av1:ak Tryz.prog GBd:=okΓ (fC Tryz.func64 oH aj) aj
def auQ:=ah (Γ:=GBd) (f:=64) (φ:=φIn) rfl
theorem nX:Sound Tryz.prog 72 oL:=by refine au mixed av1 Tryz.func72 rfl 5 rfl [.tmp 2] rfl (by kernel_rfl) fun ps r hr=>?_;obtain⟨n,rfl,hr⟩:=bQ hr;cases hr;refine⟨by simp,?_⟩;simp only[dIs,dUs,dSs,dz,dF,dx,dG,aR,dD,aU,aV,aS,aT];have gbd_c64:=auQ;have ap:=bK;(refine wlkX ?_;intros);all_goals(exact fnF)
def GKs:Ctx:={fn:=aY [(32,iX),(33,gX),(34,φIn)],io:=aY []}
theorem as3:ak Tryz.prog GKs:=okΓ (fC Tryz.func32 jO (fC Tryz.func33 dQ (fC Tryz.func34 iy aj))) aj
def asL:=ah (Γ:=GKs) (f:=32) (φ:=iX) rfl
def awE:=ah (Γ:=GKs) (f:=33) (φ:=gX) rfl
def av9:=ah (Γ:=GKs) (f:=34) (φ:=φIn) rfl
theorem kI:Sound Tryz.prog 9 iY:=by
 refine au mixed as3 Tryz.func9 rfl 51 rfl [.tmp 2] rfl (by kernel_rfl) fun ps r hr=>?_;obtain⟨⟨p,q,x,y,z⟩,rfl,hq⟩:=bQ hr;clear hr;split at hq
 case isFalse=>cases hq
 case isTrue hok=>
 cases hq;dsimp only at hok;obtain⟨hlen,hall,hoq⟩:=hok;have ap2:=iJ hoq;clear hoq;refine⟨by simp,?_⟩;simp only[dIs,dUs,dSs,dz,dF,dx,dG,aR,dD,aU,aV,aS,aT];have gks_c32:=asL;have gks_c33:=awE;have gks_c34:=av9;have ap3:=bK;have ap4:=mD;(refine wlkX6 ?_ ?_ ?_ ?_ ?_ ?_<;>intros<;>try with_reducible exact trivial);refine aG (α:=Nat) mixed (fun k=>[(1,.own 0 5 0 0),(3,iv k)]) (fun _=>[(0,26,5,[.agg [.lst false 1 (p.map fun p=> .lst false 1 (p.map fun s=> .val (.string s))),.lst false 1 (q.map fun s=> .val (.string s)),.val (.int .i64 x),.val (.int .i64 y),.val (.int .i64 z)]])]) (fun _=>1)
  (fun k=>k≤p.length∧∀j,j<k→asi (p[j]?.getD [])=true) (fun k=>p.length-k) (by kernel_rfl) 0 ⟨Nat.zero_le _,fun j hj=>by omega⟩ ?_ ?_ ?_ ?_
 ·simp only[push_cast,↓reduceIte,Nat.reduceEqDiff,Nat.reduceBEq,Nat.reduceAdd,Nat.reduceSub,Int.reduceToNat]
 ·simp only[push_cast,↓reduceIte,Nat.reduceEqDiff,Nat.reduceBEq,Nat.reduceAdd,Nat.reduceSub,Int.reduceToNat]
 ·simp only[push_cast,↓reduceIte,Nat.reduceEqDiff,Nat.reduceBEq,Nat.reduceAdd,Nat.reduceSub,Int.reduceToNat]
 ·intro k ⟨hk,hok⟩
  have ap:=lX (hall k);have hpl:=(hall k).1;clear hall;have hpb:asi (p[k]?.getD [])=(bN (p[k]?.getD [])&& !decide ((p[k]?.getD []).length=0)):=rfl;have hpb:=Lib.hid hpb;have hok:=Lib.hid hok
  repeat' (first|(with_reducible first|apply fM|apply bF|apply cO|apply dn|apply fG|apply mJ|apply fK|apply fP|apply mH|apply fB|apply fE|apply mI|apply fO|apply fH|apply fJ)|((with_reducible apply bg);(simp only[List.map_cons,List.map_nil]<;>exact rfl))|((with_reducible apply dh);(simp only[List.map_cons,List.map_nil]<;>exact rfl);decide+kernel)|((with_reducible apply fI);rfl)|((first|((with_reducible apply i_V);rfl;rfl;rfl)|((first|((with_reducible apply i_E);rfl)|((with_reducible apply i_S);rfl));first|rfl|(simp only[push_cast,↓reduceIte]))|((with_reducible apply mM);rfl;rfl)|((with_reducible apply mE);rfl;rfl;rfl)|(with_reducible first|apply mG|apply cZ));(simp(disch:=(first|omega|(simp only[push_cast];first|done|omega))) only[push_cast,↓reduceIte,Nat.reduceEqDiff,Nat.reduceBEq,Nat.reduceAdd,Nat.reduceSub,Int.reduceToNat, *]<;>with_reducible exact rfl);all_goals try(first|(with_reducible first|refine hyT ?_|refine hyF ?_|exact hyA|exact hyB)|(intro hX;first|(cases hX;done)|((try simp only[decide_eq_true_eq,decide_eq_false_iff_not,Bool.not_eq_true',Bool.not_eq_false']at hX);(try have hXb:=av.1 hX))))))
  all_goals try(refine fnG ?_;try with_reducible exact trivial)
  all_goals try(exfalso;omega)
  all_goals have hpb1:=hpb.out
  all_goals(first
   |(rw[show fA p q x y z=false from by(unfold fA;rw[jy (d:=[]) (k:=k) (by omega) (by simp_all),Bool.false_and])];done)
   |(rw[show fA p q x y z=(decide (p.length≤6)&&(bE q&&(inB x 0 1000&&(inB y 0 10000&&inB z 1 30))))from by(unfold fA;rw[gB (d:=[]) fun j hj=>hok.out j (by omega),Bool.true_and])];simp_all;done)
   |(rw[show fA p q x y z=(decide (p.length≤6)&&(bE q&&(inB x 0 1000&&(inB y 0 10000&&inB z 1 30))))from by(unfold fA;rw[gB (d:=[]) fun j hj=>hok.out j (by omega),Bool.true_and])];simp_all;omega)
   |(refine⟨k+1,⟨by omega,fun j hj=>?_⟩,by dsimp only;omega,by simp only[push_cast,↓reduceIte,Nat.reduceEqDiff,Nat.reduceBEq,Nat.reduceAdd,Nat.reduceSub,Int.reduceToNat],by simp only[push_cast,↓reduceIte,Nat.reduceEqDiff,Nat.reduceBEq,Nat.reduceAdd,Nat.reduceSub,Int.reduceToNat],rfl⟩
     by_cases h1:j<k
     ·exact hok.out j h1
     ·have:j=k:=by omega
      subst this;simp_all;try omega))
def GKi:Ctx:={fn:=aY [(70,iX),(71,gX),(64,φIn),(72,oL)],io:=aY []}
theorem auE:ak Tryz.prog GKi:=okΓ (fC Tryz.func70 jH (fC Tryz.func71 dR (fC Tryz.func64 oH (fC Tryz.func72 nX aj)))) aj
def awk:=ah (Γ:=GKi) (f:=70) (φ:=iX) rfl
def auv:=ah (Γ:=GKi) (f:=71) (φ:=gX) rfl
def avJ:=ah (Γ:=GKi) (f:=64) (φ:=φIn) rfl
def atQ:=ah (Γ:=GKi) (f:=72) (φ:=oL) rfl
theorem kJ:Sound Tryz.prog 36 iY:=by
 refine au mixed auE Tryz.func36 rfl 45 rfl [.tmp 2] rfl (by kernel_rfl) fun ps r hr=>?_;obtain⟨⟨p,q,x,y,z⟩,rfl,hq⟩:=bQ hr;clear hr;split at hq
 case isFalse=>cases hq
 case isTrue hok=>
 cases hq;dsimp only at hok;obtain⟨hlen,hall,hoq⟩:=hok;have ap2:=iJ hoq;clear hoq;refine⟨by simp,?_⟩;simp only[dIs,dUs,dSs,dz,dF,dx,dG,aR,dD,aU,aV,aS,aT];have gki_c70:=awk;have gki_c71:=auv;have gki_c64:=avJ;have gki_c72:=atQ;have ap3:=bK;have ap4:=mD;(refine wlkX6 ?_ ?_ ?_ ?_ ?_ ?_<;>intros<;>try with_reducible exact trivial);refine aG (α:=Nat) mixed (fun k=>[(1,.own 0 5 0 0),(6,.lst false 1 (p.map fun p=> .lst false 1 (p.map fun s=> .val (.string s)))),(7,iv p.length),(8,iv k)]) (fun _=>[(0,26,5,[.agg [.lst false 1 (p.map fun p=> .lst false 1 (p.map fun s=> .val (.string s))),.lst false 1 (q.map fun s=> .val (.string s)),.val (.int .i64 x),.val (.int .i64 y),.val (.int .i64 z)]])]) (fun _=>1)
  (fun k=>k≤p.length∧∀j,j<k→asi (p[j]?.getD [])=true) (fun k=>p.length-k) (by kernel_rfl) 0 ⟨Nat.zero_le _,fun j hj=>by omega⟩ ?_ ?_ ?_ ?_
 ·simp only[push_cast,↓reduceIte,Nat.reduceEqDiff,Nat.reduceBEq,Nat.reduceAdd,Nat.reduceSub,Int.reduceToNat]
 ·simp only[push_cast,↓reduceIte,Nat.reduceEqDiff,Nat.reduceBEq,Nat.reduceAdd,Nat.reduceSub,Int.reduceToNat]
 ·simp only[push_cast,↓reduceIte,Nat.reduceEqDiff,Nat.reduceBEq,Nat.reduceAdd,Nat.reduceSub,Int.reduceToNat]
 ·intro k ⟨hk,hok⟩
  have ap:=lX (hall k);have hpl:=(hall k).1;clear hall;have hpb:asi (p[k]?.getD [])=(bN (p[k]?.getD [])&& !decide ((p[k]?.getD []).length=0)):=rfl;have hpb:=Lib.hid hpb;have hok:=Lib.hid hok
  repeat' (first|(with_reducible first|apply fM|apply bF|apply cO|apply dn|apply fG|apply mJ|apply fK|apply fP|apply mH|apply fB|apply fE|apply mI|apply fO|apply fH|apply fJ)|((with_reducible apply bg);(simp only[List.map_cons,List.map_nil]<;>exact rfl))|((with_reducible apply dh);(simp only[List.map_cons,List.map_nil]<;>exact rfl);decide+kernel)|((with_reducible apply fI);rfl)|((first|((with_reducible apply i_V);rfl;rfl;rfl)|((first|((with_reducible apply i_E);rfl)|((with_reducible apply i_S);rfl));first|rfl|(simp only[push_cast,↓reduceIte]))|((with_reducible apply mM);rfl;rfl)|((with_reducible apply mE);rfl;rfl;rfl)|(with_reducible first|apply mG|apply cZ));(simp(disch:=(first|omega|(simp only[push_cast];first|done|omega))) only[push_cast,↓reduceIte,Nat.reduceEqDiff,Nat.reduceBEq,Nat.reduceAdd,Nat.reduceSub,Int.reduceToNat, *]<;>with_reducible exact rfl);all_goals try(first|(with_reducible first|refine hyT ?_|refine hyF ?_|exact hyA|exact hyB)|(intro hX;first|(cases hX;done)|((try simp only[decide_eq_true_eq,decide_eq_false_iff_not,Bool.not_eq_true',Bool.not_eq_false']at hX);(try have hXb:=av.1 hX))))))
  all_goals try(refine fnG ?_;try with_reducible exact trivial)
  all_goals try(exfalso;omega)
  all_goals have hpb1:=hpb.out
  all_goals(first
   |(rw[show fA p q x y z=false from by(unfold fA;rw[jy (d:=[]) (k:=k) (by omega) (by simp_all),Bool.false_and])];done)
   |(rw[show fA p q x y z=(decide (p.length≤6)&&(bE q&&(inB x 0 1000&&(inB y 0 10000&&inB z 1 30))))from by(unfold fA;rw[gB (d:=[]) fun j hj=>hok.out j (by omega),Bool.true_and])];simp_all;done)
   |(rw[show fA p q x y z=(decide (p.length≤6)&&(bE q&&(inB x 0 1000&&(inB y 0 10000&&inB z 1 30))))from by(unfold fA;rw[gB (d:=[]) fun j hj=>hok.out j (by omega),Bool.true_and])];simp_all;omega)
   |(refine⟨k+1,⟨by omega,fun j hj=>?_⟩,by dsimp only;omega,by simp only[push_cast,↓reduceIte,Nat.reduceEqDiff,Nat.reduceBEq,Nat.reduceAdd,Nat.reduceSub,Int.reduceToNat],by simp only[push_cast,↓reduceIte,Nat.reduceEqDiff,Nat.reduceBEq,Nat.reduceAdd,Nat.reduceSub,Int.reduceToNat],rfl⟩
     by_cases h1:j<k
     ·exact hok.out j h1
     ·have:j=k:=by omega
      subst this;simp_all;try omega))
end
end Go.Proofs.YtmmafcjjlbgnkaaGreatDoor
