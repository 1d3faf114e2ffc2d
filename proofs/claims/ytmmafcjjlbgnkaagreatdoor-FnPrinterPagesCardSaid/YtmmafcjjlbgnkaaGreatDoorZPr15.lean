/- What the proof rests on, part 15: contracts of functions. No condition beyond what each states. -/
import Derived.Test.YtmmafcjjlbgnkaaGreatDoorZPr14
namespace Go.Proofs.YtmmafcjjlbgnkaaGreatDoor
open Go.RowKit
set_option linter.all false
set_option maxHeartbeats 32000000
noncomputable section
def ni:List PV→List Nat
 |[]=>[]
 | .own o _ _ _::l=>o::ni l
 | .row o _ _ _::l=>o::ni l
 |_::l=>ni l
def xV:PV→List Nat
 | .own o _ _ _=>[o]
 | .row o _ _ _=>[o]
 | .agg cs=>ni cs
 |_=>[]
def aav:List PV→List Nat
 |[]=>[]
 |p::ps=>xV p++aav ps
theorem acY:∀cs:List PV,(cs.flatMap fun c=>match c with| .own o _ _ _=>[o]| .row o _ _ _=>[o]|_=>[])=ni cs
 |[]=>rfl
 |c::cs=>by rw[List.flatMap_cons,acY cs];cases c<;>rfl
theorem aej:∀ps:List PV,ps.flatMap refsOf=aav ps
 |[]=>rfl
 |p::ps=>by
  rw[List.flatMap_cons,aej ps];show _=xV p++aav ps;congr 1;cases p with
  |agg cs=>exact acY cs
  |_=>rfl
section
variable {Φ:dP} {ob:bD} {nx:Nat}
def alG (Φ:dP) (ob:bD) (nx a b:Nat) (qs:List PV):Option aH→Option aH→Option (PV×bD×Nat)
 |some c,some d=>(c.2.2.mapM (eu (inn [a,b]) fuel)).bind fun es=>(d.2.2.mapM (eu (inn [a,b]) fuel)).bind fun fs=>ioR [a,b] ob nx (Φ qs [(c.1,c.2.1,es),(d.1,d.2.1,fs)])
 |_,_=>none
def ioX (Φ:dP) (ob:bD) (nx:Nat) (ps:List PV):List Nat→Option (PV×bD×Nat)
 |[]=>(ps.mapM (eu (inn []) fuel)).bind fun qs=>ioR [] ob nx (Φ qs [])
 |[o]=>(ps.mapM (eu (inn [o]) fuel)).bind fun qs=>aaI Φ ob nx o qs (ob o)
 |[a,b]=>(ps.mapM (eu (inn [a,b]) fuel)).bind fun qs=>alG Φ ob nx a b qs (ob a) (ob b)
 |_=>acj Φ ob nx ps
theorem atg (ps:List PV):acj Φ ob nx ps=ioX Φ ob nx ps (dedup (aav ps)):=by
 generalize hos:dedup (aav ps)=os;rw[←aej]at hos
 match os with
 |[]=>
  show _=(ps.mapM (eu (inn []) fuel)).bind _;cases h2:ps.mapM (eu (inn []) fuel)with
  |some qs=>rw[uM ps [] hos,h2,mapM_nil'];rfl
  |none=>rw[uM ps [] hos,h2,mapM_nil'];rfl
 |[o]=>
  show _=(ps.mapM (eu (inn [o]) fuel)).bind _;cases h2:ps.mapM (eu (inn [o]) fuel)with
  |some qs=>rw[adG hos h2];rfl
  |none=>rw[uM ps [o] hos,h2];cases [o].mapM ob<;>rfl
 |[a,b]=>
  show _=(ps.mapM (eu (inn [a,b]) fuel)).bind _;rw[uM ps [a,b] hos];simp only[mapM_cons',mapM_nil',ada];cases ps.mapM (eu (inn [a,b]) fuel)with
  |none=>cases ob a<;>cases ob b<;>rfl
  |some qs=>
   simp only[Option.bind_some];cases ob a with
   |none=>rfl
   |some c=>
    cases ob b with
    |none=>rfl
    |some d=>
     obtain⟨T,sz,es0⟩:=c;obtain⟨T2,sz2,fs0⟩:=d;simp only[Option.bind_some,Option.map_some,alG,mapM_cons',mapM_nil',ada];cases es0.mapM (eu (inn [a,b]) fuel)with
     |none=>rfl
     |some es=>simp only[Option.bind_some,Option.map_some];cases fs0.mapM (eu (inn [a,b]) fuel)<;>rfl
 |_::_::_::_=>rfl
theorem aok {ps:List PV}:ioX Φ ob nx ps []=(ps.mapM (eu (inn []) fuel)).bind fun qs=>ioR [] ob nx (Φ qs []):=rfl
theorem ar5 {ps:List PV} {o:Nat}:ioX Φ ob nx ps [o]=(ps.mapM (eu (inn [o]) fuel)).bind fun qs=>aaI Φ ob nx o qs (ob o):=rfl
theorem apZ {ps:List PV} {a b:Nat}:ioX Φ ob nx ps [a,b]=(ps.mapM (eu (inn [a,b]) fuel)).bind fun qs=>alG Φ ob nx a b qs (ob a) (ob b):=rfl
theorem afH {a b T T2 sz sz2:Nat} {es es2 qs:List PV}:alG Φ ob nx a b qs (some (T,sz,es)) (some (T2,sz2,es2))=(es.mapM (eu (inn [a,b]) fuel)).bind fun es=>(es2.mapM (eu (inn [a,b]) fuel)).bind fun fs=>ioR [a,b] ob nx (Φ qs [(T,sz,es),(T2,sz2,fs)]):=rfl
theorem axG {a b:Nat}:inn [a,b] a=some 0:=by simp[inn]
theorem aym {a b:Nat} (h:¬a=b):inn [a,b] b=some 1:=by
 have h2:(a==b)=false:=by simpa using h
 simp[inn,List.idxOf_cons,h2]
theorem ajE {a b nx:Nat}:vg [a,b] nx 0=some a:=rfl
theorem akv {a b nx:Nat}:vg [a,b] nx 1=some b:=rfl
theorem aud:dedup []=[]:=rfl
theorem asP {o:Nat}:dedup [o]=[o]:=rfl
theorem aws:aav []=[]:=rfl
theorem aqE {p:PV} {ps:List PV}:aav (p::ps)=xV p++aav ps:=rfl
theorem ave {v:Value}:xV (.val v)=[]:=rfl
theorem avq {k:Bool} {sz:Nat} {es:List PV}:xV (.lst k sz es)=[]:=rfl
theorem av2 {k:Bool} {e:PV} {o:Nat}:xV (.ptr k e o)=[]:=rfl
theorem atJ {o a b c:Nat}:xV (.own o a b c)=[o]:=rfl
theorem auS {o a b c:Nat}:xV (.row o a b c)=[o]:=rfl
theorem auf {cs:List PV}:xV (.agg cs)=ni cs:=rfl
theorem asv:ni []=[]:=rfl
theorem asq {v:Value} {l:List PV}:ni (.val v::l)=ni l:=rfl
theorem av6 {k:Bool} {sz:Nat} {es l:List PV}:ni (.lst k sz es::l)=ni l:=rfl
theorem ava {o a b c:Nat} {l:List PV}:ni (.own o a b c::l)=o::ni l:=rfl
theorem as0 {o a b c:Nat} {l:List PV}:ni (.row o a b c::l)=o::ni l:=rfl
end
attribute[push_cast low]
 atg
attribute[push_cast]
 aok ar5 apZ afH axG aym ajE akv aud asP aws aqE ave avq av2 atJ auS auf asv asq av6 ava as0
theorem aaq {l:List It} {tx:LS} {br:List Int} (h:∀k:Nat,(tx[k]?.getD ByteArray.empty).size≤20) (hl:l.length≤60) (hb:asj l br):∀k,k≤br.length→∀s∈oP l tx br k,s.size≤2000
 |0,_=>by simp[oP]
 |k+1,hk=>fun s hs=>by
  rw[oP]at hs;rcases List.mem_append.1 hs with hs|hs
  ·exact aaq h hl hb k (by omega) s hs
  ·rw[List.mem_singleton.1 hs]
   obtain⟨b1,b2,b3,-⟩:=hb.at_ (k:=k) (by omega);have:=x9 (l:=l) (tx:=tx) (a:=frB br k) h ((br[k]?.getD 0).toNat-frB br k);unfold lnR;split
   ·rw[ByteArray.size_append,show(⟨#[45]⟩:ByteArray).size=1 from rfl]
    omega
   ·omega
theorem yH (ws pats:LS) (wd most:Int):(mR ws pats wd most).length≤60∧∀s∈mR ws pats wd most,s.size≤2000:=by
 unfold mR;split
 ·rename_i h
  unfold nG at h;rw[Bool.and_eq_true]at h;obtain⟨h1,h2⟩:=h;have hV:piV ws pats=piR ws pats:=if_pos h1;rw[hV]at h2;obtain⟨hB,-,-,hm,-⟩:=gZ.1 h2;have hb:=agc (wd:=wd) hB hm.2;have hl:=bH hB;rw[oG];exact⟨by have:=hb.1;omega,aaq aa7 hl hb _ (Nat.le_refl _)⟩
 ·simp
def blK (p:List LS) (q:LS) (x y:Int):Nat→LS
 |0=>[]
 |k+1=>blK p q x y k++mR (p[k]?.getD []) q x y
def bcK (p:List LS) (q:LS) (x y:Int):Nat→List Int
 |0=>[]
 |k+1=>bcK p q x y k++[((mR (p[k]?.getD []) q x y).length:Int)]
def blB (p:List LS) (q:LS) (x y z:Int):Bool:=fA p q x y z&&p.all fun w=>nG w q x y
def blL (p:List LS) (q:LS) (x y z:Int):LS:=if blB p q x y z=true then blK p q x y p.length else []
def blC (p:List LS) (q:LS) (x y z:Int):List Int:=if blB p q x y z=true then bcK p q x y p.length else []
theorem xB (p:List LS) (q:LS) (x y:Int):∀k,(blK p q x y k).length≤60*k
 |0=>by simp[blK]
 |k+1=>by have:=xB p q x y k;have h2:=(yH (p[k]?.getD []) q x y).1;rw[blK,List.length_append];omega
theorem wT (p:List LS) (q:LS) (x y:Int):∀k,(bcK p q x y k).length=k
 |0=>rfl
 |k+1=>by rw[bcK,List.length_append,wT p q x y k];rfl
theorem abl {ws pats:LS} {wd most:Int} (h:nG ws pats wd most=true):0<(mR ws pats wd most).length:=by unfold mR;rw[if_pos h,oG];unfold nG at h;rw[Bool.and_eq_true]at h;obtain⟨h1,h2⟩:=h;have hV:piV ws pats=piR ws pats:=if_pos h1;rw[hV]at h2;exact agu (gZ.1 h2).2.1 (gZ.1 h2).2.2.2.2
theorem apG {ws pats:LS} {wd most:Int} (h:nG ws pats wd most=false):mR ws pats wd most=[]:=by unfold mR;rw[if_neg (by rw[h];decide)]
theorem ah1 {p:List LS} {q:LS} {x y:Int}:∀{k:Nat},(∀j,j<k→nG (p[j]?.getD []) q x y=true)→0<k→0<(blK p q x y k).length
 |0,_,h=>by omega
 |k+1,h,_=>by have:=abl (h k (by omega));rw[blK,List.length_append];omega
def φBl:Fun:=F1 kD fun b=>if wF b.1 b.2.1 then some (.tup [.lst true 1 ((blL b.1 b.2.1 b.2.2.1 b.2.2.2.1 b.2.2.2.2).map fun s=> .val (.string s)),.lst true 1 ((blC b.1 b.2.1 b.2.2.1 b.2.2.2.1 b.2.2.2.2).map fun n=> .val (.int .i64 n)),bv (blB b.1 b.2.1 b.2.2.1 b.2.2.2.1 b.2.2.2.2)])else none
theorem aoD {p:List LS} {q:LS} {x y z:Int} (h:wF p q):φBl [.agg [.lst false 1 (p.map fun p=> .lst false 1 (p.map fun s=> .val (.string s))),.lst false 1 (q.map fun s=> .val (.string s)),.val (.int .i64 x),.val (.int .i64 y),.val (.int .i64 z)]]=some (.tup [.lst true 1 ((blL p q x y z).map fun s=> .val (.string s)),.lst true 1 ((blC p q x y z).map fun n=> .val (.int .i64 n)),.val (.bool (blB p q x y z))]):=
 (gu (A:=kD) (p,q,x,y,z)).trans (if_pos h)
def aiF:Fun:=ach auH
theorem afs:Sound Tryz.prog 60 aiF:=alD.pure
theorem alW {ws pats:LS} {wd most:Int} (h:oo ws∧oo pats) (h0:0<(mR ws pats wd most).length):aiF [.lst false 1 (ws.map fun s=> .val (.string s)),.lst false 1 (pats.map fun s=> .val (.string s)),.val (.int .i64 wd),.val (.int .i64 most)]=some (.tup [.lst true 1 ((mR ws pats wd most).map fun s=> .val (.string s)),.val (.bool (nG ws pats wd most))]):=by
 have hp:0<((mR ws pats wd most).map fun s=>PV.val (.string s)).length:=by simpa using h0
 refine nT (r:=.tup [.row 0 1 0 (mR ws pats wd most).length,.val (.bool (nG ws pats wd most))]) (cs0:=[(9,1,(mR ws pats wd most).map fun s=> .val (.string s))]) ((aqu (A:=dSs) (B:=dSs) (C:=dI) (D:=dI) ws pats wd most).trans ((if_pos h).trans (by rw[aA hp,am6 hp,List.length_map]))) ?_;rw[acQ];(simp(disch:=(first|omega|(simp only[push_cast];first|done|omega))) only[push_cast,↓reduceIte,Nat.reduceEqDiff,Nat.reduceBEq,Nat.reduceAdd,Nat.reduceSub,Int.reduceToNat, *]<;>with_reducible exact rfl)
theorem al5 {ws pats:LS} {wd most:Int} (h:oo ws∧oo pats) (h0:nG ws pats wd most=false):aiF [.lst false 1 (ws.map fun s=> .val (.string s)),.lst false 1 (pats.map fun s=> .val (.string s)),.val (.int .i64 wd),.val (.int .i64 most)]=some (.tup [.val (.slice none 0 0),.val (.bool false)]):=by refine nT (r:=.tup [.val (.slice none 0 0),.val (.bool false)]) (cs0:=[]) ((aqu (A:=dSs) (B:=dSs) (C:=dI) (D:=dI) ws pats wd most).trans ((if_pos h).trans (by rw[apG h0,h0];rfl))) ?_;(simp(disch:=(first|omega|(simp only[push_cast];first|done|omega))) only[push_cast,↓reduceIte,Nat.reduceEqDiff,Nat.reduceBEq,Nat.reduceAdd,Nat.reduceSub,Int.reduceToNat, *]<;>with_reducible exact rfl)
abbrev lsP (p:List LS):PV:=.lst false 1 (p.map fun p=> .lst false 1 (p.map fun s=> .val (.string s)))
def ayn:Ctx:={fn:=aY [(9,iY),(66,ajG)],io:=aY []}
theorem aoG:ak Tryz.prog ayn:=okΓ (fC Tryz.func9 kI (fC Tryz.func66 aeX aj)) aj
def amG:=ah (Γ:=ayn) (f:=9) (φ:=iY) rfl
def aiE:=ah (Γ:=ayn) (f:=66) (φ:=ajG) rfl
theorem ajk:Sound Tryz.prog 29 φBl:=by
 refine au mixed aoG Tryz.func29 rfl 53 rfl [.tmp 2,.tmp 3,.tmp 4] rfl (by kernel_rfl) fun ps r hr=>?_;obtain⟨⟨p,q,x,y,z⟩,rfl,hpre,rfl⟩:=jQ hr;refine⟨by simp,?_⟩;simp only[dIs,dUs,dSs,dz,dF,dx,dG,aR,dD,aU,aV,aS,aT];(try dsimp only at hpre⊢);have apv:=pY (x:=x) (y:=y) (z:=z) hpre;obtain⟨hlen,hall,hoq⟩:=hpre;have api:=fun k:Nat=>alb (wd:=x) (most:=y) ⟨hall k,hoq⟩;have hp60:=fun k:Nat=>(yH (p[k]?.getD []) q x y).1;have hbk:=xB p q x y;have hck:=wT p q x y;unfold blL blC blB;cases hb:fA p q x y z with
 |false=>rw[hb]at apv;simp only[Bool.false_and,Bool.false_eq_true,if_false,List.map_nil];clear api hp60 hbk hck hall hoq hb;have gbls_c9:=amG;have gbls_c66:=aiE;exact wlkF
 |true=>
  rw[hb]at apv;have h6:p.length≤6:=by unfold fA at hb;simp only[Bool.and_eq_true,decide_eq_true_eq]at hb;exact hb.2.1
  simp only[Bool.true_and];clear hall hoq hb;have gbls_c9:=amG;have gbls_c66:=aiE;(refine wlk ?_;intros);refine aG (α:=Nat×Nat×Nat×Nat) mixed (fun i=>[(1,.own 0 5 0 0),(5,.row i.2.1 1 0 (blK p q x y i.1).length),(6,.row i.2.2.1 1 0 i.1),(7,iv i.1)])
   (fun i=>[(0,26,5,[.agg [lsP p,.lst false 1 (q.map fun s=> .val (.string s)),.val (.int .i64 x),.val (.int .i64 y),.val (.int .i64 z)]]),(i.2.1,9,1,(blK p q x y i.1).map fun s=> .val (.string s)),(i.2.2.1,3,1,(bcK p q x y i.1).map fun n=> .val (.int .i64 n))])
   (fun i=>i.2.2.2) (fun i=>i.1≤p.length∧(0<i.2.1∧0<i.2.2.1∧i.2.1≠i.2.2.1∧i.2.1<i.2.2.2∧i.2.2.1<i.2.2.2)∧∀j,j<i.1→nG (p[j]?.getD []) q x y=true) (fun i=>p.length-i.1) (by kernel_rfl) (0,1,2,3) ⟨Nat.zero_le _,by decide,fun j hj=>by dsimp only at hj;omega⟩ ?_ ?_ rfl ?_
  ·have h0:(blK p q x y 0).length=0:=rfl
   exact agi
  ·have h0:blK p q x y 0=[]:=rfl
   have h1:bcK p q x y 0=[]:=rfl;exact agr
  rintro⟨k,o1,o2,nx⟩ ⟨hk,⟨ho1,ho2,ho3,ho4,ho5⟩,hok⟩;dsimp only at hk ho1 ho2 ho3 ho4 ho5 hok;have ho6:¬o2=o1:=fun e=>ho3 e.symm;replace ho3:¬o1=o2:=ho3;have hok':=Lib.hid hok;clear hok;have hbl:=hbk k;have hcl:=hck k;by_cases hkl:k<p.length
  ·have ap:=api k
   have h60:=hp60 k;have hn1:blK p q x y (k+1)=blK p q x y k++mR (p[k]?.getD []) q x y:=rfl;have hn2:bcK p q x y (k+1)=bcK p q x y k++[((mR (p[k]?.getD []) q x y).length:Int)]:=rfl;have hno:nG (p[k]?.getD []) q x y=false→(p.all fun w=>nG w q x y)=false:=fun h=>jy (d:=[]) hkl h;have hys:nG (p[k]?.getD []) q x y=true→∀j,j<k+1→nG (p[j]?.getD []) q x y=true:=fun h j hj=>by
    rcases Nat.lt_or_ge j k with h1|h1
    ·exact hok'.out j h1
    ·obtain rfl:j=k:=by omega
     exact h
   replace hn1:=Lib.hid hn1;replace hn2:=Lib.hid hn2;replace hys:=Lib.hid hys;clear api hp60 hbk hck;generalize mR (p[k]?.getD []) q x y=L at*;generalize blK p q x y k=B at*;generalize bcK p q x y k=C at*;cases hB:nG (p[k]?.getD []) q x y with
   |false=>rw[hB]at ap;rw[hno hB];clear hno hys hB hn1 hn2;simp only[Bool.false_eq_true,if_false,List.map_nil];exact wlkF
   |true=>
    rw[hB]at ap;have hys2:=hys.out hB;replace hys2:=Lib.hid hys2;clear hno hys hB;(refine wlk ?_;intros);refine⟨(k+1,nx,nx+2,nx+3),⟨by dsimp only;omega,by refine⟨?_,?_,?_,?_,?_⟩<;>(dsimp only;omega),hys2.out⟩,by dsimp only;omega,?_,?_,rfl⟩
    ·dsimp only
     rw[hn1.out];exact agi
    ·dsimp only
     rw[hn1.out,hn2.out];exact agr
  ·obtain rfl:k=p.length:=by omega
   have hall2:(p.all fun w=>nG w q x y)=true:=gB (d:=[]) fun j hj=>hok'.out j hj;rw[hall2];simp only[if_true];clear api hp60 hbk hck hall2;generalize blK p q x y p.length=B at*;generalize bcK p q x y p.length=C at*;exact wlkF
theorem aqf {P:Program} {rs:List ResultVar} {tm:Nat→PV} {ob:bD} {nx:Nat} {x:X} {r:PV} {c' d':aH} (a b:Nat) (hab:¬a=b) (hx:x=.normal∨x=.ret) (h1:((fF P ⟨tm,ob,nx⟩ rs).bind fun qs=>bU [a,b] ob fuel (gL qs))=some r) (h2:kg [a,b] ob fuel a=some c') (h3:kg [a,b] ob fuel b=some d'):gY P rs 0 r [c',d'] x ⟨tm,ob,nx⟩:=
 ⟨hx,[a,b],by simp,by simp[hab],h1,by show [a,b].mapM (kg [a,b] ob fuel)=some [c',d'];rw[mapM_cons',h2,Option.bind_some,mapM_cons',h3,Option.bind_some,mapM_nil'];rfl⟩
def ΨBl:alX:=G1 kD fun b=>if wF b.1 b.2.1 then some (if 0<(blL b.1 b.2.1 b.2.2.1 b.2.2.2.1 b.2.2.2.2).length then(.tup [.row 0 1 0 (blL b.1 b.2.1 b.2.2.1 b.2.2.2.1 b.2.2.2.2).length,.row 1 1 0 (blC b.1 b.2.1 b.2.2.1 b.2.2.2.1 b.2.2.2.2).length,bv (blB b.1 b.2.1 b.2.2.1 b.2.2.2.1 b.2.2.2.2)],[(9,1,(blL b.1 b.2.1 b.2.2.1 b.2.2.2.1 b.2.2.2.2).map fun s=> .val (.string s)),(3,1,(blC b.1 b.2.1 b.2.2.1 b.2.2.2.1 b.2.2.2.2).map fun n=> .val (.int .i64 n))])else(.tup [.val (.slice none 0 0),.val (.slice none 0 0),bv (blB b.1 b.2.1 b.2.2.1 b.2.2.2.1 b.2.2.2.2)],[]))else none
def axt:Ctx:={fn:=aY [(36,iY),(60,aiF)],io:=aY []}
theorem aod:ak Tryz.prog axt:=okΓ (fC Tryz.func36 kJ (fC Tryz.func60 afs aj)) aj
def aij:=ah (Γ:=axt) (f:=36) (φ:=iY) rfl
def ajd:=ah (Γ:=axt) (f:=60) (φ:=aiF) rfl
theorem aqe:sK Tryz.prog 25 ΨBl:=by
 refine aat mixed aod Tryz.func25 rfl 45 rfl [.tmp 2,.tmp 3,.tmp 4] rfl (by kernel_rfl) fun ps r cs' hr=>?_;obtain⟨⟨p,q,x,y,z⟩,rfl,hq⟩:=aqh hr;clear hr;split at hq
 case isFalse=>cases hq
 case isTrue hpre=>
 simp only[Option.some.injEq]at hq;refine⟨by simp,?_⟩;simp only[dIs,dUs,dSs,dz,dF,dx,dG,aR,dD,aU,aV,aS,aT];dsimp only at hpre hq⊢;have apv:=pY (x:=x) (y:=y) (z:=z) hpre;obtain⟨hlen,hall,hoq⟩:=hpre;have api:=fun(k:Nat) h=>alW (wd:=x) (most:=y) ⟨hall k,hoq⟩ h;have apn:=fun(k:Nat) h=>al5 (wd:=x) (most:=y) ⟨hall k,hoq⟩ h;have hp60:=fun k:Nat=>(yH (p[k]?.getD []) q x y).1;have hbk:=xB p q x y;have hck:=wT p q x y;unfold blL blC blB at hq;cases hb:fA p q x y z with
 |false=>rw[hb]at apv hq;simp only[Bool.false_and,Bool.false_eq_true,if_false,List.length_nil,Nat.lt_irrefl,Prod.mk.injEq]at hq;obtain⟨rfl,rfl⟩:=hq;clear api apn hp60 hbk hck hall hoq hb;have gbli_c36:=aij;have gbli_c60:=ajd;(refine wlk ?_;intros);all_goals((with_reducible apply pV (by first|exact .inl rfl|exact .inr rfl));(simp(disch:=(first|omega|(simp only[push_cast];first|done|omega))) only[push_cast,↓reduceIte,Nat.reduceEqDiff,Nat.reduceBEq,Nat.reduceAdd,Nat.reduceSub,Int.reduceToNat, *]<;>with_reducible exact rfl))
 |true=>
  rw[hb]at apv hq;have h6:p.length≤6:=by unfold fA at hb;simp only[Bool.and_eq_true,decide_eq_true_eq]at hb;exact hb.2.1
  simp only[Bool.true_and]at hq;replace hq:=Lib.hid hq;clear hall hoq hb;have gbli_c36:=aij;have gbli_c60:=ajd;(refine wlk ?_;intros);refine aG (α:=Nat×Nat×Nat×Nat) mixed (fun i=>[(1,.own 0 5 0 0),(5,nP 1 ((blK p q x y i.1).map fun s=> .val (.string s)) i.2.1),(6,nP 1 ((bcK p q x y i.1).map fun n=> .val (.int .i64 n)) i.2.2.1),(15,lsP p),(16,iv p.length),(17,iv i.1)])
   (fun i=>[(0,26,5,[.agg [lsP p,.lst false 1 (q.map fun s=> .val (.string s)),.val (.int .i64 x),.val (.int .i64 y),.val (.int .i64 z)]])]++(nO 9 1 ((blK p q x y i.1).map fun s=> .val (.string s)) i.2.1++nO 3 1 ((bcK p q x y i.1).map fun n=> .val (.int .i64 n)) i.2.2.1))
   (fun i=>i.2.2.2) (fun i=>i.1≤p.length∧0<i.2.2.2∧(0<i.1→0<i.2.1∧0<i.2.2.1∧i.2.1≠i.2.2.1∧i.2.1<i.2.2.2∧i.2.2.1<i.2.2.2)∧∀j,j<i.1→nG (p[j]?.getD []) q x y=true) (fun i=>p.length-i.1) (by kernel_rfl) (0,0,0,1) ⟨Nat.zero_le _,by decide,fun h=>absurd h (Nat.lt_irrefl 0),fun j hj=>by dsimp only at hj;omega⟩ ?_ ?_ rfl ?_
  ·dsimp only
   rw[show blK p q x y 0=[]from rfl,show bcK p q x y 0=[]from rfl,List.map_nil,List.map_nil,eO];exact agi
  ·dsimp only
   rw[show blK p q x y 0=[]from rfl,show bcK p q x y 0=[]from rfl,List.map_nil,List.map_nil,dO,dO];simp(disch:=(first|omega|(simp only[push_cast];first|done|omega))) only[push_cast,↓reduceIte,Nat.reduceEqDiff,Nat.reduceBEq,Nat.reduceAdd,Nat.reduceSub,Int.reduceToNat,List.cons_append,List.nil_append,List.append_nil, *]
  rintro⟨k,o1,o2,nx⟩ ⟨hk,hnx,hoo,hok⟩;dsimp only at hk hnx hoo hok⊢;have hok':=Lib.hid hok;have hbp:=fun h=>ah1 (k:=k) hok h;clear hok;have hbl:=hbk k;have hcl:=hck k;by_cases hkl:k<p.length
  ·have ap:=api k
   have apk:=apn k;have h60:=hp60 k;have hn1:blK p q x y (k+1)=blK p q x y k++mR (p[k]?.getD []) q x y:=rfl;have hn2:bcK p q x y (k+1)=bcK p q x y k++[((mR (p[k]?.getD []) q x y).length:Int)]:=rfl;have hno:nG (p[k]?.getD []) q x y=false→(p.all fun w=>nG w q x y)=false:=fun h=>jy (d:=[]) hkl h;have hps:=fun h=>abl (ws:=p[k]?.getD []) (pats:=q) (wd:=x) (most:=y) h;have hys:nG (p[k]?.getD []) q x y=true→∀j,j<k+1→nG (p[j]?.getD []) q x y=true:=fun h j hj=>by
    rcases Nat.lt_or_ge j k with h1|h1
    ·exact hok'.out j h1
    ·obtain rfl:j=k:=by omega
     exact h
   replace hn1:=Lib.hid hn1;replace hn2:=Lib.hid hn2;replace hys:=Lib.hid hys;clear api apn hp60 hbk hck;generalize mR (p[k]?.getD []) q x y=L at*;cases hB:nG (p[k]?.getD []) q x y with
   |false=>
    have ap2:=apk hB;have hq2:=hq.out;rw[hno hB]at hq2;simp only[Bool.false_eq_true,if_false,List.length_nil,Nat.lt_irrefl,Prod.mk.injEq]at hq2;obtain⟨rfl,rfl⟩:=hq2;clear ap apk hno hys hB hn1 hn2 hps hq;by_cases hk0:k=0
    ·subst hk0
     rw[show blK p q x y 0=[]from rfl,show bcK p q x y 0=[]from rfl,List.map_nil,List.map_nil,eO,dO,dO];simp only[List.append_nil];(refine wlk ?_;intros);all_goals((with_reducible apply pV (by first|exact .inl rfl|exact .inr rfl));(simp(disch:=(first|omega|(simp only[push_cast];first|done|omega))) only[push_cast,↓reduceIte,Nat.reduceEqDiff,Nat.reduceBEq,Nat.reduceAdd,Nat.reduceSub,Int.reduceToNat, *]<;>with_reducible exact rfl))
    ·obtain⟨ho1,ho2,ho3,ho4,ho5⟩:=hoo (by omega)
     have hb1:=hbp (by omega);have hb2:0<((blK p q x y k).map fun s=>PV.val (.string s)).length:=by rw[List.length_map];exact hb1
     have hb3:0<((bcK p q x y k).map fun n=>PV.val (.int .i64 n)).length:=by rw[List.length_map];omega
     rw[aA hb2,aA hb3,aB hb2,aB hb3];generalize blK p q x y k=B at*;generalize bcK p q x y k=C at*;simp only[List.cons_append,List.nil_append,List.length_map,hcl];(refine wlk ?_;intros);all_goals((with_reducible apply pV (by first|exact .inl rfl|exact .inr rfl));(simp(disch:=(first|omega|(simp only[push_cast];first|done|omega))) only[push_cast,↓reduceIte,Nat.reduceEqDiff,Nat.reduceBEq,Nat.reduceAdd,Nat.reduceSub,Int.reduceToNat, *]<;>with_reducible exact rfl))
   |true=>
    have hL0:=hps hB;have ap2:=ap hL0;rw[hB]at ap2;have hys2:=hys.out hB;replace hys2:=Lib.hid hys2;clear ap apk hno hys hB hps;by_cases hk0:k=0
    ·subst hk0
     rw[show blK p q x y 0=[]from rfl,show bcK p q x y 0=[]from rfl,List.map_nil,List.map_nil,eO,dO,dO];rw[show blK p q x y 0=[]from rfl,List.nil_append]at hn1;rw[show bcK p q x y 0=[]from rfl,List.nil_append]at hn2;have hLp:0<(L.map fun s=>PV.val (.string s)).length:=by rw[List.length_map];exact hL0
     simp only[List.append_nil];clear hbl hcl hbp;(refine wlk ?_;intros);refine⟨(0+1,nx,nx+2,nx+3),⟨by dsimp only;omega,by dsimp only;omega,fun _=>by refine⟨?_,?_,?_,?_,?_⟩<;>(dsimp only;omega),hys2.out⟩,by dsimp only;omega,?_,?_,rfl⟩
     ·dsimp only
      rw[hn1.out,hn2.out,aA hLp,aA (show 0<([((L.length:Nat):Int)].map fun n=>PV.val (.int .i64 n)).length from Nat.zero_lt_one)];exact agi
     ·dsimp only
      rw[hn1.out,hn2.out,aB hLp,aB (show 0<([((L.length:Nat):Int)].map fun n=>PV.val (.int .i64 n)).length from Nat.zero_lt_one)];simp(disch:=(first|omega|(simp only[push_cast];first|done|omega))) only[push_cast,↓reduceIte,Nat.reduceEqDiff,Nat.reduceBEq,Nat.reduceAdd,Nat.reduceSub,Int.reduceToNat,List.cons_append,List.nil_append,List.append_nil, *]
    ·obtain⟨ho1,ho2,ho3,ho4,ho5⟩:=hoo (by omega)
     have ho6:¬o2=o1:=fun e=>ho3 e.symm;replace ho3:¬o1=o2:=ho3;have hb1:=hbp (by omega);have hb2:0<((blK p q x y k).map fun s=>PV.val (.string s)).length:=by rw[List.length_map];exact hb1
     have hb3:0<((bcK p q x y k).map fun n=>PV.val (.int .i64 n)).length:=by rw[List.length_map];omega
     have hb4:0<((blK p q x y k++L).map fun s=>PV.val (.string s)).length:=by rw[List.length_map,List.length_append];omega
     rw[aA hb2,aA hb3,aB hb2,aB hb3];generalize blK p q x y k=B at*;generalize bcK p q x y k=C at*;simp only[List.cons_append,List.nil_append,List.length_map,hcl];clear hb2 hb3;(refine wlk ?_;intros);refine⟨(k+1,nx,nx+2,nx+3),⟨by dsimp only;omega,by dsimp only;omega,fun _=>by refine⟨?_,?_,?_,?_,?_⟩<;>(dsimp only;omega),hys2.out⟩,by dsimp only;omega,?_,?_,rfl⟩
     ·dsimp only
      rw[hn1.out,hn2.out,aA hb4,aA (show 0<((C++[((L.length:Nat):Int)]).map fun n=>PV.val (.int .i64 n)).length by simp)];exact agi
     ·dsimp only
      rw[hn1.out,hn2.out,aB hb4,aB (show 0<((C++[((L.length:Nat):Int)]).map fun n=>PV.val (.int .i64 n)).length by simp)];simp(disch:=(first|omega|(simp only[push_cast];first|done|omega))) only[push_cast,↓reduceIte,Nat.reduceEqDiff,Nat.reduceBEq,Nat.reduceAdd,Nat.reduceSub,Int.reduceToNat,List.cons_append,List.nil_append,List.append_nil, *]
  ·obtain rfl:k=p.length:=by omega
   have hall2:(p.all fun w=>nG w q x y)=true:=gB (d:=[]) fun j hj=>hok'.out j hj;have hq2:=hq.out;rw[hall2]at hq2;simp only[if_true]at hq2;clear api apn hp60 hbk hck hall2 hq;by_cases hk0:p.length=0
   ·obtain rfl:=List.eq_nil_of_length_eq_zero hk0
    change(if 0<([]:LS).length then _ else _)=_ at hq2;show pq _ _ _ _ _ (lk [(1,.own 0 5 0 0),(5,nP 1 [] o1),(6,nP 1 [] o2),(15,lsP []),(16,iv ([]:List LS).length),(17,iv ([]:List LS).length)]) (lo ([(0,26,5,[.agg [lsP [],.lst false 1 (q.map fun s=> .val (.string s)),.val (.int .i64 x),.val (.int .i64 y),.val (.int .i64 z)]])]++(nO 9 1 [] o1++nO 3 1 [] o2))) _;rw[eO,eO,dO,dO];simp only[List.length_nil,Nat.lt_irrefl,if_false,Prod.mk.injEq]at hq2;obtain⟨rfl,rfl⟩:=hq2;simp only[List.append_nil];(refine wlk ?_;intros);all_goals((with_reducible apply pV (by first|exact .inl rfl|exact .inr rfl));(simp(disch:=(first|omega|(simp only[push_cast];first|done|omega))) only[push_cast,↓reduceIte,Nat.reduceEqDiff,Nat.reduceBEq,Nat.reduceAdd,Nat.reduceSub,Int.reduceToNat, *]<;>with_reducible exact rfl))
   ·obtain⟨ho1,ho2,ho3,ho4,ho5⟩:=hoo (by omega)
    have ho6:¬o2=o1:=fun e=>ho3 e.symm;replace ho3:¬o1=o2:=ho3;have hb1:=hbp (by omega);have hb2:0<((blK p q x y p.length).map fun s=>PV.val (.string s)).length:=by rw[List.length_map];exact hb1
    have hb3:0<((bcK p q x y p.length).map fun n=>PV.val (.int .i64 n)).length:=by rw[List.length_map];omega
    rw[aA hb2,aA hb3,aB hb2,aB hb3];rw[if_pos hb1]at hq2;simp only[Prod.mk.injEq]at hq2;obtain⟨rfl,rfl⟩:=hq2;generalize blK p q x y p.length=B at*;generalize bcK p q x y p.length=C at*;simp only[List.cons_append,List.nil_append,List.length_map,hcl];(refine wlk ?_;intros);all_goals((with_reducible apply aqf o1 o2 ho3 (by first|exact .inl rfl|exact .inr rfl));(focus(simp(disch:=(first|omega|(simp only[push_cast];first|done|omega))) only[push_cast,↓reduceIte,Nat.reduceEqDiff,Nat.reduceBEq,Nat.reduceAdd,Nat.reduceSub,Int.reduceToNat, *]<;>with_reducible exact rfl));(focus(simp(disch:=(first|omega|(simp only[push_cast];first|done|omega))) only[push_cast,↓reduceIte,Nat.reduceEqDiff,Nat.reduceBEq,Nat.reduceAdd,Nat.reduceSub,Int.reduceToNat, *]<;>with_reducible exact rfl));(focus(simp(disch:=(first|omega|(simp only[push_cast];first|done|omega))) only[push_cast,↓reduceIte,Nat.reduceEqDiff,Nat.reduceBEq,Nat.reduceAdd,Nat.reduceSub,Int.reduceToNat, *]<;>with_reducible exact rfl)))
def GRb:Ctx:={fn:=aY [],io:=aY [(57,sH),(59,aft),(58,abq),(56,qb)]}
theorem atl:ak Tryz.prog GRb:=okΓ aj (fD Tryz.func57 rT (fD Tryz.func59 acV (fD Tryz.func58 alA (fD Tryz.func56 aa5 aj))))
abbrev lsE (L:List LS):List PV:=L.map fun p=> .lst true 1 (p.map fun s=> .val (.string s))
def pE (L:List LS):PV:=match L with|[]=> .val (.slice none 0 0)|_::_=> .lst true 1 (lsE L)
theorem awv:pE []=.val (.slice none 0 0):=rfl
theorem atu {L:List LS} (h:0<L.length):pE L=.lst true 1 (lsE L):=by
 cases L with
 |nil=>simp at h
 |cons a L=>rfl
attribute[push_cast]
 xQ awv
attribute[push_cast low]
 atu
theorem aD {L:List LS} {v:LS} (hL:∀l∈L,okT 13 l) (hv:okT 13 v):∀l∈L++[v],okT 13 l:=fun l hl=>by
 rcases List.mem_append.1 hl with hl|hl
 ·exact hL l hl
 ·simp only[List.mem_singleton]at hl
  exact hl▸hv
theorem bV:okT 13 []:=⟨by simp,by simp⟩
theorem ig:okT 13 [(⟨#[65]⟩:ByteArray)]:=⟨by simp,by intro s hs;simp only[List.mem_singleton]at hs;subst hs;decide⟩
abbrev BD:=List LS×LS×Int×Int×Int
abbrev EBk (b:BD):PV:=.agg [pE b.1,.lst true 1 (b.2.1.map fun s=> .val (.string s)),iv b.2.2.1,iv b.2.2.2.1,iv b.2.2.2.2]
def akW (b:BD):Prop:=(b.1.length≤5∧∀l∈b.1,okT 13 l)∧okT 22 b.2.1∧okI b.2.2.1∧okI b.2.2.2.1∧okI b.2.2.2.2
theorem pO {out:List Nat} {ob:bD} {l:List LS} {f:Nat}:(l.map fun p=>PV.lst true 1 (p.map fun s=>PV.val (.string s))).mapM (bU out ob (f+3))=some (l.map fun p=>PV.lst true 1 (p.map fun s=>PV.val (.string s))):=
 jR fun p=>wB
theorem uZ {out:List Nat} {ob:bD} {f T m:Nat} {es:List PV} (L:List LS) (he:es=lsE L) (hm:m=L.length):ajD out ob (f+3) 1 0 m none (some (T,1,es))=some (.lst true 1 (lsE L)):=by subst he;rw[lY (by rw[List.length_map];exact hm),pO];rfl
theorem rz {out:List Nat} {ob:bD} {f T m:Nat} {es:List PV} {last:PV} (L:List LS) (l:LS) (he:es=lsE L++[last]) (hm:m=L.length+1) (hl:bU out ob (f+3) last=some (.lst true 1 (l.map fun s=>PV.val (.string s)))):
 ajD out ob (f+3) 1 0 m none (some (T,1,es))=some (.lst true 1 (lsE (L++[l]))):=by
 subst he;rw[lY (by simp;exact hm),List.mapM_append,pO,mapM_cons',mapM_nil',hl];simp
attribute[push_cast]
 pO EBk
theorem abf:∃Φ:dP,bO Tryz.prog 23 Φ∧adv 83 Φ 500000000 2000 EBk (fun n=>0≤n∧n≤1000) (fun _ b=>akW b):=by
 refine o9 mixed atl Tryz.func23 rfl 90 rfl [.cell 4 26] rfl (by kernel_rfl) (by simp) _ _ _ _ _ _ fun code p n hok hp hn=>?_;have hp0:=hok.pos
 repeat' (first|(first|(with_reducible first|apply fM|apply bF|apply cO|apply dn|apply fG|apply mJ|apply fK|apply fP|apply mH|apply fB|apply fE|apply mI|apply fO|apply fH|apply fJ)|((with_reducible apply bg);(simp only[List.map_cons,List.map_nil]<;>exact rfl))|((with_reducible apply dh);(simp only[List.map_cons,List.map_nil]<;>exact rfl);decide+kernel)|((with_reducible apply fI);rfl)|((first|((with_reducible apply i_V);rfl;rfl;rfl)|((first|((with_reducible apply i_E);rfl)|((with_reducible apply i_S);rfl));first|rfl|(simp only[push_cast,↓reduceIte]))|((with_reducible apply mM);rfl;rfl)|((with_reducible apply mE);rfl;rfl;rfl)|(with_reducible first|apply mG|apply cZ));(simp(disch:=(first|omega|(simp only[push_cast];first|done|omega))) only[push_cast,↓reduceIte,Nat.reduceEqDiff,Nat.reduceBEq,Nat.reduceAdd,Nat.reduceSub,Int.reduceToNat, *]<;>with_reducible exact rfl);all_goals try(first|(with_reducible first|refine hyT ?_|refine hyF ?_|exact hyA|exact hyB)|(intro hX;first|(cases hX;done)|((try simp only[decide_eq_true_eq,decide_eq_false_iff_not,Bool.not_eq_true',Bool.not_eq_false']at hX);(try have hXb:=av.1 hX))))))|((with_reducible apply bT eD (fun _ _=>rfl));rfl;(simp(disch:=(first|omega|(simp only[push_cast];first|done|omega))) only[push_cast,↓reduceIte,Nat.reduceEqDiff,Nat.reduceBEq,Nat.reduceAdd,Nat.reduceSub,Int.reduceToNat, *]<;>with_reducible exact rfl);(simp(disch:=(first|omega|(simp only[push_cast];first|done|omega))) only[push_cast,↓reduceIte,Nat.reduceEqDiff,Nat.reduceBEq,Nat.reduceAdd,Nat.reduceSub,Int.reduceToNat, *]<;>with_reducible exact rfl);(simp(disch:=(first|omega|(simp only[push_cast];first|done|omega))) only[push_cast,↓reduceIte,Nat.reduceEqDiff,Nat.reduceBEq,Nat.reduceAdd,Nat.reduceSub,Int.reduceToNat, *]<;>with_reducible exact rfl);assumption;omega;(focus(first|trivial|omega));(focus(first|rfl|(simp only[push_cast,↓reduceIte])));intro v pp hv hok hpp1 hpp2)|((with_reducible apply bT je (fun _ _=>rfl));rfl;(simp(disch:=(first|omega|(simp only[push_cast];first|done|omega))) only[push_cast,↓reduceIte,Nat.reduceEqDiff,Nat.reduceBEq,Nat.reduceAdd,Nat.reduceSub,Int.reduceToNat, *]<;>with_reducible exact rfl);(simp(disch:=(first|omega|(simp only[push_cast];first|done|omega))) only[push_cast,↓reduceIte,Nat.reduceEqDiff,Nat.reduceBEq,Nat.reduceAdd,Nat.reduceSub,Int.reduceToNat, *]<;>with_reducible exact rfl);(simp(disch:=(first|omega|(simp only[push_cast];first|done|omega))) only[push_cast,↓reduceIte,Nat.reduceEqDiff,Nat.reduceBEq,Nat.reduceAdd,Nat.reduceSub,Int.reduceToNat, *]<;>with_reducible exact rfl);assumption;omega;(focus(first|trivial|omega));(focus(first|rfl|(simp only[push_cast,↓reduceIte])));intro v pp hv hok hpp1 hpp2)|((with_reducible apply bT lF (fun _ _=>by simp only[push_cast,↓reduceIte,Nat.reduceEqDiff,Nat.reduceBEq,Nat.reduceAdd,Nat.reduceSub,Int.reduceToNat]));(focus rfl);(focus(simp(disch:=(first|omega|(simp only[push_cast];first|done|omega))) only[push_cast,↓reduceIte,Nat.reduceEqDiff,Nat.reduceBEq,Nat.reduceAdd,Nat.reduceSub,Int.reduceToNat, *]<;>with_reducible exact rfl));(focus(simp(disch:=(first|omega|(simp only[push_cast];first|done|omega))) only[push_cast,↓reduceIte,Nat.reduceEqDiff,Nat.reduceBEq,Nat.reduceAdd,Nat.reduceSub,Int.reduceToNat, *]<;>with_reducible exact rfl));(focus(simp(disch:=(first|omega|(simp only[push_cast];first|done|omega))) only[push_cast,↓reduceIte,Nat.reduceEqDiff,Nat.reduceBEq,Nat.reduceAdd,Nat.reduceSub,Int.reduceToNat, *]<;>with_reducible exact rfl));(focus assumption);(focus omega);(focus(first|trivial|omega));(focus(first|rfl|(simp only[push_cast,↓reduceIte])));intro v pp hv hok hpp1 hpp2)|((with_reducible apply acB lJ ny mV);(focus rfl);(focus(simp(disch:=(first|omega|(simp only[push_cast];first|done|omega))) only[push_cast,↓reduceIte,Nat.reduceEqDiff,Nat.reduceBEq,Nat.reduceAdd,Nat.reduceSub,Int.reduceToNat, *]<;>with_reducible exact rfl));(focus(simp(disch:=(first|omega|(simp only[push_cast];first|done|omega))) only[push_cast,↓reduceIte,Nat.reduceEqDiff,Nat.reduceBEq,Nat.reduceAdd,Nat.reduceSub,Int.reduceToNat, *]<;>with_reducible exact rfl));(focus(simp(disch:=(first|omega|(simp only[push_cast];first|done|omega))) only[push_cast,↓reduceIte,Nat.reduceEqDiff,Nat.reduceBEq,Nat.reduceAdd,Nat.reduceSub,Int.reduceToNat, *]<;>with_reducible exact rfl));(focus assumption);(focus omega);(focus(first|trivial|omega));(focus(first|rfl|(simp only[push_cast,↓reduceIte])));intro v pp hv hok hpp1 hpp2))
 refine lZ 14 (by simp only[List.map_cons,List.map_nil]<;>exact rfl) (by simp only[List.take_succ_cons,List.take_zero]<;>exact rfl) (by simp only[List.drop_succ_cons,List.drop_zero]<;>exact rfl) amg (by decide+kernel) (by decide+kernel) ?_
 repeat' (first|(first|(with_reducible first|apply fM|apply bF|apply cO|apply dn|apply fG|apply mJ|apply fK|apply fP|apply mH|apply fB|apply fE|apply mI|apply fO|apply fH|apply fJ)|((with_reducible apply bg);(simp only[List.map_cons,List.map_nil]<;>exact rfl))|((with_reducible apply dh);(simp only[List.map_cons,List.map_nil]<;>exact rfl);decide+kernel)|((with_reducible apply fI);rfl)|((first|((with_reducible apply i_V);rfl;rfl;rfl)|((first|((with_reducible apply i_E);rfl)|((with_reducible apply i_S);rfl));first|rfl|(simp only[push_cast,↓reduceIte]))|((with_reducible apply mM);rfl;rfl)|((with_reducible apply mE);rfl;rfl;rfl)|(with_reducible first|apply mG|apply cZ));(simp(disch:=(first|omega|(simp only[push_cast];first|done|omega))) only[push_cast,↓reduceIte,Nat.reduceEqDiff,Nat.reduceBEq,Nat.reduceAdd,Nat.reduceSub,Int.reduceToNat, *]<;>with_reducible exact rfl);all_goals try(first|(with_reducible first|refine hyT ?_|refine hyF ?_|exact hyA|exact hyB)|(intro hX;first|(cases hX;done)|((try simp only[decide_eq_true_eq,decide_eq_false_iff_not,Bool.not_eq_true',Bool.not_eq_false']at hX);(try have hXb:=av.1 hX))))))|((with_reducible apply bT eD (fun _ _=>rfl));rfl;(simp(disch:=(first|omega|(simp only[push_cast];first|done|omega))) only[push_cast,↓reduceIte,Nat.reduceEqDiff,Nat.reduceBEq,Nat.reduceAdd,Nat.reduceSub,Int.reduceToNat, *]<;>with_reducible exact rfl);(simp(disch:=(first|omega|(simp only[push_cast];first|done|omega))) only[push_cast,↓reduceIte,Nat.reduceEqDiff,Nat.reduceBEq,Nat.reduceAdd,Nat.reduceSub,Int.reduceToNat, *]<;>with_reducible exact rfl);(simp(disch:=(first|omega|(simp only[push_cast];first|done|omega))) only[push_cast,↓reduceIte,Nat.reduceEqDiff,Nat.reduceBEq,Nat.reduceAdd,Nat.reduceSub,Int.reduceToNat, *]<;>with_reducible exact rfl);assumption;omega;(focus(first|trivial|omega));(focus(first|rfl|(simp only[push_cast,↓reduceIte])));intro v pp hv hok hpp1 hpp2)|((with_reducible apply bT je (fun _ _=>rfl));rfl;(simp(disch:=(first|omega|(simp only[push_cast];first|done|omega))) only[push_cast,↓reduceIte,Nat.reduceEqDiff,Nat.reduceBEq,Nat.reduceAdd,Nat.reduceSub,Int.reduceToNat, *]<;>with_reducible exact rfl);(simp(disch:=(first|omega|(simp only[push_cast];first|done|omega))) only[push_cast,↓reduceIte,Nat.reduceEqDiff,Nat.reduceBEq,Nat.reduceAdd,Nat.reduceSub,Int.reduceToNat, *]<;>with_reducible exact rfl);(simp(disch:=(first|omega|(simp only[push_cast];first|done|omega))) only[push_cast,↓reduceIte,Nat.reduceEqDiff,Nat.reduceBEq,Nat.reduceAdd,Nat.reduceSub,Int.reduceToNat, *]<;>with_reducible exact rfl);assumption;omega;(focus(first|trivial|omega));(focus(first|rfl|(simp only[push_cast,↓reduceIte])));intro v pp hv hok hpp1 hpp2)|((with_reducible apply bT lF (fun _ _=>by simp only[push_cast,↓reduceIte,Nat.reduceEqDiff,Nat.reduceBEq,Nat.reduceAdd,Nat.reduceSub,Int.reduceToNat]));(focus rfl);(focus(simp(disch:=(first|omega|(simp only[push_cast];first|done|omega))) only[push_cast,↓reduceIte,Nat.reduceEqDiff,Nat.reduceBEq,Nat.reduceAdd,Nat.reduceSub,Int.reduceToNat, *]<;>with_reducible exact rfl));(focus(simp(disch:=(first|omega|(simp only[push_cast];first|done|omega))) only[push_cast,↓reduceIte,Nat.reduceEqDiff,Nat.reduceBEq,Nat.reduceAdd,Nat.reduceSub,Int.reduceToNat, *]<;>with_reducible exact rfl));(focus(simp(disch:=(first|omega|(simp only[push_cast];first|done|omega))) only[push_cast,↓reduceIte,Nat.reduceEqDiff,Nat.reduceBEq,Nat.reduceAdd,Nat.reduceSub,Int.reduceToNat, *]<;>with_reducible exact rfl));(focus assumption);(focus omega);(focus(first|trivial|omega));(focus(first|rfl|(simp only[push_cast,↓reduceIte])));intro v pp hv hok hpp1 hpp2)|((with_reducible apply acB lJ ny mV);(focus rfl);(focus(simp(disch:=(first|omega|(simp only[push_cast];first|done|omega))) only[push_cast,↓reduceIte,Nat.reduceEqDiff,Nat.reduceBEq,Nat.reduceAdd,Nat.reduceSub,Int.reduceToNat, *]<;>with_reducible exact rfl));(focus(simp(disch:=(first|omega|(simp only[push_cast];first|done|omega))) only[push_cast,↓reduceIte,Nat.reduceEqDiff,Nat.reduceBEq,Nat.reduceAdd,Nat.reduceSub,Int.reduceToNat, *]<;>with_reducible exact rfl));(focus(simp(disch:=(first|omega|(simp only[push_cast];first|done|omega))) only[push_cast,↓reduceIte,Nat.reduceEqDiff,Nat.reduceBEq,Nat.reduceAdd,Nat.reduceSub,Int.reduceToNat, *]<;>with_reducible exact rfl));(focus assumption);(focus omega);(focus(first|trivial|omega));(focus(first|rfl|(simp only[push_cast,↓reduceIte])));intro v pp hv hok hpp1 hpp2))
 refine asg (by(simp(disch:=(first|omega|(simp only[push_cast];first|done|omega))) only[push_cast,↓reduceIte,Nat.reduceEqDiff,Nat.reduceBEq,Nat.reduceAdd,Nat.reduceSub,Int.reduceToNat, *]<;>with_reducible exact rfl)) ?_
 repeat' (first|(first|(with_reducible first|apply fM|apply bF|apply cO|apply dn|apply fG|apply mJ|apply fK|apply fP|apply mH|apply fB|apply fE|apply mI|apply fO|apply fH|apply fJ)|((with_reducible apply bg);(simp only[List.map_cons,List.map_nil]<;>exact rfl))|((with_reducible apply dh);(simp only[List.map_cons,List.map_nil]<;>exact rfl);decide+kernel)|((with_reducible apply fI);rfl)|((first|((with_reducible apply i_V);rfl;rfl;rfl)|((first|((with_reducible apply i_E);rfl)|((with_reducible apply i_S);rfl));first|rfl|(simp only[push_cast,↓reduceIte]))|((with_reducible apply mM);rfl;rfl)|((with_reducible apply mE);rfl;rfl;rfl)|(with_reducible first|apply mG|apply cZ));(simp(disch:=(first|omega|(simp only[push_cast];first|done|omega))) only[push_cast,↓reduceIte,Nat.reduceEqDiff,Nat.reduceBEq,Nat.reduceAdd,Nat.reduceSub,Int.reduceToNat, *]<;>with_reducible exact rfl);all_goals try(first|(with_reducible first|refine hyT ?_|refine hyF ?_|exact hyA|exact hyB)|(intro hX;first|(cases hX;done)|((try simp only[decide_eq_true_eq,decide_eq_false_iff_not,Bool.not_eq_true',Bool.not_eq_false']at hX);(try have hXb:=av.1 hX))))))|((with_reducible apply bT eD (fun _ _=>rfl));rfl;(simp(disch:=(first|omega|(simp only[push_cast];first|done|omega))) only[push_cast,↓reduceIte,Nat.reduceEqDiff,Nat.reduceBEq,Nat.reduceAdd,Nat.reduceSub,Int.reduceToNat, *]<;>with_reducible exact rfl);(simp(disch:=(first|omega|(simp only[push_cast];first|done|omega))) only[push_cast,↓reduceIte,Nat.reduceEqDiff,Nat.reduceBEq,Nat.reduceAdd,Nat.reduceSub,Int.reduceToNat, *]<;>with_reducible exact rfl);(simp(disch:=(first|omega|(simp only[push_cast];first|done|omega))) only[push_cast,↓reduceIte,Nat.reduceEqDiff,Nat.reduceBEq,Nat.reduceAdd,Nat.reduceSub,Int.reduceToNat, *]<;>with_reducible exact rfl);assumption;omega;(focus(first|trivial|omega));(focus(first|rfl|(simp only[push_cast,↓reduceIte])));intro v pp hv hok hpp1 hpp2)|((with_reducible apply bT je (fun _ _=>rfl));rfl;(simp(disch:=(first|omega|(simp only[push_cast];first|done|omega))) only[push_cast,↓reduceIte,Nat.reduceEqDiff,Nat.reduceBEq,Nat.reduceAdd,Nat.reduceSub,Int.reduceToNat, *]<;>with_reducible exact rfl);(simp(disch:=(first|omega|(simp only[push_cast];first|done|omega))) only[push_cast,↓reduceIte,Nat.reduceEqDiff,Nat.reduceBEq,Nat.reduceAdd,Nat.reduceSub,Int.reduceToNat, *]<;>with_reducible exact rfl);(simp(disch:=(first|omega|(simp only[push_cast];first|done|omega))) only[push_cast,↓reduceIte,Nat.reduceEqDiff,Nat.reduceBEq,Nat.reduceAdd,Nat.reduceSub,Int.reduceToNat, *]<;>with_reducible exact rfl);assumption;omega;(focus(first|trivial|omega));(focus(first|rfl|(simp only[push_cast,↓reduceIte])));intro v pp hv hok hpp1 hpp2)|((with_reducible apply bT lF (fun _ _=>by simp only[push_cast,↓reduceIte,Nat.reduceEqDiff,Nat.reduceBEq,Nat.reduceAdd,Nat.reduceSub,Int.reduceToNat]));(focus rfl);(focus(simp(disch:=(first|omega|(simp only[push_cast];first|done|omega))) only[push_cast,↓reduceIte,Nat.reduceEqDiff,Nat.reduceBEq,Nat.reduceAdd,Nat.reduceSub,Int.reduceToNat, *]<;>with_reducible exact rfl));(focus(simp(disch:=(first|omega|(simp only[push_cast];first|done|omega))) only[push_cast,↓reduceIte,Nat.reduceEqDiff,Nat.reduceBEq,Nat.reduceAdd,Nat.reduceSub,Int.reduceToNat, *]<;>with_reducible exact rfl));(focus(simp(disch:=(first|omega|(simp only[push_cast];first|done|omega))) only[push_cast,↓reduceIte,Nat.reduceEqDiff,Nat.reduceBEq,Nat.reduceAdd,Nat.reduceSub,Int.reduceToNat, *]<;>with_reducible exact rfl));(focus assumption);(focus omega);(focus(first|trivial|omega));(focus(first|rfl|(simp only[push_cast,↓reduceIte])));intro v pp hv hok hpp1 hpp2)|((with_reducible apply acB lJ ny mV);(focus rfl);(focus(simp(disch:=(first|omega|(simp only[push_cast];first|done|omega))) only[push_cast,↓reduceIte,Nat.reduceEqDiff,Nat.reduceBEq,Nat.reduceAdd,Nat.reduceSub,Int.reduceToNat, *]<;>with_reducible exact rfl));(focus(simp(disch:=(first|omega|(simp only[push_cast];first|done|omega))) only[push_cast,↓reduceIte,Nat.reduceEqDiff,Nat.reduceBEq,Nat.reduceAdd,Nat.reduceSub,Int.reduceToNat, *]<;>with_reducible exact rfl));(focus(simp(disch:=(first|omega|(simp only[push_cast];first|done|omega))) only[push_cast,↓reduceIte,Nat.reduceEqDiff,Nat.reduceBEq,Nat.reduceAdd,Nat.reduceSub,Int.reduceToNat, *]<;>with_reducible exact rfl));(focus assumption);(focus omega);(focus(first|trivial|omega));(focus(first|rfl|(simp only[push_cast,↓reduceIte])));intro v pp hv hok hpp1 hpp2))
 rename_i ps q3 hps _ _ _ w q2 hw _ _ _ m q1 hm _ _ _ e q0 he _ _ _;refine aG (α:=List LS×Int×Int×Nat×Nat) mixed (fun s=>[(0,.own 0 2 0 0),(1,iv n),(4,.own 1 5 0 0),(5,.own 2 5 0 0),(6,iv s.2.1)])
  (fun s=>(0,rdC 83 code s.2.2.1)::(1,26,5,[PV.agg [.val (.slice none 0 0),.val (.slice none 0 0),iv 0,iv 0,iv 0]])::
    (2,26,5,[PV.agg [nP 1 (lsE s.1) s.2.2.2.1,.row 3 1 0 ps.length,iv (40+w),iv (sel 0 [500,10000,200] m.toNat),iv (3+e)]])::(3,xQ ps)::nO 24 1 (lsE s.1) s.2.2.2.1) (fun s=>s.2.2.2.2)
  (fun s=>oU code s.2.2.1∧(∀l∈s.1,okT 13 l)∧p≤s.2.2.1∧s.2.2.1+210*s.2.1≤p+1100∧s.1.length+s.2.1≤4∧0≤s.2.1∧3<s.2.2.2.2∧(0<s.1.length→3<s.2.2.2.1∧s.2.2.2.1<s.2.2.2.2)) (fun s=>s.2.1.toNat) (by kernel_rfl) ([],v,pp,0,4) ⟨hok,by simp,?_⟩ ?_ ?_ rfl ?_
 ·dsimp only[List.length_nil];omega
 ·exact agr
 ·exact agr
 rintro⟨L,k,q,x,y⟩ ⟨okq,hL,i1,i2,i3,i4,i5,i6⟩;dsimp only at okq hL i1 i2 i3 i4 i5 i6;clear hok;have hpl:=hps.1;by_cases h0:L.length=0
 ·obtain rfl:L=[]:=List.eq_nil_of_length_eq_zero h0
  clear i6 hL h0
  repeat' (first|(first|(with_reducible first|apply fM|apply bF|apply cO|apply dn|apply fG|apply mJ|apply fK|apply fP|apply mH|apply fB|apply fE|apply mI|apply fO|apply fH|apply fJ)|((with_reducible apply bg);(simp only[List.map_cons,List.map_nil]<;>exact rfl))|((with_reducible apply dh);(simp only[List.map_cons,List.map_nil]<;>exact rfl);decide+kernel)|((with_reducible apply fI);rfl)|((first|((with_reducible apply i_V);rfl;rfl;rfl)|((first|((with_reducible apply i_E);rfl)|((with_reducible apply i_S);rfl));first|rfl|(simp only[push_cast,↓reduceIte]))|((with_reducible apply mM);rfl;rfl)|((with_reducible apply mE);rfl;rfl;rfl)|(with_reducible first|apply mG|apply cZ));(simp(disch:=(first|omega|(simp only[push_cast];first|done|omega))) only[push_cast,↓reduceIte,Nat.reduceEqDiff,Nat.reduceBEq,Nat.reduceAdd,Nat.reduceSub,Int.reduceToNat, *]<;>with_reducible exact rfl);all_goals try(first|(with_reducible first|refine hyT ?_|refine hyF ?_|exact hyA|exact hyB)|(intro hX;first|(cases hX;done)|((try simp only[decide_eq_true_eq,decide_eq_false_iff_not,Bool.not_eq_true',Bool.not_eq_false']at hX);(try have hXb:=av.1 hX))))))|((with_reducible apply bT eD (fun _ _=>rfl));rfl;(simp(disch:=(first|omega|(simp only[push_cast];first|done|omega))) only[push_cast,↓reduceIte,Nat.reduceEqDiff,Nat.reduceBEq,Nat.reduceAdd,Nat.reduceSub,Int.reduceToNat, *]<;>with_reducible exact rfl);(simp(disch:=(first|omega|(simp only[push_cast];first|done|omega))) only[push_cast,↓reduceIte,Nat.reduceEqDiff,Nat.reduceBEq,Nat.reduceAdd,Nat.reduceSub,Int.reduceToNat, *]<;>with_reducible exact rfl);(simp(disch:=(first|omega|(simp only[push_cast];first|done|omega))) only[push_cast,↓reduceIte,Nat.reduceEqDiff,Nat.reduceBEq,Nat.reduceAdd,Nat.reduceSub,Int.reduceToNat, *]<;>with_reducible exact rfl);assumption;omega;(focus(first|trivial|omega));(focus(first|rfl|(simp only[push_cast,↓reduceIte])));intro v pp hv hok hpp1 hpp2)|((with_reducible apply bT je (fun _ _=>rfl));rfl;(simp(disch:=(first|omega|(simp only[push_cast];first|done|omega))) only[push_cast,↓reduceIte,Nat.reduceEqDiff,Nat.reduceBEq,Nat.reduceAdd,Nat.reduceSub,Int.reduceToNat, *]<;>with_reducible exact rfl);(simp(disch:=(first|omega|(simp only[push_cast];first|done|omega))) only[push_cast,↓reduceIte,Nat.reduceEqDiff,Nat.reduceBEq,Nat.reduceAdd,Nat.reduceSub,Int.reduceToNat, *]<;>with_reducible exact rfl);(simp(disch:=(first|omega|(simp only[push_cast];first|done|omega))) only[push_cast,↓reduceIte,Nat.reduceEqDiff,Nat.reduceBEq,Nat.reduceAdd,Nat.reduceSub,Int.reduceToNat, *]<;>with_reducible exact rfl);assumption;omega;(focus(first|trivial|omega));(focus(first|rfl|(simp only[push_cast,↓reduceIte])));intro v pp hv hok hpp1 hpp2)|((with_reducible apply bT lF (fun _ _=>by simp only[push_cast,↓reduceIte,Nat.reduceEqDiff,Nat.reduceBEq,Nat.reduceAdd,Nat.reduceSub,Int.reduceToNat]));(focus rfl);(focus(simp(disch:=(first|omega|(simp only[push_cast];first|done|omega))) only[push_cast,↓reduceIte,Nat.reduceEqDiff,Nat.reduceBEq,Nat.reduceAdd,Nat.reduceSub,Int.reduceToNat, *]<;>with_reducible exact rfl));(focus(simp(disch:=(first|omega|(simp only[push_cast];first|done|omega))) only[push_cast,↓reduceIte,Nat.reduceEqDiff,Nat.reduceBEq,Nat.reduceAdd,Nat.reduceSub,Int.reduceToNat, *]<;>with_reducible exact rfl));(focus(simp(disch:=(first|omega|(simp only[push_cast];first|done|omega))) only[push_cast,↓reduceIte,Nat.reduceEqDiff,Nat.reduceBEq,Nat.reduceAdd,Nat.reduceSub,Int.reduceToNat, *]<;>with_reducible exact rfl));(focus assumption);(focus omega);(focus(first|trivial|omega));(focus(first|rfl|(simp only[push_cast,↓reduceIte])));intro v pp hv hok hpp1 hpp2))
  ·refine⟨([v],k-1,pp,y+1,y+2),⟨hok,?_,?_⟩,?_,?_,?_,rfl⟩
   ·exact aD (L:=[]) (by simp) hv
   ·dsimp only;simp only[List.length_append,List.length_cons,List.length_nil]at*;omega
   ·dsimp only;omega
   ·exact agr
   ·simp(disch:=(first|omega|(simp only[push_cast];first|done|omega))) only[push_cast,↓reduceIte,Nat.reduceEqDiff,Nat.reduceBEq,Nat.reduceAdd,Nat.reduceSub,Int.reduceToNat,List.length_append,List.map_append,List.map_cons,List.map_nil, *]
  ·refine⟨(([]:List LS),k-1,pp,x,y),⟨hok,by simp,?_⟩,?_,?_,?_,rfl⟩
   ·dsimp only;simp only[List.length_nil]at*;omega
   ·dsimp only;omega
   ·exact agr
   ·exact agr
  ·(with_reducible apply fT (a:=([([]:LS)],_,_,_,_)) (by first|exact .inl rfl|exact .inr rfl));(focus(simp(disch:=(first|omega|(simp only[push_cast];first|done|omega))) only[push_cast,↓reduceIte,Nat.reduceEqDiff,Nat.reduceBEq,Nat.reduceAdd,Nat.reduceSub,Int.reduceToNat,aQ,aP,bI,aO,aL, *];rw[rz [] [] (by first|rfl|simp) (by simp) (by simp(disch:=(first|omega|(simp only[push_cast];first|done|omega))) only[push_cast,↓reduceIte,Nat.reduceEqDiff,Nat.reduceBEq,Nat.reduceAdd,Nat.reduceSub,Int.reduceToNat,lY,mapM_cons',mapM_nil',List.length_cons,List.length_nil, *])];(try simp(disch:=(first|omega|(simp only[push_cast];first|done|omega))) only[push_cast,↓reduceIte,Nat.reduceEqDiff,Nat.reduceBEq,Nat.reduceAdd,Nat.reduceSub,Int.reduceToNat,aQ,aP,bI,aO,aL, *]);with_reducible rfl));(focus(simp(disch:=(first|omega|(simp only[push_cast];first|done|omega))) only[push_cast,↓reduceIte,Nat.reduceEqDiff,Nat.reduceBEq,Nat.reduceAdd,Nat.reduceSub,Int.reduceToNat,aQ,aP,bI,aO,aL, *]<;>with_reducible exact rfl))
   all_goals try(first|assumption|omega)
   ·refine⟨⟨by(try simp only[List.length_append,List.length_cons,List.length_nil]at*);omega,?_⟩,?_,?_,?_,?_⟩
    ·first|exact hL|exact aD hL bV|exact aD hL ig|exact aD (L:=[]) (by simp) bV|exact aD (L:=[]) (by simp) ig|(simp;done)
    ·first|exact⟨by dsimp only;omega,hps.2⟩|exact dV (m:=21) hpl (by omega) hps.2 (by decide)
    all_goals first|(dsimp only;omega)|exact fQ (p:=okI) (by decide) (by simp only[List.length_cons,List.length_nil];omega)
  ·(with_reducible apply fT (a:=([[(⟨#[65]⟩:ByteArray)]],_,_,_,_)) (by first|exact .inl rfl|exact .inr rfl));(focus(simp(disch:=(first|omega|(simp only[push_cast];first|done|omega))) only[push_cast,↓reduceIte,Nat.reduceEqDiff,Nat.reduceBEq,Nat.reduceAdd,Nat.reduceSub,Int.reduceToNat,aQ,aP,bI,aO,aL, *];rw[rz [] [(⟨#[65]⟩:ByteArray)] (by first|rfl|simp) (by simp) (by simp(disch:=(first|omega|(simp only[push_cast];first|done|omega))) only[push_cast,↓reduceIte,Nat.reduceEqDiff,Nat.reduceBEq,Nat.reduceAdd,Nat.reduceSub,Int.reduceToNat,lY,mapM_cons',mapM_nil',List.length_cons,List.length_nil, *])];(try simp(disch:=(first|omega|(simp only[push_cast];first|done|omega))) only[push_cast,↓reduceIte,Nat.reduceEqDiff,Nat.reduceBEq,Nat.reduceAdd,Nat.reduceSub,Int.reduceToNat,aQ,aP,bI,aO,aL, *]);with_reducible rfl));(focus(simp(disch:=(first|omega|(simp only[push_cast];first|done|omega))) only[push_cast,↓reduceIte,Nat.reduceEqDiff,Nat.reduceBEq,Nat.reduceAdd,Nat.reduceSub,Int.reduceToNat,aQ,aP,bI,aO,aL, *]<;>with_reducible exact rfl))
   all_goals try(first|assumption|omega)
   ·refine⟨⟨by(try simp only[List.length_append,List.length_cons,List.length_nil]at*);omega,?_⟩,?_,?_,?_,?_⟩
    ·first|exact hL|exact aD hL bV|exact aD hL ig|exact aD (L:=[]) (by simp) bV|exact aD (L:=[]) (by simp) ig|(simp;done)
    ·first|exact⟨by dsimp only;omega,hps.2⟩|exact dV (m:=21) hpl (by omega) hps.2 (by decide)
    all_goals first|(dsimp only;omega)|exact fQ (p:=okI) (by decide) (by simp only[List.length_cons,List.length_nil];omega)
  ·(with_reducible apply fT (a:=(([]:List LS),_,_,_,_)) (by first|exact .inl rfl|exact .inr rfl));(focus(simp(disch:=(first|omega|(simp only[push_cast];first|done|omega))) only[push_cast,↓reduceIte,Nat.reduceEqDiff,Nat.reduceBEq,Nat.reduceAdd,Nat.reduceSub,Int.reduceToNat,aQ,aP,bI,aO,aL, *]<;>with_reducible exact rfl));(focus(simp(disch:=(first|omega|(simp only[push_cast];first|done|omega))) only[push_cast,↓reduceIte,Nat.reduceEqDiff,Nat.reduceBEq,Nat.reduceAdd,Nat.reduceSub,Int.reduceToNat,aQ,aP,bI,aO,aL, *]<;>with_reducible exact rfl))
   all_goals try(first|assumption|omega)
   ·refine⟨⟨by(try simp only[List.length_append,List.length_cons,List.length_nil]at*);omega,?_⟩,?_,?_,?_,?_⟩
    ·first|exact hL|exact aD hL bV|exact aD hL ig|exact aD (L:=[]) (by simp) bV|exact aD (L:=[]) (by simp) ig|(simp;done)
    ·first|exact⟨by dsimp only;omega,hps.2⟩|exact dV (m:=21) hpl (by omega) hps.2 (by decide)
    all_goals first|(dsimp only;omega)|exact fQ (p:=okI) (by decide) (by simp only[List.length_cons,List.length_nil];omega)
  ·(with_reducible apply fT (a:=(([]:List LS),_,_,_,_)) (by first|exact .inl rfl|exact .inr rfl));(focus(simp(disch:=(first|omega|(simp only[push_cast];first|done|omega))) only[push_cast,↓reduceIte,Nat.reduceEqDiff,Nat.reduceBEq,Nat.reduceAdd,Nat.reduceSub,Int.reduceToNat,aQ,aP,bI,aO,aL, *]<;>with_reducible exact rfl));(focus(simp(disch:=(first|omega|(simp only[push_cast];first|done|omega))) only[push_cast,↓reduceIte,Nat.reduceEqDiff,Nat.reduceBEq,Nat.reduceAdd,Nat.reduceSub,Int.reduceToNat,aQ,aP,bI,aO,aL, *]<;>with_reducible exact rfl))
   all_goals try(first|assumption|omega)
   ·refine⟨⟨by(try simp only[List.length_append,List.length_cons,List.length_nil]at*);omega,?_⟩,?_,?_,?_,?_⟩
    ·first|exact hL|exact aD hL bV|exact aD hL ig|exact aD (L:=[]) (by simp) bV|exact aD (L:=[]) (by simp) ig|(simp;done)
    ·first|exact⟨by dsimp only;omega,hps.2⟩|exact dV (m:=21) hpl (by omega) hps.2 (by decide)
    all_goals first|(dsimp only;omega)|exact fQ (p:=okI) (by decide) (by simp only[List.length_cons,List.length_nil];omega)
  ·(with_reducible apply fT (a:=(([]:List LS),_,_,_,_)) (by first|exact .inl rfl|exact .inr rfl));(focus(simp(disch:=(first|omega|(simp only[push_cast];first|done|omega))) only[push_cast,↓reduceIte,Nat.reduceEqDiff,Nat.reduceBEq,Nat.reduceAdd,Nat.reduceSub,Int.reduceToNat,aQ,aP,bI,aO,aL, *]<;>with_reducible exact rfl));(focus(simp(disch:=(first|omega|(simp only[push_cast];first|done|omega))) only[push_cast,↓reduceIte,Nat.reduceEqDiff,Nat.reduceBEq,Nat.reduceAdd,Nat.reduceSub,Int.reduceToNat,aQ,aP,bI,aO,aL, *]<;>with_reducible exact rfl))
   all_goals try(first|assumption|omega)
   ·refine⟨⟨by(try simp only[List.length_append,List.length_cons,List.length_nil]at*);omega,?_⟩,?_,?_,?_,?_⟩
    ·first|exact hL|exact aD hL bV|exact aD hL ig|exact aD (L:=[]) (by simp) bV|exact aD (L:=[]) (by simp) ig|(simp;done)
    ·first|exact⟨by dsimp only;omega,hps.2⟩|exact dV (m:=21) hpl (by omega) hps.2 (by decide)
    all_goals first|(dsimp only;omega)|exact fQ (p:=okI) (by decide) (by simp only[List.length_cons,List.length_nil];omega)
  ·(with_reducible apply fT (a:=(([]:List LS),_,_,_,_)) (by first|exact .inl rfl|exact .inr rfl));(focus(simp(disch:=(first|omega|(simp only[push_cast];first|done|omega))) only[push_cast,↓reduceIte,Nat.reduceEqDiff,Nat.reduceBEq,Nat.reduceAdd,Nat.reduceSub,Int.reduceToNat,aQ,aP,bI,aO,aL, *]<;>with_reducible exact rfl));(focus(simp(disch:=(first|omega|(simp only[push_cast];first|done|omega))) only[push_cast,↓reduceIte,Nat.reduceEqDiff,Nat.reduceBEq,Nat.reduceAdd,Nat.reduceSub,Int.reduceToNat,aQ,aP,bI,aO,aL, *]<;>with_reducible exact rfl))
   all_goals try(first|assumption|omega)
   ·refine⟨⟨by(try simp only[List.length_append,List.length_cons,List.length_nil]at*);omega,?_⟩,?_,?_,?_,?_⟩
    ·first|exact hL|exact aD hL bV|exact aD hL ig|exact aD (L:=[]) (by simp) bV|exact aD (L:=[]) (by simp) ig|(simp;done)
    ·first|exact⟨by dsimp only;omega,hps.2⟩|exact dV (m:=21) hpl (by omega) hps.2 (by decide)
    all_goals first|(dsimp only;omega)|exact fQ (p:=okI) (by decide) (by simp only[List.length_cons,List.length_nil];omega)
  ·(with_reducible apply fT (a:=(([]:List LS),_,_,_,_)) (by first|exact .inl rfl|exact .inr rfl));(focus(simp(disch:=(first|omega|(simp only[push_cast];first|done|omega))) only[push_cast,↓reduceIte,Nat.reduceEqDiff,Nat.reduceBEq,Nat.reduceAdd,Nat.reduceSub,Int.reduceToNat,aQ,aP,bI,aO,aL, *]<;>with_reducible exact rfl));(focus(simp(disch:=(first|omega|(simp only[push_cast];first|done|omega))) only[push_cast,↓reduceIte,Nat.reduceEqDiff,Nat.reduceBEq,Nat.reduceAdd,Nat.reduceSub,Int.reduceToNat,aQ,aP,bI,aO,aL, *]<;>with_reducible exact rfl))
   all_goals try(first|assumption|omega)
   ·refine⟨⟨by(try simp only[List.length_append,List.length_cons,List.length_nil]at*);omega,?_⟩,?_,?_,?_,?_⟩
    ·first|exact hL|exact aD hL bV|exact aD hL ig|exact aD (L:=[]) (by simp) bV|exact aD (L:=[]) (by simp) ig|(simp;done)
    ·first|exact⟨by dsimp only;omega,hps.2⟩|exact dV (m:=21) hpl (by omega) hps.2 (by decide)
    all_goals first|(dsimp only;omega)|exact fQ (p:=okI) (by decide) (by simp only[List.length_cons,List.length_nil];omega)
 ·obtain⟨x1,x2⟩:=i6 (by omega)
  clear i6
  repeat' (first|(first|(with_reducible first|apply fM|apply bF|apply cO|apply dn|apply fG|apply mJ|apply fK|apply fP|apply mH|apply fB|apply fE|apply mI|apply fO|apply fH|apply fJ)|((with_reducible apply bg);(simp only[List.map_cons,List.map_nil]<;>exact rfl))|((with_reducible apply dh);(simp only[List.map_cons,List.map_nil]<;>exact rfl);decide+kernel)|((with_reducible apply fI);rfl)|((first|((with_reducible apply i_V);rfl;rfl;rfl)|((first|((with_reducible apply i_E);rfl)|((with_reducible apply i_S);rfl));first|rfl|(simp only[push_cast,↓reduceIte]))|((with_reducible apply mM);rfl;rfl)|((with_reducible apply mE);rfl;rfl;rfl)|(with_reducible first|apply mG|apply cZ));(simp(disch:=(first|omega|(simp only[push_cast];first|done|omega))) only[push_cast,↓reduceIte,Nat.reduceEqDiff,Nat.reduceBEq,Nat.reduceAdd,Nat.reduceSub,Int.reduceToNat, *]<;>with_reducible exact rfl);all_goals try(first|(with_reducible first|refine hyT ?_|refine hyF ?_|exact hyA|exact hyB)|(intro hX;first|(cases hX;done)|((try simp only[decide_eq_true_eq,decide_eq_false_iff_not,Bool.not_eq_true',Bool.not_eq_false']at hX);(try have hXb:=av.1 hX))))))|((with_reducible apply bT eD (fun _ _=>rfl));rfl;(simp(disch:=(first|omega|(simp only[push_cast];first|done|omega))) only[push_cast,↓reduceIte,Nat.reduceEqDiff,Nat.reduceBEq,Nat.reduceAdd,Nat.reduceSub,Int.reduceToNat, *]<;>with_reducible exact rfl);(simp(disch:=(first|omega|(simp only[push_cast];first|done|omega))) only[push_cast,↓reduceIte,Nat.reduceEqDiff,Nat.reduceBEq,Nat.reduceAdd,Nat.reduceSub,Int.reduceToNat, *]<;>with_reducible exact rfl);(simp(disch:=(first|omega|(simp only[push_cast];first|done|omega))) only[push_cast,↓reduceIte,Nat.reduceEqDiff,Nat.reduceBEq,Nat.reduceAdd,Nat.reduceSub,Int.reduceToNat, *]<;>with_reducible exact rfl);assumption;omega;(focus(first|trivial|omega));(focus(first|rfl|(simp only[push_cast,↓reduceIte])));intro v pp hv hok hpp1 hpp2)|((with_reducible apply bT je (fun _ _=>rfl));rfl;(simp(disch:=(first|omega|(simp only[push_cast];first|done|omega))) only[push_cast,↓reduceIte,Nat.reduceEqDiff,Nat.reduceBEq,Nat.reduceAdd,Nat.reduceSub,Int.reduceToNat, *]<;>with_reducible exact rfl);(simp(disch:=(first|omega|(simp only[push_cast];first|done|omega))) only[push_cast,↓reduceIte,Nat.reduceEqDiff,Nat.reduceBEq,Nat.reduceAdd,Nat.reduceSub,Int.reduceToNat, *]<;>with_reducible exact rfl);(simp(disch:=(first|omega|(simp only[push_cast];first|done|omega))) only[push_cast,↓reduceIte,Nat.reduceEqDiff,Nat.reduceBEq,Nat.reduceAdd,Nat.reduceSub,Int.reduceToNat, *]<;>with_reducible exact rfl);assumption;omega;(focus(first|trivial|omega));(focus(first|rfl|(simp only[push_cast,↓reduceIte])));intro v pp hv hok hpp1 hpp2)|((with_reducible apply bT lF (fun _ _=>by simp only[push_cast,↓reduceIte,Nat.reduceEqDiff,Nat.reduceBEq,Nat.reduceAdd,Nat.reduceSub,Int.reduceToNat]));(focus rfl);(focus(simp(disch:=(first|omega|(simp only[push_cast];first|done|omega))) only[push_cast,↓reduceIte,Nat.reduceEqDiff,Nat.reduceBEq,Nat.reduceAdd,Nat.reduceSub,Int.reduceToNat, *]<;>with_reducible exact rfl));(focus(simp(disch:=(first|omega|(simp only[push_cast];first|done|omega))) only[push_cast,↓reduceIte,Nat.reduceEqDiff,Nat.reduceBEq,Nat.reduceAdd,Nat.reduceSub,Int.reduceToNat, *]<;>with_reducible exact rfl));(focus(simp(disch:=(first|omega|(simp only[push_cast];first|done|omega))) only[push_cast,↓reduceIte,Nat.reduceEqDiff,Nat.reduceBEq,Nat.reduceAdd,Nat.reduceSub,Int.reduceToNat, *]<;>with_reducible exact rfl));(focus assumption);(focus omega);(focus(first|trivial|omega));(focus(first|rfl|(simp only[push_cast,↓reduceIte])));intro v pp hv hok hpp1 hpp2))
  ·refine⟨(L++[v],k-1,pp,y+1,y+2),⟨hok,?_,?_⟩,?_,?_,?_,rfl⟩
   ·exact aD hL hv
   ·dsimp only;simp only[List.length_append,List.length_cons,List.length_nil]at*;omega
   ·dsimp only;omega
   ·exact agr
   ·simp(disch:=(first|omega|(simp only[push_cast];first|done|omega))) only[push_cast,↓reduceIte,Nat.reduceEqDiff,Nat.reduceBEq,Nat.reduceAdd,Nat.reduceSub,Int.reduceToNat,List.length_append,List.map_append,List.map_cons,List.map_nil, *]
  ·refine⟨(L,k-1,pp,x,y),⟨hok,hL,?_⟩,?_,?_,?_,rfl⟩
   ·dsimp only;omega
   ·dsimp only;omega
   ·exact agr
   ·exact agr
  ·(with_reducible apply fT (a:=(L++[([]:LS)],_,_,_,_)) (by first|exact .inl rfl|exact .inr rfl));(focus(simp(disch:=(first|omega|(simp only[push_cast];first|done|omega))) only[push_cast,↓reduceIte,Nat.reduceEqDiff,Nat.reduceBEq,Nat.reduceAdd,Nat.reduceSub,Int.reduceToNat,aQ,aP,bI,aO,aL, *];rw[rz L [] (by first|rfl|simp) (by simp) (by simp(disch:=(first|omega|(simp only[push_cast];first|done|omega))) only[push_cast,↓reduceIte,Nat.reduceEqDiff,Nat.reduceBEq,Nat.reduceAdd,Nat.reduceSub,Int.reduceToNat,lY,mapM_cons',mapM_nil',List.length_cons,List.length_nil, *])];(try simp(disch:=(first|omega|(simp only[push_cast];first|done|omega))) only[push_cast,↓reduceIte,Nat.reduceEqDiff,Nat.reduceBEq,Nat.reduceAdd,Nat.reduceSub,Int.reduceToNat,aQ,aP,bI,aO,aL, *]);with_reducible rfl));(focus(simp(disch:=(first|omega|(simp only[push_cast];first|done|omega))) only[push_cast,↓reduceIte,Nat.reduceEqDiff,Nat.reduceBEq,Nat.reduceAdd,Nat.reduceSub,Int.reduceToNat,aQ,aP,bI,aO,aL, *]<;>with_reducible exact rfl))
   all_goals try(first|assumption|omega)
   ·refine⟨⟨by(try simp only[List.length_append,List.length_cons,List.length_nil]at*);omega,?_⟩,?_,?_,?_,?_⟩
    ·first|exact hL|exact aD hL bV|exact aD hL ig|exact aD (L:=[]) (by simp) bV|exact aD (L:=[]) (by simp) ig|(simp;done)
    ·first|exact⟨by dsimp only;omega,hps.2⟩|exact dV (m:=21) hpl (by omega) hps.2 (by decide)
    all_goals first|(dsimp only;omega)|exact fQ (p:=okI) (by decide) (by simp only[List.length_cons,List.length_nil];omega)
  ·(with_reducible apply fT (a:=(L++[[(⟨#[65]⟩:ByteArray)]],_,_,_,_)) (by first|exact .inl rfl|exact .inr rfl));(focus(simp(disch:=(first|omega|(simp only[push_cast];first|done|omega))) only[push_cast,↓reduceIte,Nat.reduceEqDiff,Nat.reduceBEq,Nat.reduceAdd,Nat.reduceSub,Int.reduceToNat,aQ,aP,bI,aO,aL, *];rw[rz L [(⟨#[65]⟩:ByteArray)] (by first|rfl|simp) (by simp) (by simp(disch:=(first|omega|(simp only[push_cast];first|done|omega))) only[push_cast,↓reduceIte,Nat.reduceEqDiff,Nat.reduceBEq,Nat.reduceAdd,Nat.reduceSub,Int.reduceToNat,lY,mapM_cons',mapM_nil',List.length_cons,List.length_nil, *])];(try simp(disch:=(first|omega|(simp only[push_cast];first|done|omega))) only[push_cast,↓reduceIte,Nat.reduceEqDiff,Nat.reduceBEq,Nat.reduceAdd,Nat.reduceSub,Int.reduceToNat,aQ,aP,bI,aO,aL, *]);with_reducible rfl));(focus(simp(disch:=(first|omega|(simp only[push_cast];first|done|omega))) only[push_cast,↓reduceIte,Nat.reduceEqDiff,Nat.reduceBEq,Nat.reduceAdd,Nat.reduceSub,Int.reduceToNat,aQ,aP,bI,aO,aL, *]<;>with_reducible exact rfl))
   all_goals try(first|assumption|omega)
   ·refine⟨⟨by(try simp only[List.length_append,List.length_cons,List.length_nil]at*);omega,?_⟩,?_,?_,?_,?_⟩
    ·first|exact hL|exact aD hL bV|exact aD hL ig|exact aD (L:=[]) (by simp) bV|exact aD (L:=[]) (by simp) ig|(simp;done)
    ·first|exact⟨by dsimp only;omega,hps.2⟩|exact dV (m:=21) hpl (by omega) hps.2 (by decide)
    all_goals first|(dsimp only;omega)|exact fQ (p:=okI) (by decide) (by simp only[List.length_cons,List.length_nil];omega)
  ·(with_reducible apply fT (a:=(L,_,_,_,_)) (by first|exact .inl rfl|exact .inr rfl));(focus(simp(disch:=(first|omega|(simp only[push_cast];first|done|omega))) only[push_cast,↓reduceIte,Nat.reduceEqDiff,Nat.reduceBEq,Nat.reduceAdd,Nat.reduceSub,Int.reduceToNat,aQ,aP,bI,aO,aL, *];rw[uZ (L) (by simp) (by simp)];(try simp(disch:=(first|omega|(simp only[push_cast];first|done|omega))) only[push_cast,↓reduceIte,Nat.reduceEqDiff,Nat.reduceBEq,Nat.reduceAdd,Nat.reduceSub,Int.reduceToNat,aQ,aP,bI,aO,aL, *]);with_reducible rfl));(focus(simp(disch:=(first|omega|(simp only[push_cast];first|done|omega))) only[push_cast,↓reduceIte,Nat.reduceEqDiff,Nat.reduceBEq,Nat.reduceAdd,Nat.reduceSub,Int.reduceToNat,aQ,aP,bI,aO,aL, *]<;>with_reducible exact rfl))
   all_goals try(first|assumption|omega)
   ·refine⟨⟨by(try simp only[List.length_append,List.length_cons,List.length_nil]at*);omega,?_⟩,?_,?_,?_,?_⟩
    ·first|exact hL|exact aD hL bV|exact aD hL ig|exact aD (L:=[]) (by simp) bV|exact aD (L:=[]) (by simp) ig|(simp;done)
    ·first|exact⟨by dsimp only;omega,hps.2⟩|exact dV (m:=21) hpl (by omega) hps.2 (by decide)
    all_goals first|(dsimp only;omega)|exact fQ (p:=okI) (by decide) (by simp only[List.length_cons,List.length_nil];omega)
  ·(with_reducible apply fT (a:=(L,_,_,_,_)) (by first|exact .inl rfl|exact .inr rfl));(focus(simp(disch:=(first|omega|(simp only[push_cast];first|done|omega))) only[push_cast,↓reduceIte,Nat.reduceEqDiff,Nat.reduceBEq,Nat.reduceAdd,Nat.reduceSub,Int.reduceToNat,aQ,aP,bI,aO,aL, *];rw[uZ (L) (by simp) (by simp)];(try simp(disch:=(first|omega|(simp only[push_cast];first|done|omega))) only[push_cast,↓reduceIte,Nat.reduceEqDiff,Nat.reduceBEq,Nat.reduceAdd,Nat.reduceSub,Int.reduceToNat,aQ,aP,bI,aO,aL, *]);with_reducible rfl));(focus(simp(disch:=(first|omega|(simp only[push_cast];first|done|omega))) only[push_cast,↓reduceIte,Nat.reduceEqDiff,Nat.reduceBEq,Nat.reduceAdd,Nat.reduceSub,Int.reduceToNat,aQ,aP,bI,aO,aL, *]<;>with_reducible exact rfl))
   all_goals try(first|assumption|omega)
   ·refine⟨⟨by(try simp only[List.length_append,List.length_cons,List.length_nil]at*);omega,?_⟩,?_,?_,?_,?_⟩
    ·first|exact hL|exact aD hL bV|exact aD hL ig|exact aD (L:=[]) (by simp) bV|exact aD (L:=[]) (by simp) ig|(simp;done)
    ·first|exact⟨by dsimp only;omega,hps.2⟩|exact dV (m:=21) hpl (by omega) hps.2 (by decide)
    all_goals first|(dsimp only;omega)|exact fQ (p:=okI) (by decide) (by simp only[List.length_cons,List.length_nil];omega)
  ·(with_reducible apply fT (a:=(L,_,_,_,_)) (by first|exact .inl rfl|exact .inr rfl));(focus(simp(disch:=(first|omega|(simp only[push_cast];first|done|omega))) only[push_cast,↓reduceIte,Nat.reduceEqDiff,Nat.reduceBEq,Nat.reduceAdd,Nat.reduceSub,Int.reduceToNat,aQ,aP,bI,aO,aL, *];rw[uZ (L) (by simp) (by simp)];(try simp(disch:=(first|omega|(simp only[push_cast];first|done|omega))) only[push_cast,↓reduceIte,Nat.reduceEqDiff,Nat.reduceBEq,Nat.reduceAdd,Nat.reduceSub,Int.reduceToNat,aQ,aP,bI,aO,aL, *]);with_reducible rfl));(focus(simp(disch:=(first|omega|(simp only[push_cast];first|done|omega))) only[push_cast,↓reduceIte,Nat.reduceEqDiff,Nat.reduceBEq,Nat.reduceAdd,Nat.reduceSub,Int.reduceToNat,aQ,aP,bI,aO,aL, *]<;>with_reducible exact rfl))
   all_goals try(first|assumption|omega)
   ·refine⟨⟨by(try simp only[List.length_append,List.length_cons,List.length_nil]at*);omega,?_⟩,?_,?_,?_,?_⟩
    ·first|exact hL|exact aD hL bV|exact aD hL ig|exact aD (L:=[]) (by simp) bV|exact aD (L:=[]) (by simp) ig|(simp;done)
    ·first|exact⟨by dsimp only;omega,hps.2⟩|exact dV (m:=21) hpl (by omega) hps.2 (by decide)
    all_goals first|(dsimp only;omega)|exact fQ (p:=okI) (by decide) (by simp only[List.length_cons,List.length_nil];omega)
  ·(with_reducible apply fT (a:=(L,_,_,_,_)) (by first|exact .inl rfl|exact .inr rfl));(focus(simp(disch:=(first|omega|(simp only[push_cast];first|done|omega))) only[push_cast,↓reduceIte,Nat.reduceEqDiff,Nat.reduceBEq,Nat.reduceAdd,Nat.reduceSub,Int.reduceToNat,aQ,aP,bI,aO,aL, *];rw[uZ (L) (by simp) (by simp)];(try simp(disch:=(first|omega|(simp only[push_cast];first|done|omega))) only[push_cast,↓reduceIte,Nat.reduceEqDiff,Nat.reduceBEq,Nat.reduceAdd,Nat.reduceSub,Int.reduceToNat,aQ,aP,bI,aO,aL, *]);with_reducible rfl));(focus(simp(disch:=(first|omega|(simp only[push_cast];first|done|omega))) only[push_cast,↓reduceIte,Nat.reduceEqDiff,Nat.reduceBEq,Nat.reduceAdd,Nat.reduceSub,Int.reduceToNat,aQ,aP,bI,aO,aL, *]<;>with_reducible exact rfl))
   all_goals try(first|assumption|omega)
   ·refine⟨⟨by(try simp only[List.length_append,List.length_cons,List.length_nil]at*);omega,?_⟩,?_,?_,?_,?_⟩
    ·first|exact hL|exact aD hL bV|exact aD hL ig|exact aD (L:=[]) (by simp) bV|exact aD (L:=[]) (by simp) ig|(simp;done)
    ·first|exact⟨by dsimp only;omega,hps.2⟩|exact dV (m:=21) hpl (by omega) hps.2 (by decide)
    all_goals first|(dsimp only;omega)|exact fQ (p:=okI) (by decide) (by simp only[List.length_cons,List.length_nil];omega)
  ·(with_reducible apply fT (a:=(L,_,_,_,_)) (by first|exact .inl rfl|exact .inr rfl));(focus(simp(disch:=(first|omega|(simp only[push_cast];first|done|omega))) only[push_cast,↓reduceIte,Nat.reduceEqDiff,Nat.reduceBEq,Nat.reduceAdd,Nat.reduceSub,Int.reduceToNat,aQ,aP,bI,aO,aL, *];rw[uZ (L) (by simp) (by simp)];(try simp(disch:=(first|omega|(simp only[push_cast];first|done|omega))) only[push_cast,↓reduceIte,Nat.reduceEqDiff,Nat.reduceBEq,Nat.reduceAdd,Nat.reduceSub,Int.reduceToNat,aQ,aP,bI,aO,aL, *]);with_reducible rfl));(focus(simp(disch:=(first|omega|(simp only[push_cast];first|done|omega))) only[push_cast,↓reduceIte,Nat.reduceEqDiff,Nat.reduceBEq,Nat.reduceAdd,Nat.reduceSub,Int.reduceToNat,aQ,aP,bI,aO,aL, *]<;>with_reducible exact rfl))
   all_goals try(first|assumption|omega)
   ·refine⟨⟨by(try simp only[List.length_append,List.length_cons,List.length_nil]at*);omega,?_⟩,?_,?_,?_,?_⟩
    ·first|exact hL|exact aD hL bV|exact aD hL ig|exact aD (L:=[]) (by simp) bV|exact aD (L:=[]) (by simp) ig|(simp;done)
    ·first|exact⟨by dsimp only;omega,hps.2⟩|exact dV (m:=21) hpl (by omega) hps.2 (by decide)
    all_goals first|(dsimp only;omega)|exact fQ (p:=okI) (by decide) (by simp only[List.length_cons,List.length_nil];omega)
theorem ays {a b:Nat} (h:a≤b):min a b=a:=Nat.min_eq_left h
attribute[push_cast]
 ays List.take_length
def awR (sz:Nat):PV→PV
 | .agg cs=> .agg (cs.map (nrm sz))
 |p=>nrm sz p
theorem ar9 (sz:Nat) (p:PV):p.le (awR sz p):=by
 unfold awR;split
 ·exact adl (abh sz _)
 ·exact amR sz p
theorem ac1 (sz:Nat):∀ps:List PV,leL ps (ps.map (awR sz))
 |[]=>trivial
 |p::ps=>⟨ar9 sz p,ac1 sz ps⟩
def aj7 (sz:Nat) (φ:Fun):Fun:=fun ps=>φ (ps.map (awR sz))
theorem Sound.aj7 {P:Program} {f:Nat} {φ:Fun} (h:Sound P f φ) (sz:Nat):Sound P f (Proofs.YtmmafcjjlbgnkaaGreatDoor.aj7 sz φ):=
 h.weak fun ps r hr=>⟨_,r,ac1 sz ps,hr,PV.le_refl _⟩
theorem ah8 {nm:Nat→Option Nat} {f sz:Nat} {k:Bool} {L:List LS}:eu nm (f+4) (.lst k sz (lsE L))=some (.lst k sz (lsE L)):=by show((lsE L).mapM (eu nm (f+3))).map (PV.lst k sz)=_;rw[jR fun p=>nY];rfl
theorem aqW {nm:Nat→Option Nat} {f:Nat} {L:List LS}:eu nm (f+4) (pE L)=some (pE L):=by
 cases L with
 |nil=>rfl
 |cons a L=>exact ah8
attribute[push_cast]
 ah8 aqW
def adx:dP:=Classical.choose abf
theorem anU:bO Tryz.prog 23 adx:=(Classical.choose_spec abf).1
theorem yg:adv 83 adx 500000000 2000 EBk (fun n=>0≤n∧n≤1000) (fun _ b=>akW b):=(Classical.choose_spec abf).2
theorem agR {n:Nat} {l:LS} (h:okT n l) (hn:n≤1000):oo l:=by
 refine⟨by have:=h.1;omega,fun i=>?_⟩;by_cases hi:i<l.length
 ·have:=h.2 l[i] (List.getElem_mem hi)
  simp only[List.getElem?_eq_getElem hi,Option.getD_some];omega
 ·rw[List.getElem?_eq_none (by omega)]
  simp
theorem aoU {L:List LS} {ps:LS} (h1:L.length≤6) (h2:∀l∈L,okT 13 l) (h3:okT 22 ps):wF L ps:=by
 refine⟨by omega,fun i=>?_,agR h3 (by omega)⟩;by_cases hi:i<L.length
 ·simp only[List.getElem?_eq_getElem hi,Option.getD_some]
  exact agR (h2 L[i] (List.getElem_mem hi)) (by omega)
 ·rw[List.getElem?_eq_none (by omega)]
  exact⟨by simp,by simp⟩
def mq:Fun:=aj7 1 iY
abbrev lsF (L:List LS):List PV:=L.map fun p=> .lst false 1 (p.map fun s=> .val (.string s))
theorem acE {p:List LS} {q:LS} {x y z:Int} (h:wF p q):mq [.agg [.lst false 1 (lsF p),.lst false 1 (q.map fun s=> .val (.string s)),.val (.int .i64 x),.val (.int .i64 y),.val (.int .i64 z)]]=some (.val (.bool (fA p q x y z))):=pY h
theorem akr {p:List LS} {q:LS} {x y z:Int} (h:(blL p q x y z).length=0):blC p q x y z=[]∧(blB p q x y z=true→p=[]):=by
 unfold blL at h;unfold blC;split at h
 ·rename_i hB
  have hp:p.length=0:=by
   rcases Nat.eq_zero_or_pos p.length with h0|h0
   ·exact h0
   ·have hall:(p.all fun w=>nG w q x y)=true:=by unfold blB at hB;rw[Bool.and_eq_true]at hB;exact hB.2
    have:=ah1 (q:=q) (x:=x) (y:=y) (p:=p) (k:=p.length) (fun j hj=>by rw[List.getElem?_eq_getElem hj,Option.getD_some];exact List.all_eq_true.1 hall _ (List.getElem_mem hj)) h0
    omega
  rw[if_pos hB,List.eq_nil_of_length_eq_zero hp];exact⟨rfl,fun _=>rfl⟩
 ·rename_i hB
  rw[if_neg hB];exact⟨rfl,fun h=>absurd h hB⟩
theorem avo (c d:aH):(fun o=>[c,d][o]?)=lo [(0,c),(1,d)]:=by
 funext o
 match o with
 |0=>rfl
 |1=>rfl
 |o+2=>simp[lo,List.lookup]
def af9:Fun:=ach ΨBl
theorem ajq {p:List LS} {q:LS} {x y z:Int} (h:wF p q) (h0:0<(blL p q x y z).length):af9 [.agg [.lst false 1 (p.map fun p=> .lst false 1 (p.map fun s=> .val (.string s))),.lst false 1 (q.map fun s=> .val (.string s)),.val (.int .i64 x),.val (.int .i64 y),.val (.int .i64 z)]]=some (.tup [.lst true 1 ((blL p q x y z).map fun s=> .val (.string s)),.lst true 1 ((blC p q x y z).map fun n=> .val (.int .i64 n)),.val (.bool (blB p q x y z))]):=by refine nT (r:=.tup [.row 0 1 0 (blL p q x y z).length,.row 1 1 0 (blC p q x y z).length,.val (.bool (blB p q x y z))]) (cs0:=[(9,1,(blL p q x y z).map fun s=> .val (.string s)),(3,1,(blC p q x y z).map fun n=> .val (.int .i64 n))]) ((au3 (A:=kD) (p,q,x,y,z)).trans ((if_pos h).trans (by dsimp only;rw[if_pos h0]))) ?_;generalize blL p q x y z=A;generalize blC p q x y z=B;rw[avo];(simp(disch:=(first|omega|(simp only[push_cast];first|done|omega))) only[push_cast,↓reduceIte,Nat.reduceEqDiff,Nat.reduceBEq,Nat.reduceAdd,Nat.reduceSub,Int.reduceToNat, *]<;>with_reducible exact rfl)
theorem ajS {p:List LS} {q:LS} {x y z:Int} (h:wF p q) (h0:(blL p q x y z).length=0):af9 [.agg [.lst false 1 (p.map fun p=> .lst false 1 (p.map fun s=> .val (.string s))),.lst false 1 (q.map fun s=> .val (.string s)),.val (.int .i64 x),.val (.int .i64 y),.val (.int .i64 z)]]=some (.tup [.val (.slice none 0 0),.val (.slice none 0 0),.val (.bool (blB p q x y z))]):=
 nT (r:=.tup [.val (.slice none 0 0),.val (.slice none 0 0),.val (.bool (blB p q x y z))]) (cs0:=[]) ((au3 (A:=kD) (p,q,x,y,z)).trans ((if_pos h).trans (by dsimp only;rw[if_neg (by omega)]))) rfl
theorem ais:Sound Tryz.prog 25 af9:=aqe.pure
theorem agD {p:List LS} {q:LS} {x y z:Int} (h:p.length≤6):(blL p q x y z).length≤360∧(blC p q x y z).length≤6:=by
 unfold blL blC;split
 ·have:=xB p q x y p.length
  rw[wT];omega
 ·simp
end
end Go.Proofs.YtmmafcjjlbgnkaaGreatDoor
