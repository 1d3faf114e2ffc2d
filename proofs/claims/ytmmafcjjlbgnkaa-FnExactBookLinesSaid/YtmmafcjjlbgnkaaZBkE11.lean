/- What the proof rests on, part 11: contracts of functions. No condition beyond what each states. -/
import Derived.Test.YtmmafcjjlbgnkaaZBkE10
namespace Go.Proofs.Ytmmafcjjlbgnkaa
open Go.RowKit
set_option linter.all false
set_option maxHeartbeats 32000000
noncomputable section
theorem ari {l:List It} {a b c d e f:Int} {g:Bool}:l.map eO++[.agg [.val (.int .i64 a),.val (.int .i64 b),.val (.int .i64 c),.val (.int .i64 d),.val (.int .i64 e),.val (.int .i64 f),.val (.bool g)]]=(l++[(a,b,c,d,e,f,g)]).map eO:=by simp
theorem alN {l:List It} {a b c d e f a2 b2 c2 d2 e2 f2 a3 b3 c3 d3 e3 f3:Int} {g g2 g3:Bool}:l.map eO++[.agg [.val (.int .i64 a),.val (.int .i64 b),.val (.int .i64 c),.val (.int .i64 d),.val (.int .i64 e),.val (.int .i64 f),.val (.bool g)],.agg [.val (.int .i64 a2),.val (.int .i64 b2),.val (.int .i64 c2),.val (.int .i64 d2),.val (.int .i64 e2),.val (.int .i64 f2),.val (.bool g2)],.agg [.val (.int .i64 a3),.val (.int .i64 b3),.val (.int .i64 c3),.val (.int .i64 d3),.val (.int .i64 e3),.val (.int .i64 f3),.val (.bool g3)]]=(l++[(a,b,c,d,e,f,g),(a2,b2,c2,d2,e2,f2,g2),(a3,b3,c3,d3,e3,f3,g3)]).map eO:=by simp
theorem amT {l l':List It}:l.map eO++l'.map eO=(l++l').map eO:=List.map_append.symm
attribute[push_cast]
 ari alN amT
def wiK (ps:LS):Nat→List It
 |0=>[]
 |k+1=>(if k=0 then wiK ps k else wiK ps k++[(3,3,0,0,0,50,true)])++[(1,nR (ps[k]?.getD .empty),0,0,0,0,false)]
def wiR (w:ByteArray) (pats:LS):List It:=wiK (bH w pats) (bH w pats).length
def piK (ws pats:LS):Nat→List It
 |0=>[]
 |k+1=>(if k=0 then piK ws pats k else piK ws pats k++[(2,4,3,1,0,0,false)])++wiR (ws[k]?.getD .empty) pats
def piR (ws pats:LS):List It:=piK ws pats ws.length++[(3,0,0,0,0,10000,false),(2,0,1,0,1,0,false),(3,0,0,0,0,-10000,false)]
def nX (ws pats:LS):Bool:=bD ws&&(bq pats&&(decide (0<ws.length)&&decide ((piR ws pats).length≤60)))
def piV (ws pats:LS):List It:=if nX ws pats=true then piR ws pats else []
theorem vS (ps:LS):∀k,(wiK ps k).length≤2*k
 |0=>by simp[wiK]
 |k+1=>by
  have:=vS ps k;unfold wiK;rw[List.length_append,List.length_singleton];split
  ·omega
  ·rw[List.length_append,List.length_singleton];omega
theorem iY (w:ByteArray) (pats:LS):(bH w pats).length≤21:=by
 unfold bH;split
 ·rename_i h
  have:=(mh (pats:=pats) (jl.1 h).1).1;unfold yS;rw[agC];omega
 ·simp
theorem lM {w:ByteArray} {pats:LS}:∀x∈bH w pats,cu x=true:=fun x hx=>by
 unfold bH at hx;split at hx
 ·rename_i h
  exact ajc (jl.1 h).1 (mh (jl.1 h).1) x hx
 ·simp at hx
theorem wP {w:ByteArray} {pats:LS} {k:Nat} (h:k<(bH w pats).length):cu ((bH w pats)[k]?.getD .empty)=true:=by rw[List.getElem?_eq_getElem h,Option.getD_some];exact lM _ (List.getElem_mem h)
theorem ae6 (w:ByteArray) (pats:LS):(wiR w pats).length≤42:=by have h1:=vS (bH w pats) (bH w pats).length;have h2:=iY w pats;unfold wiR;omega
theorem aaw (ws pats:LS):∀k,(piK ws pats k).length≤43*k
 |0=>by simp[piK]
 |k+1=>by
  have:=aaw ws pats k;have h2:=ae6 (ws[k]?.getD .empty) pats;unfold piK;rw[List.length_append];split
  ·omega
  ·rw[List.length_append,List.length_singleton];omega
theorem akj {ps:LS} (h:∀x∈ps,cu x=true):∀k,k≤ps.length→∀x∈wiK ps k,itB x=true
 |0,_=>by simp[wiK]
 |k+1,hk=>fun x hx=>by
  have ih:=akj h k (by omega);unfold wiK at hx;rcases List.mem_append.1 hx with hx|hx
  ·split at hx
   ·exact ih x hx
   ·rcases List.mem_append.1 hx with hx|hx
    ·exact ih x hx
    ·rw[List.mem_singleton.1 hx];decide
  ·rw[List.mem_singleton.1 hx]
   have h1:cu (ps[k]?.getD .empty)=true:=by rw[List.getElem?_eq_getElem (show k<ps.length by omega),Option.getD_some];exact h _ (List.getElem_mem _)
   have h2:=aeu h1;generalize nR (ps[k]?.getD .empty)=n at*;simp[itB,glB,abB,It.kd,It.gl,It.cost,It.mark,aB];omega
theorem akc (ws pats:LS):∀k,∀x∈piK ws pats k,itB x=true
 |0=>by simp[piK]
 |k+1=>fun x hx=>by
  have ih:=akc ws pats k;unfold piK at hx;rcases List.mem_append.1 hx with hx|hx
  ·split at hx
   ·exact ih x hx
   ·rcases List.mem_append.1 hx with hx|hx
    ·exact ih x hx
    ·rw[List.mem_singleton.1 hx];decide
  ·exact akj lM _ (Nat.le_refl _) x hx
theorem apZ {ws pats:LS} (h:(piR ws pats).length≤60):aT (piR ws pats)=true:=by
 unfold aT;rw[Bool.and_eq_true,List.all_eq_true];refine⟨decide_eq_true h,fun x hx=>?_⟩;unfold piR at hx;rcases List.mem_append.1 hx with hx|hx
 ·exact akc ws pats _ x hx
 ·rcases List.mem_cons.1 hx with rfl|hx
  ·decide
  ·rcases List.mem_cons.1 hx with rfl|hx
   ·decide
   ·rw[List.mem_singleton.1 hx];decide
theorem vF {ws pats:LS}:nX ws pats=true↔bD ws=true∧bq pats=true∧0<ws.length∧(piR ws pats).length≤60:=by simp[nX]
theorem ajF {ws pats:LS} (h:nX ws pats=true):aT (piV ws pats)=true:=by unfold piV;rw[if_pos h];exact apZ (vF.1 h).2.2.2
def φL6:Fun:=F2 dS dSs fun w pats=>if ahU w pats then some (.lst true 7 ((wiR w pats).map eO))else none
theorem alK {w:ByteArray} {pats:LS} (h:ahU w pats):φL6 [.val (.string w),.lst false 1 (pats.map fun s=> .val (.string s))]=some (.lst true 7 ((wiR w pats).map eO)):=(gD (A:=dS) (B:=dSs) w pats).trans (if_pos h)
def GL6:Ctx:={fn:=aZ [(32,φPr),(58,φWw)],io:=aZ []}
theorem an4:au Try.prog GL6:=okΓ (fC Try.func32 yw (fC Try.func58 aew aj)) aj
def apU:=ah (Γ:=GL6) (f:=32) (φ:=φPr) rfl
def arO:=ah (Γ:=GL6) (f:=58) (φ:=φWw) rfl
theorem aeo:Sound Try.prog 42 φL6:=by
 refine ak mixed an4 Try.func42 rfl 36 rfl [.tmp 4] rfl (by kernel_rfl) fun ps r hr=>?_;obtain⟨w,pats,rfl,hpre,rfl⟩:=fQ hr;refine⟨by simp,?_⟩;simp only[dIs,dUs,dSs,bQ,bU,bP,bT,aL,bS,aQ,aO,aR,aP];have apr:=aaM hpre;have hps:∀k,k<(bH w pats).length→((bH w pats)[k]?.getD .empty).size≤1048576:=fun k hk=>by have:=aS (wP hk);omega
 have hpl:=iY w pats;unfold wiR;generalize bH w pats=ps at*;have hwl:=vS ps;clear hpre;have gl6_c32:=apU;have gl6_c58:=arO;(refine wlk ?_;intros);refine aD (α:=Nat×Nat×Nat) mixed (fun z=>[(0,.val (.string w)),(5,.row z.2.1 7 0 (wiK ps z.1).length),(6,.lst true 1 (ps.map pvS)),(7,iv z.1)])
  (fun z=>[(z.2.1,58,7,(wiK ps z.1).map eO)]) (fun z=>z.2.2)
  (fun z=>z.1≤ps.length∧z.2.1<z.2.2) (fun z=>ps.length-z.1) (by kernel_rfl) (0,0,1) ⟨Nat.zero_le _,by simp⟩ ?_ ?_ rfl ?_
 ·simp(disch:=(first|omega|(simp only[push_cast];first|done|omega))) only[push_cast,↓reduceIte,Nat.reduceEqDiff,Nat.reduceBEq,Nat.reduceAdd,Nat.reduceSub,Int.reduceToNat,wiK,List.length_nil, *]
 ·simp(disch:=(first|omega|(simp only[push_cast];first|done|omega))) only[push_cast,↓reduceIte,Nat.reduceEqDiff,Nat.reduceBEq,Nat.reduceAdd,Nat.reduceSub,Int.reduceToNat,wiK,List.map_nil, *]
 rintro⟨k,x,y⟩ ⟨hk,hxy⟩;dsimp only at hk hxy;have hlk:=hwl k;by_cases h0:k<ps.length
 ·have apw:=aaq (hps k h0)
  have hn:wiK ps (k+1)=(if k=0 then wiK ps k else wiK ps k++[(3,3,0,0,0,50,true)])++[(1,nR (ps[k]?.getD .empty),0,0,0,0,false)]:=rfl;by_cases hz:k=0
  ·rw[if_pos hz]at hn
   replace hn:=Lib.hid hn;replace hz:k<1:=by omega
   generalize wiK ps k=out at*;clear hwl hps;(refine wlk ?_;intros);refine⟨(k+1,y+1,y+2),⟨by dsimp only;omega,by dsimp only;omega⟩,by dsimp only;omega,?_,?_,rfl⟩
   ·dsimp only
    rw[hn.out];exact agr
   ·dsimp only
    rw[hn.out];exact agr
  ·rw[if_neg hz]at hn
   replace hn:=Lib.hid hn;generalize wiK ps k=out at*;clear hwl hps;(refine wlk ?_;intros);refine⟨(k+1,y+3,y+4),⟨by dsimp only;omega,by dsimp only;omega⟩,by dsimp only;omega,?_,?_,rfl⟩
   ·dsimp only
    rw[hn.out];exact agr
   ·dsimp only
    rw[hn.out];exact agr
 ·obtain rfl:k=ps.length:=by omega
  generalize wiK ps ps.length=out at*;clear hwl hps;exact wlkF
def φPi:Fun:=F2 dSs dSs fun ws pats=>if lU ws∧lU pats then some (.tup [.lst true 7 ((piV ws pats).map eO),bv (nX ws pats)])else none
theorem anj {ws pats:LS} (h:lU ws∧lU pats):φPi [.lst false 1 (ws.map fun s=> .val (.string s)),.lst false 1 (pats.map fun s=> .val (.string s))]=some (.tup [.lst true 7 ((piV ws pats).map eO),.val (.bool (nX ws pats))]):=(gD (A:=dSs) (B:=dSs) ws pats).trans (if_pos h)
theorem qU {ws:LS} (h:bD ws=true):ws.length≤12:=by unfold bD at h;rw[Bool.and_eq_true]at h;exact of_decide_eq_true h.1
theorem acf {ws:LS} (h:bD ws=true) {k:Nat} (hk:k<ws.length):cu (ws[k]?.getD .empty)=true:=by unfold bD at h;rw[Bool.and_eq_true,List.all_eq_true]at h;rw[List.getElem?_eq_getElem hk,Option.getD_some];exact h.2 _ (List.getElem_mem hk)
def GPi:Ctx:={fn:=aZ [(27,gV),(28,eZ),(42,φL6)],io:=aZ []}
theorem arM:au Try.prog GPi:=okΓ (fC Try.func27 iV (fC Try.func28 cO (fC Try.func42 aeo aj))) aj
def abM:=ah (Γ:=GPi) (f:=27) (φ:=gV) rfl
def abr:=ah (Γ:=GPi) (f:=28) (φ:=eZ) rfl
def aa3:=ah (Γ:=GPi) (f:=42) (φ:=φL6) rfl
theorem ag1:Sound Try.prog 30 φPi:=by
 refine ak mixed arM Try.func30 rfl 56 rfl [.tmp 4,.tmp 5] rfl (by kernel_rfl) fun ps r hr=>?_;obtain⟨ws,pats,rfl,hpre,rfl⟩:=fQ hr;refine⟨by simp,?_⟩;simp only[dIs,dUs,dSs,bQ,bU,bP,bT,aL,bS,aQ,aO,aR,aP];have ap1:=kN hpre.1;have ap2:=gu hpre.2;have hwl0:=hpre.1.1;unfold piV;cases hw:bD ws with
 |false=>
  have hB:nX ws pats=false:=by unfold nX;rw[hw];rfl
  rw[hw]at ap1;rw[hB,if_neg (by decide)];clear hpre hw hB;have gpi_c27:=abM;have gpi_c28:=abr;have gpi_c42:=aa3;exact wlkF
 |true=>
 cases hp:bq pats with
 |false=>
  have hB:nX ws pats=false:=by unfold nX;rw[hw,hp];rfl
  rw[hw]at ap1;rw[hp]at ap2;rw[hB,if_neg (by decide)];clear hpre hw hp hB;have gpi_c27:=abM;have gpi_c28:=abr;have gpi_c42:=aa3;exact wlkF
 |true=>
 by_cases hz:ws.length=0
 ·have hB:nX ws pats=false:=by unfold nX;rw[hw,hp,hz];rfl
  rw[hw]at ap1;rw[hp]at ap2;rw[hB,if_neg (by decide)];clear hpre hw hp hB;have gpi_c27:=abM;have gpi_c28:=abr;have gpi_c42:=aa3;exact wlkF
 ·have hB:nX ws pats=decide ((piR ws pats).length≤60):=by unfold nX;rw[hw,hp,decide_eq_true (show 0<ws.length by omega)];rfl
  rw[hw]at ap1;rw[hp]at ap2;have hwl:=qU hw;have hap:∀k,k<ws.length→φL6 [.val (.string (ws[k]?.getD .empty)),.lst false 1 (pats.map fun s=> .val (.string s))]=some (.lst true 7 ((wiR (ws[k]?.getD .empty) pats).map eO)):=fun k hk=>alK ⟨hpre.1.2 k,hpre.2⟩;have hkl:=aaw ws pats;have hil:∀k:Nat,(wiR (ws[k]?.getD .empty) pats).length≤42:=fun k=>ae6 _ _;rw[hB];have hR:piR ws pats=piK ws pats ws.length++[(3,0,0,0,0,10000,false),(2,0,1,0,1,0,false),(3,0,0,0,0,-10000,false)]:=rfl;rw[hR];clear hpre hw hp hB hR;have gpi_c27:=abM;have gpi_c28:=abr;have gpi_c42:=aa3;(refine wlk ?_;intros);refine aD (α:=Nat×Nat×Nat) mixed (fun z=>[(0,.lst false 1 (ws.map pvS)),(1,.lst false 1 (pats.map pvS)),(6,.row z.2.1 7 0 (piK ws pats z.1).length),(7,iv z.1)])
   (fun z=>[(z.2.1,58,7,(piK ws pats z.1).map eO)]) (fun z=>z.2.2)
   (fun z=>z.1≤ws.length∧z.2.1<z.2.2) (fun z=>ws.length-z.1) (by kernel_rfl) (0,0,1) ⟨Nat.zero_le _,by simp⟩ ?_ ?_ rfl ?_
  ·simp(disch:=(first|omega|(simp only[push_cast];first|done|omega))) only[push_cast,↓reduceIte,Nat.reduceEqDiff,Nat.reduceBEq,Nat.reduceAdd,Nat.reduceSub,Int.reduceToNat,piK,List.length_nil, *]
  ·simp(disch:=(first|omega|(simp only[push_cast];first|done|omega))) only[push_cast,↓reduceIte,Nat.reduceEqDiff,Nat.reduceBEq,Nat.reduceAdd,Nat.reduceSub,Int.reduceToNat,piK,List.map_nil, *]
  rintro⟨k,x,y⟩ ⟨hk,hxy⟩;dsimp only at hk hxy;have hlk:=hkl k;have hlw:=hil k;by_cases h0:k<ws.length
  ·have apk:=hap k h0
   have hn:piK ws pats (k+1)=(if k=0 then piK ws pats k else piK ws pats k++[(2,4,3,1,0,0,false)])++wiR (ws[k]?.getD .empty) pats:=rfl;generalize wiR (ws[k]?.getD .empty) pats=its at*;by_cases hk0:k=0
   ·rw[if_pos hk0]at hn
    replace hn:=Lib.hid hn;replace hk0:k<1:=by omega
    generalize piK ws pats k=out at*;clear hkl hil hap;(refine wlk ?_;intros);refine⟨(k+1,y,y+1),⟨by dsimp only;omega,by dsimp only;omega⟩,by dsimp only;omega,?_,?_,rfl⟩
    ·dsimp only
     rw[hn.out];exact agr
    ·dsimp only
     rw[hn.out];exact agr
   ·rw[if_neg hk0]at hn
    replace hn:=Lib.hid hn;generalize piK ws pats k=out at*;clear hkl hil hap;(refine wlk ?_;intros);refine⟨(k+1,y+2,y+3),⟨by dsimp only;omega,by dsimp only;omega⟩,by dsimp only;omega,?_,?_,rfl⟩
    ·dsimp only
     rw[hn.out];exact agr
    ·dsimp only
     rw[hn.out];exact agr
  ·obtain rfl:k=ws.length:=by omega
   generalize piK ws pats ws.length=out at*;clear hkl hil hap;by_cases h60:out.length+3≤60
   ·rw[decide_eq_true (by simpa using h60),if_pos rfl]
    exact wlkF
   ·rw[decide_eq_false (by simpa using h60),if_neg (by decide)]
    exact wlkF
abbrev eu (l:List It):PV:=.lst false 7 (l.map eO)
theorem acp (l:List It) (n:Nat):lH l n=if(l[n]?.getD it0).1=2 then decide (0<n∧(l[n-1]?.getD it0).1=1)else decide ((l[n]?.getD it0).1=3∧(l[n]?.getD it0).2.2.2.2.2.1<10000):=rfl
theorem kG (x:It):forced x=decide (x.1=3∧x.2.2.2.2.2.1=-10000):=rfl
def φBq:Fun:=F2 lq dI fun l n=>open Classical in if aT l=true∧0≤n∧n<l.length then some (bv (lH l n.toNat))else none
theorem uQ {l:List It} {n:Nat} (h:aT l=true) (h2:n<l.length):φBq [eu l,.val (.int .i64 n)]=some (.val (.bool (lH l n))):=(gD (A:=lq) (B:=dI) l n).trans (if_pos ⟨h,by omega,by omega⟩)
theorem yL:Sound Try.prog 44 φBq:=by
 refine ak mixed bN Try.func44 rfl 36 rfl [.tmp 4] rfl (by kernel_rfl) fun ps r hr=>?_;obtain⟨l,n,rfl,hpre,rfl⟩:=fQ hr;refine⟨by simp,?_⟩;simp only[dIs,dUs,dSs,bQ,bU,bP,bT,aL,bS,aQ,aO,aR,aP];obtain⟨hB,hn0,hn1⟩:=hpre;obtain⟨m,rfl⟩:∃m:Nat,n=m:=⟨n.toNat,by omega⟩;have hl:=bB hB;show pq _ _ _ _ _ (bM [eu l,.val (.int .i64 m)]).tm _ _;have hm:m<l.length:=by omega
 have e1:0<m→((m:Int)-1).toNat=m-1:=fun h=>by omega
 rw[Int.toNat_natCast,acp];clear hB;by_cases h0:0<m
 ·have e1:=e1 h0
  generalize hx:l[m]?.getD it0=x at*;generalize hy:l[m-1]?.getD it0=y at*;obtain⟨a,b,c,d,e,f,g⟩:=x;obtain⟨a',b',c',d',e',f',g'⟩:=y;dsimp only
  ((refine wlk6 ?_ ?_ ?_ ?_ ?_ ?_<;>intros<;>try with_reducible exact trivial)<;>(refine fnG ?_;try with_reducible exact trivial));all_goals((refine congrArg (fun z=>some (PV.val (Value.bool z))) ?_);first|(simp_all;done)|(simp_all;omega))
 ·generalize hx:l[m]?.getD it0=x at*
  obtain⟨a,b,c,d,e,f,g⟩:=x;clear e1;dsimp only
  ((refine wlk6 ?_ ?_ ?_ ?_ ?_ ?_<;>intros<;>try with_reducible exact trivial)<;>(refine fnG ?_;try with_reducible exact trivial));all_goals((refine congrArg (fun z=>some (PV.val (Value.bool z))) ?_);first|(simp_all;done)|(simp_all;omega))
def φMb:Fun:=F2 lq dI fun l n=>open Classical in if aT l=true∧-1000≤n∧n≤1000 then some (bv (decide (0≤n∧n<l.length)&&lH l n.toNat))else none
theorem afL {l:List It} {n:Int} (h:aT l=true) (h2:-1000≤n∧n≤1000):φMb [eu l,.val (.int .i64 n)]=some (.val (.bool (decide (0≤n∧n<l.length)&&lH l n.toNat))):=(gD (A:=lq) (B:=dI) l n).trans (if_pos ⟨h,h2⟩)
def GMb:Ctx:={fn:=aZ [(35,φIn)],io:=aZ []}
theorem anM:au Try.prog GMb:=okΓ (fC Try.func35 vY aj) aj
def afD:=ah (Γ:=GMb) (f:=35) (φ:=φIn) rfl
theorem ad2:Sound Try.prog 73 φMb:=by
 refine ak mixed anM Try.func73 rfl 44 rfl [.tmp 4] rfl (by kernel_rfl) fun ps r hr=>?_;obtain⟨l,n,rfl,hpre,rfl⟩:=fQ hr;refine⟨by simp,?_⟩;simp only[dIs,dUs,dSs,bQ,bU,bP,bT,aL,bS,aQ,aO,aR,aP];obtain⟨hB,hn0,hn1⟩:=hpre;have hl:=bB hB;show pq _ _ _ _ _ (bM [eu l,.val (.int .i64 n)]).tm _ _;have ap:=bO;clear hB;by_cases hr:0≤n∧n<l.length
 ·obtain⟨m,rfl⟩:∃m:Nat,n=m:=⟨n.toNat,by omega⟩
  have hm:m<l.length:=by omega
  have hin:inB (m:Int) 0 ((l.length:Int)-1)=true:=aB.2 ⟨by omega,by omega⟩;have e1:0<m→((m:Int)-1).toNat=m-1:=fun h=>by omega
  rw[decide_eq_true hr,Bool.true_and,Int.toNat_natCast,acp];clear hr;by_cases h0:0<m
  ·have e1:=e1 h0
   generalize hx:l[m]?.getD it0=x at*;generalize hy:l[m-1]?.getD it0=y at*;obtain⟨a,b,c,d,e,f,g⟩:=x;obtain⟨a',b',c',d',e',f',g'⟩:=y;dsimp only
   have gmb_c35:=afD;((refine wlk6 ?_ ?_ ?_ ?_ ?_ ?_<;>intros<;>try with_reducible exact trivial)<;>(refine fnG ?_;try with_reducible exact trivial));all_goals((refine congrArg (fun z=>some (PV.val (Value.bool z))) ?_);first|(simp_all;done)|(simp_all;omega))
  ·generalize hx:l[m]?.getD it0=x at*
   obtain⟨a,b,c,d,e,f,g⟩:=x;clear e1;dsimp only
   have gmb_c35:=afD;((refine wlk6 ?_ ?_ ?_ ?_ ?_ ?_<;>intros<;>try with_reducible exact trivial)<;>(refine fnG ?_;try with_reducible exact trivial));all_goals((refine congrArg (fun z=>some (PV.val (Value.bool z))) ?_);first|(simp_all;done)|(simp_all;omega))
 ·have hin:inB n 0 ((l.length:Int)-1)=false:=Bool.eq_false_iff.2 fun q=>by have:=aB.1 q;omega
  rw[decide_eq_false hr,Bool.false_and];clear hr;have gmb_c35:=afD;exact wlkF
def φFc:Fun:=F1 dIt fun x=>some (bv (forced x))
theorem ad6 {a b c d e f:Int} {g:Bool}:φFc [.agg [.val (.int .i64 a),.val (.int .i64 b),.val (.int .i64 c),.val (.int .i64 d),.val (.int .i64 e),.val (.int .i64 f),.val (.bool g)]]=some (.val (.bool (forced (a,b,c,d,e,f,g)))):=iy (A:=dIt) (a,b,c,d,e,f,g)
theorem yI:Sound Try.prog 75 φFc:=by
 refine ak mixed bN Try.func75 rfl 11 rfl [.tmp 2] rfl (by kernel_rfl) fun ps r hr=>?_;obtain⟨⟨a,b,c,d,e,f,g⟩,rfl,hr⟩:=bJ hr;cases hr;refine⟨by simp,?_⟩;simp only[dIs,dUs,dSs,bQ,bU,bP,bT,aL,bS,aQ,aO,aR,aP];simp only[amI,bQ,bP];rw[kG];dsimp only
 ((refine wlk6 ?_ ?_ ?_ ?_ ?_ ?_<;>intros<;>try with_reducible exact trivial)<;>(refine fnG ?_;try with_reducible exact trivial));all_goals((refine congrArg (fun z=>some (PV.val (Value.bool z))) ?_);first|(simp_all;done)|(simp_all;omega))
def φSt:Fun:=F2 lq dI fun l n=>open Classical in if aT l=true∧-1≤n∧n<l.length then some (iv (ay l (n+1).toNat))else none
theorem zT {l:List It} {a:Nat} (h:aT l=true) (h2:a≤l.length):φSt [eu l,.val (.int .i64 ((a:Int)-1))]=some (.val (.int .i64 (ay l a))):=(gD (A:=lq) (B:=dI) l ((a:Int)-1)).trans ((if_pos ⟨h,by omega,by omega⟩).trans (by rw[show((a:Int)-1+1).toNat=a by omega]))
theorem aen {l:List It} {a:Nat}:ay l a=if a<l.length∧¬(l[a]?.getD it0).1=1∧¬((l[a]?.getD it0).1=3∧(l[a]?.getD it0).2.2.2.2.2.1=-10000)then ay l (a+1)else a:=by
 split
 ·rename_i h
  exact arh h.1 h.2.1 (decide_eq_false h.2.2)
 ·rename_i h
  refine ah5 fun q=>h ⟨q.1,q.2.1,fun r=>?_⟩;have:=q.2.2;rw[kG,decide_eq_true r]at this;cases this
def auv:Ctx:={fn:=aZ [(75,φFc)],io:=aZ []}
theorem al6:au Try.prog auv:=okΓ (fC Try.func75 yI aj) aj
def anh:=ah (Γ:=auv) (f:=75) (φ:=φFc) rfl
theorem ag8:Sound Try.prog 74 φSt:=by
 refine ak mixed al6 Try.func74 rfl 31 rfl [.tmp 4] rfl (by kernel_rfl) fun ps r hr=>?_;obtain⟨l,n,rfl,hpre,rfl⟩:=fQ hr;refine⟨by simp,?_⟩;simp only[dIs,dUs,dSs,bQ,bU,bP,bT,aL,bS,aQ,aO,aR,aP];obtain⟨hB,hn0,hn1⟩:=hpre;obtain⟨a,rfl⟩:∃a:Nat,n=(a:Int)-1:=⟨(n+1).toNat,by omega⟩;have hl:=bB hB;have ha:a≤l.length:=by omega
 show pq _ _ _ _ _ (bM [eu l,.val (.int .i64 ((a:Int)-1))]).tm _ _;rw[show((a:Int)-1+1).toNat=a by omega];have ap:=@ad6;clear hB hn0 hn1;generalize hR:ay l a=R;replace hR:=Lib.hid hR;have gsti_c75:=anh;(refine wlk ?_;intros);refine aD (α:=Nat) mixed (fun k=>[(0,eu l),(5,iv k)]) (fun _=>[]) (fun _=>0)
  (fun k=>k≤l.length∧ay l k=R) (fun k=>l.length-k) (by kernel_rfl) a ⟨ha,hR.out⟩ ?_ ?_ rfl ?_
 ·exact agi
 ·exact agr
 rintro k ⟨hk,hI⟩;rw[aen]at hI;clear hR ha;by_cases h0:k<l.length
 ·generalize hx:l[k]?.getD it0=x at*
  obtain⟨kd,b,c,d,e,cost,g⟩:=x;dsimp only at hI;by_cases h1:kd=1
  ·rw[if_neg (by omega)]at hI
   subst hI;exact wlkF
  ·by_cases h3:kd=3∧cost=-10000
   ·rw[if_neg (by omega)]at hI
    have hf:forced (kd,b,c,d,e,cost,g)=true:=by rw[kG];exact decide_eq_true h3
    subst hI;clear h3;exact wlkF
   ·rw[if_pos ⟨h0,h1,h3⟩]at hI
    have hf:forced (kd,b,c,d,e,cost,g)=false:=by rw[kG];exact decide_eq_false h3
    replace hI:=Lib.hid hI;clear h3;(refine wlk ?_;intros);refine⟨k+1,⟨by omega,hI.out⟩,by dsimp only;omega,?_,?_,rfl⟩
    ·exact agr
    ·exact agr
 ·rw[if_neg (fun q=>h0 q.1)]at hI
  subst hI;exact wlkF
theorem wW:Sound Try.prog 60 φSt:=by
 refine ak mixed bN Try.func60 rfl 39 rfl [.tmp 4] rfl (by kernel_rfl) fun ps r hr=>?_;obtain⟨l,n,rfl,hpre,rfl⟩:=fQ hr;refine⟨by simp,?_⟩;simp only[dIs,dUs,dSs,bQ,bU,bP,bT,aL,bS,aQ,aO,aR,aP];obtain⟨hB,hn0,hn1⟩:=hpre;obtain⟨a,rfl⟩:∃a:Nat,n=(a:Int)-1:=⟨(n+1).toNat,by omega⟩;have hl:=bB hB;have hat:=fun k hk=>(eX hB (k:=k) hk).cost;have ha:a≤l.length:=by omega
 show pq _ _ _ _ _ (bM [eu l,.val (.int .i64 ((a:Int)-1))]).tm _ _;rw[show((a:Int)-1+1).toNat=a by omega];clear hB hn0 hn1;generalize hR:ay l a=R;replace hR:=Lib.hid hR;(refine wlk ?_;intros);refine aD (α:=Nat) mixed (fun k=>[(0,eu l),(5,iv k)]) (fun _=>[]) (fun _=>0)
  (fun k=>k≤l.length∧ay l k=R) (fun k=>l.length-k) (by kernel_rfl) a ⟨ha,hR.out⟩ ?_ ?_ rfl ?_
 ·exact agi
 ·exact agr
 rintro k ⟨hk,hI⟩;rw[aen]at hI;clear hR ha;by_cases h0:k<l.length
 ·have hc:(0≤(l[k]?.getD it0).2.2.2.2.2.1∧(l[k]?.getD it0).2.2.2.2.2.1≤10000)∨(l[k]?.getD it0).2.2.2.2.2.1=-10000:=hat k h0
  clear hat;generalize hx:l[k]?.getD it0=x at*;obtain⟨kd,b,c,d,e,cost,g⟩:=x;dsimp only at hI hc;by_cases h1:kd=1
  ·rw[if_neg (by omega)]at hI
   subst hI;clear hc;exact wlkF
  ·by_cases h3:kd=3∧cost=-10000
   ·rw[if_neg (by omega)]at hI
    subst hI;obtain⟨h3,h4⟩:=h3;subst h3;subst h4;clear hc h1;exact wlkF
   ·rw[if_pos ⟨h0,h1,h3⟩]at hI
    replace hI:=Lib.hid hI;by_cases h5:kd=3
    ·have h6:0≤cost:=by omega
     clear hc h3 h1;subst h5;(refine wlk ?_;intros);refine⟨k+1,⟨by omega,hI.out⟩,by dsimp only;omega,?_,?_,rfl⟩
     ·exact agr
     ·exact agr
    ·clear hc h3
     (refine wlk ?_;intros);refine⟨k+1,⟨by omega,hI.out⟩,by dsimp only;omega,?_,?_,rfl⟩
     ·exact agr
     ·exact agr
 ·rw[if_neg (fun q=>h0 q.1)]at hI
  subst hI;clear hat;exact wlkF
def φNf:Fun:=F3 lq dI dI fun l n m=>open Classical in if aT l=true∧-1≤n∧n<m∧m<l.length then some (bv (oP l (n+1).toNat m.toNat))else none
theorem al2 {l:List It} {a b:Nat} (h:aT l=true) (h2:a≤b) (h3:b<l.length):φNf [eu l,.val (.int .i64 ((a:Int)-1)),.val (.int .i64 b)]=some (.val (.bool (oP l a b))):=(wD (A:=lq) (B:=dI) (C:=dI) l ((a:Int)-1) b).trans ((if_pos ⟨h,by omega,by omega,by omega⟩).trans (by rw[show((a:Int)-1+1).toNat=a by omega,Int.toNat_natCast]))
theorem afw:Sound Try.prog 61 φNf:=by
 refine ak mixed bN Try.func61 rfl 29 rfl [.tmp 6] rfl (by kernel_rfl) fun ps r hr=>?_;obtain⟨l,n,m,rfl,hpre,rfl⟩:=uT hr;refine⟨by simp,?_⟩;simp only[dIs,dUs,dSs,bQ,bU,bP,bT,aL,bS,aQ,aO,aR,aP];obtain⟨hB,hn0,hn1,hn2⟩:=hpre;obtain⟨a,rfl⟩:∃a:Nat,n=(a:Int)-1:=⟨(n+1).toNat,by omega⟩;obtain⟨b,rfl⟩:∃b:Nat,m=b:=⟨m.toNat,by omega⟩;have hl:=bB hB;have hab:a≤b:=by omega
 have hbl:b<l.length:=by omega
 show pq _ _ _ _ _ (bM [eu l,.val (.int .i64 ((a:Int)-1)),.val (.int .i64 b)]).tm _ _;rw[show((a:Int)-1+1).toNat=a by omega,Int.toNat_natCast];clear hB hn0 hn1 hn2;(refine wlk ?_;intros);refine aD (α:=Nat) mixed (fun k=>[(0,eu l),(2,iv b),(7,iv k)]) (fun _=>[]) (fun _=>0)
  (fun k=>(a≤k∧k≤b)∧oP l a k=true) (fun k=>b-k) (by kernel_rfl) a ⟨⟨Nat.le_refl _,hab⟩,vB (Nat.le_refl _)⟩ ?_ ?_ rfl ?_
 ·exact agi
 ·exact agr
 rintro k ⟨⟨hk1,hk2⟩,hI⟩;by_cases h0:k<b
 ·have hs:=qH (l:=l) hk1
  rw[hI,Bool.true_and]at hs;have hno:=fun h=>aac (b:=b) (l:=l) h hk1 h0;have hfr:forced (gI l k)=decide ((l[k]?.getD it0).1=3∧(l[k]?.getD it0).2.2.2.2.2.1=-10000):=rfl;rw[hfr]at hs;clear hI hfr;generalize hx:l[k]?.getD it0=x at*;obtain⟨kd,w9,c,d,e,cost,g⟩:=x;dsimp only at hs;by_cases h3:kd=3∧cost=-10000
  ·rw[decide_eq_true h3]at hs
   rw[hno hs];obtain⟨h3,h4⟩:=h3;subst h3;subst h4;clear hs hno;exact wlkF
  ·rw[decide_eq_false h3]at hs
   replace hs:=Lib.hid hs;clear hno;by_cases h5:kd=3
   ·have h6:¬cost=-10000:=fun q=>h3 ⟨h5,q⟩
    clear h3;subst h5;(refine wlk ?_;intros);refine⟨k+1,⟨⟨by omega,by omega⟩,hs.out⟩,by dsimp only;omega,?_,?_,rfl⟩
    ·exact agr
    ·exact agr
   ·clear h3
    (refine wlk ?_;intros);refine⟨k+1,⟨⟨by omega,by omega⟩,hs.out⟩,by dsimp only;omega,?_,?_,rfl⟩
    ·exact agr
    ·exact agr
 ·obtain rfl:k=b:=by omega
  rw[hI];clear hI;exact wlkF
def φLq:Fun:=F3 lq dI dI fun l n m=>open Classical in if aT l=true∧-1≤n∧n<m∧m<l.length then some (bv (dx l (n+1).toNat m.toNat))else none
theorem agw {l:List It} {a b:Nat} (h:aT l=true) (h2:a≤b) (h3:b<l.length):φLq [eu l,.val (.int .i64 ((a:Int)-1)),.val (.int .i64 b)]=some (.val (.bool (dx l a b))):=(wD (A:=lq) (B:=dI) (C:=dI) l ((a:Int)-1) b).trans ((if_pos ⟨h,by omega,by omega,by omega⟩).trans (by rw[show((a:Int)-1+1).toNat=a by omega,Int.toNat_natCast]))
def GLq:Ctx:={fn:=aZ [(29,φIn),(44,φBq),(60,φSt),(61,φNf)],io:=aZ []}
theorem aoe:au Try.prog GLq:=okΓ (fC Try.func29 iJ (fC Try.func44 yL (fC Try.func60 wW (fC Try.func61 afw aj)))) aj
def ajI:=ah (Γ:=GLq) (f:=29) (φ:=φIn) rfl
def ajA:=ah (Γ:=GLq) (f:=44) (φ:=φBq) rfl
def aj4:=ah (Γ:=GLq) (f:=60) (φ:=φSt) rfl
def ajq:=ah (Γ:=GLq) (f:=61) (φ:=φNf) rfl
theorem aem:Sound Try.prog 45 φLq:=by
 refine ak mixed aoe Try.func45 rfl 45 rfl [.tmp 6] rfl (by kernel_rfl) fun ps r hr=>?_;obtain⟨l,n,m,rfl,hpre,rfl⟩:=uT hr;refine⟨by simp,?_⟩;simp only[dIs,dUs,dSs,bQ,bU,bP,bT,aL,bS,aQ,aO,aR,aP];obtain⟨hB,hn0,hn1,hn2⟩:=hpre;obtain⟨a,rfl⟩:∃a:Nat,n=(a:Int)-1:=⟨(n+1).toNat,by omega⟩;obtain⟨b,rfl⟩:∃b:Nat,m=b:=⟨m.toNat,by omega⟩;have hl:=bB hB;have hab:a≤b:=by omega
 have hbl:b<l.length:=by omega
 show pq _ _ _ _ _ (bM [eu l,.val (.int .i64 ((a:Int)-1)),.val (.int .i64 b)]).tm _ _;rw[show((a:Int)-1+1).toNat=a by omega,Int.toNat_natCast];have ap1:φIn [.val (.int .i64 ((a:Int)-1)),.val (.int .i64 (-1)),.val (.int .i64 ((b:Int)-1))]=some (.val (.bool true)):=(bO _ _ _).trans (by rw[aB.2 ⟨by omega,by omega⟩]);have ap2:φIn [.val (.int .i64 b),.val (.int .i64 0),.val (.int .i64 ((l.length:Int)-1))]=some (.val (.bool true)):=(bO _ _ _).trans (by rw[aB.2 ⟨by omega,by omega⟩]);have ap3:=uQ hB hbl;have ap5:=zT (a:=a) hB (by omega);have ap6:=al2 hB hab hbl;have hE:dx l a b=(lH l b&&((decide (a=0)||lH l (a-1))&&(decide (ay l a≤b)&&oP l a b))):=by unfold dx;rw[decide_eq_true ⟨hab,hbl⟩,Bool.true_and]
 rw[hE];clear hE hn0 hn1 hn2;generalize lH l b=q1 at*;generalize oP l a b=q2 at*;generalize ay l a=s9 at*;by_cases h0:a=0
 ·subst h0
  clear hB;simp only[Int.natCast_zero,Int.zero_sub]at ap1 ap5 ap6⊢;have glq_c29:=ajI;have glq_c44:=ajA;have glq_c60:=aj4;have glq_c61:=ajq;((refine wlk6 ?_ ?_ ?_ ?_ ?_ ?_<;>intros<;>try with_reducible exact trivial)<;>(refine fnG ?_;try with_reducible exact trivial));all_goals((refine congrArg (fun z=>some (PV.val (Value.bool z))) ?_);first|(simp_all;done)|(simp_all;omega))
 ·have ap4:=uQ (n:=a-1) hB (by omega)
  rw[show((a-1:Nat):Int)=(a:Int)-1 by omega]at ap4;generalize lH l (a-1)=q3 at*;clear hB;have glq_c29:=ajI;have glq_c44:=ajA;have glq_c60:=aj4;have glq_c61:=ajq;((refine wlk6 ?_ ?_ ?_ ?_ ?_ ?_<;>intros<;>try with_reducible exact trivial)<;>(refine fnG ?_;try with_reducible exact trivial));all_goals((refine congrArg (fun z=>some (PV.val (Value.bool z))) ?_);first|(simp_all;done)|(simp_all;omega))
abbrev pvG (g:I4):PV:=.agg [.val (.int .i64 g.1),.val (.int .i64 g.2.1),.val (.int .i64 g.2.2.1),.val (.int .i64 g.2.2.2)]
theorem ahY (a b c d a' b' c' d':Int):zn (a,b,c,d) (a',b',c',d')=(a+a',(if(if b=0 then 0 else d)=max (if b=0 then 0 else d) (if b'=0 then 0 else d')then b else 0)+(if(if b'=0 then 0 else d')=max (if b=0 then 0 else d) (if b'=0 then 0 else d')then b' else 0),c+c',max (if b=0 then 0 else d) (if b'=0 then 0 else d')):=rfl
abbrev aoc (g:I4):Prop:=(0≤g.1∧g.1≤1000000)∧(0≤g.2.1∧g.2.1≤1000000)∧(0≤g.2.2.1∧g.2.2.1≤1000000)∧(g.2.2.2=0∨g.2.2.2=1)
def aiS:Fun:=F2 dI4 dI4 fun a b=>open Classical in if aoc a∧aoc b then some (pvG (zn a b))else none
theorem abh {a b:I4} (h:aoc a) (h2:aoc b):aiS [pvG a,pvG b]=some (pvG (zn a b)):=(gD (A:=dI4) (B:=dI4) a b).trans (if_pos ⟨h,h2⟩)
theorem adj:Sound Try.prog 80 aiS:=by
 refine ak mixed bN Try.func80 rfl 58 rfl [.cell 4 56] rfl (by kernel_rfl) fun ps r hr=>?_;obtain⟨⟨a,b,c,d⟩,⟨a',b',c',d'⟩,rfl,hpre,rfl⟩:=fQ hr;refine⟨by simp,?_⟩;simp only[dIs,dUs,dSs,bQ,bU,bP,bT,aL,bS,aQ,aO,aR,aP];obtain⟨⟨h1,h2,h3,h4⟩,h5,h6,h7,h8⟩:=hpre;dsimp only at h1 h2 h3 h4 h5 h6 h7 h8;rw[ahY];have g00:¬((0:Int)>0):=by decide
 have g10:(1:Int)>0:=by decide
 have g01:¬((0:Int)>1):=by decide
 have g11:¬((1:Int)>1):=by decide
 have n01:¬((0:Int)=1):=by decide
 have n10:¬((1:Int)=0):=by decide
 have m00:max (0:Int) 0=0:=by decide
 have m01:max (0:Int) 1=1:=by decide
 have m10:max (1:Int) 0=1:=by decide
 have m11:max (1:Int) 1=1:=by decide
 rcases h4 with rfl|rfl<;>rcases h8 with rfl|rfl<;>
 ·by_cases hb:b=0<;>by_cases hb':b'=0<;>
  ·first|subst hb|skip
   first|subst hb'|skip
   simp only[if_true,if_false,m00,m01,m10,m11,n01,n10, *];((refine wlk6 ?_ ?_ ?_ ?_ ?_ ?_<;>intros<;>try with_reducible exact trivial)<;>(refine fnG ?_;try with_reducible exact trivial));all_goals(simp;try omega)
def jP (l:List It) (b en:Nat):List I4:=((kW l b en).map fun n:Int=>(gI l n.toNat).gl)++(if(gI l en).kd=3 then [(gI l en).gl]else [])
def nL (l:List It) (b k:Nat):List I4:=(kW l b k).map fun n:Int=>(gI l n.toNat).gl
theorem aiQ {l:List It} {b:Nat}:nL l b b=[]:=by unfold nL;rw[qb (Nat.le_refl _)];rfl
theorem ajg {l:List It} {b k:Nat} (h:b≤k) (hk:¬(gI l k).kd=3):nL l b (k+1)=nL l b k++[(gI l k).gl]:=by unfold nL;rw[mV h hk,List.map_append];rfl
theorem aln {l:List It} {b k:Nat} (h:b≤k) (hk:(gI l k).kd=3):nL l b (k+1)=nL l b k:=by unfold nL;rw[vw h hk]
theorem uK (l:List It) (b k:Nat):(nL l b k).length≤k-b:=by unfold nL;rw[List.length_map];exact ny l b k
theorem zu {l:List It} {b k:Nat} (hB:aT l=true) (hk:k≤l.length):∀g∈nL l b k,GOk g:=fun g hg=>by obtain⟨n,hn,rfl⟩:=List.mem_map.1 hg;have:=pF n hn;exact(eX hB (k:=n.toNat) (by omega)).gl
theorem wo {l:List It} {b en:Nat} (hB:aT l=true) (hk:en<l.length):(∀g∈jP l b en,GOk g)∧(jP l b en).length≤60:=by
 have hl:=bB hB;have h1:=uK l b en;unfold jP;refine⟨fun g hg=>?_,?_⟩
 ·rcases List.mem_append.1 hg with hg|hg
  ·exact zu hB (by omega) g hg
  ·split at hg
   ·rw[List.mem_singleton.1 hg]
    exact(eX hB hk).gl
   ·simp at hg
 ·unfold nL at h1
  rw[List.length_append];split
  ·rw[List.length_singleton];omega
  ·rw[List.length_nil];omega
theorem aeB {gs:List I4} (h:∀g∈gs,GOk g) (hl:gs.length≤60):aoc (iA gs)∧(iA gs).1≤60000∧(iA gs).2.1≤60000∧(iA gs).2.2.1≤60000:=by obtain⟨h1,h2,h3,h4⟩:=am0 gs h;exact⟨⟨⟨h1.1,by omega⟩,⟨h2.1,by omega⟩,⟨h3.1,by omega⟩,h4⟩,by omega,by omega,by omega⟩
def ahq:Fun:=F3 lq dI dI fun l n m=>open Classical in if aT l=true∧0≤n∧n≤m∧m<l.length then some (pvG (iA (jP l n.toNat m.toNat)))else none
theorem ahz {l:List It} {b en:Nat} (h:aT l=true) (h2:b≤en) (h3:en<l.length):ahq [eu l,.val (.int .i64 b),.val (.int .i64 en)]=some (pvG (iA (jP l b en))):=(wD (A:=lq) (B:=dI) (C:=dI) l b en).trans (if_pos ⟨h,by omega,by omega,by omega⟩)
def aup:Ctx:={fn:=aZ [(80,aiS)],io:=aZ []}
theorem alI:au Try.prog aup:=okΓ (fC Try.func80 adj aj) aj
def akt:=ah (Γ:=aup) (f:=80) (φ:=aiS) rfl
theorem adr:Sound Try.prog 62 ahq:=by
 refine ak mixed alI Try.func62 rfl 49 rfl [.cell 6 56] rfl (by kernel_rfl) fun ps r hr=>?_;obtain⟨l,n,m,rfl,hpre,rfl⟩:=uT hr;refine⟨by simp,?_⟩;simp only[dIs,dUs,dSs,bQ,bU,bP,bT,aL,bS,aQ,aO,aR,aP];obtain⟨hB,hn0,hn1,hn2⟩:=hpre;obtain⟨b,rfl⟩:∃b:Nat,n=b:=⟨n.toNat,by omega⟩;obtain⟨en,rfl⟩:∃en:Nat,m=en:=⟨m.toNat,by omega⟩;have hl:=bB hB;have hbe:b≤en:=by omega
 have hel:en<l.length:=by omega
 show pq _ _ _ _ _ (bM [eu l,.val (.int .i64 b),.val (.int .i64 en)]).tm _ _;rw[Int.toNat_natCast,Int.toNat_natCast];clear hn0 hn1 hn2;have hgs:jP l b en=nL l b en++(if(gI l en).kd=3 then [(gI l en).gl]else []):=rfl;rw[hgs];have gsum_c80:=akt;(refine wlk ?_;intros);refine aD (α:=Nat) mixed (fun k=>[(0,eu l),(2,iv en),(6,.own 0 4 0 0),(7,.own 1 4 0 0),(8,iv k)])
  (fun k=>[(0,56,4,[pvG g40]),(1,56,4,[pvG (iA (nL l b k))])]) (fun _=>2)
  (fun k=>b≤k∧k≤en) (fun k=>en-k) (by kernel_rfl) b ⟨Nat.le_refl _,hbe⟩ ?_ ?_ rfl ?_
 ·exact agr
 ·simp(disch:=(first|omega|(simp only[push_cast];first|done|omega))) only[push_cast,↓reduceIte,Nat.reduceEqDiff,Nat.reduceBEq,Nat.reduceAdd,Nat.reduceSub,Int.reduceToNat,aiQ,iA,List.foldl_nil,g40, *]
 rintro k ⟨hk1,hk2⟩;obtain⟨ho,-⟩:=aeB (zu (b:=b) hB (show k≤l.length by omega)) (by have:=uK l b k;omega);by_cases h0:k<en
 ·have hx1:=(eX hB (k:=k) (by omega)).gl
  have hy:=@ajg l b k hk1;have hno:=@aln l b k hk1;have hkx:gI l k=l[k]?.getD it0:=rfl;rw[hkx]at hy hno;generalize hx:l[k]?.getD it0=x at*;obtain⟨kd,w9,c,d,e,cost,g⟩:=x;replace hy:¬kd=3→nL l b (k+1)=nL l b k++[(w9,c,d,e)]:=hy;replace hno:kd=3→nL l b (k+1)=nL l b k:=hno;obtain⟨g1,g2,g3,g4⟩:=hx1;dsimp only at g1 g2 g3 g4;have apa:=abh ho (b:=(w9,c,d,e)) ⟨⟨g1.1,by(try dsimp only);omega⟩,⟨g2.1,by(try dsimp only);omega⟩,⟨g3.1,by(try dsimp only);omega⟩,g4⟩;by_cases h3:kd=3
  ·have hs:=hno h3
   replace hs:=Lib.hid hs;clear hno hy apa ho g1 g2 g3 g4 hgs hB hkx;generalize ht9:iA (nL l b k)=t at*;obtain⟨t1,t2,t3,t4⟩:=t;subst h3;(refine wlk ?_;intros);refine⟨k+1,⟨by omega,by omega⟩,by dsimp only;omega,?_,?_,rfl⟩
   ·exact agr
   ·dsimp only
    rw[hs.out];simp(disch:=(first|omega|(simp only[push_cast];first|done|omega))) only[push_cast,↓reduceIte,Nat.reduceEqDiff,Nat.reduceBEq,Nat.reduceAdd,Nat.reduceSub,Int.reduceToNat, *]
  ·have hs:=hy h3
   have ht:iA (nL l b (k+1))=zn (iA (nL l b k)) (w9,c,d,e):=by rw[hs,mD]
   replace ht:=Lib.hid ht;clear hno hy hs ho g1 g2 g3 g4 hgs hB hkx;generalize iA (nL l b k)=t at*;generalize zn t (w9,c,d,e)=u at*;obtain⟨t1,t2,t3,t4⟩:=t;obtain⟨u1,u2,u3,u4⟩:=u;try dsimp only at apa
   (refine wlk ?_;intros);refine⟨k+1,⟨by omega,by omega⟩,by dsimp only;omega,?_,?_,rfl⟩
   ·exact agr
   ·dsimp only
    rw[ht.out];exact agr
 ·obtain rfl:k=en:=by omega
  have hx1:GOk (l[k]?.getD it0).gl:=(eX hB hel).gl;have hkx:gI l k=l[k]?.getD it0:=rfl;rw[hkx];generalize hx:l[k]?.getD it0=x at*;obtain⟨kd,w9,c,d,e,cost,g⟩:=x;obtain⟨g1,g2,g3,g4⟩:=hx1;dsimp only at g1 g2 g3 g4;have apa:=abh ho (b:=(w9,c,d,e)) ⟨⟨g1.1,by(try dsimp only);omega⟩,⟨g2.1,by(try dsimp only);omega⟩,⟨g3.1,by(try dsimp only);omega⟩,g4⟩;by_cases h3:kd=3
  ·have ht:iA (nL l b k++[(w9,c,d,e)])=zn (iA (nL l b k)) (w9,c,d,e):=mD _ _
   rw[if_pos (show It.kd (kd,w9,c,d,e,cost,g)=3 from h3)];have hz:It.gl (kd,w9,c,d,e,cost,g)=(w9,c,d,e):=rfl;rw[hz,ht];clear ho g1 g2 g3 g4 hgs hB hkx ht hz;generalize iA (nL l b k)=t at*;generalize zn t (w9,c,d,e)=u at*;obtain⟨t1,t2,t3,t4⟩:=t;obtain⟨u1,u2,u3,u4⟩:=u;try dsimp only at apa
   subst h3;exact wlkF
  ·rw[if_neg (show¬It.kd (kd,w9,c,d,e,cost,g)=3 from h3),List.append_nil]
   clear ho g1 g2 g3 g4 hgs hB hkx apa;generalize iA (nL l b k)=t at*;obtain⟨t1,t2,t3,t4⟩:=t;exact wlkF
theorem acg {need room:Int} (h:0≤need∧need≤100000) (h2:0<room∧room≤100000):(0≤100*need*need∧100*need*need≤1000000000000)∧(0≤100*need*need*need∧100*need*need*need≤100000000000000000)∧(0<room*room∧room*room≤10000000000)∧(0<room*room*room∧room*room*room≤1000000000000000)∧0≤100*need*need*need/(room*room*room):=by have a1:0≤100*need*need:=Int.mul_nonneg (by omega) h.1;have a2:100*need*need≤10000000*100000:=Int.mul_le_mul (by omega) h.2 h.1 (by omega);have a3:0≤100*need*need*need:=Int.mul_nonneg a1 h.1;have a4:100*need*need*need≤1000000000000*100000:=Int.mul_le_mul (by omega) h.2 h.1 (by omega);have b1:0<room*room:=Int.mul_pos h2.1 h2.1;have b2:room*room≤100000*100000:=Int.mul_le_mul h2.2 h2.2 (by omega) (by omega);have b3:0<room*room*room:=Int.mul_pos b1 h2.1;have b4:room*room*room≤10000000000*100000:=Int.mul_le_mul (by omega) h2.2 (by omega) (by omega);exact⟨⟨a1,by omega⟩,⟨a3,by omega⟩,⟨b1,by omega⟩,⟨b3,by omega⟩,Int.ediv_nonneg a3 (by omega)⟩
def rF:Fun:=F2 dI dI fun need room=>open Classical in if(0≤need∧need≤100000)∧0≤room∧room≤100000 then some (iv (zf need room))else none
theorem mU {need room:Int} (h:(0≤need∧need≤100000)∧0≤room∧room≤100000):rF [.val (.int .i64 need),.val (.int .i64 room)]=some (.val (.int .i64 (zf need room))):=(gD (A:=dI) (B:=dI) need room).trans (if_pos h)
theorem aaj:Sound Try.prog 96 rF:=by
 refine ak mixed bN Try.func96 rfl 29 rfl [.tmp 4] rfl (by kernel_rfl) fun ps r hr=>?_;obtain⟨need,room,rfl,hpre,rfl⟩:=fQ hr;refine⟨by simp,?_⟩;simp only[dIs,dUs,dSs,bQ,bU,bP,bT,aL,bS,aQ,aO,aR,aP];obtain⟨h1,h2⟩:=hpre;unfold zf;by_cases hn:need=0
 ·subst hn
  exact wlkF
 ·rw[if_neg hn]
  by_cases hr:room=0
  ·subst hr
   ((refine wlk6 ?_ ?_ ?_ ?_ ?_ ?_<;>intros<;>try with_reducible exact trivial)<;>(refine fnG ?_;try with_reducible exact trivial));all_goals simp
  ·obtain⟨c1,c2,c3,c4,c5⟩:=acg h1 (room:=room) ⟨by omega,by omega⟩
   have hq:Int.tdiv (100*need*need*need) (room*room*room)=100*need*need*need/(room*room*room):=Int.tdiv_eq_ediv_of_nonneg c2.1;by_cases hb:10*room<need
   ·rw[if_pos (.inr hb)]
    clear c1 c2 c3 c4 c5 hq;exact wlkF
   ·rw[if_neg (by omega)]
    have hz:¬room*room*room=0:=by omega
    have w1:=dn (n:=100*need*need) (by omega) (by omega);have w2:=dn (n:=100*need*need*need) (by omega) (by omega);have w3:=dn (n:=room*room) (by omega) (by omega);have w4:=dn (n:=room*room*room) (by omega) (by omega);have c6:100*need*need*need/(room*room*room)≤100000000000000000:=by have:=Int.ediv_le_self (room*room*room) c2.1;omega
    have w5:=dn (n:=100*need*need*need/(room*room*room)) (by omega) (by omega);((refine wlk6 ?_ ?_ ?_ ?_ ?_ ?_<;>intros<;>try with_reducible exact trivial)<;>(refine fnG ?_;try with_reducible exact trivial));all_goals((refine congrArg (fun z=>some (PV.val (Value.int IntKind.i64 z))) ?_);generalize 100*need*need*need/(room*room*room)=q at*;(try(split))<;>omega)
def auu:Ctx:={fn:=aZ [(29,φIn)],io:=aZ []}
theorem anv:au Try.prog auu:=okΓ (fC Try.func29 iJ aj) aj
def uH:=ah (Γ:=auu) (f:=29) (φ:=φIn) rfl
theorem ze:Sound Try.prog 63 rF:=by
 refine ak mixed anv Try.func63 rfl 36 rfl [.tmp 4] rfl (by kernel_rfl) fun ps r hr=>?_;obtain⟨need,room,rfl,hpre,rfl⟩:=fQ hr;refine⟨by simp,?_⟩;simp only[dIs,dUs,dSs,bQ,bU,bP,bT,aL,bS,aQ,aO,aR,aP];obtain⟨h1,h2⟩:=hpre;have ap1:φIn [.val (.int .i64 need),.val (.int .i64 0),.val (.int .i64 100000)]=some (.val (.bool true)):=(bO _ _ _).trans (by rw[aB.2 h1]);have ap2:φIn [.val (.int .i64 room),.val (.int .i64 0),.val (.int .i64 100000)]=some (.val (.bool true)):=(bO _ _ _).trans (by rw[aB.2 h2]);rw[agW h1.1 h2.1];by_cases hn:need=0
 ·subst hn
  have gbds_c29:=uH;exact wlkF
 ·rw[if_neg hn]
  by_cases hr:room=0
  ·subst hr
   have gbds_c29:=uH;((refine wlk6 ?_ ?_ ?_ ?_ ?_ ?_<;>intros<;>try with_reducible exact trivial)<;>(refine fnG ?_;try with_reducible exact trivial));all_goals simp
  ·obtain⟨c1,c2,c3,c4,c5⟩:=acg h1 (room:=room) ⟨by omega,by omega⟩
   by_cases hb:5*room<need
   ·rw[if_pos (.inr hb)]
    clear c1 c2 c3 c4 c5;have gbds_c29:=uH;exact wlkF
   ·rw[if_neg (by omega)]
    have hz:¬room*room*room=0:=by omega
    have w1:=dn (n:=100*need*need) (by omega) (by omega);have w2:=dn (n:=100*need*need*need) (by omega) (by omega);have w3:=dn (n:=room*room) (by omega) (by omega);have w4:=dn (n:=room*room*room) (by omega) (by omega);have c6:100*need*need*need/(room*room*room)≤100000000000000000:=by have:=Int.ediv_le_self (room*room*room) c2.1;omega
    have w5:=dn (n:=100*need*need*need/(room*room*room)) (by omega) (by omega);have gbds_c29:=uH;((refine wlk6 ?_ ?_ ?_ ?_ ?_ ?_<;>intros<;>try with_reducible exact trivial)<;>(refine fnG ?_;try with_reducible exact trivial));all_goals((refine congrArg (fun z=>some (PV.val (Value.int IntKind.i64 z))) ?_);generalize 100*need*need*need/(room*room*room)=q at*;(try(split))<;>omega)
def φLk:Fun:=F2 dB dI fun s bad=>open Classical in if 0≤bad∧bad≤10000 then some (iv (eP s bad))else none
theorem vG {s:Bool} {bad:Int} (h:0≤bad∧bad≤10000):φLk [.val (.bool s),.val (.int .i64 bad)]=some (.val (.int .i64 (eP s bad))):=(gD (A:=dB) (B:=dI) s bad).trans (if_pos h)
def aus:Ctx:={fn:=aZ [(36,nA)],io:=aZ []}
theorem alG:au Try.prog aus:=okΓ (fC Try.func36 mE aj) aj
def ane:=ah (Γ:=aus) (f:=36) (φ:=nA) rfl
theorem ae4:Sound Try.prog 88 φLk:=by
 refine ak mixed alG Try.func88 rfl 18 rfl [.tmp 4] rfl (by kernel_rfl) fun ps r hr=>?_;obtain⟨s,bad,rfl,hpre,rfl⟩:=fQ hr;refine⟨by simp,?_⟩;simp only[dIs,dUs,dSs,bQ,bU,bP,bT,aL,bS,aQ,aO,aR,aP];have ap:nA [.val (.int .i64 bad)]=some (.val (.bool true)):=(ku bad).trans (by rw[aB.2 hpre]);unfold eP;have glki_c36:=ane;cases s<;>
 ·((refine wlk6 ?_ ?_ ?_ ?_ ?_ ?_<;>intros<;>try with_reducible exact trivial)<;>(refine fnG ?_;try with_reducible exact trivial))
  all_goals((refine congrArg (fun z=>some (PV.val (Value.int IntKind.i64 z))) ?_);(repeat' split)<;>first|rfl|omega|(simp_all;done))
def auq:Ctx:={fn:=aZ [(29,φIn)],io:=aZ []}
theorem amu:au Try.prog auq:=okΓ (fC Try.func29 iJ aj) aj
def akV:=ah (Γ:=auq) (f:=29) (φ:=φIn) rfl
theorem afl:Sound Try.prog 47 φLk:=by
 refine ak mixed amu Try.func47 rfl 14 rfl [.tmp 4] rfl (by kernel_rfl) fun ps r hr=>?_;obtain⟨s,bad,rfl,hpre,rfl⟩:=fQ hr;refine⟨by simp,?_⟩;simp only[dIs,dUs,dSs,bQ,bU,bP,bT,aL,bS,aQ,aO,aR,aP];have ap:φIn [.val (.int .i64 bad),.val (.int .i64 0),.val (.int .i64 10000)]=some (.val (.bool true)):=(bO _ _ _).trans (by rw[aB.2 hpre]);unfold eP;have glks_c29:=akV;cases s<;>
 ·((refine wlk6 ?_ ?_ ?_ ?_ ?_ ?_<;>intros<;>try with_reducible exact trivial)<;>(refine fnG ?_;try with_reducible exact trivial))
  all_goals((refine congrArg (fun z=>some (PV.val (Value.int IntKind.i64 z))) ?_);(repeat' split)<;>first|rfl|omega|(simp_all;done))
abbrev afb (c:Int):Prop:=(0≤c∧c≤10000)∨c=-10000
def φCo:Fun:=F2 dI dI fun bad c=>open Classical in if(0≤bad∧bad≤10000)∧afb c then some (iv (jU bad c))else none
theorem aat {bad c:Int} (h:0≤bad∧bad≤10000) (h2:afb c):φCo [.val (.int .i64 bad),.val (.int .i64 c)]=some (.val (.int .i64 (jU bad c))):=(gD (A:=dI) (B:=dI) bad c).trans (if_pos ⟨h,h2⟩)
theorem abo {bad:Int} (h:0≤bad∧bad≤10010):0≤bad*bad∧bad*bad≤100200100:=by have h3:0≤bad*bad:=Int.mul_nonneg (by omega) (by omega);have h4:bad*bad≤10010*10010:=Int.mul_le_mul (by omega) (by omega) (by omega) (by omega);omega
def asP:Ctx:={fn:=aZ [(36,nA),(94,qm)],io:=aZ []}
theorem anC:au Try.prog asP:=okΓ (fC Try.func36 mE (fC Try.func94 yR aj)) aj
def anq:=ah (Γ:=asP) (f:=36) (φ:=nA) rfl
def amj:=ah (Γ:=asP) (f:=94) (φ:=qm) rfl
theorem agc:Sound Try.prog 89 φCo:=by
 refine ak mixed anC Try.func89 rfl 27 rfl [.tmp 4] rfl (by kernel_rfl) fun ps r hr=>?_;obtain⟨bad,c,rfl,hpre,rfl⟩:=fQ hr;refine⟨by simp,?_⟩;simp only[dIs,dUs,dSs,bQ,bU,bP,bT,aL,bS,aQ,aO,aR,aP];obtain⟨h1,h2⟩:=hpre;have ap:nA [.val (.int .i64 bad)]=some (.val (.bool true)):=(ku bad).trans (by rw[aB.2 h1]);have ap2:qm [.val (.int .i64 c)]=some (.val (.bool true)):=(wC c).trans (by
  have:vg c=true:=by
   unfold vg;rcases h2 with h2|h2
   ·rw[aB.2 h2];rfl
   ·rw[decide_eq_true h2,Bool.or_true]
  rw[this])
 have s1:=abo (bad:=10+bad) ⟨by omega,by omega⟩;have w1:=dn (n:=(10+bad)*(10+bad)) (by omega) (by omega);unfold jU;have gcoi_c36:=anq;have gcoi_c94:=amj;by_cases hc:c=-10000
 ·subst hc
  rw[if_pos rfl];clear h2;((refine wlk6 ?_ ?_ ?_ ?_ ?_ ?_<;>intros<;>try with_reducible exact trivial)<;>(refine fnG ?_;try with_reducible exact trivial));all_goals((refine congrArg (fun z=>some (PV.val (Value.int IntKind.i64 z))) ?_);omega)
 ·have s2:=abo (bad:=c) ⟨by omega,by omega⟩
  have w2:=dn (n:=c*c) (by omega) (by omega);rw[if_neg hc];have w3:=dn (n:=(10+bad)*(10+bad)+c*c) (by omega) (by omega);clear h2;exact wlkF
def aul:Ctx:={fn:=aZ [(29,φIn)],io:=aZ []}
theorem amh:au Try.prog aul:=okΓ (fC Try.func29 iJ aj) aj
def aku:=ah (Γ:=aul) (f:=29) (φ:=φIn) rfl
theorem agv:Sound Try.prog 48 φCo:=by
 refine ak mixed amh Try.func48 rfl 31 rfl [.tmp 4] rfl (by kernel_rfl) fun ps r hr=>?_;obtain⟨bad,c,rfl,hpre,rfl⟩:=fQ hr;refine⟨by simp,?_⟩;simp only[dIs,dUs,dSs,bQ,bU,bP,bT,aL,bS,aQ,aO,aR,aP];obtain⟨h1,h2⟩:=hpre;have ap:φIn [.val (.int .i64 bad),.val (.int .i64 0),.val (.int .i64 10000)]=some (.val (.bool true)):=(bO _ _ _).trans (by rw[aB.2 h1]);have s1:=abo (bad:=10+bad) ⟨by omega,by omega⟩;have w1:=dn (n:=(10+bad)*(10+bad)) (by omega) (by omega);unfold jU;have gcos_c29:=aku;by_cases hc:c=-10000
 ·have ap2:φIn [.val (.int .i64 c),.val (.int .i64 0),.val (.int .i64 10000)]=some (.val (.bool false)):=(bO _ _ _).trans (by rw[show inB c 0 10000=false from Bool.eq_false_iff.2 fun q=>by have:=aB.1 q;omega])
  subst hc;rw[if_pos rfl];clear h2;((refine wlk6 ?_ ?_ ?_ ?_ ?_ ?_<;>intros<;>try with_reducible exact trivial)<;>(refine fnG ?_;try with_reducible exact trivial));all_goals((refine congrArg (fun z=>some (PV.val (Value.int IntKind.i64 z))) ?_);omega)
 ·have h3:0≤c∧c≤10000:=by omega
  have ap2:φIn [.val (.int .i64 c),.val (.int .i64 0),.val (.int .i64 10000)]=some (.val (.bool true)):=(bO _ _ _).trans (by rw[aB.2 h3]);have s2:=abo (bad:=c) ⟨by omega,by omega⟩;have w2:=dn (n:=c*c) (by omega) (by omega);rw[if_neg hc];have w3:=dn (n:=(10+bad)*(10+bad)+c*c) (by omega) (by omega);clear h2;by_cases h0:c=0
  ·subst h0
   clear s2 w2 w3;((refine wlk6 ?_ ?_ ?_ ?_ ?_ ?_<;>intros<;>try with_reducible exact trivial)<;>(refine fnG ?_;try with_reducible exact trivial));all_goals((refine congrArg (fun z=>some (PV.val (Value.int IntKind.i64 z))) ?_);omega)
  ·exact wlkF
abbrev akG (l:List It) (n m:Int):Prop:=aT l=true∧-1≤n∧n<m∧m<l.length
section
variable {α β γ δ ε:Type} {A:Dec α} {B:Dec β} {C:Dec γ} {D:Dec δ} {E:Dec ε}
def F5 (A:Dec α) (B:Dec β) (C:Dec γ) (D:Dec δ) (E:Dec ε) (F:α→β→γ→δ→ε→Option PV):Fun:=fun ps=>match ps with
 |[p,q,r,s,t]=>(A.d p).bind fun a=>(B.d q).bind fun b=>(C.d r).bind fun c=>(D.d s).bind fun d=>(E.d t).bind fun e=>F a b c d e
 |_=>none
theorem aeK {F:α→β→γ→δ→ε→Option PV} {ps:List PV} {r:PV} (h:F5 A B C D E F ps=some r):∃a b c d e,ps=[A.e a,B.e b,C.e c,D.e d,E.e e]∧F a b c d e=some r:=by
 unfold F5 at h;split at h
 ·simp only[Option.bind_eq_some_iff]at h
  obtain⟨a,h1,b,h2,c,h3,d,h4,e,h5,h6⟩:=h;exact⟨a,b,c,d,e,by rw[A.h _ _ h1,B.h _ _ h2,C.h _ _ h3,D.h _ _ h4,E.h _ _ h5],h6⟩
 ·cases h
theorem aoQ {F:α→β→γ→δ→ε→Option PV} (a:α) (b:β) (c:γ) (d:δ) (e:ε):F5 A B C D E F [A.e a,B.e b,C.e c,D.e d,E.e e]=F a b c d e:=by simp[F5,A.h',B.h',C.h',D.h',E.h']
end
def φBd:Fun:=F4 lq dI dI dI fun l n m wd=>open Classical in if akG l n m∧(0≤wd∧wd≤1000)∧ay l (n+1).toNat≤m.toNat then some (.tup [iv (gJ l wd (n+1).toNat m.toNat).1,bv (gJ l wd (n+1).toNat m.toNat).2])else none
theorem aaP {l:List It} {a en:Nat} {wd:Int} (h:aT l=true) (h2:a≤en) (h3:en<l.length) (h4:0≤wd∧wd≤1000) (h5:ay l a≤en):φBd [eu l,.val (.int .i64 ((a:Int)-1)),.val (.int .i64 en),.val (.int .i64 wd)]=some (.tup [.val (.int .i64 (gJ l wd a en).1),.val (.bool (gJ l wd a en).2)]):=
 (apD (A:=lq) (B:=dI) (C:=dI) (D:=dI) l ((a:Int)-1) en wd).trans (by rw[show((a:Int)-1+1).toNat=a by omega,Int.toNat_natCast];exact if_pos ⟨⟨h,by omega,by omega,by omega⟩,h4,h5⟩)
def arY:Ctx:={fn:=aZ [(60,φSt),(62,ahq),(63,rF)],io:=aZ []}
theorem alr:au Try.prog arY:=okΓ (fC Try.func60 wW (fC Try.func62 adr (fC Try.func63 ze aj))) aj
def uX:=ah (Γ:=arY) (f:=60) (φ:=φSt) rfl
def vM:=ah (Γ:=arY) (f:=62) (φ:=ahq) rfl
def uY:=ah (Γ:=arY) (f:=63) (φ:=rF) rfl
theorem aey:Sound Try.prog 46 φBd:=by
 refine ak mixed alr Try.func46 rfl 45 rfl [.tmp 8,.tmp 9] rfl (by kernel_rfl) fun ps r hr=>?_;obtain⟨l,n,m,wd,rfl,hpre,rfl⟩:=apP hr;refine⟨by simp,?_⟩;simp only[dIs,dUs,dSs,bQ,bU,bP,bT,aL,bS,aQ,aO,aR,aP];obtain⟨⟨hB,hn0,hn1,hn2⟩,hw,hst⟩:=hpre;obtain⟨a,rfl⟩:∃a:Nat,n=(a:Int)-1:=⟨(n+1).toNat,by omega⟩;obtain⟨en,rfl⟩:∃en:Nat,m=en:=⟨m.toNat,by omega⟩;show pq _ _ _ _ _ (bM [eu l,.val (.int .i64 ((a:Int)-1)),.val (.int .i64 en),.val (.int .i64 wd)]).tm _ _;rw[show((a:Int)-1+1).toNat=a by omega,Int.toNat_natCast]at hst⊢;have ap1:=zT (a:=a) hB (by omega);have ap2:=ahz hB hst (by omega);obtain⟨g1,g2⟩:=wo (b:=ay l a) hB (show en<l.length by omega);obtain⟨⟨o1,o2,o3,o4⟩,t1,t2,t3⟩:=aeB g1 g2;have hE:gJ l wd a en=arL (iA (jP l (ay l a) en)) wd:=rfl;rw[hE];have hl:=bB hB;clear hB g1 g2 hE;generalize ay l a=s9 at*;generalize iA (jP l s9 en)=t at*;obtain⟨tw,ts,th,tod⟩:=t;dsimp only at o1 o2 o3 o4 t1 t2 t3;have hG:arL (tw,ts,th,tod) wd=if tw≤wd then(if tod=1 then(0,true)else(zf (wd-tw) ts,true))else if tw-wd≤th then(zf (tw-wd) th,false)else(-1,false):=rfl;rw[hG];by_cases h1:tw≤wd
 ·have ap3:=mU (need:=wd-tw) (room:=ts) ⟨⟨by omega,by omega⟩,by omega,by omega⟩
  rw[if_pos h1];by_cases h2:tod=1
  ·rw[if_pos h2]
   subst h2;have gl7b_c60:=uX;have gl7b_c62:=vM;have gl7b_c63:=uY;exact wlkF
  ·rw[if_neg h2]
   generalize zf (wd-tw) ts=bd at*;have gl7b_c60:=uX;have gl7b_c62:=vM;have gl7b_c63:=uY;exact wlkF
 ·rw[if_neg h1]
  by_cases h2:tw-wd≤th
  ·have ap3:=mU (need:=tw-wd) (room:=th) ⟨⟨by omega,by omega⟩,by omega,by omega⟩
   rw[if_pos h2];generalize zf (tw-wd) th=bd at*;have gl7b_c60:=uX;have gl7b_c62:=vM;have gl7b_c63:=uY;exact wlkF
  ·rw[if_neg h2]
   have gl7b_c60:=uX;have gl7b_c62:=vM;have gl7b_c63:=uY;exact wlkF
def φBw:Fun:=F5 lq dI dI dI dI fun l n m be lk=>open Classical in if akG l n m∧(0≤be∧be≤3)∧0≤lk∧lk≤3 then some (iv (gY l (n+1).toNat m.toNat be lk))else none
theorem aex {l:List It} {a en:Nat} {be lk:Int} (h:aT l=true) (h2:a≤en) (h3:en<l.length) (h4:0≤be∧be≤3) (h5:0≤lk∧lk≤3):φBw [eu l,.val (.int .i64 ((a:Int)-1)),.val (.int .i64 en),.val (.int .i64 be),.val (.int .i64 lk)]=some (.val (.int .i64 (gY l a en be lk))):=
 (aoQ (A:=lq) (B:=dI) (C:=dI) (D:=dI) (E:=dI) l ((a:Int)-1) en be lk).trans (by rw[show((a:Int)-1+1).toNat=a by omega,Int.toNat_natCast];exact if_pos ⟨⟨h,by omega,by omega,by omega⟩,h4,h5⟩)
theorem agM:Sound Try.prog 49 φBw:=by
 refine ak mixed bN Try.func49 rfl 45 rfl [.tmp 10] rfl (by kernel_rfl) fun ps r hr=>?_;obtain⟨l,n,m,be,lk,rfl,hq⟩:=aeK hr;clear hr;split at hq
 case isFalse=>cases hq
 case isTrue hpre=>
 cases hq;refine⟨by simp,?_⟩;simp only[dIs,dUs,dSs,bQ,bU,bP,bT,aL,bS,aQ,aO,aR,aP];obtain⟨⟨hB,hn0,hn1,hn2⟩,hbe,hlk⟩:=hpre;obtain⟨a,rfl⟩:∃a:Nat,n=(a:Int)-1:=⟨(n+1).toNat,by omega⟩;obtain⟨en,rfl⟩:∃en:Nat,m=en:=⟨m.toNat,by omega⟩;show pq _ _ _ _ _ (bM [eu l,.val (.int .i64 ((a:Int)-1)),.val (.int .i64 en),.val (.int .i64 be),.val (.int .i64 lk)]).tm _ _;rw[show((a:Int)-1+1).toNat=a by omega,Int.toNat_natCast];have hl:=bB hB;have hE:gY l a en be lk=(if 0<a∧(l[a-1]?.getD it0).2.2.2.2.2.2=true∧(l[en]?.getD it0).2.2.2.2.2.2=true then 3000 else 0)+(if 0<a∧(1<be-lk∨be-lk< -1)then 3000 else 0):=rfl;rw[hE];have hti:0<a→((a:Int)-1).toNat=a-1:=fun h=>by omega
 clear hB hE;by_cases h0:0<a
 ·have hti:=hti h0
  generalize hx:l[a-1]?.getD it0=x at*;generalize hy:l[en]?.getD it0=y at*;obtain⟨x1,x2,x3,x4,x5,x6,x7⟩:=x;obtain⟨y1,y2,y3,y4,y5,y6,y7⟩:=y;dsimp only
  have hd:be-lk=-3∨be-lk=-2∨be-lk=-1∨be-lk=0∨be-lk=1∨be-lk=2∨be-lk=3:=by omega
  have hd2:(if lk-be>be-lk then lk-be else be-lk)>1↔(1<be-lk∨be-lk< -1):=by split<;>omega
  clear hd;cases x7<;>cases y7<;>by_cases hz:1<be-lk∨be-lk< -1<;>
  ·have hz2:=hz
   rw[←hd2]at hz2;clear hd2;((refine wlk6 ?_ ?_ ?_ ?_ ?_ ?_<;>intros<;>try with_reducible exact trivial)<;>(refine fnG ?_;try with_reducible exact trivial));all_goals(simp[h0];try omega)
 ·obtain rfl:a=0:=by omega
  generalize hy:l[en]?.getD it0=y at*;obtain⟨y1,y2,y3,y4,y5,y6,y7⟩:=y;clear hti;rw[if_neg (fun q=>h0 q.1),if_neg (fun q=>h0 q.1)];simp only[Int.natCast_zero,Int.zero_sub];((refine wlk6 ?_ ?_ ?_ ?_ ?_ ?_<;>intros<;>try with_reducible exact trivial)<;>(refine fnG ?_;try with_reducible exact trivial));all_goals simp
def φLi:Fun:=F3 lq dI dI fun l n m=>open Classical in if akG l n m then some (.tup [.lst true 1 ((if dx l (n+1).toNat m.toNat=true then kW l (ay l (n+1).toNat) m.toNat else []).map fun n=> .val (.int .i64 n)),bv (dx l (n+1).toNat m.toNat)])else none
theorem afG {l:List It} {a en:Nat} (h:aT l=true) (h2:a≤en) (h3:en<l.length):φLi [eu l,.val (.int .i64 ((a:Int)-1)),.val (.int .i64 en)]=some (.tup [.lst true 1 ((if dx l a en=true then kW l (ay l a) en else []).map fun n=> .val (.int .i64 n)),.val (.bool (dx l a en))]):=
 (wD (A:=lq) (B:=dI) (C:=dI) l ((a:Int)-1) en).trans ((if_pos ⟨h,by omega,by omega,by omega⟩).trans (by rw[show((a:Int)-1+1).toNat=a by omega,Int.toNat_natCast]))
theorem jK {b:Bool}:(PV.tup [.val (.slice none 0 0),.val (.bool b)]).le (.tup [.lst true 1 [],.val (.bool b)]):=qV ⟨nil_le _ _,PV.le_refl _,trivial⟩
def GLi:Ctx:={fn:=aZ [(71,tL),(73,φMb),(74,φSt),(75,φFc)],io:=aZ []}
theorem aqL:au Try.prog GLi:=okΓ (fC Try.func71 sW (fC Try.func73 ad2 (fC Try.func74 ag8 (fC Try.func75 yI aj)))) aj
def sV:=ah (Γ:=GLi) (f:=71) (φ:=tL) rfl
def rY:=ah (Γ:=GLi) (f:=73) (φ:=φMb) rfl
def tC:=ah (Γ:=GLi) (f:=74) (φ:=φSt) rfl
def sU:=ah (Γ:=GLi) (f:=75) (φ:=φFc) rfl
theorem xR:Sound Try.prog 57 φLi:=by
 refine jM mixed aqL Try.func57 rfl 73 rfl [.tmp 6,.tmp 7] rfl (by kernel_rfl) fun ps r hr=>?_;obtain⟨l,n,m,rfl,hpre,rfl⟩:=uT hr;refine⟨by simp,?_⟩;simp only[dIs,dUs,dSs,bQ,bU,bP,bT,aL,bS,aQ,aO,aR,aP];obtain⟨hB,hn0,hn1,hn2⟩:=hpre;obtain⟨a,rfl⟩:∃a:Nat,n=(a:Int)-1:=⟨(n+1).toNat,by omega⟩;obtain⟨en,rfl⟩:∃en:Nat,m=en:=⟨m.toNat,by omega⟩;have hl:=bB hB;have hae:a≤en:=by omega
 have hel:en<l.length:=by omega
 show pq _ _ _ _ _ (bM [eu l,.val (.int .i64 ((a:Int)-1)),.val (.int .i64 en)]).tm _ _;rw[show((a:Int)-1+1).toNat=a by omega,Int.toNat_natCast];have ap1:=um (l:=l) (by omega);rw[hB]at ap1;have ap2:=afL (n:=en) hB ⟨by omega,by omega⟩;rw[decide_eq_true (show(0:Int)≤en∧(en:Int)<l.length by omega),Bool.true_and,Int.toNat_natCast]at ap2;have ap3:=zT (a:=a) hB (by omega);have hE:dx l a en=(lH l en&&((decide (a=0)||lH l (a-1))&&(decide (ay l a≤en)&&oP l a en))):=by unfold dx;rw[decide_eq_true ⟨hae,hel⟩,Bool.true_and]
 have ap4:0<a→φMb [eu l,.val (.int .i64 ((a:Int)-1))]=some (.val (.bool (lH l (a-1)))):=fun h=>by have:=afL (n:=(a:Int)-1) hB ⟨by omega,by omega⟩;rw[decide_eq_true (show(0:Int)≤(a:Int)-1∧(a:Int)-1<l.length by omega),Bool.true_and,show((a:Int)-1).toNat=a-1 by omega]at this;exact this
 have apf:=@ad6;have hsr:=(@tF l a).1;rw[hE];clear hE hn0 hn1 hn2 hB;by_cases hc:lH l en=true∧(a=0∨lH l (a-1)=true)∧ay l a≤en
 ·obtain⟨c1,c2,c3⟩:=hc
  rw[c1]at ap2;have hE:(lH l en&&((decide (a=0)||lH l (a-1))&&(decide (ay l a≤en)&&oP l a en)))=oP l a en:=by
   rw[c1,decide_eq_true c3];rcases c2 with c2|c2
   ·rw[decide_eq_true c2];simp
   ·rw[c2];simp
  rw[hE];rcases Nat.eq_zero_or_pos a with h9|h9
  ·subst h9
   replace ap4:True:=trivial;simp only[Int.natCast_zero,Int.zero_sub]at ap3⊢;clear hE c1 c2;have hq:=fun k=>qH (l:=l) (a:=0) (b:=k);have hno:=fun k h1 h2 h3=>aac (l:=l) (a:=0) (b:=en) (k:=k) h1 h2 h3;have hz0:oP l 0 0=true:=vB (Nat.le_refl _);have hiy:=fun k=>@mV l (ay l 0) k;have hin:=fun k=>@vw l (ay l 0) k;have hi0:kW l (ay l 0) (ay l 0)=[]:=qb (Nat.le_refl _);have hil:=ny l (ay l 0);generalize ay l 0=s9 at*;have gli_c71:=sV;have gli_c73:=rY;have gli_c74:=tC;have gli_c75:=sU;(refine wlk ?_;intros);refine aD (α:=Nat) mixed (fun k=>[(0,eu l),(1,iv (-1)),(2,iv en),(8,iv k)]) (fun _=>[]) (fun _=>0)
    (fun k=>(0≤k∧k≤en)∧oP l 0 k=true) (fun k=>en-k) (by kernel_rfl) 0 ⟨⟨Nat.le_refl _,hae⟩,hz0⟩ ?_ ?_ rfl ?_
   ·exact agi
   ·exact agr
   rintro k ⟨⟨hk1,hk2⟩,hI⟩;clear hz0;by_cases h0:k<en
   ·have hfr:forced (gI l k)=forced (l[k]?.getD it0):=rfl
    have hs:=hq k hk1;rw[hI,Bool.true_and,hfr]at hs;have hno:=fun h=>hno k h hk1 h0;clear hfr hq hI hiy hin hi0 hil ap4 ap3 ap2;generalize hx:l[k]?.getD it0=x at*;obtain⟨kd,w9,c,d,e,cost,g⟩:=x;cases hf:forced (kd,w9,c,d,e,cost,g)with
    |true=>
     rw[hf]at hs;rw[hno hs];clear hs hno;(refine wlk ?_;intros);all_goals((with_reducible apply dA (by first|exact .inl rfl|exact .inr rfl));(simp(disch:=(first|omega|(simp only[push_cast];first|done|omega))) only[push_cast,↓reduceIte,Nat.reduceEqDiff,Nat.reduceBEq,Nat.reduceAdd,Nat.reduceSub,Int.reduceToNat, *]<;>with_reducible exact rfl))
     all_goals exact jK
    |false=>
     rw[hf]at hs;replace hs:=Lib.hid hs;clear hno;(refine wlk ?_;intros);refine⟨k+1,⟨⟨by omega,by omega⟩,hs.out⟩,by dsimp only;omega,?_,?_,rfl⟩
     ·exact agr
     ·exact agr
   ·obtain rfl:k=en:=by omega
    rw[hI,if_pos rfl];clear hI hq hno ap4;(refine wlk ?_;intros);refine aD (α:=Nat×LI×Nat×Nat) mixed (fun z=>[(0,eu l),(2,iv k),(9,nP 1 (z.2.1.map pvN) z.2.2.1),(10,iv z.1)])
     (fun z=>nO 3 1 (z.2.1.map pvN) z.2.2.1) (fun z=>z.2.2.2)
     (fun z=>(s9≤z.1∧z.1≤k)∧z.2.1=kW l s9 z.1∧(0<z.2.1.length→z.2.2.1<z.2.2.2)) (fun z=>k-z.1) (by kernel_rfl) (s9,[],0,0) ⟨⟨Nat.le_refl _,c3⟩,hi0.symm,by simp⟩ ?_ ?_ rfl ?_
    ·exact agr
    ·exact agr
    rintro⟨j,out,x,y⟩ ⟨⟨hj1,hj2⟩,hI,hxy⟩;dsimp only at hj1 hj2 hI hxy;have hol:out.length≤60:=by rw[hI];have:=hil j;omega
    clear hil hi0 ap3 ap2;by_cases h1:j<k
    ·have hiy:=hiy j hj1
     have hin:=hin j hj1;have hkx:(gI l j).kd=(l[j]?.getD it0).1:=rfl;rw[hkx]at hiy hin;clear hkx;generalize hx:l[j]?.getD it0=z9 at*;obtain⟨kd,w9,c,d,e,cost,g⟩:=z9;dsimp only at hiy hin;by_cases h3:kd=3
     ·have hI2:out=kW l s9 (j+1):=by rw[hin h3,←hI]
      replace hI2:=Lib.hid hI2;clear hI hiy hin;(refine wlk ?_;intros);refine⟨(j+1,out,x,y),⟨⟨by dsimp only;omega,by dsimp only;omega⟩,hI2.out,hxy⟩,by dsimp only;omega,?_,lY,rfl⟩
      ·exact agr
     ·have hI2:out++[(j:Int)]=kW l s9 (j+1):=by rw[hiy h3,←hI]
      replace hI2:=Lib.hid hI2;clear hI hiy hin;by_cases hz:out.length=0
      ·obtain rfl:out=[]:=List.eq_nil_of_length_eq_zero hz
       (refine wlk ?_;intros);refine⟨(j+1,[]++[(j:Int)],y+1,y+2),⟨⟨by dsimp only;omega,by dsimp only;omega⟩,hI2.out,fun _=>by dsimp only;omega⟩,by dsimp only;omega,?_,?_,rfl⟩
       ·exact agr
       ·exact agr
      ·have hxy:=hxy (by omega)
       have hap:0<(out.map pvN).length:=by rw[List.length_map];omega
       clear hz;have hap3:0<((out++[(j:Int)]).map pvN).length:=by simp
       simp only[aF hap,aG hap,List.length_map];(refine wlk ?_;intros);refine⟨(j+1,out++[(j:Int)],y+1,y+2),⟨⟨by dsimp only;omega,by dsimp only;omega⟩,hI2.out,fun _=>by dsimp only;omega⟩,by dsimp only;omega,?_,?_,rfl⟩
       ·simp(disch:=(first|omega|(simp only[push_cast];first|done|omega))) only[push_cast,↓reduceIte,Nat.reduceEqDiff,Nat.reduceBEq,Nat.reduceAdd,Nat.reduceSub,Int.reduceToNat,aF hap3,List.length_append, *]
       ·simp(disch:=(first|omega|(simp only[push_cast];first|done|omega))) only[push_cast,↓reduceIte,Nat.reduceEqDiff,Nat.reduceBEq,Nat.reduceAdd,Nat.reduceSub,Int.reduceToNat,aG hap3, *]
    ·obtain rfl:j=k:=by omega
     rw[←hI];clear hI hiy hin;by_cases hz:out.length=0
     ·obtain rfl:out=[]:=List.eq_nil_of_length_eq_zero hz
      (refine wlk ?_;intros);all_goals((with_reducible apply dA (by first|exact .inl rfl|exact .inr rfl));(simp(disch:=(first|omega|(simp only[push_cast];first|done|omega))) only[push_cast,↓reduceIte,Nat.reduceEqDiff,Nat.reduceBEq,Nat.reduceAdd,Nat.reduceSub,Int.reduceToNat, *]<;>with_reducible exact rfl))
      all_goals exact jK
     ·have hxy:=hxy (by omega)
      have hap:0<(out.map pvN).length:=by rw[List.length_map];omega
      clear hz;simp only[aF hap,aG hap,List.length_map];(refine wlk ?_;intros);all_goals((with_reducible apply dA (by first|exact .inl rfl|exact .inr rfl));(simp(disch:=(first|omega|(simp only[push_cast];first|done|omega))) only[push_cast,↓reduceIte,Nat.reduceEqDiff,Nat.reduceBEq,Nat.reduceAdd,Nat.reduceSub,Int.reduceToNat, *]<;>with_reducible exact rfl))
      all_goals exact PV.le_refl _
  ·replace ap4:φMb [eu l,.val (.int .i64 ((a:Int)-1))]=some (.val (.bool true)):=by
    have:=ap4 h9;rcases c2 with c2|c2
    ·omega
    ·rwa[c2]at this
   clear hE c1 c2;have hq:=fun k=>qH (l:=l) (a:=a) (b:=k);have hno:=fun k h1 h2 h3=>aac (l:=l) (a:=a) (b:=en) (k:=k) h1 h2 h3;have hz0:oP l a a=true:=vB (Nat.le_refl _);have hiy:=fun k=>@mV l (ay l a) k;have hin:=fun k=>@vw l (ay l a) k;have hi0:kW l (ay l a) (ay l a)=[]:=qb (Nat.le_refl _);have hil:=ny l (ay l a);generalize ay l a=s9 at*;have gli_c71:=sV;have gli_c73:=rY;have gli_c74:=tC;have gli_c75:=sU;(refine wlk ?_;intros);refine aD (α:=Nat) mixed (fun k=>[(0,eu l),(1,iv ((a:Int)-1)),(2,iv en),(8,iv k)]) (fun _=>[]) (fun _=>0)
    (fun k=>(a≤k∧k≤en)∧oP l a k=true) (fun k=>en-k) (by kernel_rfl) a ⟨⟨Nat.le_refl _,hae⟩,hz0⟩ ?_ ?_ rfl ?_
   ·exact agi
   ·exact agr
   rintro k ⟨⟨hk1,hk2⟩,hI⟩;clear hz0;by_cases h0:k<en
   ·have hfr:forced (gI l k)=forced (l[k]?.getD it0):=rfl
    have hs:=hq k hk1;rw[hI,Bool.true_and,hfr]at hs;have hno:=fun h=>hno k h hk1 h0;clear hfr hq hI hiy hin hi0 hil ap4 ap3 ap2;generalize hx:l[k]?.getD it0=x at*;obtain⟨kd,w9,c,d,e,cost,g⟩:=x;cases hf:forced (kd,w9,c,d,e,cost,g)with
    |true=>
     rw[hf]at hs;rw[hno hs];clear hs hno;(refine wlk ?_;intros);all_goals((with_reducible apply dA (by first|exact .inl rfl|exact .inr rfl));(simp(disch:=(first|omega|(simp only[push_cast];first|done|omega))) only[push_cast,↓reduceIte,Nat.reduceEqDiff,Nat.reduceBEq,Nat.reduceAdd,Nat.reduceSub,Int.reduceToNat, *]<;>with_reducible exact rfl))
     all_goals exact jK
    |false=>
     rw[hf]at hs;replace hs:=Lib.hid hs;clear hno;(refine wlk ?_;intros);refine⟨k+1,⟨⟨by omega,by omega⟩,hs.out⟩,by dsimp only;omega,?_,?_,rfl⟩
     ·exact agr
     ·exact agr
   ·obtain rfl:k=en:=by omega
    rw[hI,if_pos rfl];clear hI hq hno ap4;(refine wlk ?_;intros);refine aD (α:=Nat×LI×Nat×Nat) mixed (fun z=>[(0,eu l),(2,iv k),(9,nP 1 (z.2.1.map pvN) z.2.2.1),(10,iv z.1)])
     (fun z=>nO 3 1 (z.2.1.map pvN) z.2.2.1) (fun z=>z.2.2.2)
     (fun z=>(s9≤z.1∧z.1≤k)∧z.2.1=kW l s9 z.1∧(0<z.2.1.length→z.2.2.1<z.2.2.2)) (fun z=>k-z.1) (by kernel_rfl) (s9,[],0,0) ⟨⟨Nat.le_refl _,c3⟩,hi0.symm,by simp⟩ ?_ ?_ rfl ?_
    ·exact agr
    ·exact agr
    rintro⟨j,out,x,y⟩ ⟨⟨hj1,hj2⟩,hI,hxy⟩;dsimp only at hj1 hj2 hI hxy;have hol:out.length≤60:=by rw[hI];have:=hil j;omega
    clear hil hi0 ap3 ap2;by_cases h1:j<k
    ·have hiy:=hiy j hj1
     have hin:=hin j hj1;have hkx:(gI l j).kd=(l[j]?.getD it0).1:=rfl;rw[hkx]at hiy hin;clear hkx;generalize hx:l[j]?.getD it0=z9 at*;obtain⟨kd,w9,c,d,e,cost,g⟩:=z9;dsimp only at hiy hin;by_cases h3:kd=3
     ·have hI2:out=kW l s9 (j+1):=by rw[hin h3,←hI]
      replace hI2:=Lib.hid hI2;clear hI hiy hin;(refine wlk ?_;intros);refine⟨(j+1,out,x,y),⟨⟨by dsimp only;omega,by dsimp only;omega⟩,hI2.out,hxy⟩,by dsimp only;omega,?_,lY,rfl⟩
      ·exact agr
     ·have hI2:out++[(j:Int)]=kW l s9 (j+1):=by rw[hiy h3,←hI]
      replace hI2:=Lib.hid hI2;clear hI hiy hin;by_cases hz:out.length=0
      ·obtain rfl:out=[]:=List.eq_nil_of_length_eq_zero hz
       (refine wlk ?_;intros);refine⟨(j+1,[]++[(j:Int)],y+1,y+2),⟨⟨by dsimp only;omega,by dsimp only;omega⟩,hI2.out,fun _=>by dsimp only;omega⟩,by dsimp only;omega,?_,?_,rfl⟩
       ·exact agr
       ·exact agr
      ·have hxy:=hxy (by omega)
       have hap:0<(out.map pvN).length:=by rw[List.length_map];omega
       clear hz;have hap3:0<((out++[(j:Int)]).map pvN).length:=by simp
       simp only[aF hap,aG hap,List.length_map];(refine wlk ?_;intros);refine⟨(j+1,out++[(j:Int)],y+1,y+2),⟨⟨by dsimp only;omega,by dsimp only;omega⟩,hI2.out,fun _=>by dsimp only;omega⟩,by dsimp only;omega,?_,?_,rfl⟩
       ·simp(disch:=(first|omega|(simp only[push_cast];first|done|omega))) only[push_cast,↓reduceIte,Nat.reduceEqDiff,Nat.reduceBEq,Nat.reduceAdd,Nat.reduceSub,Int.reduceToNat,aF hap3,List.length_append, *]
       ·simp(disch:=(first|omega|(simp only[push_cast];first|done|omega))) only[push_cast,↓reduceIte,Nat.reduceEqDiff,Nat.reduceBEq,Nat.reduceAdd,Nat.reduceSub,Int.reduceToNat,aG hap3, *]
    ·obtain rfl:j=k:=by omega
     rw[←hI];clear hI hiy hin;by_cases hz:out.length=0
     ·obtain rfl:out=[]:=List.eq_nil_of_length_eq_zero hz
      (refine wlk ?_;intros);all_goals((with_reducible apply dA (by first|exact .inl rfl|exact .inr rfl));(simp(disch:=(first|omega|(simp only[push_cast];first|done|omega))) only[push_cast,↓reduceIte,Nat.reduceEqDiff,Nat.reduceBEq,Nat.reduceAdd,Nat.reduceSub,Int.reduceToNat, *]<;>with_reducible exact rfl))
      all_goals exact jK
     ·have hxy:=hxy (by omega)
      have hap:0<(out.map pvN).length:=by rw[List.length_map];omega
      clear hz;simp only[aF hap,aG hap,List.length_map];(refine wlk ?_;intros);all_goals((with_reducible apply dA (by first|exact .inl rfl|exact .inr rfl));(simp(disch:=(first|omega|(simp only[push_cast];first|done|omega))) only[push_cast,↓reduceIte,Nat.reduceEqDiff,Nat.reduceBEq,Nat.reduceAdd,Nat.reduceSub,Int.reduceToNat, *]<;>with_reducible exact rfl))
      all_goals exact PV.le_refl _
 ·have hE:(lH l en&&((decide (a=0)||lH l (a-1))&&(decide (ay l a≤en)&&oP l a en)))=false:=by rw[Bool.eq_false_iff];intro q;simp only[Bool.and_eq_true,Bool.or_eq_true,decide_eq_true_eq]at q;exact hc ⟨q.1,q.2.1,q.2.2.1⟩
  rw[hE,if_neg (by decide)];clear hE;generalize ay l a=s9 at*;generalize lH l en=q1 at*;generalize lH l (a-1)=q2 at*;have hq1:q1=false∨(q1=true∧(s9≤en→0<a∧q2=false)):=by
   cases q1 with
   |false=>exact .inl rfl
   |true=>
    refine .inr ⟨rfl,fun hs=>?_⟩;rcases Nat.eq_zero_or_pos a with h|h
    ·exact absurd ⟨rfl,.inl h,hs⟩ hc
    ·refine⟨h,?_⟩
     cases q2 with
     |false=>rfl
     |true=>exact absurd ⟨rfl,.inr rfl,hs⟩ hc
  clear hc;rcases Nat.eq_zero_or_pos a with h9|h9
  ·subst h9
   clear ap4;simp only[Int.natCast_zero,Int.zero_sub]at ap3⊢;have hq2:q1=false∨(q1=true∧¬s9≤en):=hq1.imp id fun h=>⟨h.1,fun hs=>absurd (h.2 hs).1 (by omega)⟩;clear hq1;rcases hq2 with rfl|⟨rfl,hs⟩<;>
   ·have gli_c71:=sV;have gli_c73:=rY;have gli_c74:=tC;have gli_c75:=sU
    (refine wlk ?_;intros);all_goals((with_reducible apply dA (by first|exact .inl rfl|exact .inr rfl));(simp(disch:=(first|omega|(simp only[push_cast];first|done|omega))) only[push_cast,↓reduceIte,Nat.reduceEqDiff,Nat.reduceBEq,Nat.reduceAdd,Nat.reduceSub,Int.reduceToNat, *]<;>with_reducible exact rfl))
    all_goals exact jK
  ·have ap4:=ap4 h9
   rcases hq1 with rfl|⟨rfl,hs⟩
   ·cases q2<;>
    ·have gli_c71:=sV;have gli_c73:=rY;have gli_c74:=tC;have gli_c75:=sU
     (refine wlk ?_;intros);all_goals((with_reducible apply dA (by first|exact .inl rfl|exact .inr rfl));(simp(disch:=(first|omega|(simp only[push_cast];first|done|omega))) only[push_cast,↓reduceIte,Nat.reduceEqDiff,Nat.reduceBEq,Nat.reduceAdd,Nat.reduceSub,Int.reduceToNat, *]<;>with_reducible exact rfl))
     all_goals exact jK
   ·by_cases h8:s9≤en
    ·obtain⟨-,rfl⟩:=hs h8
     clear hs;have gli_c71:=sV;have gli_c73:=rY;have gli_c74:=tC;have gli_c75:=sU;(refine wlk ?_;intros);all_goals((with_reducible apply dA (by first|exact .inl rfl|exact .inr rfl));(simp(disch:=(first|omega|(simp only[push_cast];first|done|omega))) only[push_cast,↓reduceIte,Nat.reduceEqDiff,Nat.reduceBEq,Nat.reduceAdd,Nat.reduceSub,Int.reduceToNat, *]<;>with_reducible exact rfl))
     all_goals exact jK
    ·clear hs
     cases q2<;>
     ·have gli_c71:=sV;have gli_c73:=rY;have gli_c74:=tC;have gli_c75:=sU
      (refine wlk ?_;intros);all_goals((with_reducible apply dA (by first|exact .inl rfl|exact .inr rfl));(simp(disch:=(first|omega|(simp only[push_cast];first|done|omega))) only[push_cast,↓reduceIte,Nat.reduceEqDiff,Nat.reduceBEq,Nat.reduceAdd,Nat.reduceSub,Int.reduceToNat, *]<;>with_reducible exact rfl))
      all_goals exact jK
end
end Go.Proofs.Ytmmafcjjlbgnkaa
