/- What the proof rests on, part 13: contracts of functions. No condition beyond what each states. -/
import Derived.Test.YtmmafcjjlbgnkaaZBkE12
namespace Go.Proofs.Ytmmafcjjlbgnkaa
open Go.RowKit
set_option linter.all false
set_option maxHeartbeats 32000000
noncomputable section
theorem ah8 (o:Int):∀gs:List I4,(∀g∈gs,GOk g)→(0≤(jE gs o).1∧(jE gs o).1≤1000*gs.length)∧(0≤(jE gs o).2.1∧(jE gs o).2.1≤1000*gs.length)∧(0≤(jE gs o).2.2.1∧(jE gs o).2.2.1≤1000*gs.length):=by
 refine gT ?_ ?_
 ·intro _
  exact⟨⟨Int.le_refl _,by simp[jE]⟩,⟨Int.le_refl _,by simp[jE]⟩,Int.le_refl _,by simp[jE]⟩
 ·intro gs g ih hg
  obtain⟨i1,i2,i3⟩:=ih fun x hx=>hg x (List.mem_append.2 (.inl hx));have gk:=hg g (by simp);obtain⟨w,st,sh,od⟩:=g;obtain⟨g1,g2,g3,g4⟩:=gk;dsimp only at g1 g2 g3 g4;rw[eY,List.length_append,List.length_singleton];generalize jE gs o=t at*;obtain⟨tw,ts,th,tod⟩:=t;dsimp only at i1 i2 i3;dsimp only
  push_cast
  refine⟨by omega,?_,by omega⟩;split<;>omega
theorem tq {l:List I4} {k:Nat} (h:k<l.length):l.take (k+1)=l.take k++[l[k]?.getD i40]:=by rw[List.take_succ_eq_append_getElem h,List.getElem?_eq_getElem h];rfl
def akL:Fun:=F1 (dL 4 dI4) fun gs=>open Classical in if(∀g∈gs,GOk g)∧gs.length≤61 then some (pvG (iA gs))else none
theorem abI {gs:List I4} (h:∀g∈gs,GOk g) (h2:gs.length≤61):akL [.lst false 4 (gs.map pvG)]=some (pvG (iA gs)):=(iy (A:=dL 4 dI4) gs).trans (if_pos ⟨h,h2⟩)
open Classical in
set_option maxHeartbeats 16000000 in
theorem adS:Sound Try.prog 99 akL:=by
 refine ak mixed bN Try.func99 rfl 55 rfl [.cell 2 56] rfl (by kernel_rfl) fun ps r hr=>?_;obtain⟨gs,rfl,hpre,rfl⟩:=oM hr;refine⟨by simp,?_⟩;simp only[dIs,dUs,dSs,bQ,bU,bP,bT,aL,bS,aQ,aO,aR,aP];obtain⟨hg,hl⟩:=hpre;show pq _ _ _ _ _ (bM [.lst false 4 (gs.map pvG)]).tm _ _;rw[(akK gs hg).1];have hat:∀k,k<gs.length→GOk (gs[k]?.getD i40):=fun k hk=>by rw[List.getElem?_eq_getElem hk,Option.getD_some];exact hg _ (List.getElem_mem hk)
 have htk:∀k,∀g∈gs.take k,GOk g:=fun k g h=>hg g (List.mem_of_mem_take h);clear hg;(refine wlk ?_;intros);refine aD (α:=Nat) mixed (fun k=>[(0,.lst false 4 (gs.map pvG)),(2,.own 0 4 0 0),(3,.own 1 4 0 0),(8,.lst false 4 (gs.map pvG)),(9,iv gs.length),(10,iv k)])
  (fun k=>[(0,56,4,[pvG g40]),(1,56,4,[pvG (0,0,0,rT (gs.take k))])]) (fun k=>2+k)
  (fun k=>k≤gs.length) (fun k=>gs.length-k) (by kernel_rfl) 0 (Nat.zero_le _) ?_ ?_ rfl ?_
 ·exact agr
 ·simp(disch:=(first|omega|(simp only[push_cast];first|done|omega))) only[push_cast,↓reduceIte,Nat.reduceEqDiff,Nat.reduceBEq,Nat.reduceAdd,Nat.reduceSub,Int.reduceToNat,List.take_zero,rT,List.any_nil,Bool.false_eq_true,if_false,g40, *]
 intro k hk;by_cases h0:k<gs.length
 ·have hs:rT (gs.take (k+1))=if rT (gs.take k)=1∨((gs[k]?.getD i40).2.2.2=1∧0<(gs[k]?.getD i40).2.1)then 1 else 0:=by rw[tq h0,xI]
  have ho:=af9 (gs.take k);obtain⟨g1,g2,g3,g4⟩:=hat k h0;clear hat htk;generalize hx:gs[k]?.getD i40=x at*;obtain⟨w,st,sh,od⟩:=x;dsimp only at hs g1 g2 g3 g4;by_cases hc:od=1∧0<st
  ·rw[if_pos (.inr hc)]at hs
   replace hs:=Lib.hid hs;generalize rT (gs.take k)=o at*;obtain⟨rfl,hc2⟩:=hc;clear g4 ho;(refine wlk ?_;intros);refine⟨k+1,by omega,by dsimp only;omega,?_,?_,?_⟩
   ·exact agr
   ·dsimp only
    rw[hs.out];exact agr
   ·first|rfl|(dsimp only;omega)
  ·have hs2:rT (gs.take (k+1))=rT (gs.take k):=by
    rw[hs];rcases ho with h|h
    ·rw[h,if_neg (by omega)]
    ·rw[h,if_pos (.inl rfl)]
   replace hs2:=Lib.hid hs2;clear hs;generalize rT (gs.take k)=o at*;by_cases hd:od=1
   ·subst hd
    have hst:¬0<st:=fun h=>hc ⟨rfl,h⟩;clear hc g4 ho;(refine wlk ?_;intros);refine⟨k+1,by omega,by dsimp only;omega,?_,?_,?_⟩
    ·exact agr
    ·dsimp only
     rw[hs2.out];exact agr
    ·first|rfl|(dsimp only;omega)
   ·clear hc g4 ho
    (refine wlk ?_;intros);refine⟨k+1,by omega,by dsimp only;omega,?_,?_,?_⟩
    ·exact agr
    ·dsimp only
     rw[hs2.out];exact agr
    ·first|rfl|(dsimp only;omega)
 ·obtain rfl:k=gs.length:=by omega
  rw[List.take_of_length_le (Nat.le_refl _)];generalize rT gs=o at*;(refine wlk ?_;intros);refine aD (α:=Nat) mixed (fun k=>[(2,.own 0 4 0 0),(3,.own 1 4 0 0),(24,.lst false 4 (gs.map pvG)),(25,iv gs.length),(26,iv k)])
   (fun k=>[(0,56,4,[pvG g40]),(1,56,4,[pvG (jE (gs.take k) o)])]) (fun k=>2+gs.length+k)
   (fun k=>k≤gs.length) (fun k=>gs.length-k) (by kernel_rfl) 0 (Nat.zero_le _) ?_ ?_ ?_ ?_
  ·exact agr
  ·simp(disch:=(first|omega|(simp only[push_cast];first|done|omega))) only[push_cast,↓reduceIte,Nat.reduceEqDiff,Nat.reduceBEq,Nat.reduceAdd,Nat.reduceSub,Int.reduceToNat,List.take_zero,jE,List.foldl_nil,g40, *]
  ·first|rfl|(dsimp only;omega)
  intro k hk;have hod:=afW (gs.take k) o;obtain⟨r1,r2,r3⟩:=ah8 o (gs.take k) (htk k);have hkl:(gs.take k).length=k:=by rw[List.length_take];omega
  rw[hkl]at r1 r2 r3;by_cases h0:k<gs.length
  ·have hs:jE (gs.take (k+1)) o=((jE (gs.take k) o).1+(gs[k]?.getD i40).1,(if(gs[k]?.getD i40).2.2.2=o then(jE (gs.take k) o).2.1+(gs[k]?.getD i40).2.1 else(jE (gs.take k) o).2.1),(jE (gs.take k) o).2.2.1+(gs[k]?.getD i40).2.2.1,o):=by rw[tq h0,eY]
   obtain⟨g1,g2,g3,g4⟩:=hat k h0;clear hat htk hkl;generalize hx:gs[k]?.getD i40=x at*;generalize ht:jE (gs.take k) o=t at*;obtain⟨w,st,sh,od⟩:=x;obtain⟨tw,ts,th,tod⟩:=t;dsimp only at hs g1 g2 g3 g4 r1 r2 r3 hod;subst hod;by_cases hd:od=tod
   ·rw[if_pos hd]at hs
    replace hs:=Lib.hid hs;subst hd;(refine wlk ?_;intros);refine⟨k+1,by omega,by dsimp only;omega,?_,?_,?_⟩
    ·exact agr
    ·dsimp only
     rw[hs.out];exact agr
    ·first|rfl|(dsimp only;omega)
   ·rw[if_neg hd]at hs
    replace hs:=Lib.hid hs;(refine wlk ?_;intros);refine⟨k+1,by omega,by dsimp only;omega,?_,?_,?_⟩
    ·exact agr
    ·dsimp only
     rw[hs.out];exact agr
    ·first|rfl|(dsimp only;omega)
  ·obtain rfl:k=gs.length:=by omega
   rw[List.take_of_length_le (Nat.le_refl _)]at*;clear hat htk hkl;generalize jE gs o=t at*;obtain⟨tw,ts,th,tod⟩:=t;exact wlkF
def auh:Ctx:={fn:=aZ [(57,φLi)],io:=aZ []}
theorem akI:au Try.prog auh:=okΓ (fC Try.func57 xR aj) aj
def alM:=ah (Γ:=auh) (f:=57) (φ:=φLi) rfl
def afQ:Fun:=F3 lq dI dI fun l n m=>open Classical in if akG l n m then some (.lst true 1 ((if dx l (n+1).toNat m.toNat=true then kW l (ay l (n+1).toNat) m.toNat else []).map fun n=> .val (.int .i64 n)))else none
theorem ab6 {l:List It} {a en:Nat} (h:aT l=true) (h2:a≤en) (h3:en<l.length):afQ [eu l,.val (.int .i64 ((a:Int)-1)),.val (.int .i64 en)]=some (.lst true 1 ((if dx l a en=true then kW l (ay l a) en else []).map fun n=> .val (.int .i64 n))):=
 (wD (A:=lq) (B:=dI) (C:=dI) l ((a:Int)-1) en).trans ((if_pos ⟨h,by omega,by omega,by omega⟩).trans (by rw[show((a:Int)-1+1).toNat=a by omega,Int.toNat_natCast]))
theorem ady:Sound Try.prog 39 afQ:=by refine ak mixed akI Try.func39 rfl 17 rfl [.tmp 6] rfl (by kernel_rfl) fun ps r hr=>?_;obtain⟨l,n,m,rfl,hpre,rfl⟩:=uT hr;refine⟨by simp,?_⟩;simp only[dIs,dUs,dSs,bQ,bU,bP,bT,aL,bS,aQ,aO,aR,aP];obtain⟨hB,hn0,hn1,hn2⟩:=hpre;obtain⟨a,rfl⟩:∃a:Nat,n=(a:Int)-1:=⟨(n+1).toNat,by omega⟩;obtain⟨en,rfl⟩:∃en:Nat,m=en:=⟨m.toNat,by omega⟩;show pq _ _ _ _ _ (bM [eu l,.val (.int .i64 ((a:Int)-1)),.val (.int .i64 en)]).tm _ _;rw[show((a:Int)-1+1).toNat=a by omega,Int.toNat_natCast];have ap:=afG hB (show a≤en by omega) (by omega);generalize(if dx l a en=true then kW l (ay l a) en else [])=q at*;generalize dx l a en=b at*;have gli2_c57:=alM;exact wlkF
def φLa:Fun:=F3 lq dI dI fun l wd most=>if acS l then some (bv (aT l&&(decide (0<l.length)&&(inB wd 0 1000&&inB most 0 10000))))else none
theorem akY {l:List It} {wd most:Int} (h:acS l):φLa [eu l,.val (.int .i64 wd),.val (.int .i64 most)]=some (.val (.bool (aT l&&(decide (0<l.length)&&(inB wd 0 1000&&inB most 0 10000))))):=(wD (A:=lq) (B:=dI) (C:=dI) l wd most).trans (if_pos h)
def GLa:Ctx:={fn:=aZ [(71,tL),(35,φIn),(36,nA)],io:=aZ []}
theorem arw:au Try.prog GLa:=okΓ (fC Try.func71 sW (fC Try.func35 vY (fC Try.func36 mE aj))) aj
def an7:=ah (Γ:=GLa) (f:=71) (φ:=tL) rfl
def arf:=ah (Γ:=GLa) (f:=35) (φ:=φIn) rfl
def arv:=ah (Γ:=GLa) (f:=36) (φ:=nA) rfl
theorem ad9:Sound Try.prog 55 φLa:=by refine ak mixed arw Try.func55 rfl 22 rfl [.tmp 6] rfl (by kernel_rfl) fun ps r hr=>?_;obtain⟨l,wd,most,rfl,hpre,rfl⟩:=uT hr;refine⟨by simp,?_⟩;simp only[dIs,dUs,dSs,bQ,bU,bP,bT,aL,bS,aQ,aO,aR,aP];have hl:l.length≤1000:=hpre;show pq _ _ _ _ _ (bM [eu l,.val (.int .i64 wd),.val (.int .i64 most)]).tm _ _;have ap1:=um hpre;have ap2:=bO;have ap3:=ku;clear hpre;generalize aT l=b1 at*;have gla_c71:=an7;have gla_c35:=arf;have gla_c36:=arv;((refine wlk6 ?_ ?_ ?_ ?_ ?_ ?_<;>intros<;>try with_reducible exact trivial)<;>(refine fnG ?_;try with_reducible exact trivial));all_goals((refine congrArg (fun z=>some (PV.val (Value.bool z))) ?_);first|(simp_all;done)|(simp_all;omega))
def aa1:Fun:=anE 4 akL
theorem yQ {gs:List I4} (h:∀g∈gs,GOk g) (h2:gs.length≤61):aa1 [.lst false 4 (gs.map pvG)]=some (pvG (iA gs)):=abI h h2
theorem ac3:aa1 [.val (.slice none 0 0)]=some (pvG (iA [])):=abI (gs:=[]) (by simp) (by simp)
def lgR (l:List It) (a en:Nat):I4:=if dx l a en=true then iA (abx l a en)else(0,0,0,0)
def φLg:Fun:=F3 lq dI dI fun l n m=>open Classical in if akG l n m then some (.tup [pvG (lgR l (n+1).toNat m.toNat),bv (dx l (n+1).toNat m.toNat)])else none
theorem amF {l:List It} {a en:Nat} (h:aT l=true) (h2:a≤en) (h3:en<l.length):φLg [eu l,.val (.int .i64 ((a:Int)-1)),.val (.int .i64 en)]=some (.tup [pvG (lgR l a en),.val (.bool (dx l a en))]):=
 (wD (A:=lq) (B:=dI) (C:=dI) l ((a:Int)-1) en).trans ((if_pos ⟨h,by omega,by omega,by omega⟩).trans (by rw[show((a:Int)-1+1).toNat=a by omega,Int.toNat_natCast]))
theorem adF {l:List Int} {k:Nat} (h:k<l.length):l.take (k+1)=l.take k++[l[k]?.getD 0]:=by rw[List.take_succ_eq_append_getElem h,List.getElem?_eq_getElem h];rfl
def GLg:Ctx:={fn:=aZ [(57,φLi),(99,aa1)],io:=aZ []}
theorem aqi:au Try.prog GLg:=okΓ (fC Try.func57 xR (fC Try.func99 (adS.nil 4) aj)) aj
def ajM:=ah (Γ:=GLg) (f:=57) (φ:=φLi) rfl
def ajO:=ah (Γ:=GLg) (f:=99) (φ:=aa1) rfl
theorem afm:Sound Try.prog 95 φLg:=by
 refine ak mixed aqi Try.func95 rfl 54 rfl [.cell 6 56,.tmp 7] rfl (by kernel_rfl) fun ps r hr=>?_;obtain⟨l,n,m,rfl,hpre,rfl⟩:=uT hr;refine⟨by simp,?_⟩;simp only[dIs,dUs,dSs,bQ,bU,bP,bT,aL,bS,aQ,aO,aR,aP];obtain⟨hB,hn0,hn1,hn2⟩:=hpre;obtain⟨a,rfl⟩:∃a:Nat,n=(a:Int)-1:=⟨(n+1).toNat,by omega⟩;obtain⟨en,rfl⟩:∃en:Nat,m=en:=⟨m.toNat,by omega⟩;have hl:=bB hB;have hae:a≤en:=by omega
 have hel:en<l.length:=by omega
 show pq _ _ _ _ _ (bM [eu l,.val (.int .i64 ((a:Int)-1)),.val (.int .i64 en)]).tm _ _;rw[show((a:Int)-1+1).toNat=a by omega,Int.toNat_natCast];have ap:=afG hB hae hel;unfold lgR;clear hn0 hn1 hn2;cases hq:dx l a en with
 |false=>rw[hq,if_neg (by decide)]at ap;rw[if_neg (by decide)];clear hq hB;have glg_c57:=ajM;have glg_c99:=ajO;exact wlkF
 |true=>
  rw[hq,if_pos rfl]at ap;rw[if_pos rfl];have hst:ay l a≤en:=(eD.1 hq).2.2.2.1;have hG:abx l a en=nL l (ay l a) en++(if(gI l en).kd=3 then [(gI l en).gl]else []):=rfl;have hgo:=zu (b:=ay l a) hB (show en≤l.length by omega);have hgl:=uK l (ay l a) en;have hio:=(eX hB hel).gl;have him:=@pF l (ay l a) en;have h0l:nL l (ay l a) en=(kW l (ay l a) en).map fun n:Int=>(gI l n.toNat).gl:=rfl;rw[hG];clear hG hq hB;rw[h0l]at hgo hgl⊢;rw[List.length_map]at hgl;generalize kW l (ay l a) en=L at*;clear h0l;have hLl:L.length≤60:=by omega
  have hLk:∀k,k<L.length→0≤L[k]?.getD 0∧L[k]?.getD 0<en:=fun k hk=>by rw[List.getElem?_eq_getElem hk,Option.getD_some];have:=him _ (List.getElem_mem hk);omega
  clear him;have glg_c57:=ajM;have glg_c99:=ajO;(refine wlk ?_;intros);refine aD (α:=Nat×Nat×Nat) mixed (fun z=>[(0,eu l),(2,iv en),(6,.own 0 4 0 0),(10,nP 4 (((L.take z.1).map fun n:Int=>(gI l n.toNat).gl).map pvG) z.2.1),(23,.lst true 1 (L.map pvN)),(24,iv L.length),(25,iv z.1)])
   (fun z=>(0,56,4,[pvG g40])::nO 56 4 (((L.take z.1).map fun n:Int=>(gI l n.toNat).gl).map pvG) z.2.1) (fun z=>z.2.2)
   (fun z=>z.1≤L.length∧0<z.2.2∧(0<z.1→0<z.2.1∧z.2.1<z.2.2)) (fun z=>L.length-z.1) (by kernel_rfl) (0,0,1) ⟨Nat.zero_le _,by simp,by simp⟩ ?_ ?_ rfl ?_
  ·simp(disch:=(first|omega|(simp only[push_cast];first|done|omega))) only[push_cast,↓reduceIte,Nat.reduceEqDiff,Nat.reduceBEq,Nat.reduceAdd,Nat.reduceSub,Int.reduceToNat,List.take_zero,List.map_nil, *]
  ·simp(disch:=(first|omega|(simp only[push_cast];first|done|omega))) only[push_cast,↓reduceIte,Nat.reduceEqDiff,Nat.reduceBEq,Nat.reduceAdd,Nat.reduceSub,Int.reduceToNat,List.take_zero,List.map_nil,g40, *]
  rintro⟨k,x,y⟩ ⟨hk,hy,hxy⟩;dsimp only at hk hy hxy;have hGl:((L.take k).map fun n:Int=>(gI l n.toNat).gl).length=k:=by rw[List.length_map,List.length_take];omega
  by_cases h0:k<L.length
  ·obtain⟨q1,q2⟩:=hLk k h0
   have hn:(L.take (k+1)).map (fun n:Int=>(gI l n.toNat).gl)=(L.take k).map (fun n:Int=>(gI l n.toNat).gl)++[(l[(L[k]?.getD 0).toNat]?.getD it0).gl]:=by rw[adF h0,List.map_append];rfl
   have hGb:k≤60:=by omega
   clear hLk hgo hgl hio;generalize hx9:l[(L[k]?.getD 0).toNat]?.getD it0=it at*;obtain⟨kd,w9,c,d,e,cost,g⟩:=it;generalize hG9:(L.take k).map (fun n:Int=>(gI l n.toNat).gl)=G at*;replace hn:(L.take (k+1)).map (fun n:Int=>(gI l n.toNat).gl)=G++[(w9,c,d,e)]:=hn;replace hn:=Lib.hid hn;by_cases hz:G.length=0
   ·obtain rfl:G=[]:=List.eq_nil_of_length_eq_zero hz
    clear hGl hz hG9 hxy;(refine wlk ?_;intros);refine⟨(k+1,y+1,y+2),⟨by dsimp only;omega,by dsimp only;omega,fun _=>by dsimp only;omega⟩,by dsimp only;omega,?_,?_,rfl⟩
    ·dsimp only
     rw[hn.out];exact agr
    ·dsimp only
     rw[hn.out];exact agr
   ·obtain⟨hx0,hxy⟩:=hxy (by omega)
    have hap:0<(G.map pvG).length:=by rw[List.length_map];omega
    have hGc:G.length≤60:=by omega
    clear hz hG9 hGl;have hap3:0<((G++[(w9,c,d,e)]).map pvG).length:=by simp
    simp only[aF hap,aG hap,List.length_map];(refine wlk ?_;intros);refine⟨(k+1,y+1,y+2),⟨by dsimp only;omega,by dsimp only;omega,fun _=>by dsimp only;omega⟩,by dsimp only;omega,?_,?_,rfl⟩
    ·dsimp only
     rw[hn.out];simp(disch:=(first|omega|(simp only[push_cast];first|done|omega))) only[push_cast,↓reduceIte,Nat.reduceEqDiff,Nat.reduceBEq,Nat.reduceAdd,Nat.reduceSub,Int.reduceToNat,aF hap3,List.length_append, *]
    ·dsimp only
     rw[hn.out];simp(disch:=(first|omega|(simp only[push_cast];first|done|omega))) only[push_cast,↓reduceIte,Nat.reduceEqDiff,Nat.reduceBEq,Nat.reduceAdd,Nat.reduceSub,Int.reduceToNat,aG hap3, *]
  ·obtain rfl:k=L.length:=by omega
   rw[List.take_of_length_le (Nat.le_refl _)]at*;have hkx:gI l en=l[en]?.getD it0:=rfl;rw[hkx];clear hkx hLk;have hGL:(L.map fun n:Int=>(gI l n.toNat).gl).length=L.length:=List.length_map _;generalize hx9:l[en]?.getD it0=it at*;obtain⟨kd,w9,c,d,e,cost,g⟩:=it;replace hio:GOk (w9,c,d,e):=hio;generalize(L.map fun n:Int=>(gI l n.toNat).gl)=G at*;have apn:=ac3;have apt:=yQ (gs:=G) hgo (by omega);have apu:=yQ (gs:=G++[(w9,c,d,e)]) (fun z hz=>by
    rcases List.mem_append.1 hz with hz|hz
    ·exact hgo z hz
    ·rw[List.mem_singleton.1 hz];exact hio) (by rw[List.length_append,List.length_singleton];omega)
   by_cases h3:kd=3
   ·rw[if_pos (show It.kd (kd,w9,c,d,e,cost,g)=3 from h3)]
    have hz9:It.gl (kd,w9,c,d,e,cost,g)=(w9,c,d,e):=rfl;rw[hz9];clear hz9 apn apt hgo hio;subst h3;by_cases hz:G.length=0
    ·obtain rfl:G=[]:=List.eq_nil_of_length_eq_zero hz
     rw[List.nil_append]at*;generalize iA [(w9,c,d,e)]=t at*;obtain⟨t1,t2,t3,t4⟩:=t;clear hGl hGL hz hxy;simp only[List.map_cons,List.map_nil]at apu;exact wlkF
    ·obtain⟨hx0,hxy⟩:=hxy (by omega)
     have hap:0<(G.map pvG).length:=by rw[List.length_map];omega
     generalize iA (G++[(w9,c,d,e)])=t at*;obtain⟨t1,t2,t3,t4⟩:=t;have hGc:G.length≤60:=by omega
     clear hz hGl hGL;simp only[aF hap,aG hap,List.length_map];exact wlkF
   ·rw[if_neg (show¬It.kd (kd,w9,c,d,e,cost,g)=3 from h3),List.append_nil]
    clear apu hgo hio;by_cases hz:G.length=0
    ·obtain rfl:G=[]:=List.eq_nil_of_length_eq_zero hz
     generalize iA []=t at*;obtain⟨t1,t2,t3,t4⟩:=t;clear hGl hGL hz hxy apt;exact wlkF
    ·obtain⟨hx0,hxy⟩:=hxy (by omega)
     have hap:0<(G.map pvG).length:=by rw[List.length_map];omega
     generalize iA G=t at*;obtain⟨t1,t2,t3,t4⟩:=t;clear hz hGl hGL apn;simp only[aF hap,aG hap,List.length_map];exact wlkF
def φLb:Fun:=F4 lq dI dI dI fun l n m wd=>open Classical in if akG l n m∧0≤wd∧wd≤1000 then some (.tup [iv (if dx l (n+1).toNat m.toNat=true then(gJ l wd (n+1).toNat m.toNat).1 else-1),bv (dx l (n+1).toNat m.toNat&&(gJ l wd (n+1).toNat m.toNat).2)])else none
theorem alb {l:List It} {a en:Nat} {wd:Int} (h:aT l=true) (h2:a≤en) (h3:en<l.length) (h4:0≤wd∧wd≤1000):φLb [eu l,.val (.int .i64 ((a:Int)-1)),.val (.int .i64 en),.val (.int .i64 wd)]=some (.tup [.val (.int .i64 (if dx l a en=true then(gJ l wd a en).1 else-1)),.val (.bool (dx l a en&&(gJ l wd a en).2))]):=
 (apD (A:=lq) (B:=dI) (C:=dI) (D:=dI) l ((a:Int)-1) en wd).trans (by rw[show((a:Int)-1+1).toNat=a by omega,Int.toNat_natCast];exact if_pos ⟨⟨h,by omega,by omega,by omega⟩,h4⟩)
def GLb:Ctx:={fn:=aZ [(95,φLg),(35,φIn),(96,rF)],io:=aZ []}
theorem aoI:au Try.prog GLb:=okΓ (fC Try.func95 afm (fC Try.func35 vY (fC Try.func96 aaj aj))) aj
def yH:=ah (Γ:=GLb) (f:=95) (φ:=φLg) rfl
def xZ:=ah (Γ:=GLb) (f:=35) (φ:=φIn) rfl
def wz:=ah (Γ:=GLb) (f:=96) (φ:=rF) rfl
theorem afO:Sound Try.prog 87 φLb:=by
 refine ak mixed aoI Try.func87 rfl 63 rfl [.tmp 8,.tmp 9] rfl (by kernel_rfl) fun ps r hr=>?_;obtain⟨l,n,m,wd,rfl,hpre,rfl⟩:=apP hr;refine⟨by simp,?_⟩;simp only[dIs,dUs,dSs,bQ,bU,bP,bT,aL,bS,aQ,aO,aR,aP];obtain⟨⟨hB,hn0,hn1,hn2⟩,hw⟩:=hpre;obtain⟨a,rfl⟩:∃a:Nat,n=(a:Int)-1:=⟨(n+1).toNat,by omega⟩;obtain⟨en,rfl⟩:∃en:Nat,m=en:=⟨m.toNat,by omega⟩;show pq _ _ _ _ _ (bM [eu l,.val (.int .i64 ((a:Int)-1)),.val (.int .i64 en),.val (.int .i64 wd)]).tm _ _;rw[show((a:Int)-1+1).toNat=a by omega,Int.toNat_natCast];have ap1:=amF hB (show a≤en by omega) (show en<l.length by omega);have api:φIn [.val (.int .i64 wd),.val (.int .i64 0),.val (.int .i64 1000)]=some (.val (.bool true)):=(bO _ _ _).trans (by rw[aB.2 hw]);obtain⟨g1,g2⟩:=wo (b:=ay l a) hB (show en<l.length by omega);obtain⟨⟨o1,o2,o3,o4⟩,t1,t2,t3⟩:=aeB g1 g2;have hE:gJ l wd a en=arL (iA (jP l (ay l a) en)) wd:=rfl;have hE2:abx l a en=jP l (ay l a) en:=rfl;unfold lgR at ap1;rw[hE];rw[hE2]at ap1;have hl:=bB hB;clear hB g1 g2 hE hE2;cases hq:dx l a en with
 |false=>rw[hq,if_neg (by decide)]at ap1;rw[if_neg (by decide),Bool.false_and];clear hq o1 o2 o3 o4 t1 t2 t3;have glb_c95:=yH;have glb_c35:=xZ;have glb_c96:=wz;exact wlkF
 |true=>
  rw[hq,if_pos rfl]at ap1;rw[if_pos rfl,Bool.true_and];clear hq;generalize iA (jP l (ay l a) en)=t at*;obtain⟨tw,ts,th,tod⟩:=t;dsimp only at o1 o2 o3 o4 t1 t2 t3;have hG:arL (tw,ts,th,tod) wd=if tw≤wd then(if tod=1 then(0,true)else(zf (wd-tw) ts,true))else if tw-wd≤th then(zf (tw-wd) th,false)else(-1,false):=rfl;rw[hG];by_cases h1:tw≤wd
  ·have ap3:=mU (need:=wd-tw) (room:=ts) ⟨⟨by omega,by omega⟩,by omega,by omega⟩
   rw[if_pos h1];by_cases h2:tod=1
   ·rw[if_pos h2]
    subst h2;have glb_c95:=yH;have glb_c35:=xZ;have glb_c96:=wz;exact wlkF
   ·rw[if_neg h2]
    generalize zf (wd-tw) ts=bd at*;have glb_c95:=yH;have glb_c35:=xZ;have glb_c96:=wz;exact wlkF
  ·rw[if_neg h1]
   by_cases h2:tw-wd≤th
   ·have ap3:=mU (need:=tw-wd) (room:=th) ⟨⟨by omega,by omega⟩,by omega,by omega⟩
    rw[if_pos h2];generalize zf (tw-wd) th=bd at*;have glb_c95:=yH;have glb_c35:=xZ;have glb_c96:=wz;exact wlkF
   ·rw[if_neg h2]
    have glb_c95:=yH;have glb_c35:=xZ;have glb_c96:=wz;exact wlkF
abbrev LE:=Int×Bool×Int
abbrev dLe:Dec LE:=dA3 dI dB dI
abbrev aoE (x:LE):PV:=.agg [.val (.int .i64 x.1),.val (.bool x.2.1),.val (.int .i64 x.2.2)]
def lcR (l:List It) (wd most:Int) (a en:Nat) (lk:Int):Int×LE:=match gP l wd most a en with
 |none=>(-1,(0,false,0))
 |some x=>(x.1+gY l a en lk x.2,((en:Int),(l[en]?.getD it0).2.2.2.2.2.2,x.2))
abbrev asa (l:List It) (wd most:Int) (e:LE) (m:Int):Prop:=akG l e.1 m∧(0≤wd∧wd≤1000)∧(0≤most∧most≤10000)∧(0≤e.2.2∧e.2.2≤3)∧(0≤e.1→e.2.1=(l[e.1.toNat]?.getD it0).2.2.2.2.2.2)
def φLc:Fun:=F5 lq dI dI dLe dI fun l wd most e m=>open Classical in if asa l wd most e m then some (.tup [iv (lcR l wd most (e.1+1).toNat m.toNat e.2.2).1,aoE (lcR l wd most (e.1+1).toNat m.toNat e.2.2).2])else none
theorem alv {l:List It} {wd most:Int} {a en:Nat} {mk:Bool} {lk:Int} (h:asa l wd most ((a:Int)-1,mk,lk) en):φLc [eu l,.val (.int .i64 wd),.val (.int .i64 most),aoE ((a:Int)-1,mk,lk),.val (.int .i64 en)]=some (.tup [.val (.int .i64 (lcR l wd most a en lk).1),aoE (lcR l wd most a en lk).2]):=
 (aoQ (A:=lq) (B:=dI) (C:=dI) (D:=dLe) (E:=dI) l wd most ((a:Int)-1,mk,lk) en).trans ((if_pos h).trans (by rw[show(((a:Int)-1,mk,lk).1+1).toNat=a by dsimp only;omega,Int.toNat_natCast]))
def GLc:Ctx:={fn:=aZ [(87,φLb),(88,φLk),(89,φCo)],io:=aZ []}
theorem apC:au Try.prog GLc:=okΓ (fC Try.func87 afO (fC Try.func88 ae4 (fC Try.func89 agc aj))) aj
def xq:=ah (Γ:=GLc) (f:=87) (φ:=φLb) rfl
def xG:=ah (Γ:=GLc) (f:=88) (φ:=φLk) rfl
def xw:=ah (Γ:=GLc) (f:=89) (φ:=φCo) rfl
theorem aeR:Sound Try.prog 72 φLc:=by
 refine ak mixed apC Try.func72 rfl 77 rfl [.tmp 10,.cell 11 86] rfl (by kernel_rfl) fun ps r hr=>?_;obtain⟨l,wd,most,⟨n,mk,lk⟩,m,rfl,hq⟩:=aeK hr;clear hr;split at hq
 case isFalse=>cases hq
 case isTrue hpre=>
 cases hq;refine⟨by simp,?_⟩;simp only[dIs,dUs,dSs,bQ,bU,bP,bT,aL,bS,aQ,aO,aR,aP];obtain⟨⟨hB,hn0,hn1,hn2⟩,hw,hm,hlk,hmk⟩:=hpre;(try dsimp only at hn0 hn1 hn2 hlk hmk);obtain⟨a,rfl⟩:∃a:Nat,n=(a:Int)-1:=⟨(n+1).toNat,by omega⟩;obtain⟨en,rfl⟩:∃en:Nat,m=en:=⟨m.toNat,by omega⟩;show pq _ _ _ _ _ (bM [eu l,.val (.int .i64 wd),.val (.int .i64 most),aoE ((a:Int)-1,mk,lk),.val (.int .i64 en)]).tm _ _;(try dsimp only);rw[show((a:Int)-1+1).toNat=a by omega,Int.toNat_natCast];have hl:=bB hB;have hel:en<l.length:=by omega
 have ap1:=alb hB (show a≤en by omega) hel hw;have hcst:afb (l[en]?.getD it0).2.2.2.2.2.1:=(eX hB hel).cost;have hlr:gP l wd most a en=if dx l a en=true∧0≤(gJ l wd a en).1∧(gJ l wd a en).1≤most then some (jU (gJ l wd a en).1 (l[en]?.getD it0).2.2.2.2.2.1,eP (gJ l wd a en).2 (gJ l wd a en).1)else none:=rfl;have hbw:∀k,gY l a en lk k=(if 0<a∧(l[a-1]?.getD it0).2.2.2.2.2.2=true∧(l[en]?.getD it0).2.2.2.2.2.2=true then 3000 else 0)+(if 0<a∧(1<lk-k∨lk-k< -1)then 3000 else 0):=fun k=>rfl;have hmk2:0<a→(l[a-1]?.getD it0).2.2.2.2.2.2=mk:=fun h=>by have:=hmk (by omega);rw[show((a:Int)-1).toNat=a-1 by omega]at this;exact this.symm
 unfold lcR;rw[hlr];clear hlr hmk hn0 hn1 hn2 hB;generalize gJ l wd a en=B at*;obtain⟨bad,st⟩:=B;(try dsimp only at ap1⊢);by_cases hL:dx l a en=true∧0≤bad∧bad≤most
 ·rw[if_pos hL]
  (try dsimp only);obtain⟨h1,h2,h3⟩:=hL;rw[h1,if_pos rfl,Bool.true_and]at ap1;have ap2:=vG (s:=st) (bad:=bad) ⟨h2,by omega⟩;have ap3:=aat (bad:=bad) ⟨h2,by omega⟩ hcst;have hkr:=kD st bad;have hcr:=l8 (bad:=bad) ⟨h2,by omega⟩ hcst;rw[hbw];clear hbw h1 hcst;by_cases h0:0<a
  ·rw[hmk2 h0]
   clear hmk2;generalize hy:l[en]?.getD it0=y at*;obtain⟨y1,y2,y3,y4,y5,y6,y7⟩:=y;(try dsimp only at ap3 hcr⊢);generalize jU bad y6=co at*;generalize eP st bad=k at*;cases mk<;>cases y7<;>by_cases hz:1<lk-k∨lk-k< -1<;>
   ·first
     |rw[if_pos (show 0<a∧(1<lk-k∨lk-k< -1)from⟨h0,hz⟩)]
     |rw[if_neg (show¬(0<a∧(1<lk-k∨lk-k< -1))from fun q=>hz q.2)]
    have glc_c87:=xq;have glc_c88:=xG;have glc_c89:=xw;(refine wlk ?_;intros);refine nI 10 (by simp only[List.map_cons,List.map_nil]<;>exact rfl) (by simp only[List.take_succ_cons,List.take_zero]<;>exact rfl) (by simp only[List.drop_succ_cons,List.drop_zero]<;>exact rfl) ac7 (by decide+kernel) (by decide+kernel) ?_;(refine wlk ?_;intros);refine arI (by(simp(disch:=(first|omega|(simp only[push_cast];first|done|omega))) only[push_cast,↓reduceIte,Nat.reduceEqDiff,Nat.reduceBEq,Nat.reduceAdd,Nat.reduceSub,Int.reduceToNat, *]<;>with_reducible exact rfl)) ?_;((refine wlk6 ?_ ?_ ?_ ?_ ?_ ?_<;>intros<;>try with_reducible exact trivial)<;>(refine fnG ?_;try with_reducible exact trivial));all_goals(simp[h0];try omega)
  ·obtain rfl:a=0:=by omega
   rw[if_neg (fun q=>h0 q.1),if_neg (fun q=>h0 q.1)];clear hmk2;generalize hy:l[en]?.getD it0=y at*;obtain⟨y1,y2,y3,y4,y5,y6,y7⟩:=y;(try dsimp only at ap3 hcr⊢);generalize jU bad y6=co at*;generalize eP st bad=k at*;simp only[Int.natCast_zero,Int.zero_sub]at ap1⊢;have glc_c87:=xq;have glc_c88:=xG;have glc_c89:=xw;(refine wlk ?_;intros);refine nI 10 (by simp only[List.map_cons,List.map_nil]<;>exact rfl) (by simp only[List.take_succ_cons,List.take_zero]<;>exact rfl) (by simp only[List.drop_succ_cons,List.drop_zero]<;>exact rfl) ac7 (by decide+kernel) (by decide+kernel) ?_;(refine wlk ?_;intros);refine arI (by(simp(disch:=(first|omega|(simp only[push_cast];first|done|omega))) only[push_cast,↓reduceIte,Nat.reduceEqDiff,Nat.reduceBEq,Nat.reduceAdd,Nat.reduceSub,Int.reduceToNat, *]<;>with_reducible exact rfl)) ?_;((refine wlk6 ?_ ?_ ?_ ?_ ?_ ?_<;>intros<;>try with_reducible exact trivial)<;>(refine fnG ?_;try with_reducible exact trivial));all_goals(simp;try omega)
 ·rw[if_neg hL]
  (try dsimp only);have hbb:∃b9:Int,φLb [eu l,.val (.int .i64 ((a:Int)-1)),.val (.int .i64 en),.val (.int .i64 wd)]=some (.tup [.val (.int .i64 b9),.val (.bool (dx l a en&&st))])∧(b9<0∨most<b9):=by
   refine⟨_,ap1,?_⟩;split
   ·rename_i h
    by_cases hb0:bad<0
    ·exact .inl hb0
    ·refine .inr ?_
     by_cases hb1:bad≤most
     ·exact absurd ⟨h,by omega,hb1⟩ hL
     ·omega
   ·exact .inl (by decide)
  clear hL ap1 hbw hmk2 hcst;obtain⟨b9,ap1,hb⟩:=hbb;generalize(dx l a en&&st)=q9 at*;rcases hb with hb|hb
  ·have glc_c87:=xq;have glc_c88:=xG;have glc_c89:=xw
   exact wlkF
  ·by_cases h00:b9<0
   ·have glc_c87:=xq;have glc_c88:=xG;have glc_c89:=xw
    exact wlkF
   ·have glc_c87:=xq;have glc_c88:=xG;have glc_c89:=xw
    exact wlkF
theorem am7:Try.prog.underlying 82=some (.map 86 88):=by kernel_rfl
theorem asO:(86:TypeId)<Try.prog.types.size:=of_decide_eq_true (by kernel_rfl)
theorem aoR:(match Try.prog.underlying 86 with|some (.array _ _)|some (.struct _)=>true|_=>false)=true:=by kernel_rfl
set_option maxRecDepth 100000 in
theorem aqP:laidOutB Try.prog=true:=by kernel_rfl
set_option maxRecDepth 100000 in
theorem auN:Try.prog.keyTypeAt 3 86=true:=by kernel_rfl
theorem acv {P:Program} {k:TypeId} (hl:laidOutB P=true) (hrow:k<P.types.size) (hk:P.keyTypeAt 3 k=true) (hwide:(match P.underlying k with|some (.array _ _)|some (.struct _)=>true|_=>false)=true):Go.Maps.Keyed P k:=Go.Maps.Keyed.of_law (deep_law_laid hl (m:=3) (by omega) hrow hk hwide)
set_option maxRecDepth 100000 in
theorem aaz:Go.Maps.Keyed Try.prog 86:=acv aqP asO auN aoR
abbrev acF (n:Int) (mk:Bool) (lk:Int):Value:=.agg #[.int .i64 n,.bool mk,.int .i64 lk]
def kl1 (n:Int):Option (List Lit):=if IntKind.i64=.i64∧(Lit.int .i64 n).wf=true then some [.int .i64 n]else none
set_option maxRecDepth 100000 in
theorem acQ (n lk:Int) (mk:Bool):Try.prog.keyLits (Try.prog.types.size+1) 86 (acF n mk lk).cells.toList=(do let a←kl1 n;let b←some [Lit.bool mk];let c←kl1 lk;pure [a,b,c]:Option (List (List Lit))).map List.flatten:=by kernel_rfl
theorem vL {n lk:Int} {mk:Bool} (h1:okI n) (h2:okI lk):∃l,keyOf Try.prog 86 (acF n mk lk)=some l:=by
 have hk:Try.prog.keyType 86=true:=by kernel_rfl
 have hf:(acF n mk lk).formed Try.prog 86=true:=by
  obtain⟨fs,hu⟩:∃fs,Try.prog.underlying 86=some (.struct fs):=⟨_,aqI⟩;have hc:Try.prog.cellsOf 86=3:=by kernel_rfl
  simp[Value.formed,hu,hc]
 have w1:(Lit.int .i64 n).wf=true:=by show(decide (-9223372036854775808≤n)&&decide (n≤9223372036854775807))=true;simp[h1.1,h1.2]
 have w2:(Lit.int .i64 lk).wf=true:=by show(decide (-9223372036854775808≤lk)&&decide (lk≤9223372036854775807))=true;simp[h2.1,h2.2]
 unfold keyOf;rw[aqI];dsimp only
 rw[hk,hf,Bool.and_self,if_pos rfl];rw[acQ];unfold kl1;rw[if_pos ⟨rfl,w1⟩,if_pos ⟨rfl,w2⟩];exact⟨_,rfl⟩
theorem amA:aV Try.prog 84 0=some 0:=by kernel_rfl
theorem amE:aV Try.prog 84 1=some 1:=by kernel_rfl
theorem akz:aV Try.prog 84 2=some 2:=by kernel_rfl
theorem alE:aV Try.prog 84 3=some 3:=by kernel_rfl
theorem apB:aW Try.prog 82=some 1:=by kernel_rfl
theorem aqD:ji Try.prog 82=some false:=by kernel_rfl
attribute[push_cast]
 amA amE akz alE apB aqD
abbrev mkA (l:List It) (a:Nat):Bool:=if a=0 then false else(gI l (a-1)).2.2.2.2.2.2
def chV (l:List It) (a:Nat) (r:Option Ch):Value:=if a=l.length then .agg #[.int .i64 0,.int .i64 0,.bool false,.int .i64 0]else match r with
 |none=> .agg #[.int .i64 (-1),.int .i64 0,.bool false,.int .i64 0]
 |some x=> .agg #[.int .i64 x.1,.int .i64 x.2.1,.bool (gI l x.2.1).2.2.2.2.2.2,.int .i64 x.2.2]
def chP (l:List It) (a:Nat) (r:Option Ch):PV:=if a=l.length then .agg [iv 0,iv 0,bv false,iv 0]else match r with
 |none=> .agg [iv (-1),iv 0,bv false,iv 0]
 |some x=> .agg [iv x.1,iv x.2.1,bv (gI l x.2.1).2.2.2.2.2.2,iv x.2.2]
theorem pJ (l:List It) (a:Nat) (r:Option Ch):toVal (chP l a r)=some (chV l a r):=by
 unfold chP chV;split
 ·rfl
 ·cases r<;>rfl
abbrev ag4 (l:List It) (wd most:Int) (b:Nat):PV:=.ptr false (.agg [eu l,iv wd,iv most,.val (.map (some b))]) 0
def oW (l:List It) (wd most:Int) (L:VL):Prop:=∀p∈L,∃(a:Nat) (lk:Int),a<l.length∧(0≤lk∧lk≤3)∧p.1=acF ((a:Int)-1) (mkA l a) lk∧p.2=chV l a (aH l wd most a lk)
def aC (r:Option Ch):Int:=match r with|none=>-1|some x=>x.1
def aN (r:Option Ch):Int:=match r with|none=>0|some x=>x.2.1
def aM (l:List It) (r:Option Ch):Bool:=match r with|none=>false|some x=>(gI l x.2.1).2.2.2.2.2.2
def aK (r:Option Ch):Int:=match r with|none=>0|some x=>x.2.2
theorem yC {l:List It} {a:Nat} {r:Option Ch} (h:¬a=l.length):chP l a r=.agg [iv (aC r),iv (aN r),bv (aM l r),iv (aK r)]:=by unfold chP;rw[if_neg h];cases r<;>rfl
theorem ahm (l:List It) (a:Nat) (lk wd most:Int):∃c n m k,chP l a (aH l wd most a lk)=.agg [iv c,iv n,bv m,iv k]∧((aH l wd most a lk=none∧c=-1)∨∃r,aH l wd most a lk=some r∧c=r.1):=by
 by_cases h:a=l.length
 ·subst h
  exact⟨0,0,false,0,if_pos rfl,.inr ⟨_,mI _ _ _ _,rfl⟩⟩
 ·refine⟨_,_,_,_,yC h,?_⟩
  cases hr:aH l wd most a lk with
  |none=>exact .inl ⟨rfl,rfl⟩
  |some r=>exact .inr ⟨r,rfl,rfl⟩
theorem aiH {n:Nat} {ob:bg} (l:List It) (wd most:Int) (b:Nat):reify false n ob 8 (ag4 l wd most b)=some (ag4 l wd most b):=by
 have h1:reify false n ob 6 (eu l)=some (eu l):=by(simp(disch:=(first|omega|(simp only[push_cast];first|done|omega))) only[push_cast,↓reduceIte,Nat.reduceEqDiff,Nat.reduceBEq,Nat.reduceAdd,Nat.reduceSub,Int.reduceToNat, *]<;>with_reducible exact rfl)
 show(if false=true∧false=false then none else(([eu l,iv wd,iv most,.val (.map (some b))].mapM (reify false n ob 6)).map PV.agg).map (PV.ptr false · 0))=_;rw[if_neg (by decide)];simp only[List.mapM_cons,List.mapM_nil,h1];rfl
attribute[push_cast]
 aiH
theorem HY.asZ {P:Program} {k:TypeId} {N B:Nat} {w00:World} {Γ:Ctx} {K:X→AS→Sg→Prop} {s:AS} {b:Nat} {L:VL} {id:Nat} (n:Nat) {os pre:List Oper} {t e:TypeId} {x y z:Operand} {ty:Nat} {pos:String} {af:Array Edge} (hm:P.follows .mixedOrders=true) (hΓ:au P Γ) (Ky:Go.Maps.Keyed P k) (ht:P.underlying t=some (.map k e))
 (h1:os.take n=pre) (h2:os.drop n=[{dst:=none,op:=.mapUpdate t x y z,type:=ty,pos:=pos,after:=af,guard:=none}]) {gs:List (Option Nat)} (hgs:os.map (·.dst)=gs) (hd:os.toArray.all (fI N)=true) (hok:mq Γ (akd true os.toArray) os.toArray=true) (hlast:(List.range n).all (fun i=>oD os.toArray os.toArray.size i n)=true) (hn:pre.length=n)
 (hp:wq P Γ (akd true os.toArray) gs pre (fun s1=>∃key val kl,look s1.tm x=.val (.map (some b))∧toVal (look s1.tm y)=some key∧toVal (look s1.tm z)=some val∧keyOf P k key=some kl∧∀L',Upd L key val L'→K .normal s1 (some (b,L'))) s.tm s.ob s.nx):HY P k N B w00 (.region id os.toArray true) K s (some (b,L)):=
 HY.auO hm hΓ Ky ht hd hok hlast (show os=pre++_ by rw[←h1,←h2,List.take_append_drop]) hn rfl rfl rfl hgs hp
theorem oW.upd {l:List It} {wd most:Int} {L L':VL} {a:Nat} {lk:Int} (h:oW l wd most L) (ha:a<l.length) (hk:0≤lk∧lk≤3) (hu:Upd L (acF ((a:Int)-1) (mkA l a) lk) (chV l a (aH l wd most a lk)) L'):oW l wd most L':=by
 cases hu with
 |new h1=>
  intro p hp;rcases List.mem_append.1 hp with hp|hp
  ·exact h p hp
  ·rw[List.mem_singleton.1 hp]
   exact⟨a,lk,ha,hk,rfl,rfl⟩
 |old h1=>
  subst h1;intro p hp;rcases List.mem_append.1 hp with hp|hp
  ·exact h p (List.mem_append.2 (.inl hp))
  ·rcases List.mem_cons.1 hp with rfl|hp
   ·exact⟨a,lk,ha,hk,rfl,rfl⟩
   ·exact h p (List.mem_append.2 (.inr (List.mem_cons_of_mem _ hp)))
def ar6:Ctx:={fn:=aZ [(72,φLc)],io:=aZ []}
theorem bK:au Try.prog ar6:=okΓ (fC Try.func72 aeR aj) aj
def ak8:=ah (Γ:=ar6) (f:=72) (φ:=φLc) rfl
set_option maxRecDepth 100000 in
theorem ahX {l:List It} {wd most:Int} (hl:aT l=true) (hpos:0<l.length) (hw:0≤wd∧wd≤1000) (hm:0≤most∧most≤10000):∀(n a:Nat) (lk:Int),l.length-a=n→a≤l.length→(0≤lk∧lk≤3)→∀(b:Nat) (L:VL),oW l wd most L→
 ∀(w:World) (Jm:Nat→Prop) (args:Array Value),(∀i,Jm i→i<w.heap.size∧i≠b)→bF (jF Jm) w [ag4 l wd most b,aoE ((a:Int)-1,mkA l a,lk)] args.toList→kT Try.prog 86 w b L→jc w (fun i=>i=b)→
 Calls Try.prog 56 args w fun e w'=>∃p v L',e=.returned v∧(∀(g:Gh) (w:World),Rep g w p v)∧w.grownBy w' (some b)∧kT Try.prog 86 w' b L'∧(p=chP l a (aH l wd most a lk)∧oW l wd most L'):=by
 intro n
 induction n using Nat.strongRecOn with
 |_ n ih=>
 intro a lk hn ha hlk b L hL w Jm args hJ hargs hM hT;have hlen:=bB hl;refine HY.calls (N:=99) (rs:=[.cell 4 88]) (R:=fun p L'=>p=chP l a (aH l wd most a lk)∧oW l wd most L') Try.func56 rfl rfl rfl (by simp) hJ hargs hM hT (HY.start ?_);refine HY.seq (HY.eng mixed bK (by kernel_rfl) ?_);(try dsimp only);(refine wlk ?_;intros);refine HY.seq (HY.eng mixed bK (by kernel_rfl) ?_);(try dsimp only);have hll:((l.map eO).length:Int)=(l.length:Int):=by simp
 have IH:=Lib.hid ih;have HL:=Lib.hid hL;clear ih hL hJ hargs hM hT;by_cases han:a=l.length
 ·have hch:chP l a (aH l wd most a lk)=.agg [iv 0,iv 0,bv false,iv 0]:=if_pos han
  have hv:=pJ l a (aH l wd most a lk);generalize mkA l a=mk;subst han;(refine wlk ?_;intros);dsimp only
  refine⟨.inr rfl,_,_,L,?_,hv,rfl,rfl,HL.out⟩;rw[hch];clear hv hch;exact agr
 have hal:a<l.length:=by omega
 have hkn:okI ((a:Int)-1):=by omega
 have hkk:okI lk:=by omega
 obtain⟨c0,n0,m0,k0,hch⟩:∃c n m k,chP l a (aH l wd most a lk)=.agg [iv c,iv n,bv m,iv k]:=by unfold chP;rw[if_neg han];cases aH l wd most a lk<;>exact⟨_,_,_,_,rfl⟩
 have hv:=pJ l a (aH l wd most a lk);rw[hch]at hv;by_cases hit:∃v,(acF ((a:Int)-1) (mkA l a) lk,v)∈L
 ·obtain⟨v,hin⟩:=hit
  obtain⟨a',lk',h1,h2,h3,h4⟩:=HL.out _ hin;obtain⟨rfl,rfl⟩:a'=a∧lk'=lk:=by simp only[acF,Value.agg.injEq]at h3;have:=congrArg Array.toList h3;simp at this;omega
  have h4':v=chV l a' (aH l wd most a' lk'):=h4;subst h4';clear h1 h2 h3 h4;have HIN:=Lib.hid hin;have HCH:=Lib.hid hch;have HV:=Lib.hid hv;clear hin hch hv;generalize mkA l a'=mk at*;(refine wlk ?_;intros);dsimp only
  have hlk:=aj0 (Γ:=ar6) (t:=82) (b:=b) (c:=true) (k0:=acF ((a':Int)-1) mk lk') (p:=.tup [.agg [iv c0,iv n0,bv m0,iv k0],bv true]);refine HY.seq (HY.see (M:=⟨82,b,rZ true (acF ((a':Int)-1) mk lk') (.tup [.agg [iv c0,iv n0,bv m0,iv k0],bv true])⟩) mixed bK rfl ?_ (by kernel_rfl) ?_)
  ·intro key c p hp w1 g1 hM1
   obtain⟨rfl,rfl,rfl⟩:=rD hp;obtain⟨kl,hkl⟩:=vL (mk:=mk) hkn hkk;refine⟨_,hM1.ab7 aaz am7 true hkl HIN.out,?_⟩;exact abl (qC HV.out) (by simp[Rep])
  (try dsimp only);(refine wlk ?_;intros);refine nI 9 (by simp only[List.map_cons,List.map_nil]<;>exact rfl) (by simp only[List.take_succ_cons,List.take_zero]<;>exact rfl) (by simp only[List.drop_succ_cons,List.drop_zero]<;>exact rfl) adg (by kernel_rfl) (by kernel_rfl) ?_;(refine wlk ?_;intros);refine arI (by(simp(disch:=(first|omega|(simp only[push_cast];first|done|omega))) only[push_cast,↓reduceIte,Nat.reduceEqDiff,Nat.reduceBEq,Nat.reduceAdd,Nat.reduceSub,Int.reduceToNat, *]<;>with_reducible exact rfl)) ?_;(refine wlk ?_;intros);dsimp only
  refine⟨.inr rfl,_,_,L,?_,HV.out,rfl,HCH.out.symm,HL.out⟩;exact agr
 ·have hmiss:∀p∈L,p.1≠acF ((a:Int)-1) (mkA l a) lk:=fun p hp e=>hit ⟨p.2,by rw[←e];exact hp⟩
  have HMI:=Lib.hid hmiss;have HCH:=Lib.hid hch;have HV:=Lib.hid hv;clear hit hch hv hmiss;obtain⟨mk,hmk⟩:∃mk,mk=mkA l a:=⟨_,rfl⟩;rw[←hmk]at HMI⊢;have HMK:=Lib.hid hmk;clear hmk;(refine wlk ?_;intros);dsimp only
  have hlk:=aj0 (Γ:=ar6) (t:=82) (b:=b) (c:=true) (k0:=acF ((a:Int)-1) mk lk) (p:=.tup [.agg [iv 0,iv 0,bv false,iv 0],bv false]);refine HY.seq (HY.see (M:=⟨82,b,rZ true (acF ((a:Int)-1) mk lk) (.tup [.agg [iv 0,iv 0,bv false,iv 0],bv false])⟩) mixed bK rfl ?_ (by kernel_rfl) ?_)
  ·intro key c p hp w1 g1 hM1
   obtain⟨rfl,rfl,rfl⟩:=rD hp;obtain⟨kl,hkl⟩:=vL (mk:=mk) hkn hkk;refine⟨_,hM1.ak7 aaz am7 true hkl (kQ adg w1) HMI.out,?_⟩;exact abl (qC rfl) (by simp[Rep])
  (try dsimp only);(refine wlk ?_;intros);refine nI 9 (by simp only[List.map_cons,List.map_nil]<;>exact rfl) (by simp only[List.take_succ_cons,List.take_zero]<;>exact rfl) (by simp only[List.drop_succ_cons,List.drop_zero]<;>exact rfl) adg (by kernel_rfl) (by kernel_rfl) ?_;(refine wlk ?_;intros);refine arI (by(simp(disch:=(first|omega|(simp only[push_cast];first|done|omega))) only[push_cast,↓reduceIte,Nat.reduceEqDiff,Nat.reduceBEq,Nat.reduceAdd,Nat.reduceSub,Int.reduceToNat, *]<;>with_reducible exact rfl)) ?_;(refine wlk ?_;intros);dsimp only
  clear hlk;refine HY.cut (Lf:=[(0,ag4 l wd most b),(3,.own 0 3 0 0),(4,.own 1 4 0 0)]) (O:=[(0,86,3,[.agg [iv ((a:Int)-1),bv mk,iv lk]]),(1,88,4,[.agg [iv 0,iv 0,bv false,iv 0]])]) (x:=3) (by exact agr) (by exact agr) rfl ?_;refine HY.seq (HY.eng mixed bK (by kernel_rfl) ?_);dsimp only
  (refine wlk ?_;intros);dsimp only
  refine HY.seq (HY.seq (HY.eng mixed bK (by kernel_rfl) ?_));dsimp only
  (refine wlk ?_;intros);dsimp only
  refine HY.block (HY.acC (α:=Nat×Nat) (fun i=>[(0,ag4 l wd most b),(3,.own 0 3 0 0),(4,.own 1 4 0 0),(7,.own 3 4 0 0),(8,iv ((l.length:Int)-1-i.1))])
   (fun i=>[(0,86,3,[.agg [iv ((a:Int)-1),bv mk,iv lk]]),(1,88,4,[.agg [iv 0,iv 0,bv false,iv 0]]),(3,88,4,[.agg [iv (aC (aY l wd most a lk (aH l wd most) i.1)),iv (aN (aY l wd most a lk (aH l wd most) i.1)),bv (aM l (aY l wd most a lk (aH l wd most) i.1)),iv (aK (aY l wd most a lk (aH l wd most) i.1))]])])
   (fun i=>i.2) (fun i σ=>i.1≤l.length-a∧4≤i.2∧∃L',σ=some (b,L')∧oW l wd most L') (fun i=>l.length-a-i.1) (0,4) ⟨Nat.zero_le _,Nat.le_refl _,L,rfl,HL.out⟩ ?_ ?_ rfl ?_)
  ·exact agi
  ·simp only[aY,aC,aN,aM,aK]
   exact agr
  ·rintro⟨j,y⟩ σ ⟨hj,hy,L',rfl,hL'⟩
   dsimp only at hj hy;have HL2:=Lib.hid hL';clear hL';by_cases hja:j<l.length-a
   ·refine HY.seq (HY.eng mixed bK (by kernel_rfl) ?_)
    obtain⟨en,hen⟩:∃en:Nat,en+1+j=l.length:=⟨l.length-1-j,by omega⟩;have he8:(l.length:Int)-1-(j:Int)=(en:Int):=by omega
    dsimp only
    rw[he8];generalize hR:aY l wd most a lk (aH l wd most) j=R at*;have HR:=Lib.hid hR;clear hR he8;have hap:asa l wd most ((a:Int)-1,mk,lk) en:=⟨⟨hl,by dsimp only;omega,by dsimp only;omega,by omega⟩,hw,hm,hlk,fun h0=>by have:=HMK.out;dsimp only at h0⊢;rw[this];unfold mkA;rw[if_neg (by omega),show((a:Int)-1).toNat=a-1 by omega]⟩
    have ap:=alv hap;clear hap;generalize hE:lcR l wd most a en lk=E at*;obtain⟨c9,e9,m9,k9⟩:=E;have HE:=Lib.hid hE;clear hE;dsimp only at ap;have hy1:¬y=0:=by omega
    have hy2:¬y=1:=by omega
    have hy3:¬y=3:=by omega
    have gbst_c72:=ak8;(refine wlk ?_;intros);dsimp only
    refine HY.seq (HY.block (HY.seq (HY.eng mixed bK (by kernel_rfl) ?_)));dsimp only
    (refine wlk ?_;intros);refine nI 18 (by simp only[List.map_cons,List.map_nil]<;>exact rfl) (by simp only[List.take_succ_cons,List.take_zero]<;>exact rfl) (by simp only[List.drop_succ_cons,List.drop_zero]<;>exact rfl) ac7 (by kernel_rfl) (by kernel_rfl) ?_;(refine wlk ?_;intros);refine arI (by(simp(disch:=(first|omega|(simp only[push_cast];first|done|omega))) only[push_cast,↓reduceIte,Nat.reduceEqDiff,Nat.reduceBEq,Nat.reduceAdd,Nat.reduceSub,Int.reduceToNat, *]<;>with_reducible exact rfl)) ?_;(refine wlk ?_;intros);dsimp only
    refine HY.cut (Lf:=[(0,ag4 l wd most b),(3,.own 0 3 0 0),(4,.own 1 4 0 0),(7,.own 3 4 0 0),(8,iv (en:Int)),(9,iv c9),(10,.own y 3 0 0)]) (O:=[(0,86,3,[.agg [iv ((a:Int)-1),bv mk,iv lk]]),(1,88,4,[.agg [iv 0,iv 0,bv false,iv 0]]),(3,88,4,[.agg [iv (aC R),iv (aN R),bv (aM l R),iv (aK R)]]),(y,86,3,[.agg [iv e9,bv m9,iv k9]])]) (x:=y+1) (by exact agr) (by exact agr) rfl ?_;have hbn:∀z,fV l wd most a lk (aH l wd most) R en=z→aY l wd most a lk (aH l wd most) (j+1)=z:=fun z hz=>by rw[aY,show l.length-(j+1)=en by omega,HR.out,hz]
    clear ap;cases hL:gP l wd most a en with
    |none=>
     have hE2:=HE.out;unfold lcR at hE2;rw[hL]at hE2;cases hE2;have hN:=Lib.hid (hbn _ (gN hL));clear hbn hL;refine HY.seq (HY.eng mixed bK (by kernel_rfl) ?_);(refine wlk ?_;intros);refine HY.eng mixed bK (by kernel_rfl) ?_;dsimp only
     (refine wlk ?_;intros);(try dsimp only);refine⟨(j+1,y+1),⟨by dsimp only;omega,by dsimp only;omega,L',rfl,HL2.out⟩,by dsimp only;omega,?_,?_,rfl⟩
     ·dsimp only
      exact agi
     ·dsimp only
      rw[hN.out];exact agr
    |some ck=>
     obtain⟨c,k⟩:=ck;have hE2:=HE.out;unfold lcR at hE2;rw[hL]at hE2;obtain⟨⟨-,-⟩,g2,g3⟩:=nH hl hm.2 hL;have g4:=jG l a en lk k;dsimp only at hE2 g2 g3;have hmn:mkA l (en+1)=(l[en]?.getD it0).2.2.2.2.2.2:=rfl;have IHn:=IH.out (l.length-(en+1)) (by omega) (en+1) k rfl (by omega) g3 b L' HL2.out;rw[show((en+1:Nat):Int)-1=(en:Int) by omega,hmn]at IHn;simp only[Prod.mk.injEq]at hE2;obtain⟨rfl,rfl,rfl,rfl⟩:=hE2;have hc9:0≤c+gY l a en lk k∧c+gY l a en lk k≤400000000:=by omega
     have hbs:=fun r (h2:aH l wd most (en+1) k=some r)=>hbn _ (jk hL h2);have hbd:=fun(h2:aH l wd most (en+1) k=none)=>hbn _ (jq hL h2);have hbr:=fun r (h2:aH l wd most (en+1) k=some r)=>bZ hl hm.2 (show en+1≤l.length by omega) h2;have hRr:∀x,R=some x→0≤x.1∧x.1≤20000000000:=fun x hx=>(nT (a:=a) hl hm.2 hal (HR.out.trans hx)).1;have hcp:=ahm l (en+1) k wd most;clear hbn g2 g4;generalize hc8:c+gY l a en lk k=c9 at*;generalize hme:(l[en]?.getD it0).2.2.2.2.2.2=m9 at*;generalize aH l wd most (en+1) k=rr at*;have HME:=Lib.hid hme;have HB:=Lib.hid (And.intro hbs (And.intro hbd (And.intro hbr hRr)));have HIH:=Lib.hid IHn;clear hc8 hL HE hme hbs hbd hbr hRr IHn hmn;obtain⟨c2,n2,m2,k2,hp2,hc2⟩:=hcp;have HC2:=Lib.hid hc2;have HP2:=Lib.hid hp2;clear hc2 hp2;refine HY.seq (HY.eng mixed bK (by kernel_rfl) ?_);(refine wlk ?_;intros);refine HY.seq (HY.each (HO.pre (imm:=⟨[],[],[]⟩) 2 bK (by kernel_rfl) (by simp only[List.take_succ_cons,List.take_zero]<;>exact rfl) (by simp only[List.drop_succ_cons,List.drop_zero]<;>exact rfl) (by simp only[List.map_cons,List.map_nil]<;>exact rfl) ?_));(refine wlk ?_;intros);refine HO.call (ps:=[ag4 l wd most b,.agg [iv (en:Int),bv m9,iv k]]) (R:=fun p L'=>p=chP l (en+1) rr∧oW l wd most L') rfl rfl ⟨_,Try.func56,rfl,rfl⟩ rfl ?_ ?_ HIH.out ?_
     ·intro x e
      cases e;decide
     ·dsimp only
      (simp(disch:=(first|omega|(simp only[push_cast];first|done|omega))) only[push_cast,↓reduceIte,Nat.reduceEqDiff,Nat.reduceBEq,Nat.reduceAdd,Nat.reduceSub,Int.reduceToNat, *]<;>with_reducible exact rfl)
     ·rintro p L3 ⟨rfl,hL3⟩
      rw[HP2.out];have HL3:=Lib.hid hL3;clear hL3;refine HO.pre (imm:=⟨[],[],[]⟩) 2 bK (by kernel_rfl) (by simp only[List.take_succ_cons,List.take_zero]<;>exact rfl) (by simp only[List.drop_succ_cons,List.drop_zero]<;>exact rfl) (by simp only[List.map_cons,List.map_nil]<;>exact rfl) ?_;dsimp only[AS.put];(refine wlk ?_;intros);refine HO.nil ?_;refine HY.cut (Lf:=[(0,ag4 l wd most b),(3,.own 0 3 0 0),(4,.own 1 4 0 0),(7,.own 3 4 0 0),(8,iv (en:Int)),(9,iv c9),(10,.own y 3 0 0),(11,.own (y+1) 4 0 0)]) (O:=[(0,86,3,[.agg [iv ((a:Int)-1),bv mk,iv lk]]),(1,88,4,[.agg [iv 0,iv 0,bv false,iv 0]]),(3,88,4,[.agg [iv (aC R),iv (aN R),bv (aM l R),iv (aK R)]]),(y,86,3,[.agg [iv (en:Int),bv m9,iv k]]),(y+1,88,4,[.agg [iv c2,iv n2,bv m2,iv k2]])]) (x:=y+2) (by exact agr) (by exact agr) rfl ?_;rcases HC2.out with⟨hr,rfl⟩|⟨r,hr,rfl⟩
      ·have hN:=Lib.hid (HB.out.2.1 hr)
       clear hr;refine HY.eng mixed bK (by kernel_rfl) ?_;(refine wlk ?_;intros);refine HY.eng mixed bK (by kernel_rfl) ?_;dsimp only
       (refine wlk ?_;intros);(try dsimp only);refine⟨(j+1,y+2),⟨by dsimp only;omega,by dsimp only;omega,L3,rfl,HL3.out⟩,by dsimp only;omega,?_,?_,rfl⟩
       ·dsimp only
        exact agi
       ·dsimp only
        rw[hN.out];(try simp only[aC,aN,aM,aK,HME.out]);exact agr
      ·have hN1:=HB.out.1 r hr
       have hr1:=(HB.out.2.2.1 r hr).1;have hRR:=HB.out.2.2.2;clear hr;generalize r.1=r1 at*;cases R with
       |none=>
        have hN:=Lib.hid (hN1.trans (if_pos rfl));clear hN1 hRR;dsimp only[aC,aN,aM,aK];refine HY.eng mixed bK (by kernel_rfl) ?_;(refine wlk ?_;intros);refine HY.eng mixed bK (by kernel_rfl) ?_;dsimp only
        (refine wlk ?_;intros);(try dsimp only);refine⟨(j+1,y+2),⟨by dsimp only;omega,by dsimp only;omega,L3,rfl,HL3.out⟩,by dsimp only;omega,?_,?_,rfl⟩
        ·dsimp only
         exact agi
        ·dsimp only
         rw[hN.out];(try simp only[aC,aN,aM,aK,HME.out]);exact agr
       |some x=>
        have hx1:=hRR x rfl;clear hRR;obtain⟨x1,x2,x3⟩:=x;dsimp only at hx1;dsimp only[aC,aN,aM,aK];by_cases hlt:c9+r1<x1
        ·have hN:=Lib.hid (hN1.trans (if_pos (by simpa using hlt)))
         clear hN1;refine HY.eng mixed bK (by kernel_rfl) ?_;(refine wlk ?_;intros);refine HY.eng mixed bK (by kernel_rfl) ?_;dsimp only
         (refine wlk ?_;intros);(try dsimp only);refine⟨(j+1,y+2),⟨by dsimp only;omega,by dsimp only;omega,L3,rfl,HL3.out⟩,by dsimp only;omega,?_,?_,rfl⟩
         ·dsimp only
          exact agi
         ·dsimp only
          rw[hN.out];(try simp only[aC,aN,aM,aK,HME.out]);exact agr
        ·have hN:=Lib.hid (hN1.trans (if_neg (by simpa using hlt)))
         clear hN1;refine HY.eng mixed bK (by kernel_rfl) ?_;(refine wlk ?_;intros);refine HY.eng mixed bK (by kernel_rfl) ?_;dsimp only
         (refine wlk ?_;intros);(try dsimp only);refine⟨(j+1,y+2),⟨by dsimp only;omega,by dsimp only;omega,L3,rfl,HL3.out⟩,by dsimp only;omega,?_,?_,rfl⟩
         ·dsimp only
          exact agi
         ·dsimp only
          rw[hN.out];(try simp only[aC,aN,aM,aK,HME.out]);exact agr
   ·refine HY.seq (HY.eng mixed bK (by kernel_rfl) ?_)
    obtain rfl:j=l.length-a:=by omega
    have hR:=(kM (wd:=wd) (most:=most) (lk:=lk) hal).symm;dsimp only
    rw[hR,show(l.length:Int)-1-((l.length-a:Nat):Int)=(a:Int)-1 by omega];generalize hrr:aH l wd most a lk=R at*;have HRR:=Lib.hid hrr;clear hR hrr;obtain⟨kl,hkl⟩:=vL (mk:=mk) hkn hkk;have HKL:=Lib.hid hkl;clear hkl;(refine wlk ?_;intros);refine HY.seq (HY.asZ 6 mixed bK aaz am7 (by simp only[List.take_succ_cons,List.take_zero]<;>exact rfl) (by simp only[List.drop_succ_cons,List.drop_zero]<;>exact rfl) (by simp only[List.map_cons,List.map_nil]<;>exact rfl) (by kernel_rfl) (by kernel_rfl) (by kernel_rfl) rfl ?_);(try dsimp only);(refine wlk ?_;intros);refine⟨acF ((a:Int)-1) mk lk,chV l a R,kl,by(simp(disch:=(first|omega|(simp only[push_cast];first|done|omega))) only[push_cast,↓reduceIte,Nat.reduceEqDiff,Nat.reduceBEq,Nat.reduceAdd,Nat.reduceSub,Int.reduceToNat, *]<;>with_reducible exact rfl),?_,?_,HKL.out,fun L9 hu=>?_⟩
    ·refine Eq.trans (congrArg toVal (show _=PV.agg [iv ((a:Int)-1),bv mk,iv lk] by(simp(disch:=(first|omega|(simp only[push_cast];first|done|omega))) only[push_cast,↓reduceIte,Nat.reduceEqDiff,Nat.reduceBEq,Nat.reduceAdd,Nat.reduceSub,Int.reduceToNat, *]<;>with_reducible exact rfl))) rfl
    ·refine Eq.trans (congrArg toVal (show _=chP l a R by rw[yC han];(simp(disch:=(first|omega|(simp only[push_cast];first|done|omega))) only[push_cast,↓reduceIte,Nat.reduceEqDiff,Nat.reduceBEq,Nat.reduceAdd,Nat.reduceSub,Int.reduceToNat, *]<;>with_reducible exact rfl))) (pJ l a R)
    have hG:oW l wd most L9:=HL2.out.upd hal hlk (by rw[←HMK.out,HRR.out];exact hu);replace hG:=Lib.hid hG;clear hu;(try dsimp only);refine HY.seq (HY.eng mixed bK (by kernel_rfl) ?_);(try dsimp only);(refine wlk ?_;intros);refine HY.eng mixed bK (by kernel_rfl) ?_;(refine wlk ?_;intros);(try dsimp only);refine⟨.inr rfl,_,_,L9,?_,pJ l a R,rfl,rfl,hG.out⟩;rw[yC han];exact agr
end
end Go.Proofs.Ytmmafcjjlbgnkaa
