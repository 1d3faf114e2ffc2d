/- What the proof rests on, part 13: contracts of functions. No condition beyond what each states. -/
import Derived.Test.YtmmafcjjlbgnkaaGreatZBpE12
namespace Go.Proofs.YtmmafcjjlbgnkaaGreat
open Go.RowKit
set_option linter.all false
set_option maxHeartbeats 32000000
noncomputable section
def acC:Fun:=axq 4 anc
theorem aac {gs:List I4} (h:∀g∈gs,GOk g) (h2:gs.length≤61):acC [.lst false 4 (gs.map pvG)]=some (pvG (iV gs)):=acs h h2
theorem aed:acC [.val (.slice none 0 0)]=some (pvG (iV [])):=acs (gs:=[]) (by simp) (by simp)
def lgR (l:List It) (a en:Nat):I4:=if dH l a en=true then iV (ac1 l a en)else(0,0,0,0)
def φLg:Fun:=F3 lV dI dI fun l n m=>open Classical in if aoY l n m then some (.tup [pvG (lgR l (n+1).toNat m.toNat),bv (dH l (n+1).toNat m.toNat)])else none
theorem amX {l:List It} {a en:Nat} (h:aS l=true) (h2:a≤en) (h3:en<l.length):φLg [eU l,.val (.int .i64 ((a:Int)-1)),.val (.int .i64 en)]=some (.tup [pvG (lgR l a en),.val (.bool (dH l a en))]):=
 (yX (A:=lV) (B:=dI) (C:=dI) l ((a:Int)-1) en).trans ((if_pos ⟨h,by omega,by omega,by omega⟩).trans (by rw[show((a:Int)-1+1).toNat=a by omega,Int.toNat_natCast]))
theorem adU {l:List Int} {k:Nat} (h:k<l.length):l.take (k+1)=l.take k++[l[k]?.getD 0]:=by rw[List.take_succ_eq_append_getElem h,List.getElem?_eq_getElem h];rfl
def GLg:Ctx:={fn:=aT [(72,φLi),(125,acC)],io:=aT []}
theorem atd:au Tryz.prog GLg:=okΓ (fC Tryz.func72 yG (fC Tryz.func125 (aeL.nil 4) aj)) aj
def alU:=ah (Γ:=GLg) (f:=72) (φ:=φLi) rfl
def aiE:=ah (Γ:=GLg) (f:=125) (φ:=acC) rfl
theorem aiq:Sound Tryz.prog 120 φLg:=by
 refine ak mixed atd Tryz.func120 rfl 54 rfl [.cell 6 54,.tmp 7] rfl (by kernel_rfl) fun ps r hr=>?_;obtain⟨l,n,m,rfl,hpre,rfl⟩:=wI hr;refine⟨by simp,?_⟩;simp only[dIs,dUs,dSs,bR,bV,bT,bU,aI,bW,aL,aO,aH,aJ];obtain⟨hB,hn0,hn1,hn2⟩:=hpre;obtain⟨a,rfl⟩:∃a:Nat,n=(a:Int)-1:=⟨(n+1).toNat,by omega⟩;obtain⟨en,rfl⟩:∃en:Nat,m=en:=⟨m.toNat,by omega⟩;have hl:=bC hB;have hae:a≤en:=by omega
 have hel:en<l.length:=by omega
 show pq _ _ _ _ _ (bM [eU l,.val (.int .i64 ((a:Int)-1)),.val (.int .i64 en)]).tm _ _;rw[show((a:Int)-1+1).toNat=a by omega,Int.toNat_natCast];have ap:=agS hB hae hel;unfold lgR;clear hn0 hn1 hn2;cases hq:dH l a en with
 |false=>rw[hq,if_neg (by decide)]at ap;rw[if_neg (by decide)];clear hq hB;have glg_c72:=alU;have glg_c125:=aiE;exact wlkF
 |true=>
  rw[hq,if_pos rfl]at ap;rw[if_pos rfl];have hst:aB l a≤en:=(eX.1 hq).2.2.2.1;have hG:ac1 l a en=oF l (aB l a) en++(if(gI l en).kd=3 then [(gI l en).gl]else []):=rfl;have hgo:=aav (b:=aB l a) hB (show en≤l.length by omega);have hgl:=vE l (aB l a) en;have hio:=(fI hB hel).gl;have him:=@qA l (aB l a) en;have h0l:oF l (aB l a) en=(lN l (aB l a) en).map fun n:Int=>(gI l n.toNat).gl:=rfl;rw[hG];clear hG hq hB;rw[h0l]at hgo hgl⊢;rw[List.length_map]at hgl;generalize lN l (aB l a) en=L at*;clear h0l;have hLl:L.length≤60:=by omega
  have hLk:∀k,k<L.length→0≤L[k]?.getD 0∧L[k]?.getD 0<en:=fun k hk=>by rw[List.getElem?_eq_getElem hk,Option.getD_some];have:=him _ (List.getElem_mem hk);omega
  clear him;have glg_c72:=alU;have glg_c125:=aiE;(refine wlk ?_;intros);refine aF (α:=Nat×Nat×Nat) mixed (fun z=>[(0,eU l),(2,iv en),(6,.own 0 4 0 0),(10,nP 4 (((L.take z.1).map fun n:Int=>(gI l n.toNat).gl).map pvG) z.2.1),(23,.lst true 1 (L.map pvN)),(24,iv L.length),(25,iv z.1)])
   (fun z=>(0,54,4,[pvG g40])::nO 54 4 (((L.take z.1).map fun n:Int=>(gI l n.toNat).gl).map pvG) z.2.1) (fun z=>z.2.2)
   (fun z=>z.1≤L.length∧0<z.2.2∧(0<z.1→0<z.2.1∧z.2.1<z.2.2)) (fun z=>L.length-z.1) (by kernel_rfl) (0,0,1) ⟨Nat.zero_le _,by simp,by simp⟩ ?_ ?_ rfl ?_
  ·simp(disch:=(first|omega|(simp only[push_cast];first|done|omega))) only[push_cast,↓reduceIte,Nat.reduceEqDiff,Nat.reduceBEq,Nat.reduceAdd,Nat.reduceSub,Int.reduceToNat,List.take_zero,List.map_nil, *]
  ·simp(disch:=(first|omega|(simp only[push_cast];first|done|omega))) only[push_cast,↓reduceIte,Nat.reduceEqDiff,Nat.reduceBEq,Nat.reduceAdd,Nat.reduceSub,Int.reduceToNat,List.take_zero,List.map_nil,g40, *]
  rintro⟨k,x,y⟩ ⟨hk,hy,hxy⟩;dsimp only at hk hy hxy;have hGl:((L.take k).map fun n:Int=>(gI l n.toNat).gl).length=k:=by rw[List.length_map,List.length_take];omega
  by_cases h0:k<L.length
  ·obtain⟨q1,q2⟩:=hLk k h0
   have hn:(L.take (k+1)).map (fun n:Int=>(gI l n.toNat).gl)=(L.take k).map (fun n:Int=>(gI l n.toNat).gl)++[(l[(L[k]?.getD 0).toNat]?.getD it0).gl]:=by rw[adU h0,List.map_append];rfl
   have hGb:k≤60:=by omega
   clear hLk hgo hgl hio;generalize hx9:l[(L[k]?.getD 0).toNat]?.getD it0=it at*;obtain⟨kd,w9,c,d,e,cost,g⟩:=it;generalize hG9:(L.take k).map (fun n:Int=>(gI l n.toNat).gl)=G at*;replace hn:(L.take (k+1)).map (fun n:Int=>(gI l n.toNat).gl)=G++[(w9,c,d,e)]:=hn;replace hn:=Lib.hid hn;by_cases hz:G.length=0
   ·obtain rfl:G=[]:=List.eq_nil_of_length_eq_zero hz
    clear hGl hz hG9 hxy;(refine wlk ?_;intros);refine⟨(k+1,y+1,y+2),⟨by dsimp only;omega,by dsimp only;omega,fun _=>by dsimp only;omega⟩,by dsimp only;omega,?_,?_,rfl⟩
    ·dsimp only
     rw[hn.out];exact agr
    ·dsimp only
     rw[hn.out];exact agr
   ·obtain⟨hx0,hxy⟩:=hxy (by omega)
    have hap:0<(G.map pvG).length:=by rw[List.length_map];omega
    have hGc:G.length≤60:=by omega
    clear hz hG9 hGl;have hap3:0<((G++[(w9,c,d,e)]).map pvG).length:=by simp
    simp only[aA hap,aD hap,List.length_map];(refine wlk ?_;intros);refine⟨(k+1,y+1,y+2),⟨by dsimp only;omega,by dsimp only;omega,fun _=>by dsimp only;omega⟩,by dsimp only;omega,?_,?_,rfl⟩
    ·dsimp only
     rw[hn.out];simp(disch:=(first|omega|(simp only[push_cast];first|done|omega))) only[push_cast,↓reduceIte,Nat.reduceEqDiff,Nat.reduceBEq,Nat.reduceAdd,Nat.reduceSub,Int.reduceToNat,aA hap3,List.length_append, *]
    ·dsimp only
     rw[hn.out];simp(disch:=(first|omega|(simp only[push_cast];first|done|omega))) only[push_cast,↓reduceIte,Nat.reduceEqDiff,Nat.reduceBEq,Nat.reduceAdd,Nat.reduceSub,Int.reduceToNat,aD hap3, *]
  ·obtain rfl:k=L.length:=by omega
   rw[List.take_of_length_le (Nat.le_refl _)]at*;have hkx:gI l en=l[en]?.getD it0:=rfl;rw[hkx];clear hkx hLk;have hGL:(L.map fun n:Int=>(gI l n.toNat).gl).length=L.length:=List.length_map _;generalize hx9:l[en]?.getD it0=it at*;obtain⟨kd,w9,c,d,e,cost,g⟩:=it;replace hio:GOk (w9,c,d,e):=hio;generalize(L.map fun n:Int=>(gI l n.toNat).gl)=G at*;have apn:=aed;have apt:=aac (gs:=G) hgo (by omega);have apu:=aac (gs:=G++[(w9,c,d,e)]) (fun z hz=>by
    rcases List.mem_append.1 hz with hz|hz
    ·exact hgo z hz
    ·rw[List.mem_singleton.1 hz];exact hio) (by rw[List.length_append,List.length_singleton];omega)
   by_cases h3:kd=3
   ·rw[if_pos (show It.kd (kd,w9,c,d,e,cost,g)=3 from h3)]
    have hz9:It.gl (kd,w9,c,d,e,cost,g)=(w9,c,d,e):=rfl;rw[hz9];clear hz9 apn apt hgo hio;subst h3;by_cases hz:G.length=0
    ·obtain rfl:G=[]:=List.eq_nil_of_length_eq_zero hz
     rw[List.nil_append]at*;generalize iV [(w9,c,d,e)]=t at*;obtain⟨t1,t2,t3,t4⟩:=t;clear hGl hGL hz hxy;simp only[List.map_cons,List.map_nil]at apu;exact wlkF
    ·obtain⟨hx0,hxy⟩:=hxy (by omega)
     have hap:0<(G.map pvG).length:=by rw[List.length_map];omega
     generalize iV (G++[(w9,c,d,e)])=t at*;obtain⟨t1,t2,t3,t4⟩:=t;have hGc:G.length≤60:=by omega
     clear hz hGl hGL;simp only[aA hap,aD hap,List.length_map];exact wlkF
   ·rw[if_neg (show¬It.kd (kd,w9,c,d,e,cost,g)=3 from h3),List.append_nil]
    clear apu hgo hio;by_cases hz:G.length=0
    ·obtain rfl:G=[]:=List.eq_nil_of_length_eq_zero hz
     generalize iV []=t at*;obtain⟨t1,t2,t3,t4⟩:=t;clear hGl hGL hz hxy apt;exact wlkF
    ·obtain⟨hx0,hxy⟩:=hxy (by omega)
     have hap:0<(G.map pvG).length:=by rw[List.length_map];omega
     generalize iV G=t at*;obtain⟨t1,t2,t3,t4⟩:=t;clear hz hGl hGL apn;simp only[aA hap,aD hap,List.length_map];exact wlkF
def φLb:Fun:=F4 lV dI dI dI fun l n m wd=>open Classical in if aoY l n m∧0≤wd∧wd≤1000 then some (.tup [iv (if dH l (n+1).toNat m.toNat=true then(gZ l wd (n+1).toNat m.toNat).1 else-1),bv (dH l (n+1).toNat m.toNat&&(gZ l wd (n+1).toNat m.toNat).2)])else none
theorem anh {l:List It} {a en:Nat} {wd:Int} (h:aS l=true) (h2:a≤en) (h3:en<l.length) (h4:0≤wd∧wd≤1000):φLb [eU l,.val (.int .i64 ((a:Int)-1)),.val (.int .i64 en),.val (.int .i64 wd)]=some (.tup [.val (.int .i64 (if dH l a en=true then(gZ l wd a en).1 else-1)),.val (.bool (dH l a en&&(gZ l wd a en).2))]):=
 (aso (A:=lV) (B:=dI) (C:=dI) (D:=dI) l ((a:Int)-1) en wd).trans (by rw[show((a:Int)-1+1).toNat=a by omega,Int.toNat_natCast];exact if_pos ⟨⟨h,by omega,by omega,by omega⟩,h4⟩)
def GLb:Ctx:={fn:=aT [(120,φLg),(43,φIn),(121,ru)],io:=aT []}
theorem asV:au Tryz.prog GLb:=okΓ (fC Tryz.func120 aiq (fC Tryz.func43 qd (fC Tryz.func121 aaL aj))) aj
def sP:=ah (Γ:=GLb) (f:=120) (φ:=φLg) rfl
def yE:=ah (Γ:=GLb) (f:=43) (φ:=φIn) rfl
def tT:=ah (Γ:=GLb) (f:=121) (φ:=ru) rfl
theorem aij:Sound Tryz.prog 107 φLb:=by
 refine ak mixed asV Tryz.func107 rfl 63 rfl [.tmp 8,.tmp 9] rfl (by kernel_rfl) fun ps r hr=>?_;obtain⟨l,n,m,wd,rfl,hpre,rfl⟩:=aub hr;refine⟨by simp,?_⟩;simp only[dIs,dUs,dSs,bR,bV,bT,bU,aI,bW,aL,aO,aH,aJ];obtain⟨⟨hB,hn0,hn1,hn2⟩,hw⟩:=hpre;obtain⟨a,rfl⟩:∃a:Nat,n=(a:Int)-1:=⟨(n+1).toNat,by omega⟩;obtain⟨en,rfl⟩:∃en:Nat,m=en:=⟨m.toNat,by omega⟩;show pq _ _ _ _ _ (bM [eU l,.val (.int .i64 ((a:Int)-1)),.val (.int .i64 en),.val (.int .i64 wd)]).tm _ _;rw[show((a:Int)-1+1).toNat=a by omega,Int.toNat_natCast];have ap1:=amX hB (show a≤en by omega) (show en<l.length by omega);have api:φIn [.val (.int .i64 wd),.val (.int .i64 0),.val (.int .i64 1000)]=some (.val (.bool true)):=(bJ _ _ _).trans (by rw[ay.2 hw]);obtain⟨g1,g2⟩:=yZ (b:=aB l a) hB (show en<l.length by omega);obtain⟨⟨o1,o2,o3,o4⟩,t1,t2,t3⟩:=ah6 g1 g2;have hE:gZ l wd a en=asa (iV (kK l (aB l a) en)) wd:=rfl;have hE2:ac1 l a en=kK l (aB l a) en:=rfl;unfold lgR at ap1;rw[hE];rw[hE2]at ap1;have hl:=bC hB;clear hB g1 g2 hE hE2;cases hq:dH l a en with
 |false=>rw[hq,if_neg (by decide)]at ap1;rw[if_neg (by decide),Bool.false_and];clear hq o1 o2 o3 o4 t1 t2 t3;have glb_c120:=sP;have glb_c43:=yE;have glb_c121:=tT;exact wlkF
 |true=>
  rw[hq,if_pos rfl]at ap1;rw[if_pos rfl,Bool.true_and];clear hq;generalize iV (kK l (aB l a) en)=t at*;obtain⟨tw,ts,th,tod⟩:=t;dsimp only at o1 o2 o3 o4 t1 t2 t3;have hG:asa (tw,ts,th,tod) wd=if tw≤wd then(if tod=1 then(0,true)else(aa9 (wd-tw) ts,true))else if tw-wd≤th then(aa9 (tw-wd) th,false)else(-1,false):=rfl;rw[hG];by_cases h1:tw≤wd
  ·have ap3:=mV (need:=wd-tw) (room:=ts) ⟨⟨by omega,by omega⟩,by omega,by omega⟩
   rw[if_pos h1];by_cases h2:tod=1
   ·rw[if_pos h2]
    subst h2;have glb_c120:=sP;have glb_c43:=yE;have glb_c121:=tT;exact wlkF
   ·rw[if_neg h2]
    generalize aa9 (wd-tw) ts=bd at*;have glb_c120:=sP;have glb_c43:=yE;have glb_c121:=tT;exact wlkF
  ·rw[if_neg h1]
   by_cases h2:tw-wd≤th
   ·have ap3:=mV (need:=tw-wd) (room:=th) ⟨⟨by omega,by omega⟩,by omega,by omega⟩
    rw[if_pos h2];generalize aa9 (tw-wd) th=bd at*;have glb_c120:=sP;have glb_c43:=yE;have glb_c121:=tT;exact wlkF
   ·rw[if_neg h2]
    have glb_c120:=sP;have glb_c43:=yE;have glb_c121:=tT;exact wlkF
abbrev LE:=Int×Bool×Int
abbrev dLe:Dec LE:=dA3 dI dB dI
abbrev as8 (x:LE):PV:=.agg [.val (.int .i64 x.1),.val (.bool x.2.1),.val (.int .i64 x.2.2)]
def lcR (l:List It) (wd most:Int) (a en:Nat) (lk:Int):Int×LE:=match iA l wd most a en with
 |none=>(-1,(0,false,0))
 |some x=>(x.1+iI l a en lk x.2,((en:Int),(l[en]?.getD it0).2.2.2.2.2.2,x.2))
abbrev avN (l:List It) (wd most:Int) (e:LE) (m:Int):Prop:=aoY l e.1 m∧(0≤wd∧wd≤1000)∧(0≤most∧most≤10000)∧(0≤e.2.2∧e.2.2≤3)∧(0≤e.1→e.2.1=(l[e.1.toNat]?.getD it0).2.2.2.2.2.2)
def φLc:Fun:=F5 lV dI dI dLe dI fun l wd most e m=>open Classical in if avN l wd most e m then some (.tup [iv (lcR l wd most (e.1+1).toNat m.toNat e.2.2).1,as8 (lcR l wd most (e.1+1).toNat m.toNat e.2.2).2])else none
theorem anJ {l:List It} {wd most:Int} {a en:Nat} {mk:Bool} {lk:Int} (h:avN l wd most ((a:Int)-1,mk,lk) en):φLc [eU l,.val (.int .i64 wd),.val (.int .i64 most),as8 ((a:Int)-1,mk,lk),.val (.int .i64 en)]=some (.tup [.val (.int .i64 (lcR l wd most a en lk).1),as8 (lcR l wd most a en lk).2]):=
 (auR (A:=lV) (B:=dI) (C:=dI) (D:=dLe) (E:=dI) l wd most ((a:Int)-1,mk,lk) en).trans ((if_pos h).trans (by rw[show(((a:Int)-1,mk,lk).1+1).toNat=a by dsimp only;omega,Int.toNat_natCast]))
def GLc:Ctx:={fn:=aT [(107,φLb),(108,φLk),(109,φCo)],io:=aT []}
theorem arv:au Tryz.prog GLc:=okΓ (fC Tryz.func107 aij (fC Tryz.func108 agR (fC Tryz.func109 ag6 aj))) aj
def sV:=ah (Γ:=GLc) (f:=107) (φ:=φLb) rfl
def sN:=ah (Γ:=GLc) (f:=108) (φ:=φLk) rfl
def sH:=ah (Γ:=GLc) (f:=109) (φ:=φCo) rfl
theorem ahX:Sound Tryz.prog 92 φLc:=by
 refine ak mixed arv Tryz.func92 rfl 77 rfl [.tmp 10,.cell 11 96] rfl (by kernel_rfl) fun ps r hr=>?_;obtain⟨l,wd,most,⟨n,mk,lk⟩,m,rfl,hq⟩:=aiC hr;clear hr;split at hq
 case isFalse=>cases hq
 case isTrue hpre=>
 cases hq;refine⟨by simp,?_⟩;simp only[dIs,dUs,dSs,bR,bV,bT,bU,aI,bW,aL,aO,aH,aJ];obtain⟨⟨hB,hn0,hn1,hn2⟩,hw,hm,hlk,hmk⟩:=hpre;(try dsimp only at hn0 hn1 hn2 hlk hmk);obtain⟨a,rfl⟩:∃a:Nat,n=(a:Int)-1:=⟨(n+1).toNat,by omega⟩;obtain⟨en,rfl⟩:∃en:Nat,m=en:=⟨m.toNat,by omega⟩;show pq _ _ _ _ _ (bM [eU l,.val (.int .i64 wd),.val (.int .i64 most),as8 ((a:Int)-1,mk,lk),.val (.int .i64 en)]).tm _ _;(try dsimp only);rw[show((a:Int)-1+1).toNat=a by omega,Int.toNat_natCast];have hl:=bC hB;have hel:en<l.length:=by omega
 have ap1:=anh hB (show a≤en by omega) hel hw;have hcst:afZ (l[en]?.getD it0).2.2.2.2.2.1:=(fI hB hel).cost;have hlr:iA l wd most a en=if dH l a en=true∧0≤(gZ l wd a en).1∧(gZ l wd a en).1≤most then some (jY (gZ l wd a en).1 (l[en]?.getD it0).2.2.2.2.2.1,fF (gZ l wd a en).2 (gZ l wd a en).1)else none:=rfl;have hbw:∀k,iI l a en lk k=(if 0<a∧(l[a-1]?.getD it0).2.2.2.2.2.2=true∧(l[en]?.getD it0).2.2.2.2.2.2=true then 3000 else 0)+(if 0<a∧(1<lk-k∨lk-k< -1)then 3000 else 0):=fun k=>rfl;have hmk2:0<a→(l[a-1]?.getD it0).2.2.2.2.2.2=mk:=fun h=>by have:=hmk (by omega);rw[show((a:Int)-1).toNat=a-1 by omega]at this;exact this.symm
 unfold lcR;rw[hlr];clear hlr hmk hn0 hn1 hn2 hB;generalize gZ l wd a en=B at*;obtain⟨bad,st⟩:=B;(try dsimp only at ap1⊢);by_cases hL:dH l a en=true∧0≤bad∧bad≤most
 ·rw[if_pos hL]
  (try dsimp only);obtain⟨h1,h2,h3⟩:=hL;rw[h1,if_pos rfl,Bool.true_and]at ap1;have ap2:=wF (s:=st) (bad:=bad) ⟨h2,by omega⟩;have ap3:=aaF (bad:=bad) ⟨h2,by omega⟩ hcst;have hkr:=lu st bad;have hcr:=mP (bad:=bad) ⟨h2,by omega⟩ hcst;rw[hbw];clear hbw h1 hcst;by_cases h0:0<a
  ·rw[hmk2 h0]
   clear hmk2;generalize hy:l[en]?.getD it0=y at*;obtain⟨y1,y2,y3,y4,y5,y6,y7⟩:=y;(try dsimp only at ap3 hcr⊢);generalize jY bad y6=co at*;generalize fF st bad=k at*;cases mk<;>cases y7<;>by_cases hz:1<lk-k∨lk-k< -1<;>
   ·first
     |rw[if_pos (show 0<a∧(1<lk-k∨lk-k< -1)from⟨h0,hz⟩)]
     |rw[if_neg (show¬(0<a∧(1<lk-k∨lk-k< -1))from fun q=>hz q.2)]
    have glc_c107:=sV;have glc_c108:=sN;have glc_c109:=sH;(refine wlk ?_;intros);refine ng 10 (by simp only[List.map_cons,List.map_nil]<;>exact rfl) (by simp only[List.take_succ_cons,List.take_zero]<;>exact rfl) (by simp only[List.drop_succ_cons,List.drop_zero]<;>exact rfl) aev (by decide+kernel) (by decide+kernel) ?_;(refine wlk ?_;intros);refine aq9 (by(simp(disch:=(first|omega|(simp only[push_cast];first|done|omega))) only[push_cast,↓reduceIte,Nat.reduceEqDiff,Nat.reduceBEq,Nat.reduceAdd,Nat.reduceSub,Int.reduceToNat, *]<;>with_reducible exact rfl)) ?_;((refine wlk6 ?_ ?_ ?_ ?_ ?_ ?_<;>intros<;>try with_reducible exact trivial)<;>(refine fnG ?_;try with_reducible exact trivial));all_goals(simp[h0];try omega)
  ·obtain rfl:a=0:=by omega
   rw[if_neg (fun q=>h0 q.1),if_neg (fun q=>h0 q.1)];clear hmk2;generalize hy:l[en]?.getD it0=y at*;obtain⟨y1,y2,y3,y4,y5,y6,y7⟩:=y;(try dsimp only at ap3 hcr⊢);generalize jY bad y6=co at*;generalize fF st bad=k at*;simp only[Int.natCast_zero,Int.zero_sub]at ap1⊢;have glc_c107:=sV;have glc_c108:=sN;have glc_c109:=sH;(refine wlk ?_;intros);refine ng 10 (by simp only[List.map_cons,List.map_nil]<;>exact rfl) (by simp only[List.take_succ_cons,List.take_zero]<;>exact rfl) (by simp only[List.drop_succ_cons,List.drop_zero]<;>exact rfl) aev (by decide+kernel) (by decide+kernel) ?_;(refine wlk ?_;intros);refine aq9 (by(simp(disch:=(first|omega|(simp only[push_cast];first|done|omega))) only[push_cast,↓reduceIte,Nat.reduceEqDiff,Nat.reduceBEq,Nat.reduceAdd,Nat.reduceSub,Int.reduceToNat, *]<;>with_reducible exact rfl)) ?_;((refine wlk6 ?_ ?_ ?_ ?_ ?_ ?_<;>intros<;>try with_reducible exact trivial)<;>(refine fnG ?_;try with_reducible exact trivial));all_goals(simp;try omega)
 ·rw[if_neg hL]
  (try dsimp only);have hbb:∃b9:Int,φLb [eU l,.val (.int .i64 ((a:Int)-1)),.val (.int .i64 en),.val (.int .i64 wd)]=some (.tup [.val (.int .i64 b9),.val (.bool (dH l a en&&st))])∧(b9<0∨most<b9):=by
   refine⟨_,ap1,?_⟩;split
   ·rename_i h
    by_cases hb0:bad<0
    ·exact .inl hb0
    ·refine .inr ?_
     by_cases hb1:bad≤most
     ·exact absurd ⟨h,by omega,hb1⟩ hL
     ·omega
   ·exact .inl (by decide)
  clear hL ap1 hbw hmk2 hcst;obtain⟨b9,ap1,hb⟩:=hbb;generalize(dH l a en&&st)=q9 at*;rcases hb with hb|hb
  ·have glc_c107:=sV;have glc_c108:=sN;have glc_c109:=sH
   exact wlkF
  ·by_cases h00:b9<0
   ·have glc_c107:=sV;have glc_c108:=sN;have glc_c109:=sH
    exact wlkF
   ·have glc_c107:=sV;have glc_c108:=sN;have glc_c109:=sH
    exact wlkF
theorem aqQ:Tryz.prog.underlying 92=some (.map 96 98):=by kernel_rfl
theorem axH:(96:TypeId)<Tryz.prog.types.size:=of_decide_eq_true (by kernel_rfl)
theorem atN:(match Tryz.prog.underlying 96 with|some (.array _ _)|some (.struct _)=>true|_=>false)=true:=by kernel_rfl
set_option maxRecDepth 100000 in
theorem auB:laidOutB Tryz.prog=true:=by kernel_rfl
set_option maxRecDepth 100000 in
theorem ayb:Tryz.prog.keyTypeAt 3 96=true:=by kernel_rfl
theorem aeD {P:Program} {k:TypeId} (hl:laidOutB P=true) (hrow:k<P.types.size) (hk:P.keyTypeAt 3 k=true) (hwide:(match P.underlying k with|some (.array _ _)|some (.struct _)=>true|_=>false)=true):Go.Maps.Keyed P k:=Go.Maps.Keyed.of_law (deep_law_laid hl (m:=3) (by omega) hrow hk hwide)
set_option maxRecDepth 100000 in
theorem abW:Go.Maps.Keyed Tryz.prog 96:=aeD auB axH ayb atN
abbrev adR (n:Int) (mk:Bool) (lk:Int):Value:=.agg #[.int .i64 n,.bool mk,.int .i64 lk]
def kl1 (n:Int):Option (List Lit):=if IntKind.i64=.i64∧(Lit.int .i64 n).wf=true then some [.int .i64 n]else none
set_option maxRecDepth 100000 in
theorem aeZ (n lk:Int) (mk:Bool):Tryz.prog.keyLits (Tryz.prog.types.size+1) 96 (adR n mk lk).cells.toList=(do let a←kl1 n;let b←some [Lit.bool mk];let c←kl1 lk;pure [a,b,c]:Option (List (List Lit))).map List.flatten:=by kernel_rfl
theorem wz {n lk:Int} {mk:Bool} (h1:okI n) (h2:okI lk):∃l,keyOf Tryz.prog 96 (adR n mk lk)=some l:=by
 have hk:Tryz.prog.keyType 96=true:=by kernel_rfl
 have hf:(adR n mk lk).formed Tryz.prog 96=true:=by
  obtain⟨fs,hu⟩:∃fs,Tryz.prog.underlying 96=some (.struct fs):=⟨_,atE⟩;have hc:Tryz.prog.cellsOf 96=3:=by kernel_rfl
  simp[Value.formed,hu,hc]
 have w1:(Lit.int .i64 n).wf=true:=by show(decide (-9223372036854775808≤n)&&decide (n≤9223372036854775807))=true;simp[h1.1,h1.2]
 have w2:(Lit.int .i64 lk).wf=true:=by show(decide (-9223372036854775808≤lk)&&decide (lk≤9223372036854775807))=true;simp[h2.1,h2.2]
 unfold keyOf;rw[atE];dsimp only
 rw[hk,hf,Bool.and_self,if_pos rfl];rw[aeZ];unfold kl1;rw[if_pos ⟨rfl,w1⟩,if_pos ⟨rfl,w2⟩];exact⟨_,rfl⟩
theorem ao5:aQ Tryz.prog 94 0=some 0:=by kernel_rfl
theorem apU:aQ Tryz.prog 94 1=some 1:=by kernel_rfl
theorem aqD:aQ Tryz.prog 94 2=some 2:=by kernel_rfl
theorem apV:aQ Tryz.prog 94 3=some 3:=by kernel_rfl
theorem au8:aX Tryz.prog 92=some 1:=by kernel_rfl
theorem aue:jC Tryz.prog 92=some false:=by kernel_rfl
attribute[push_cast]
 ao5 apU aqD apV au8 aue
abbrev mkA (l:List It) (a:Nat):Bool:=if a=0 then false else(gI l (a-1)).2.2.2.2.2.2
def chV (l:List It) (a:Nat) (r:Option Ch):Value:=if a=l.length then .agg #[.int .i64 0,.int .i64 0,.bool false,.int .i64 0]else match r with
 |none=> .agg #[.int .i64 (-1),.int .i64 0,.bool false,.int .i64 0]
 |some x=> .agg #[.int .i64 x.1,.int .i64 x.2.1,.bool (gI l x.2.1).2.2.2.2.2.2,.int .i64 x.2.2]
def chP (l:List It) (a:Nat) (r:Option Ch):PV:=if a=l.length then .agg [iv 0,iv 0,bv false,iv 0]else match r with
 |none=> .agg [iv (-1),iv 0,bv false,iv 0]
 |some x=> .agg [iv x.1,iv x.2.1,bv (gI l x.2.1).2.2.2.2.2.2,iv x.2.2]
theorem qI (l:List It) (a:Nat) (r:Option Ch):toVal (chP l a r)=some (chV l a r):=by
 unfold chP chV;split
 ·rfl
 ·cases r<;>rfl
abbrev agU (l:List It) (wd most:Int) (b:Nat):PV:=.ptr false (.agg [eU l,iv wd,iv most,.val (.map (some b))]) 0
def qo (l:List It) (wd most:Int) (L:VL):Prop:=∀p∈L,∃(a:Nat) (lk:Int),a<l.length∧(0≤lk∧lk≤3)∧p.1=adR ((a:Int)-1) (mkA l a) lk∧p.2=chV l a (aP l wd most a lk)
def aC (r:Option Ch):Int:=match r with|none=>-1|some x=>x.1
def aN (r:Option Ch):Int:=match r with|none=>0|some x=>x.2.1
def aM (l:List It) (r:Option Ch):Bool:=match r with|none=>false|some x=>(gI l x.2.1).2.2.2.2.2.2
def aK (r:Option Ch):Int:=match r with|none=>0|some x=>x.2.2
theorem zY {l:List It} {a:Nat} {r:Option Ch} (h:¬a=l.length):chP l a r=.agg [iv (aC r),iv (aN r),bv (aM l r),iv (aK r)]:=by unfold chP;rw[if_neg h];cases r<;>rfl
theorem ajK (l:List It) (a:Nat) (lk wd most:Int):∃c n m k,chP l a (aP l wd most a lk)=.agg [iv c,iv n,bv m,iv k]∧((aP l wd most a lk=none∧c=-1)∨∃r,aP l wd most a lk=some r∧c=r.1):=by
 by_cases h:a=l.length
 ·subst h
  exact⟨0,0,false,0,if_pos rfl,.inr ⟨_,og _ _ _ _,rfl⟩⟩
 ·refine⟨_,_,_,_,zY h,?_⟩
  cases hr:aP l wd most a lk with
  |none=>exact .inl ⟨rfl,rfl⟩
  |some r=>exact .inr ⟨r,rfl,rfl⟩
theorem ajj {n:Nat} {ob:bn} (l:List It) (wd most:Int) (b:Nat):reify false n ob 8 (agU l wd most b)=some (agU l wd most b):=by
 have h1:reify false n ob 6 (eU l)=some (eU l):=by(simp(disch:=(first|omega|(simp only[push_cast];first|done|omega))) only[push_cast,↓reduceIte,Nat.reduceEqDiff,Nat.reduceBEq,Nat.reduceAdd,Nat.reduceSub,Int.reduceToNat, *]<;>with_reducible exact rfl)
 show(if false=true∧false=false then none else(([eU l,iv wd,iv most,.val (.map (some b))].mapM (reify false n ob 6)).map PV.agg).map (PV.ptr false · 0))=_;rw[if_neg (by decide)];simp only[List.mapM_cons,List.mapM_nil,h1];rfl
attribute[push_cast]
 ajj
theorem HY.aw2 {P:Program} {k:TypeId} {N B:Nat} {w00:World} {Γ:Ctx} {K:X→AS→Sg→Prop} {s:AS} {b:Nat} {L:VL} {id:Nat} (n:Nat) {os pre:List Oper} {t e:TypeId} {x y z:Operand} {ty:Nat} {pos:String} {af:Array Edge} (hm:P.follows .mixedOrders=true) (hΓ:au P Γ) (Ky:Go.Maps.Keyed P k) (ht:P.underlying t=some (.map k e))
 (h1:os.take n=pre) (h2:os.drop n=[{dst:=none,op:=.mapUpdate t x y z,type:=ty,pos:=pos,after:=af,guard:=none}]) {gs:List (Option Nat)} (hgs:os.map (·.dst)=gs) (hd:os.toArray.all (fZ N)=true) (hok:oo Γ (alS true os.toArray) os.toArray=true) (hlast:(List.range n).all (fun i=>p9 os.toArray os.toArray.size i n)=true) (hn:pre.length=n)
 (hp:wq P Γ (alS true os.toArray) gs pre (fun s1=>∃key val kl,look s1.tm x=.val (.map (some b))∧toVal (look s1.tm y)=some key∧toVal (look s1.tm z)=some val∧keyOf P k key=some kl∧∀L',Upd L key val L'→K .normal s1 (some (b,L'))) s.tm s.ob s.nx):HY P k N B w00 (.region id os.toArray true) K s (some (b,L)):=
 HY.ayn hm hΓ Ky ht hd hok hlast (show os=pre++_ by rw[←h1,←h2,List.take_append_drop]) hn rfl rfl rfl hgs hp
theorem qo.upd {l:List It} {wd most:Int} {L L':VL} {a:Nat} {lk:Int} (h:qo l wd most L) (ha:a<l.length) (hk:0≤lk∧lk≤3) (hu:Upd L (adR ((a:Int)-1) (mkA l a) lk) (chV l a (aP l wd most a lk)) L'):qo l wd most L':=by
 cases hu with
 |new h1=>
  intro p hp;rcases List.mem_append.1 hp with hp|hp
  ·exact h p hp
  ·rw[List.mem_singleton.1 hp]
   exact⟨a,lk,ha,hk,rfl,rfl⟩
 |old h1=>
  subst h1;intro p hp;rcases List.mem_append.1 hp with hp|hp
  ·exact h p (List.mem_append.2 (.inl hp))
  ·rcases List.mem_cons.1 hp with rfl|hp
   ·exact⟨a,lk,ha,hk,rfl,rfl⟩
   ·exact h p (List.mem_append.2 (.inr (List.mem_cons_of_mem _ hp)))
def avp:Ctx:={fn:=aT [(92,φLc)],io:=aT []}
theorem bQ:au Tryz.prog avp:=okΓ (fC Tryz.func92 ahX aj) aj
def ao0:=ah (Γ:=avp) (f:=92) (φ:=φLc) rfl
set_option maxRecDepth 100000 in
theorem akb {l:List It} {wd most:Int} (hl:aS l=true) (hpos:0<l.length) (hw:0≤wd∧wd≤1000) (hm:0≤most∧most≤10000):∀(n a:Nat) (lk:Int),l.length-a=n→a≤l.length→(0≤lk∧lk≤3)→∀(b:Nat) (L:VL),qo l wd most L→
 ∀(w:World) (Jm:Nat→Prop) (args:Array Value),(∀i,Jm i→i<w.heap.size∧i≠b)→bI (kG Jm) w [agU l wd most b,as8 ((a:Int)-1,mkA l a,lk)] args.toList→lS Tryz.prog 96 w b L→jv w (fun i=>i=b)→
 Calls Tryz.prog 71 args w fun e w'=>∃p v L',e=.returned v∧(∀(g:Gh) (w:World),Rep g w p v)∧w.grownBy w' (some b)∧lS Tryz.prog 96 w' b L'∧(p=chP l a (aP l wd most a lk)∧qo l wd most L'):=by
 intro n
 induction n using Nat.strongRecOn with
 |_ n ih=>
 intro a lk hn ha hlk b L hL w Jm args hJ hargs hM hT;have hlen:=bC hl;refine HY.calls (N:=99) (rs:=[.cell 4 98]) (R:=fun p L'=>p=chP l a (aP l wd most a lk)∧qo l wd most L') Tryz.func71 rfl rfl rfl (by simp) hJ hargs hM hT (HY.start ?_);refine HY.seq (HY.eng mixed bQ (by kernel_rfl) ?_);(try dsimp only);(refine wlk ?_;intros);refine HY.seq (HY.eng mixed bQ (by kernel_rfl) ?_);(try dsimp only);have hll:((l.map fE).length:Int)=(l.length:Int):=by simp
 have IH:=Lib.hid ih;have HL:=Lib.hid hL;clear ih hL hJ hargs hM hT;by_cases han:a=l.length
 ·have hch:chP l a (aP l wd most a lk)=.agg [iv 0,iv 0,bv false,iv 0]:=if_pos han
  have hv:=qI l a (aP l wd most a lk);generalize mkA l a=mk;subst han;(refine wlk ?_;intros);dsimp only
  refine⟨.inr rfl,_,_,L,?_,hv,rfl,rfl,HL.out⟩;rw[hch];clear hv hch;exact agr
 have hal:a<l.length:=by omega
 have hkn:okI ((a:Int)-1):=by omega
 have hkk:okI lk:=by omega
 obtain⟨c0,n0,m0,k0,hch⟩:∃c n m k,chP l a (aP l wd most a lk)=.agg [iv c,iv n,bv m,iv k]:=by unfold chP;rw[if_neg han];cases aP l wd most a lk<;>exact⟨_,_,_,_,rfl⟩
 have hv:=qI l a (aP l wd most a lk);rw[hch]at hv;by_cases hit:∃v,(adR ((a:Int)-1) (mkA l a) lk,v)∈L
 ·obtain⟨v,hin⟩:=hit
  obtain⟨a',lk',h1,h2,h3,h4⟩:=HL.out _ hin;obtain⟨rfl,rfl⟩:a'=a∧lk'=lk:=by simp only[adR,Value.agg.injEq]at h3;have:=congrArg Array.toList h3;simp at this;omega
  have h4':v=chV l a' (aP l wd most a' lk'):=h4;subst h4';clear h1 h2 h3 h4;have HIN:=Lib.hid hin;have HCH:=Lib.hid hch;have HV:=Lib.hid hv;clear hin hch hv;generalize mkA l a'=mk at*;(refine wlk ?_;intros);dsimp only
  have hlk:=amb (Γ:=avp) (t:=92) (b:=b) (c:=true) (k0:=adR ((a':Int)-1) mk lk') (p:=.tup [.agg [iv c0,iv n0,bv m0,iv k0],bv true]);refine HY.seq (HY.see (M:=⟨92,b,vk true (adR ((a':Int)-1) mk lk') (.tup [.agg [iv c0,iv n0,bv m0,iv k0],bv true])⟩) mixed bQ rfl ?_ (by kernel_rfl) ?_)
  ·intro key c p hp w1 g1 hM1
   obtain⟨rfl,rfl,rfl⟩:=qY hp;obtain⟨kl,hkl⟩:=wz (mk:=mk) hkn hkk;refine⟨_,hM1.adF abW aqQ true hkl HIN.out,?_⟩;exact acu (tK HV.out) (by simp[Rep])
  (try dsimp only);(refine wlk ?_;intros);refine ng 9 (by simp only[List.map_cons,List.map_nil]<;>exact rfl) (by simp only[List.take_succ_cons,List.take_zero]<;>exact rfl) (by simp only[List.drop_succ_cons,List.drop_zero]<;>exact rfl) aeX (by kernel_rfl) (by kernel_rfl) ?_;(refine wlk ?_;intros);refine aq9 (by(simp(disch:=(first|omega|(simp only[push_cast];first|done|omega))) only[push_cast,↓reduceIte,Nat.reduceEqDiff,Nat.reduceBEq,Nat.reduceAdd,Nat.reduceSub,Int.reduceToNat, *]<;>with_reducible exact rfl)) ?_;(refine wlk ?_;intros);dsimp only
  refine⟨.inr rfl,_,_,L,?_,HV.out,rfl,HCH.out.symm,HL.out⟩;exact agr
 ·have hmiss:∀p∈L,p.1≠adR ((a:Int)-1) (mkA l a) lk:=fun p hp e=>hit ⟨p.2,by rw[←e];exact hp⟩
  have HMI:=Lib.hid hmiss;have HCH:=Lib.hid hch;have HV:=Lib.hid hv;clear hit hch hv hmiss;obtain⟨mk,hmk⟩:∃mk,mk=mkA l a:=⟨_,rfl⟩;rw[←hmk]at HMI⊢;have HMK:=Lib.hid hmk;clear hmk;(refine wlk ?_;intros);dsimp only
  have hlk:=amb (Γ:=avp) (t:=92) (b:=b) (c:=true) (k0:=adR ((a:Int)-1) mk lk) (p:=.tup [.agg [iv 0,iv 0,bv false,iv 0],bv false]);refine HY.seq (HY.see (M:=⟨92,b,vk true (adR ((a:Int)-1) mk lk) (.tup [.agg [iv 0,iv 0,bv false,iv 0],bv false])⟩) mixed bQ rfl ?_ (by kernel_rfl) ?_)
  ·intro key c p hp w1 g1 hM1
   obtain⟨rfl,rfl,rfl⟩:=qY hp;obtain⟨kl,hkl⟩:=wz (mk:=mk) hkn hkk;refine⟨_,hM1.anQ abW aqQ true hkl (lJ aeX w1) HMI.out,?_⟩;exact acu (tK rfl) (by simp[Rep])
  (try dsimp only);(refine wlk ?_;intros);refine ng 9 (by simp only[List.map_cons,List.map_nil]<;>exact rfl) (by simp only[List.take_succ_cons,List.take_zero]<;>exact rfl) (by simp only[List.drop_succ_cons,List.drop_zero]<;>exact rfl) aeX (by kernel_rfl) (by kernel_rfl) ?_;(refine wlk ?_;intros);refine aq9 (by(simp(disch:=(first|omega|(simp only[push_cast];first|done|omega))) only[push_cast,↓reduceIte,Nat.reduceEqDiff,Nat.reduceBEq,Nat.reduceAdd,Nat.reduceSub,Int.reduceToNat, *]<;>with_reducible exact rfl)) ?_;(refine wlk ?_;intros);dsimp only
  clear hlk;refine HY.cut (Lf:=[(0,agU l wd most b),(3,.own 0 3 0 0),(4,.own 1 4 0 0)]) (O:=[(0,96,3,[.agg [iv ((a:Int)-1),bv mk,iv lk]]),(1,98,4,[.agg [iv 0,iv 0,bv false,iv 0]])]) (x:=3) (by exact agr) (by exact agr) rfl ?_;refine HY.seq (HY.eng mixed bQ (by kernel_rfl) ?_);dsimp only
  (refine wlk ?_;intros);dsimp only
  refine HY.seq (HY.seq (HY.eng mixed bQ (by kernel_rfl) ?_));dsimp only
  (refine wlk ?_;intros);dsimp only
  refine HY.block (HY.xW (α:=Nat×Nat) (fun i=>[(0,agU l wd most b),(3,.own 0 3 0 0),(4,.own 1 4 0 0),(7,.own 3 4 0 0),(8,iv ((l.length:Int)-1-i.1))])
   (fun i=>[(0,96,3,[.agg [iv ((a:Int)-1),bv mk,iv lk]]),(1,98,4,[.agg [iv 0,iv 0,bv false,iv 0]]),(3,98,4,[.agg [iv (aC (aZ l wd most a lk (aP l wd most) i.1)),iv (aN (aZ l wd most a lk (aP l wd most) i.1)),bv (aM l (aZ l wd most a lk (aP l wd most) i.1)),iv (aK (aZ l wd most a lk (aP l wd most) i.1))]])])
   (fun i=>i.2) (fun i σ=>i.1≤l.length-a∧4≤i.2∧∃L',σ=some (b,L')∧qo l wd most L') (fun i=>l.length-a-i.1) (0,4) ⟨Nat.zero_le _,Nat.le_refl _,L,rfl,HL.out⟩ ?_ ?_ rfl ?_)
  ·exact agi
  ·simp only[aZ,aC,aN,aM,aK]
   exact agr
  ·rintro⟨j,y⟩ σ ⟨hj,hy,L',rfl,hL'⟩
   dsimp only at hj hy;have HL2:=Lib.hid hL';clear hL';by_cases hja:j<l.length-a
   ·refine HY.seq (HY.eng mixed bQ (by kernel_rfl) ?_)
    obtain⟨en,hen⟩:∃en:Nat,en+1+j=l.length:=⟨l.length-1-j,by omega⟩;have he8:(l.length:Int)-1-(j:Int)=(en:Int):=by omega
    dsimp only
    rw[he8];generalize hR:aZ l wd most a lk (aP l wd most) j=R at*;have HR:=Lib.hid hR;clear hR he8;have hap:avN l wd most ((a:Int)-1,mk,lk) en:=⟨⟨hl,by dsimp only;omega,by dsimp only;omega,by omega⟩,hw,hm,hlk,fun h0=>by have:=HMK.out;dsimp only at h0⊢;rw[this];unfold mkA;rw[if_neg (by omega),show((a:Int)-1).toNat=a-1 by omega]⟩
    have ap:=anJ hap;clear hap;generalize hE:lcR l wd most a en lk=E at*;obtain⟨c9,e9,m9,k9⟩:=E;have HE:=Lib.hid hE;clear hE;dsimp only at ap;have hy1:¬y=0:=by omega
    have hy2:¬y=1:=by omega
    have hy3:¬y=3:=by omega
    have gbst_c92:=ao0;(refine wlk ?_;intros);dsimp only
    refine HY.seq (HY.block (HY.seq (HY.eng mixed bQ (by kernel_rfl) ?_)));dsimp only
    (refine wlk ?_;intros);refine ng 18 (by simp only[List.map_cons,List.map_nil]<;>exact rfl) (by simp only[List.take_succ_cons,List.take_zero]<;>exact rfl) (by simp only[List.drop_succ_cons,List.drop_zero]<;>exact rfl) aev (by kernel_rfl) (by kernel_rfl) ?_;(refine wlk ?_;intros);refine aq9 (by(simp(disch:=(first|omega|(simp only[push_cast];first|done|omega))) only[push_cast,↓reduceIte,Nat.reduceEqDiff,Nat.reduceBEq,Nat.reduceAdd,Nat.reduceSub,Int.reduceToNat, *]<;>with_reducible exact rfl)) ?_;(refine wlk ?_;intros);dsimp only
    refine HY.cut (Lf:=[(0,agU l wd most b),(3,.own 0 3 0 0),(4,.own 1 4 0 0),(7,.own 3 4 0 0),(8,iv (en:Int)),(9,iv c9),(10,.own y 3 0 0)]) (O:=[(0,96,3,[.agg [iv ((a:Int)-1),bv mk,iv lk]]),(1,98,4,[.agg [iv 0,iv 0,bv false,iv 0]]),(3,98,4,[.agg [iv (aC R),iv (aN R),bv (aM l R),iv (aK R)]]),(y,96,3,[.agg [iv e9,bv m9,iv k9]])]) (x:=y+1) (by exact agr) (by exact agr) rfl ?_;have hbn:∀z,gL l wd most a lk (aP l wd most) R en=z→aZ l wd most a lk (aP l wd most) (j+1)=z:=fun z hz=>by rw[aZ,show l.length-(j+1)=en by omega,HR.out,hz]
    clear ap;cases hL:iA l wd most a en with
    |none=>
     have hE2:=HE.out;unfold lcR at hE2;rw[hL]at hE2;cases hE2;have hN:=Lib.hid (hbn _ (iy hL));clear hbn hL;refine HY.seq (HY.eng mixed bQ (by kernel_rfl) ?_);(refine wlk ?_;intros);refine HY.eng mixed bQ (by kernel_rfl) ?_;dsimp only
     (refine wlk ?_;intros);(try dsimp only);refine⟨(j+1,y+1),⟨by dsimp only;omega,by dsimp only;omega,L',rfl,HL2.out⟩,by dsimp only;omega,?_,?_,rfl⟩
     ·dsimp only
      exact agi
     ·dsimp only
      rw[hN.out];exact agr
    |some ck=>
     obtain⟨c,k⟩:=ck;have hE2:=HE.out;unfold lcR at hE2;rw[hL]at hE2;obtain⟨⟨-,-⟩,g2,g3⟩:=nA hl hm.2 hL;have g4:=lg l a en lk k;dsimp only at hE2 g2 g3;have hmn:mkA l (en+1)=(l[en]?.getD it0).2.2.2.2.2.2:=rfl;have IHn:=IH.out (l.length-(en+1)) (by omega) (en+1) k rfl (by omega) g3 b L' HL2.out;rw[show((en+1:Nat):Int)-1=(en:Int) by omega,hmn]at IHn;simp only[Prod.mk.injEq]at hE2;obtain⟨rfl,rfl,rfl,rfl⟩:=hE2;have hc9:0≤c+iI l a en lk k∧c+iI l a en lk k≤400000000:=by omega
     have hbs:=fun r (h2:aP l wd most (en+1) k=some r)=>hbn _ (jR hL h2);have hbd:=fun(h2:aP l wd most (en+1) k=none)=>hbn _ (jI hL h2);have hbr:=fun r (h2:aP l wd most (en+1) k=some r)=>dh hl hm.2 (show en+1≤l.length by omega) h2;have hRr:∀x,R=some x→0≤x.1∧x.1≤20000000000:=fun x hx=>(oK (a:=a) hl hm.2 hal (HR.out.trans hx)).1;have hcp:=ajK l (en+1) k wd most;clear hbn g2 g4;generalize hc8:c+iI l a en lk k=c9 at*;generalize hme:(l[en]?.getD it0).2.2.2.2.2.2=m9 at*;generalize aP l wd most (en+1) k=rr at*;have HME:=Lib.hid hme;have HB:=Lib.hid (And.intro hbs (And.intro hbd (And.intro hbr hRr)));have HIH:=Lib.hid IHn;clear hc8 hL HE hme hbs hbd hbr hRr IHn hmn;obtain⟨c2,n2,m2,k2,hp2,hc2⟩:=hcp;have HC2:=Lib.hid hc2;have HP2:=Lib.hid hp2;clear hc2 hp2;refine HY.seq (HY.eng mixed bQ (by kernel_rfl) ?_);(refine wlk ?_;intros);refine HY.seq (HY.each (HO.pre (imm:=⟨[],[],[]⟩) 2 bQ (by kernel_rfl) (by simp only[List.take_succ_cons,List.take_zero]<;>exact rfl) (by simp only[List.drop_succ_cons,List.drop_zero]<;>exact rfl) (by simp only[List.map_cons,List.map_nil]<;>exact rfl) ?_));(refine wlk ?_;intros);refine HO.call (ps:=[agU l wd most b,.agg [iv (en:Int),bv m9,iv k]]) (R:=fun p L'=>p=chP l (en+1) rr∧qo l wd most L') rfl rfl ⟨_,Tryz.func71,rfl,rfl⟩ rfl ?_ ?_ HIH.out ?_
     ·intro x e
      cases e;decide
     ·dsimp only
      (simp(disch:=(first|omega|(simp only[push_cast];first|done|omega))) only[push_cast,↓reduceIte,Nat.reduceEqDiff,Nat.reduceBEq,Nat.reduceAdd,Nat.reduceSub,Int.reduceToNat, *]<;>with_reducible exact rfl)
     ·rintro p L3 ⟨rfl,hL3⟩
      rw[HP2.out];have HL3:=Lib.hid hL3;clear hL3;refine HO.pre (imm:=⟨[],[],[]⟩) 2 bQ (by kernel_rfl) (by simp only[List.take_succ_cons,List.take_zero]<;>exact rfl) (by simp only[List.drop_succ_cons,List.drop_zero]<;>exact rfl) (by simp only[List.map_cons,List.map_nil]<;>exact rfl) ?_;dsimp only[AS.put];(refine wlk ?_;intros);refine HO.nil ?_;refine HY.cut (Lf:=[(0,agU l wd most b),(3,.own 0 3 0 0),(4,.own 1 4 0 0),(7,.own 3 4 0 0),(8,iv (en:Int)),(9,iv c9),(10,.own y 3 0 0),(11,.own (y+1) 4 0 0)]) (O:=[(0,96,3,[.agg [iv ((a:Int)-1),bv mk,iv lk]]),(1,98,4,[.agg [iv 0,iv 0,bv false,iv 0]]),(3,98,4,[.agg [iv (aC R),iv (aN R),bv (aM l R),iv (aK R)]]),(y,96,3,[.agg [iv (en:Int),bv m9,iv k]]),(y+1,98,4,[.agg [iv c2,iv n2,bv m2,iv k2]])]) (x:=y+2) (by exact agr) (by exact agr) rfl ?_;rcases HC2.out with⟨hr,rfl⟩|⟨r,hr,rfl⟩
      ·have hN:=Lib.hid (HB.out.2.1 hr)
       clear hr;refine HY.eng mixed bQ (by kernel_rfl) ?_;(refine wlk ?_;intros);refine HY.eng mixed bQ (by kernel_rfl) ?_;dsimp only
       (refine wlk ?_;intros);(try dsimp only);refine⟨(j+1,y+2),⟨by dsimp only;omega,by dsimp only;omega,L3,rfl,HL3.out⟩,by dsimp only;omega,?_,?_,rfl⟩
       ·dsimp only
        exact agi
       ·dsimp only
        rw[hN.out];(try simp only[aC,aN,aM,aK,HME.out]);exact agr
      ·have hN1:=HB.out.1 r hr
       have hr1:=(HB.out.2.2.1 r hr).1;have hRR:=HB.out.2.2.2;clear hr;generalize r.1=r1 at*;cases R with
       |none=>
        have hN:=Lib.hid (hN1.trans (if_pos rfl));clear hN1 hRR;dsimp only[aC,aN,aM,aK];refine HY.eng mixed bQ (by kernel_rfl) ?_;(refine wlk ?_;intros);refine HY.eng mixed bQ (by kernel_rfl) ?_;dsimp only
        (refine wlk ?_;intros);(try dsimp only);refine⟨(j+1,y+2),⟨by dsimp only;omega,by dsimp only;omega,L3,rfl,HL3.out⟩,by dsimp only;omega,?_,?_,rfl⟩
        ·dsimp only
         exact agi
        ·dsimp only
         rw[hN.out];(try simp only[aC,aN,aM,aK,HME.out]);exact agr
       |some x=>
        have hx1:=hRR x rfl;clear hRR;obtain⟨x1,x2,x3⟩:=x;dsimp only at hx1;dsimp only[aC,aN,aM,aK];by_cases hlt:c9+r1<x1
        ·have hN:=Lib.hid (hN1.trans (if_pos (by simpa using hlt)))
         clear hN1;refine HY.eng mixed bQ (by kernel_rfl) ?_;(refine wlk ?_;intros);refine HY.eng mixed bQ (by kernel_rfl) ?_;dsimp only
         (refine wlk ?_;intros);(try dsimp only);refine⟨(j+1,y+2),⟨by dsimp only;omega,by dsimp only;omega,L3,rfl,HL3.out⟩,by dsimp only;omega,?_,?_,rfl⟩
         ·dsimp only
          exact agi
         ·dsimp only
          rw[hN.out];(try simp only[aC,aN,aM,aK,HME.out]);exact agr
        ·have hN:=Lib.hid (hN1.trans (if_neg (by simpa using hlt)))
         clear hN1;refine HY.eng mixed bQ (by kernel_rfl) ?_;(refine wlk ?_;intros);refine HY.eng mixed bQ (by kernel_rfl) ?_;dsimp only
         (refine wlk ?_;intros);(try dsimp only);refine⟨(j+1,y+2),⟨by dsimp only;omega,by dsimp only;omega,L3,rfl,HL3.out⟩,by dsimp only;omega,?_,?_,rfl⟩
         ·dsimp only
          exact agi
         ·dsimp only
          rw[hN.out];(try simp only[aC,aN,aM,aK,HME.out]);exact agr
   ·refine HY.seq (HY.eng mixed bQ (by kernel_rfl) ?_)
    obtain rfl:j=l.length-a:=by omega
    have hR:=(lI (wd:=wd) (most:=most) (lk:=lk) hal).symm;dsimp only
    rw[hR,show(l.length:Int)-1-((l.length-a:Nat):Int)=(a:Int)-1 by omega];generalize hrr:aP l wd most a lk=R at*;have HRR:=Lib.hid hrr;clear hR hrr;obtain⟨kl,hkl⟩:=wz (mk:=mk) hkn hkk;have HKL:=Lib.hid hkl;clear hkl;(refine wlk ?_;intros);refine HY.seq (HY.aw2 6 mixed bQ abW aqQ (by simp only[List.take_succ_cons,List.take_zero]<;>exact rfl) (by simp only[List.drop_succ_cons,List.drop_zero]<;>exact rfl) (by simp only[List.map_cons,List.map_nil]<;>exact rfl) (by kernel_rfl) (by kernel_rfl) (by kernel_rfl) rfl ?_);(try dsimp only);(refine wlk ?_;intros);refine⟨adR ((a:Int)-1) mk lk,chV l a R,kl,by(simp(disch:=(first|omega|(simp only[push_cast];first|done|omega))) only[push_cast,↓reduceIte,Nat.reduceEqDiff,Nat.reduceBEq,Nat.reduceAdd,Nat.reduceSub,Int.reduceToNat, *]<;>with_reducible exact rfl),?_,?_,HKL.out,fun L9 hu=>?_⟩
    ·refine Eq.trans (congrArg toVal (show _=PV.agg [iv ((a:Int)-1),bv mk,iv lk] by(simp(disch:=(first|omega|(simp only[push_cast];first|done|omega))) only[push_cast,↓reduceIte,Nat.reduceEqDiff,Nat.reduceBEq,Nat.reduceAdd,Nat.reduceSub,Int.reduceToNat, *]<;>with_reducible exact rfl))) rfl
    ·refine Eq.trans (congrArg toVal (show _=chP l a R by rw[zY han];(simp(disch:=(first|omega|(simp only[push_cast];first|done|omega))) only[push_cast,↓reduceIte,Nat.reduceEqDiff,Nat.reduceBEq,Nat.reduceAdd,Nat.reduceSub,Int.reduceToNat, *]<;>with_reducible exact rfl))) (qI l a R)
    have hG:qo l wd most L9:=HL2.out.upd hal hlk (by rw[←HMK.out,HRR.out];exact hu);replace hG:=Lib.hid hG;clear hu;(try dsimp only);refine HY.seq (HY.eng mixed bQ (by kernel_rfl) ?_);(try dsimp only);(refine wlk ?_;intros);refine HY.eng mixed bQ (by kernel_rfl) ?_;(refine wlk ?_;intros);(try dsimp only);refine⟨.inr rfl,_,_,L9,?_,qI l a R,rfl,rfl,hG.out⟩;rw[zY han];exact agr
def φBb:Fun:=F3 lV dI dI fun l wd most=>if adY l then some (.tup [.lst true 1 ((aoP l wd most).map fun n=> .val (.int .i64 n)),bv (jo l wd most)])else none
theorem ahT {l:List It} {wd most:Int} (h:adY l):φBb [eU l,.val (.int .i64 wd),.val (.int .i64 most)]=some (.tup [.lst true 1 ((aoP l wd most).map fun n=> .val (.int .i64 n)),.val (.bool (jo l wd most))]):=(yX (A:=lV) (B:=dI) (C:=dI) l wd most).trans (if_pos h)
theorem jN {l:List It} {wd most:Int} {a j en:Nat} (he:l.length-(j+1)=en) (h:iA l wd most a en=none) (k:Int):aZ l wd most a k (aP l wd most) (j+1)=aZ l wd most a k (aP l wd most) j:=by rw[aZ,he,iy h]
theorem tQ {l:List It} {wd most:Int} {a j en:Nat} {x:Int×Int} (he:l.length-(j+1)=en) (h:iA l wd most a en=some x) (h2:aP l wd most (en+1) x.2=none) (k:Int):aZ l wd most a k (aP l wd most) (j+1)=aZ l wd most a k (aP l wd most) j:=by rw[aZ,he,jI h h2]
theorem tu {l:List It} {wd most:Int} {a j en:Nat} {x:Int×Int} {r:Ch} (he:l.length-(j+1)=en) (h:iA l wd most a en=some x) (h2:aP l wd most (en+1) x.2=some r) (k:Int):
 aZ l wd most a k (aP l wd most) (j+1)=if(aZ l wd most a k (aP l wd most) j).all (fun y=>decide (x.1+iI l a en k x.2+r.1<y.1))=true then some (x.1+iI l a en k x.2+r.1,en,x.2)else aZ l wd most a k (aP l wd most) j:=by
 rw[aZ,he,jR h h2]
theorem za {l:List It} {wd most:Int} {a en:Nat} (h:dH l a en=true) (h2:0≤(gZ l wd a en).1∧(gZ l wd a en).1≤most):iA l wd most a en=some (jY (gZ l wd a en).1 (gI l en).cost,fF (gZ l wd a en).2 (gZ l wd a en).1):=if_pos ⟨h,h2⟩
def g0 (n k:Nat):Nat→Nat→Bool:=fun i j=>decide (i=n∧j<k)
theorem anL (n:Nat):tab n (g0 n 0)=tab n (fun _ _=>false):=gX fun i j _ _=>by simp[g0]
theorem anW (n k:Nat):tab n (uI (g0 n k) n k true)=tab n (g0 n (k+1)):=gX fun i j _ _=>by
 unfold uI g0;by_cases h:i=n∧j=k
 ·rw[if_pos h,decide_eq_true (by omega)]
 ·rw[if_neg h]
  congr 1;apply propext;omega
theorem ayf (l:List It) (wd most:Int):tab l.length (tB (tbA l wd most l.length))=tab l.length (fun _ _=>0)∧tab l.length (tG (tbA l wd most l.length))=tab l.length (g0 l.length 4)∧tab l.length (tN (tbA l wd most l.length))=tab l.length (fun _ _=>0):=
 ⟨gX fun i k h1 h2=>by
   unfold tB;rw[ab0 i k h1 h2];split<;>rfl,
   gX fun i k h1 h2=>by
    unfold tG;rw[ab0 i k h1 h2];unfold g0;split
    ·rw[decide_eq_true (by omega)];rfl
    ·rw[decide_eq_false (by omega)];rfl,
   gX fun i k h1 h2=>by unfold tN;rw[ab0 i k h1 h2];split<;>rfl⟩
theorem zT {l:List It} {wd most:Int} {a en:Nat} (h:dH l a en=false):iA l wd most a en=none:=if_neg fun q=>by rw[h]at q;cases q.1
theorem yB {l:List It} {wd most:Int} {a en:Nat} (h:¬(0≤(gZ l wd a en).1∧(gZ l wd a en).1≤most)):iA l wd most a en=none:=if_neg fun q=>h q.2
def GBb:Ctx:={fn:=aT [(77,wT),(48,φIn),(78,φBq),(79,φLq),(80,φBd),(81,φLk),(82,φCo),(83,φBw)],io:=aT []}
theorem asy:au Tryz.prog GBb:=okΓ (fC Tryz.func77 ad3 (fC Tryz.func48 gB (fC Tryz.func78 zu (fC Tryz.func79 agJ (fC Tryz.func80 ah3 (fC Tryz.func81 aiI (fC Tryz.func82 ahl (fC Tryz.func83 afW aj)))))))) aj
def yI:=ah (Γ:=GBb) (f:=77) (φ:=wT) rfl
def zO:=ah (Γ:=GBb) (f:=48) (φ:=φIn) rfl
def yF:=ah (Γ:=GBb) (f:=78) (φ:=φBq) rfl
def yU:=ah (Γ:=GBb) (f:=79) (φ:=φLq) rfl
def yV:=ah (Γ:=GBb) (f:=80) (φ:=φBd) rfl
def aad:=ah (Γ:=GBb) (f:=81) (φ:=φLk) rfl
def zh:=ah (Γ:=GBb) (f:=82) (φ:=φCo) rfl
def z8:=ah (Γ:=GBb) (f:=83) (φ:=φBw) rfl
theorem ag5:Sound Tryz.prog 63 φBb:=by
 refine ak mixed asy Tryz.func63 rfl 218 rfl [.tmp 6,.tmp 7] rfl (by kernel_rfl) fun ps r hr=>?_;obtain⟨l,wd,most,rfl,hpre,rfl⟩:=wI hr;refine⟨by simp,?_⟩;simp only[dIs,dUs,dSs,bR,bV,bT,bU,aI,bW,aL,aO,aH,aJ];have apv:=wB hpre;have api:=bJ;have hl0:l.length≤1000:=hpre;show pq _ _ _ _ _ (bM [eU l,.val (.int .i64 wd),.val (.int .i64 most)]).tm _ _;unfold aoP;by_cases hg:aS l=true∧0<l.length∧(0≤wd∧wd≤1000)∧(0≤most∧most≤10000)
 ·obtain⟨hB,hn,hw,hm⟩:=hg
  have hl:=bC hB;have hok:jo l wd most=(aP l wd most 0 1).isSome:=by unfold jo;rw[hB,decide_eq_true hn,ay.2 hw,ay.2 hm];rfl
  rw[hok];clear hok hpre;rw[hB]at apv;have api1:inB wd 0 1000=true:=ay.2 hw;have api2:inB most 0 10000=true:=ay.2 hm;have gbb_c77:=yI;have gbb_c48:=zO;have gbb_c78:=yF;have gbb_c79:=yU;have gbb_c80:=yV;have gbb_c81:=aad;have gbb_c82:=zh;have gbb_c83:=z8;(refine wlk ?_;intros);obtain⟨t1,t2,t3⟩:=ayf l wd most;refine aF (α:=Nat) mixed (fun k=>[(0,eU l),(1,iv wd),(2,iv most),(8,.row 0 1 0 0),(9,iv l.length),(10,.row 1 4 0 (l.length+1)),(11,.row 2 4 0 (l.length+1)),(12,.row 3 4 0 (l.length+1)),(13,iv k)])
   (fun k=>[(0,3,1,[]),(1,110,4,(tab l.length fun _ _=>0).map aaq),(2,104,4,(tab l.length (g0 l.length k)).map ak4),(3,110,4,(tab l.length fun _ _=>0).map aaq)]) (fun _=>4)
   (fun k=>k≤4) (fun k=>4-k) (by kernel_rfl) 0 (Nat.zero_le _) ?_ ?_ rfl ?_
  ·exact agr
  ·simp(disch:=(first|omega|(simp only[push_cast];first|done|omega))) only[push_cast,↓reduceIte,Nat.reduceEqDiff,Nat.reduceBEq,Nat.reduceAdd,Nat.reduceSub,Int.reduceToNat,anL, *]
  intro k hk;by_cases hk4:k<4
  ·have hs:=anW l.length k
   clear t1 t2 t3;(refine wlk ?_;intros);refine⟨k+1,by omega,by dsimp only;omega,?_,?_,rfl⟩
   ·exact agr
   ·exact agr
  obtain rfl:k=4:=by omega
  (refine wlk ?_;intros);refine aF (α:=Nat×Int) mixed (fun z=>[(0,eU l),(1,iv wd),(2,iv most),(8,.row 0 1 0 0),(9,iv l.length),(10,.row 1 4 0 (l.length+1)),(11,.row 2 4 0 (l.length+1)),(12,.row 3 4 0 (l.length+1)),(14,iv z.2)])
   (fun z=>[(0,3,1,[]),(1,110,4,(tab l.length (tB (tbA l wd most z.1))).map aaq),(2,104,4,(tab l.length (tG (tbA l wd most z.1))).map ak4),(3,110,4,(tab l.length (tN (tbA l wd most z.1))).map aaq)]) (fun _=>4)
   (fun z=>z.1≤l.length∧z.2=(z.1:Int)-2) (fun z=>z.1) (by kernel_rfl) (l.length,(l.length:Int)-2) ⟨Nat.le_refl _,rfl⟩ ?_ ?_ rfl ?_
  ·exact agr
  ·exact agr
  clear t1 t2 t3 hk hk4;rintro⟨m,v⟩ ⟨hml,hv⟩;dsimp only at hml hv;by_cases h1:1≤m
  ·obtain⟨a,rfl⟩:∃a,m=a+1:=⟨m-1,by omega⟩
   obtain rfl:v=(a:Int)-1:=by omega
   clear hv h1;have hal:a<l.length:=by omega
   have hcan:(a:Int)-1+1=a:=by omega
   by_cases hskip:0<a∧mg l (a-1)=false
   ·obtain⟨ha0,hbq⟩:=hskip
    have apq:=vw (n:=a-1) hB (by omega);rw[hbq,show((a-1:Nat):Int)=(a:Int)-1 by omega]at apq;have hE:=Lib.hid (bE (ajW (wd:=wd) (most:=most) hal ha0 hbq));clear hbq;(refine wlk ?_;intros);refine⟨(a,(a:Int)-1-1),⟨by dsimp only;omega,by dsimp only;omega⟩,by dsimp only;omega,?_,?_,rfl⟩
    ·exact agr
    ·obtain⟨e1,e2,e3⟩:=hE.out
     exact agr
   ·have hgo:0<a→φBq [eU l,.val (.int .i64 ((a:Int)-1))]=some (.val (.bool true)):=fun ha0=>by
     have apq:=vw (n:=a-1) hB (by omega);rw[show((a-1:Nat):Int)=(a:Int)-1 by omega]at apq;rw[apq];cases hb:mg l (a-1)with
     |true=>rfl
     |false=>exact absurd ⟨ha0,hb⟩ hskip
    clear hskip;by_cases ha0:0<a
    ·have apq:=hgo ha0
     clear hgo;(refine wlk ?_;intros);refine aF (α:=Nat×Int) mixed (fun z=>[(0,eU l),(1,iv wd),(2,iv most),(8,.row 0 1 0 0),(9,iv l.length),(10,.row 1 4 0 (l.length+1)),(11,.row 2 4 0 (l.length+1)),(12,.row 3 4 0 (l.length+1)),(14,iv ((a:Int)-1)),(15,iv z.2)])
      (fun z=>[(0,3,1,[]),(1,110,4,(tab l.length (tB (tbJ l wd most a z.1))).map aaq),(2,104,4,(tab l.length (tG (tbJ l wd most a z.1))).map ak4),(3,110,4,(tab l.length (tN (tbJ l wd most a z.1))).map aaq)]) (fun _=>4)
      (fun z=>z.1+a≤l.length∧z.2=(l.length:Int)-1-z.1) (fun z=>l.length-z.1) (by kernel_rfl) (0,(l.length:Int)-1) ⟨by dsimp only;omega,by simp⟩ ?_ ?_ rfl ?_
     ·exact agr
     ·obtain⟨e1,e2,e3⟩:=bE (acA (l:=l) (wd:=wd) (most:=most) (a:=a))
      exact agr
     rintro⟨j,u⟩ ⟨hj,hu⟩;dsimp only at hj hu;by_cases h2:j+a<l.length
     ·obtain⟨en,rfl⟩:∃en:Nat,u=en:=⟨u.toNat,by omega⟩
      have he:l.length-(j+1)=en:=by omega
      have hu1:(en:Int)≤l.length-1-j:=by omega
      have hu2:(l.length:Int)-1-j≤en:=by omega
      replace he:=Lib.hid he;clear hu;have hae:a≤en:=by omega
      have hel:en<l.length:=by omega
      have apl:=ahQ hB hae hel;have hskip:(∀k:Int,aZ l wd most a k (aP l wd most) (j+1)=aZ l wd most a k (aP l wd most) j)→tab l.length (tB (tbJ l wd most a j))=tab l.length (tB (tbJ l wd most a (j+1)))∧tab l.length (tG (tbJ l wd most a j))=tab l.length (tG (tbJ l wd most a (j+1)))∧tab l.length (tN (tbJ l wd most a j))=tab l.length (tN (tbJ l wd most a (j+1))):=fun h=>bE (adr h);cases hq:dH l a en with
      |false=>
       rw[hq]at apl;have hE:=Lib.hid (hskip (jN he.out (zT hq)));clear hskip hq;(refine wlk ?_;intros);refine⟨(j+1,(en:Int)-1),⟨by dsimp only;omega,by dsimp only;omega⟩,by dsimp only;omega,?_,?_,rfl⟩
       ·exact agr
       ·obtain⟨e1,e2,e3⟩:=hE.out
        exact agr
      |true=>
      rw[hq]at apl;have hst:=(eX.1 hq).2.2.2.1;have apb:=abR hB hae hel hw hst;by_cases hb:0≤(gZ l wd a en).1∧(gZ l wd a en).1≤most
      ·have hcst:afZ (l[en]?.getD it0).2.2.2.2.2.1:=(fI hB hel).cost
       have hL:iA l wd most a en=some (jY (gZ l wd a en).1 (l[en]?.getD it0).2.2.2.2.2.1,fF (gZ l wd a en).2 (gZ l wd a en).1):=za hq hb;clear hq hst;generalize gZ l wd a en=bd at*;obtain⟨bad,st⟩:=bd;dsimp only at hb hL apb;have apk:=wF (s:=st) (bad:=bad) ⟨hb.1,by omega⟩;have apc:=aaF (bad:=bad) ⟨hb.1,by omega⟩ hcst;have hcr:=mP (bad:=bad) ⟨hb.1,by omega⟩ hcst;have hkr:=lu st bad;obtain⟨kk,hkk⟩:∃kk:Nat,fF st bad=kk:=⟨(fF st bad).toNat,by omega⟩;rw[hkk]at hL apk hkr;clear hkk hcst;cases hr:aP l wd most (en+1) kk with
       |none=>
        have hG:tG (tbJ l wd most a j) (en+1) kk=false:=by unfold tG;rw[jm (by omega),hr];rfl
        have hE:=Lib.hid (hskip (tQ he.out hL hr));clear hskip hL hr;(refine wlk ?_;intros);refine⟨(j+1,(en:Int)-1),⟨by dsimp only;omega,by dsimp only;omega⟩,by dsimp only;omega,?_,?_,rfl⟩
        ·exact agr
        ·obtain⟨e1,e2,e3⟩:=hE.out
         exact agr
       |some r=>
        have hG:tG (tbJ l wd most a j) (en+1) kk=true:=by unfold tG;rw[jm (by omega),hr];rfl
        have hBv:tB (tbJ l wd most a j) (en+1) kk=r.1:=by unfold tB;rw[jm (by omega),hr];rfl
        have hrr:=(dh hB hm.2 (by omega) hr).1;have hlive:=fun k=>tu he.out hL hr k;clear hskip hL hr;generalize hyy:l[en]?.getD it0=yy at*;obtain⟨y1,y2,y3,y4,y5,y6,y7⟩:=yy;dsimp only at apc hcr hlive;generalize jY bad y6=co at*;obtain⟨rc,rn,rk⟩:=r;dsimp only at hBv hrr hlive;replace hlive:=Lib.hid hlive;(refine wlk ?_;intros);refine aF (α:=Nat) mixed (fun b=>[(0,eU l),(1,iv wd),(2,iv most),(8,.row 0 1 0 0),(9,iv l.length),(10,.row 1 4 0 (l.length+1)),(11,.row 2 4 0 (l.length+1)),(12,.row 3 4 0 (l.length+1)),(14,iv ((a:Int)-1)),(15,iv en),(18,iv kk),(19,iv (co+rc)),(20,iv b)])
         (fun b=>[(0,3,1,[]),(1,110,4,(tab l.length (tB (tbK l wd most a j b))).map aaq),(2,104,4,(tab l.length (tG (tbK l wd most a j b))).map ak4),(3,110,4,(tab l.length (tN (tbK l wd most a j b))).map aaq)]) (fun _=>4)
         (fun b=>b≤4) (fun b=>4-b) (by kernel_rfl) 0 (Nat.zero_le _) ?_ ?_ rfl ?_
        ·exact agr
        ·obtain⟨e1,e2,e3⟩:=bE (adB (l:=l) (wd:=wd) (most:=most) (a:=a) (j:=j))
         exact agr
        clear hG hBv apc apk apb apl;intro b hb4;by_cases hb3:b<4
        ·have apw:=agK (be:=(b:Int)) (lk:=(kk:Int)) hB hae hel ⟨by omega,by omega⟩ ⟨by omega,by omega⟩
         have hbw:=lg l a en b kk;have hx:=hlive.out (b:Int);generalize iI l a en b kk=bw at*;cases hacc:aZ l wd most a b (aP l wd most) j with
         |none=>
          rw[hacc]at hx;replace hx:_=some _:=hx;have hG:tG (tbK l wd most a j b) a b=false:=by unfold tG;rw[lC,hacc];rfl
          have hE:=Lib.hid (bE (qE hx));clear hx hacc;(refine wlk ?_;intros);refine⟨b+1,by omega,by dsimp only;omega,?_,?_,rfl⟩
          ·exact agr
          ·have hE2:=hE.out
           rw[←adE,←ada,←acW]at hE2;obtain⟨e1,e2,e3⟩:=hE2;dsimp only at e1 e2 e3;rw[show co+bw+rc=co+rc+bw by omega]at e1;exact agr
         |some y=>
          rw[hacc]at hx;have hG:tG (tbK l wd most a j b) a b=true:=by unfold tG;rw[lC,hacc];rfl
          have hB2:tB (tbK l wd most a j b) a b=y.1:=by unfold tB;rw[lC,hacc];rfl
          have hyr:=(oK hB hm.2 hal hacc).1;by_cases hlt:co+rc+bw<y.1
          ·rw[if_pos (show(some y).all (fun y=>decide (co+bw+rc<y.1))=true from decide_eq_true (show co+bw+rc<y.1 by omega))]at hx
           have hE:=Lib.hid (bE (qE hx));clear hx hacc;generalize y.1=yc at*;(refine wlk ?_;intros);refine⟨b+1,by omega,by dsimp only;omega,?_,?_,rfl⟩
           ·exact agr
           ·have hE2:=hE.out
            rw[←adE,←ada,←acW]at hE2;obtain⟨e1,e2,e3⟩:=hE2;dsimp only at e1 e2 e3;rw[show co+bw+rc=co+rc+bw by omega]at e1;exact agr
          ·rw[if_neg (show¬(some y).all (fun y=>decide (co+bw+rc<y.1))=true from fun q=>hlt (by have:=of_decide_eq_true (show decide (co+bw+rc<y.1)=true from q);omega))]at hx
           have hE:=Lib.hid (bE (adv (hx.trans hacc.symm)));clear hx hacc;generalize y.1=yc at*;(refine wlk ?_;intros);refine⟨b+1,by omega,by dsimp only;omega,?_,?_,rfl⟩
           ·exact agr
           ·obtain⟨e1,e2,e3⟩:=hE.out
            exact agr
        ·obtain rfl:b=4:=by omega
         have hE:=Lib.hid (bE (agq (l:=l) (wd:=wd) (most:=most) (a:=a) (j:=j)));clear hlive;(refine wlk ?_;intros);refine⟨(j+1,(en:Int)-1),⟨by dsimp only;omega,by dsimp only;omega⟩,by dsimp only;omega,?_,?_,rfl⟩
         ·exact agr
         ·obtain⟨e1,e2,e3⟩:=hE.out
          exact agr
      ·have hE:=Lib.hid (hskip (jN he.out (yB hb)))
       clear hskip hq;generalize gZ l wd a en=bd at*;obtain⟨bad,st⟩:=bd;dsimp only at hb apb;by_cases hb0:bad<0
       ·clear hb
        (refine wlk ?_;intros);refine⟨(j+1,(en:Int)-1),⟨by dsimp only;omega,by dsimp only;omega⟩,by dsimp only;omega,?_,?_,rfl⟩
        ·exact agr
        ·obtain⟨e1,e2,e3⟩:=hE.out
         exact agr
       ·have hb1:most<bad:=by omega
        clear hb;(refine wlk ?_;intros);refine⟨(j+1,(en:Int)-1),⟨by dsimp only;omega,by dsimp only;omega⟩,by dsimp only;omega,?_,?_,rfl⟩
        ·exact agr
        ·obtain⟨e1,e2,e3⟩:=hE.out
         exact agr
     ·obtain rfl:j=l.length-a:=by omega
      have hE:=Lib.hid (bE (ah7 (wd:=wd) (most:=most) hal));(refine wlk ?_;intros);refine⟨(a,(a:Int)-1-1),⟨by dsimp only;omega,by dsimp only;omega⟩,by dsimp only;omega,?_,?_,rfl⟩
      ·exact agr
      ·obtain⟨e1,e2,e3⟩:=hE.out
       exact agr
    ·clear hgo
     (refine wlk ?_;intros);refine aF (α:=Nat×Int) mixed (fun z=>[(0,eU l),(1,iv wd),(2,iv most),(8,.row 0 1 0 0),(9,iv l.length),(10,.row 1 4 0 (l.length+1)),(11,.row 2 4 0 (l.length+1)),(12,.row 3 4 0 (l.length+1)),(14,iv ((a:Int)-1)),(15,iv z.2)])
      (fun z=>[(0,3,1,[]),(1,110,4,(tab l.length (tB (tbJ l wd most a z.1))).map aaq),(2,104,4,(tab l.length (tG (tbJ l wd most a z.1))).map ak4),(3,110,4,(tab l.length (tN (tbJ l wd most a z.1))).map aaq)]) (fun _=>4)
      (fun z=>z.1+a≤l.length∧z.2=(l.length:Int)-1-z.1) (fun z=>l.length-z.1) (by kernel_rfl) (0,(l.length:Int)-1) ⟨by dsimp only;omega,by simp⟩ ?_ ?_ rfl ?_
     ·exact agr
     ·obtain⟨e1,e2,e3⟩:=bE (acA (l:=l) (wd:=wd) (most:=most) (a:=a))
      exact agr
     rintro⟨j,u⟩ ⟨hj,hu⟩;dsimp only at hj hu;by_cases h2:j+a<l.length
     ·obtain⟨en,rfl⟩:∃en:Nat,u=en:=⟨u.toNat,by omega⟩
      have he:l.length-(j+1)=en:=by omega
      have hu1:(en:Int)≤l.length-1-j:=by omega
      have hu2:(l.length:Int)-1-j≤en:=by omega
      replace he:=Lib.hid he;clear hu;have hae:a≤en:=by omega
      have hel:en<l.length:=by omega
      have apl:=ahQ hB hae hel;have hskip:(∀k:Int,aZ l wd most a k (aP l wd most) (j+1)=aZ l wd most a k (aP l wd most) j)→tab l.length (tB (tbJ l wd most a j))=tab l.length (tB (tbJ l wd most a (j+1)))∧tab l.length (tG (tbJ l wd most a j))=tab l.length (tG (tbJ l wd most a (j+1)))∧tab l.length (tN (tbJ l wd most a j))=tab l.length (tN (tbJ l wd most a (j+1))):=fun h=>bE (adr h);cases hq:dH l a en with
      |false=>
       rw[hq]at apl;have hE:=Lib.hid (hskip (jN he.out (zT hq)));clear hskip hq;(refine wlk ?_;intros);refine⟨(j+1,(en:Int)-1),⟨by dsimp only;omega,by dsimp only;omega⟩,by dsimp only;omega,?_,?_,rfl⟩
       ·exact agr
       ·obtain⟨e1,e2,e3⟩:=hE.out
        exact agr
      |true=>
      rw[hq]at apl;have hst:=(eX.1 hq).2.2.2.1;have apb:=abR hB hae hel hw hst;by_cases hb:0≤(gZ l wd a en).1∧(gZ l wd a en).1≤most
      ·have hcst:afZ (l[en]?.getD it0).2.2.2.2.2.1:=(fI hB hel).cost
       have hL:iA l wd most a en=some (jY (gZ l wd a en).1 (l[en]?.getD it0).2.2.2.2.2.1,fF (gZ l wd a en).2 (gZ l wd a en).1):=za hq hb;clear hq hst;generalize gZ l wd a en=bd at*;obtain⟨bad,st⟩:=bd;dsimp only at hb hL apb;have apk:=wF (s:=st) (bad:=bad) ⟨hb.1,by omega⟩;have apc:=aaF (bad:=bad) ⟨hb.1,by omega⟩ hcst;have hcr:=mP (bad:=bad) ⟨hb.1,by omega⟩ hcst;have hkr:=lu st bad;obtain⟨kk,hkk⟩:∃kk:Nat,fF st bad=kk:=⟨(fF st bad).toNat,by omega⟩;rw[hkk]at hL apk hkr;clear hkk hcst;cases hr:aP l wd most (en+1) kk with
       |none=>
        have hG:tG (tbJ l wd most a j) (en+1) kk=false:=by unfold tG;rw[jm (by omega),hr];rfl
        have hE:=Lib.hid (hskip (tQ he.out hL hr));clear hskip hL hr;(refine wlk ?_;intros);refine⟨(j+1,(en:Int)-1),⟨by dsimp only;omega,by dsimp only;omega⟩,by dsimp only;omega,?_,?_,rfl⟩
        ·exact agr
        ·obtain⟨e1,e2,e3⟩:=hE.out
         exact agr
       |some r=>
        have hG:tG (tbJ l wd most a j) (en+1) kk=true:=by unfold tG;rw[jm (by omega),hr];rfl
        have hBv:tB (tbJ l wd most a j) (en+1) kk=r.1:=by unfold tB;rw[jm (by omega),hr];rfl
        have hrr:=(dh hB hm.2 (by omega) hr).1;have hlive:=fun k=>tu he.out hL hr k;clear hskip hL hr;generalize hyy:l[en]?.getD it0=yy at*;obtain⟨y1,y2,y3,y4,y5,y6,y7⟩:=yy;dsimp only at apc hcr hlive;generalize jY bad y6=co at*;obtain⟨rc,rn,rk⟩:=r;dsimp only at hBv hrr hlive;replace hlive:=Lib.hid hlive;(refine wlk ?_;intros);refine aF (α:=Nat) mixed (fun b=>[(0,eU l),(1,iv wd),(2,iv most),(8,.row 0 1 0 0),(9,iv l.length),(10,.row 1 4 0 (l.length+1)),(11,.row 2 4 0 (l.length+1)),(12,.row 3 4 0 (l.length+1)),(14,iv ((a:Int)-1)),(15,iv en),(18,iv kk),(19,iv (co+rc)),(20,iv b)])
         (fun b=>[(0,3,1,[]),(1,110,4,(tab l.length (tB (tbK l wd most a j b))).map aaq),(2,104,4,(tab l.length (tG (tbK l wd most a j b))).map ak4),(3,110,4,(tab l.length (tN (tbK l wd most a j b))).map aaq)]) (fun _=>4)
         (fun b=>b≤4) (fun b=>4-b) (by kernel_rfl) 0 (Nat.zero_le _) ?_ ?_ rfl ?_
        ·exact agr
        ·obtain⟨e1,e2,e3⟩:=bE (adB (l:=l) (wd:=wd) (most:=most) (a:=a) (j:=j))
         exact agr
        clear hG hBv apc apk apb apl;intro b hb4;by_cases hb3:b<4
        ·have apw:=agK (be:=(b:Int)) (lk:=(kk:Int)) hB hae hel ⟨by omega,by omega⟩ ⟨by omega,by omega⟩
         have hbw:=lg l a en b kk;have hx:=hlive.out (b:Int);generalize iI l a en b kk=bw at*;cases hacc:aZ l wd most a b (aP l wd most) j with
         |none=>
          rw[hacc]at hx;replace hx:_=some _:=hx;have hG:tG (tbK l wd most a j b) a b=false:=by unfold tG;rw[lC,hacc];rfl
          have hE:=Lib.hid (bE (qE hx));clear hx hacc;(refine wlk ?_;intros);refine⟨b+1,by omega,by dsimp only;omega,?_,?_,rfl⟩
          ·exact agr
          ·have hE2:=hE.out
           rw[←adE,←ada,←acW]at hE2;obtain⟨e1,e2,e3⟩:=hE2;dsimp only at e1 e2 e3;rw[show co+bw+rc=co+rc+bw by omega]at e1;exact agr
         |some y=>
          rw[hacc]at hx;have hG:tG (tbK l wd most a j b) a b=true:=by unfold tG;rw[lC,hacc];rfl
          have hB2:tB (tbK l wd most a j b) a b=y.1:=by unfold tB;rw[lC,hacc];rfl
          have hyr:=(oK hB hm.2 hal hacc).1;by_cases hlt:co+rc+bw<y.1
          ·rw[if_pos (show(some y).all (fun y=>decide (co+bw+rc<y.1))=true from decide_eq_true (show co+bw+rc<y.1 by omega))]at hx
           have hE:=Lib.hid (bE (qE hx));clear hx hacc;generalize y.1=yc at*;(refine wlk ?_;intros);refine⟨b+1,by omega,by dsimp only;omega,?_,?_,rfl⟩
           ·exact agr
           ·have hE2:=hE.out
            rw[←adE,←ada,←acW]at hE2;obtain⟨e1,e2,e3⟩:=hE2;dsimp only at e1 e2 e3;rw[show co+bw+rc=co+rc+bw by omega]at e1;exact agr
          ·rw[if_neg (show¬(some y).all (fun y=>decide (co+bw+rc<y.1))=true from fun q=>hlt (by have:=of_decide_eq_true (show decide (co+bw+rc<y.1)=true from q);omega))]at hx
           have hE:=Lib.hid (bE (adv (hx.trans hacc.symm)));clear hx hacc;generalize y.1=yc at*;(refine wlk ?_;intros);refine⟨b+1,by omega,by dsimp only;omega,?_,?_,rfl⟩
           ·exact agr
           ·obtain⟨e1,e2,e3⟩:=hE.out
            exact agr
        ·obtain rfl:b=4:=by omega
         have hE:=Lib.hid (bE (agq (l:=l) (wd:=wd) (most:=most) (a:=a) (j:=j)));clear hlive;(refine wlk ?_;intros);refine⟨(j+1,(en:Int)-1),⟨by dsimp only;omega,by dsimp only;omega⟩,by dsimp only;omega,?_,?_,rfl⟩
         ·exact agr
         ·obtain⟨e1,e2,e3⟩:=hE.out
          exact agr
      ·have hE:=Lib.hid (hskip (jN he.out (yB hb)))
       clear hskip hq;generalize gZ l wd a en=bd at*;obtain⟨bad,st⟩:=bd;dsimp only at hb apb;by_cases hb0:bad<0
       ·clear hb
        (refine wlk ?_;intros);refine⟨(j+1,(en:Int)-1),⟨by dsimp only;omega,by dsimp only;omega⟩,by dsimp only;omega,?_,?_,rfl⟩
        ·exact agr
        ·obtain⟨e1,e2,e3⟩:=hE.out
         exact agr
       ·have hb1:most<bad:=by omega
        clear hb;(refine wlk ?_;intros);refine⟨(j+1,(en:Int)-1),⟨by dsimp only;omega,by dsimp only;omega⟩,by dsimp only;omega,?_,?_,rfl⟩
        ·exact agr
        ·obtain⟨e1,e2,e3⟩:=hE.out
         exact agr
     ·obtain rfl:j=l.length-a:=by omega
      have hE:=Lib.hid (bE (ah7 (wd:=wd) (most:=most) hal));(refine wlk ?_;intros);refine⟨(a,(a:Int)-1-1),⟨by dsimp only;omega,by dsimp only;omega⟩,by dsimp only;omega,?_,?_,rfl⟩
      ·exact agr
      ·obtain⟨e1,e2,e3⟩:=hE.out
       exact agr
  ·obtain rfl:m=0:=by omega
   have hG:tG (tbA l wd most 0) 0 1=(aP l wd most 0 1).isSome:=by unfold tG;rw[ac2];rfl
   have hbl:(dD l wd most).length≤l.length:=aaw hB hm.2 _ _ _ (Nat.zero_le _);have hb0:dD l wd most=[]++bkF l wd most (l.length+1) 0 ((1:Nat):Int):=rfl;cases hs:aP l wd most 0 1 with
   |none=>rw[hs]at hG;simp only[Option.isSome_none]at hG⊢;rw[if_neg (by decide)];clear hb0 hbl;exact wlkF
   |some r0=>
    rw[hs]at hG;simp only[Option.isSome_some]at hG⊢;rw[show(if True then dD l wd most else [])=dD l wd most from if_pos trivial];generalize dD l wd most=res at*;replace hb0:=Lib.hid hb0;have hs0:(aP l wd most 0 ((1:Nat):Int)).isSome=true:=by show(aP l wd most 0 1).isSome=true;rw[hs];rfl
    replace hs0:=Lib.hid hs0;clear hs;(refine wlk ?_;intros);clear hG;refine aF (α:=Nat×Int×Nat×LI×Nat×Nat×Nat) mixed (fun z=>[(0,eU l),(1,iv wd),(2,iv most),(8,.row z.2.2.2.2.1 1 0 z.2.2.2.1.length),(9,iv l.length),(12,.row 3 4 0 (l.length+1)),(22,iv z.2.1),(23,iv z.2.2.1)])
     (fun z=>[(3,110,4,(tab l.length (tN (tbA l wd most 0))).map aaq),(z.2.2.2.2.1,3,1,z.2.2.2.1.map pvN)]) (fun z=>z.2.2.2.2.2.1)
     (fun z=>z.1≤l.length∧z.2.1=(z.1:Int)-1∧z.2.2.1<4∧(aP l wd most z.1 (z.2.2.1:Int)).isSome=true∧z.2.2.2.1.length≤z.1∧(¬z.2.2.2.2.1=3∧z.2.2.2.2.1<z.2.2.2.2.2.1∧4≤z.2.2.2.2.2.1)∧l.length+1≤z.2.2.2.2.2.2+z.1∧res=z.2.2.2.1++bkF l wd most z.2.2.2.2.2.2 z.1 (z.2.2.1:Int)) (fun z=>l.length-z.1) (by kernel_rfl)
     (0,-1,1,[],0,4,l.length+1) ⟨Nat.zero_le _,rfl,by simp,hs0.out,Nat.le_refl _,by simp,by simp,hb0.out⟩ ?_ ?_ rfl ?_
    ·exact agi
    ·exact agr
    rintro⟨a,v,kk,out,x,y,f⟩ ⟨hal,hv,hkk,hs,hol,⟨hx3,hxy,hy4⟩,hf,hres⟩;dsimp only at hal hv hkk hs hol hx3 hxy hy4 hf hres;have hx3':¬3=x:=fun q=>hx3 q.symm;subst hv;clear hs0 hb0;by_cases hlt:a<l.length
    ·obtain⟨r,hr⟩:∃r,aP l wd most a (kk:Int)=some r:=Option.isSome_iff_exists.1 hs
     obtain⟨f',rfl⟩:∃f',f=f'+1:=⟨f-1,by omega⟩;rw[nV (by omega) hr]at hres;have hN:tN (tbA l wd most 0) a kk=(r.2.1:Int):=by unfold tN;rw[ac2,hr];rfl
     obtain⟨-,hb2⟩:=dh hB hm.2 hal hr;obtain⟨⟨ha1,ha2⟩,hk0,hk3⟩:=hb2 hlt;obtain⟨x',c0,hx',hL⟩:=oU hlt hr;obtain⟨hq,hbd,hpair⟩:=o8 hL;have hlk:r.2.2=fF (gZ l wd a r.2.1).2 (gZ l wd a r.2.1).1:=congrArg Prod.snd hpair;obtain⟨-,-,-,hst,-⟩:=eX.1 hq;have apb:=abR hB ha1 ha2 hw hst;have apk:=wF (s:=(gZ l wd a r.2.1).2) (bad:=(gZ l wd a r.2.1).1) ⟨hbd.1,by omega⟩;rw[←hlk]at apk;clear hL hpair hlk hq hst hr hs hb2;obtain⟨rc,en,rk⟩:=r;dsimp only at hres hN ha1 ha2 hk0 hk3 hx' hbd apb apk;obtain⟨k2,rfl⟩:∃k2:Nat,rk=k2:=⟨rk.toNat,by omega⟩;generalize gZ l wd a en=bd at*;obtain⟨bad,st⟩:=bd;dsimp only at hbd apb apk;have hcan:(a:Int)-1+1=a:=by omega
     replace hres:=Lib.hid hres;replace hx':=Lib.hid hx';have hkk2:k2<4:=by omega
     (refine wlk ?_;intros);refine⟨(en+1,(en:Int),k2,out++[(en:Int)],y+1,y+2,f'),⟨by dsimp only;omega,by dsimp only;omega,hkk2,by dsimp only;rw[hx'.out];rfl,by simp;omega,⟨by dsimp only;omega,by dsimp only;omega,by dsimp only;omega⟩,by dsimp only;omega,by dsimp only;rw[hres.out];simp⟩,by dsimp only;omega,?_,?_,rfl⟩
     ·exact agr
     ·exact agr
    ·obtain rfl:a=l.length:=by omega
     rw[wH,List.append_nil]at hres;subst hres;clear hs;exact wlkF
 ·have hok:jo l wd most=false:=Bool.eq_false_iff.2 fun q=>by obtain⟨q1,q2,q3,q4,-⟩:=fJ.1 q;exact hg ⟨q1,q2,q3,q4⟩
  rw[hok,if_neg (by decide)];clear hok hpre;cases hB:aS l with
  |false=>rw[hB]at apv;clear hg hB;have gbb_c77:=yI;have gbb_c48:=zO;have gbb_c78:=yF;have gbb_c79:=yU;have gbb_c80:=yV;have gbb_c81:=aad;have gbb_c82:=zh;have gbb_c83:=z8;exact wlkF
  |true=>
  rw[hB]at apv;by_cases hw:0≤wd∧wd≤1000
  ·have api1:inB wd 0 1000=true:=ay.2 hw
   by_cases hm:0≤most∧most≤10000
   ·have api2:inB most 0 10000=true:=ay.2 hm
    have hl0:l.length<1:=by
     by_cases h:l.length<1
     ·exact h
     ·exact absurd ⟨hB,by omega,hw,hm⟩ hg
    clear hg hB;have gbb_c77:=yI;have gbb_c48:=zO;have gbb_c78:=yF;have gbb_c79:=yU;have gbb_c80:=yV;have gbb_c81:=aad;have gbb_c82:=zh;have gbb_c83:=z8;exact wlkF
   ·have api2:inB most 0 10000=false:=Bool.eq_false_iff.2 fun q=>hm (ay.1 q)
    clear hg hB hm;have gbb_c77:=yI;have gbb_c48:=zO;have gbb_c78:=yF;have gbb_c79:=yU;have gbb_c80:=yV;have gbb_c81:=aad;have gbb_c82:=zh;have gbb_c83:=z8;exact wlkF
  ·have api1:inB wd 0 1000=false:=Bool.eq_false_iff.2 fun q=>hw (ay.1 q)
   clear hg hB hw;have gbb_c77:=yI;have gbb_c48:=zO;have gbb_c78:=yF;have gbb_c79:=yU;have gbb_c80:=yV;have gbb_c81:=aad;have gbb_c82:=zh;have gbb_c83:=z8;exact wlkF
end
end Go.Proofs.YtmmafcjjlbgnkaaGreat
