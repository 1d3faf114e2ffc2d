/- What the proof rests on, part 12: contracts of functions. No condition beyond what each states. -/
import Derived.Test.YtmmafcjjlbgnkaaGreatDoorZPr11
namespace Go.Proofs.YtmmafcjjlbgnkaaGreatDoor
open Go.RowKit
set_option linter.all false
set_option maxHeartbeats 32000000
noncomputable section
def adi:Fun:=ayd 4 apF
theorem zD {gs:List I4} (h:∀g∈gs,GOk g) (h2:gs.length≤61):adi [.lst false 4 (gs.map pvG)]=some (pvG (jq gs)):=adQ h h2
theorem aeF:adi [.val (.slice none 0 0)]=some (pvG (jq [])):=adQ (gs:=[]) (by simp) (by simp)
def lgR (l:List It) (a en:Nat):I4:=if eG l a en=true then jq (acU l a en)else(0,0,0,0)
def φLg:Fun:=F3 mQ dI dI fun l n m=>open Classical in if aon l n m then some (.tup [pvG (lgR l (n+1).toNat m.toNat),bv (eG l (n+1).toNat m.toNat)])else none
theorem apH {l:List It} {a en:Nat} (h:aW l=true) (h2:a≤en) (h3:en<l.length):φLg [fV l,.val (.int .i64 ((a:Int)-1)),.val (.int .i64 en)]=some (.tup [pvG (lgR l a en),.val (.bool (eG l a en))]):=
 (xD (A:=mQ) (B:=dI) (C:=dI) l ((a:Int)-1) en).trans ((if_pos ⟨h,by omega,by omega,by omega⟩).trans (by rw[show((a:Int)-1+1).toNat=a by omega,Int.toNat_natCast]))
theorem afi {l:List Int} {k:Nat} (h:k<l.length):l.take (k+1)=l.take k++[l[k]?.getD 0]:=by rw[List.take_succ_eq_append_getElem h,List.getElem?_eq_getElem h];rfl
def GLg:Ctx:={fn:=aY [(124,φLi),(240,adi)],io:=aY []}
theorem avR:ak Tryz.prog GLg:=okΓ (fC Tryz.func124 aad (fC Tryz.func240 (ae9.nil 4) aj)) aj
def ahY:=ah (Γ:=GLg) (f:=124) (φ:=φLi) rfl
def ai8:=ah (Γ:=GLg) (f:=240) (φ:=adi) rfl
theorem aiz:Sound Tryz.prog 236 φLg:=by
 refine au mixed avR Tryz.func236 rfl 54 rfl [.cell 6 60,.tmp 7] rfl (by kernel_rfl) fun ps r hr=>?_;obtain⟨l,n,m,rfl,hpre,rfl⟩:=vv hr;refine⟨by simp,?_⟩;simp only[dIs,dUs,dSs,dz,dF,dx,dG,aR,dD,aU,aV,aS,aT];obtain⟨hB,hn0,hn1,hn2⟩:=hpre;obtain⟨a,rfl⟩:∃a:Nat,n=(a:Int)-1:=⟨(n+1).toNat,by omega⟩;obtain⟨en,rfl⟩:∃en:Nat,m=en:=⟨m.toNat,by omega⟩;have hl:=bH hB;have hae:a≤en:=by omega
 have hel:en<l.length:=by omega
 show pq _ _ _ _ _ (bY [fV l,.val (.int .i64 ((a:Int)-1)),.val (.int .i64 en)]).tm _ _;rw[show((a:Int)-1+1).toNat=a by omega,Int.toNat_natCast];have ap:=ajp hB hae hel;unfold lgR;clear hn0 hn1 hn2;cases hq:eG l a en with
 |false=>rw[hq,if_neg (by decide)]at ap;rw[if_neg (by decide)];clear hq hB;have glg_c124:=ahY;have glg_c240:=ai8;exact wlkF
 |true=>
  rw[hq,if_pos rfl]at ap;rw[if_pos rfl];have hst:aF l a≤en:=(fZ.1 hq).2.2.2.1;have hG:acU l a en=oQ l (aF l a) en++(if(gI l en).kd=3 then [(gI l en).gl]else []):=rfl;have hgo:=aby (b:=aF l a) hB (show en≤l.length by omega);have hgl:=wL l (aF l a) en;have hio:=(gQ hB hel).gl;have him:=@qK l (aF l a) en;have h0l:oQ l (aF l a) en=(mK l (aF l a) en).map fun n:Int=>(gI l n.toNat).gl:=rfl;rw[hG];clear hG hq hB;rw[h0l]at hgo hgl⊢;rw[List.length_map]at hgl;generalize mK l (aF l a) en=L at*;clear h0l;have hLl:L.length≤60:=by omega
  have hLk:∀k,k<L.length→0≤L[k]?.getD 0∧L[k]?.getD 0<en:=fun k hk=>by rw[List.getElem?_eq_getElem hk,Option.getD_some];have:=him _ (List.getElem_mem hk);omega
  clear him;have glg_c124:=ahY;have glg_c240:=ai8;(refine wlk ?_;intros);refine aG (α:=Nat×Nat×Nat) mixed (fun z=>[(0,fV l),(2,iv en),(6,.own 0 4 0 0),(10,nP 4 (((L.take z.1).map fun n:Int=>(gI l n.toNat).gl).map pvG) z.2.1),(23,.lst true 1 (L.map pvN)),(24,iv L.length),(25,iv z.1)])
   (fun z=>(0,60,4,[pvG g40])::nO 60 4 (((L.take z.1).map fun n:Int=>(gI l n.toNat).gl).map pvG) z.2.1) (fun z=>z.2.2)
   (fun z=>z.1≤L.length∧0<z.2.2∧(0<z.1→0<z.2.1∧z.2.1<z.2.2)) (fun z=>L.length-z.1) (by kernel_rfl) (0,0,1) ⟨Nat.zero_le _,by simp,by simp⟩ ?_ ?_ rfl ?_
  ·simp(disch:=(first|omega|(simp only[push_cast];first|done|omega))) only[push_cast,↓reduceIte,Nat.reduceEqDiff,Nat.reduceBEq,Nat.reduceAdd,Nat.reduceSub,Int.reduceToNat,List.take_zero,List.map_nil, *]
  ·simp(disch:=(first|omega|(simp only[push_cast];first|done|omega))) only[push_cast,↓reduceIte,Nat.reduceEqDiff,Nat.reduceBEq,Nat.reduceAdd,Nat.reduceSub,Int.reduceToNat,List.take_zero,List.map_nil,g40, *]
  rintro⟨k,x,y⟩ ⟨hk,hy,hxy⟩;dsimp only at hk hy hxy;have hGl:((L.take k).map fun n:Int=>(gI l n.toNat).gl).length=k:=by rw[List.length_map,List.length_take];omega
  by_cases h0:k<L.length
  ·obtain⟨q1,q2⟩:=hLk k h0
   have hn:(L.take (k+1)).map (fun n:Int=>(gI l n.toNat).gl)=(L.take k).map (fun n:Int=>(gI l n.toNat).gl)++[(l[(L[k]?.getD 0).toNat]?.getD it0).gl]:=by rw[afi h0,List.map_append];rfl
   have hGb:k≤60:=by omega
   clear hLk hgo hgl hio;generalize hx9:l[(L[k]?.getD 0).toNat]?.getD it0=it at*;obtain⟨kd,w9,c,d,e,cost,g⟩:=it;generalize hG9:(L.take k).map (fun n:Int=>(gI l n.toNat).gl)=G at*;replace hn:(L.take (k+1)).map (fun n:Int=>(gI l n.toNat).gl)=G++[(w9,c,d,e)]:=hn;replace hn:=Lib.hid hn;by_cases hz:G.length=0
   ·obtain rfl:G=[]:=List.eq_nil_of_length_eq_zero hz
    clear hGl hz hG9 hxy;(refine wlk ?_;intros);refine⟨(k+1,y+1,y+2),⟨by dsimp only;omega,by dsimp only;omega,fun _=>by dsimp only;omega⟩,by dsimp only;omega,?_,?_,rfl⟩
    ·dsimp only
     rw[hn.out];exact agr
    ·dsimp only
     rw[hn.out];exact agr
   ·obtain⟨hx0,hxy⟩:=hxy (by omega)
    have hap:0<(G.map pvG).length:=by rw[List.length_map];omega
    have hGc:G.length≤60:=by omega
    clear hz hG9 hGl;have hap3:0<((G++[(w9,c,d,e)]).map pvG).length:=by simp
    simp only[aA hap,aB hap,List.length_map];(refine wlk ?_;intros);refine⟨(k+1,y+1,y+2),⟨by dsimp only;omega,by dsimp only;omega,fun _=>by dsimp only;omega⟩,by dsimp only;omega,?_,?_,rfl⟩
    ·dsimp only
     rw[hn.out];simp(disch:=(first|omega|(simp only[push_cast];first|done|omega))) only[push_cast,↓reduceIte,Nat.reduceEqDiff,Nat.reduceBEq,Nat.reduceAdd,Nat.reduceSub,Int.reduceToNat,aA hap3,List.length_append, *]
    ·dsimp only
     rw[hn.out];simp(disch:=(first|omega|(simp only[push_cast];first|done|omega))) only[push_cast,↓reduceIte,Nat.reduceEqDiff,Nat.reduceBEq,Nat.reduceAdd,Nat.reduceSub,Int.reduceToNat,aB hap3, *]
  ·obtain rfl:k=L.length:=by omega
   rw[List.take_of_length_le (Nat.le_refl _)]at*;have hkx:gI l en=l[en]?.getD it0:=rfl;rw[hkx];clear hkx hLk;have hGL:(L.map fun n:Int=>(gI l n.toNat).gl).length=L.length:=List.length_map _;generalize hx9:l[en]?.getD it0=it at*;obtain⟨kd,w9,c,d,e,cost,g⟩:=it;replace hio:GOk (w9,c,d,e):=hio;generalize(L.map fun n:Int=>(gI l n.toNat).gl)=G at*;have apn:=aeF;have apt:=zD (gs:=G) hgo (by omega);have apu:=zD (gs:=G++[(w9,c,d,e)]) (fun z hz=>by
    rcases List.mem_append.1 hz with hz|hz
    ·exact hgo z hz
    ·rw[List.mem_singleton.1 hz];exact hio) (by rw[List.length_append,List.length_singleton];omega)
   by_cases h3:kd=3
   ·rw[if_pos (show It.kd (kd,w9,c,d,e,cost,g)=3 from h3)]
    have hz9:It.gl (kd,w9,c,d,e,cost,g)=(w9,c,d,e):=rfl;rw[hz9];clear hz9 apn apt hgo hio;subst h3;by_cases hz:G.length=0
    ·obtain rfl:G=[]:=List.eq_nil_of_length_eq_zero hz
     rw[List.nil_append]at*;generalize jq [(w9,c,d,e)]=t at*;obtain⟨t1,t2,t3,t4⟩:=t;clear hGl hGL hz hxy;simp only[List.map_cons,List.map_nil]at apu;exact wlkF
    ·obtain⟨hx0,hxy⟩:=hxy (by omega)
     have hap:0<(G.map pvG).length:=by rw[List.length_map];omega
     generalize jq (G++[(w9,c,d,e)])=t at*;obtain⟨t1,t2,t3,t4⟩:=t;have hGc:G.length≤60:=by omega
     clear hz hGl hGL;simp only[aA hap,aB hap,List.length_map];exact wlkF
   ·rw[if_neg (show¬It.kd (kd,w9,c,d,e,cost,g)=3 from h3),List.append_nil]
    clear apu hgo hio;by_cases hz:G.length=0
    ·obtain rfl:G=[]:=List.eq_nil_of_length_eq_zero hz
     generalize jq []=t at*;obtain⟨t1,t2,t3,t4⟩:=t;clear hGl hGL hz hxy apt;exact wlkF
    ·obtain⟨hx0,hxy⟩:=hxy (by omega)
     have hap:0<(G.map pvG).length:=by rw[List.length_map];omega
     generalize jq G=t at*;obtain⟨t1,t2,t3,t4⟩:=t;clear hz hGl hGL apn;simp only[aA hap,aB hap,List.length_map];exact wlkF
def φLb:Fun:=F4 mQ dI dI dI fun l n m wd=>open Classical in if aon l n m∧0≤wd∧wd≤1000 then some (.tup [iv (if eG l (n+1).toNat m.toNat=true then(iM l wd (n+1).toNat m.toNat).1 else-1),bv (eG l (n+1).toNat m.toNat&&(iM l wd (n+1).toNat m.toNat).2)])else none
theorem arh {l:List It} {a en:Nat} {wd:Int} (h:aW l=true) (h2:a≤en) (h3:en<l.length) (h4:0≤wd∧wd≤1000):φLb [fV l,.val (.int .i64 ((a:Int)-1)),.val (.int .i64 en),.val (.int .i64 wd)]=some (.tup [.val (.int .i64 (if eG l a en=true then(iM l wd a en).1 else-1)),.val (.bool (eG l a en&&(iM l wd a en).2))]):=
 (awt (A:=mQ) (B:=dI) (C:=dI) (D:=dI) l ((a:Int)-1) en wd).trans (by rw[show((a:Int)-1+1).toNat=a by omega,Int.toNat_natCast];exact if_pos ⟨⟨h,by omega,by omega,by omega⟩,h4⟩)
def GLb:Ctx:={fn:=aY [(236,φLg),(64,φIn),(237,sJ)],io:=aY []}
theorem aul:ak Tryz.prog GLb:=okΓ (fC Tryz.func236 aiz (fC Tryz.func64 oH (fC Tryz.func237 ab4 aj))) aj
def uG:=ah (Γ:=GLb) (f:=236) (φ:=φLg) rfl
def zL:=ah (Γ:=GLb) (f:=64) (φ:=φIn) rfl
def tK:=ah (Γ:=GLb) (f:=237) (φ:=sJ) rfl
theorem agz:Sound Tryz.prog 215 φLb:=by
 refine au mixed aul Tryz.func215 rfl 63 rfl [.tmp 8,.tmp 9] rfl (by kernel_rfl) fun ps r hr=>?_;obtain⟨l,n,m,wd,rfl,hpre,rfl⟩:=atD hr;refine⟨by simp,?_⟩;simp only[dIs,dUs,dSs,dz,dF,dx,dG,aR,dD,aU,aV,aS,aT];obtain⟨⟨hB,hn0,hn1,hn2⟩,hw⟩:=hpre;obtain⟨a,rfl⟩:∃a:Nat,n=(a:Int)-1:=⟨(n+1).toNat,by omega⟩;obtain⟨en,rfl⟩:∃en:Nat,m=en:=⟨m.toNat,by omega⟩;show pq _ _ _ _ _ (bY [fV l,.val (.int .i64 ((a:Int)-1)),.val (.int .i64 en),.val (.int .i64 wd)]).tm _ _;rw[show((a:Int)-1+1).toNat=a by omega,Int.toNat_natCast];have ap1:=apH hB (show a≤en by omega) (show en<l.length by omega);have api:φIn [.val (.int .i64 wd),.val (.int .i64 0),.val (.int .i64 1000)]=some (.val (.bool true)):=(bK _ _ _).trans (by rw[av.2 hw]);obtain⟨g1,g2⟩:=aaH (b:=aF l a) hB (show en<l.length by omega);obtain⟨⟨o1,o2,o3,o4⟩,t1,t2,t3⟩:=aiX g1 g2;have hE:iM l wd a en=atn (jq (kU l (aF l a) en)) wd:=rfl;have hE2:acU l a en=kU l (aF l a) en:=rfl;unfold lgR at ap1;rw[hE];rw[hE2]at ap1;have hl:=bH hB;clear hB g1 g2 hE hE2;cases hq:eG l a en with
 |false=>rw[hq,if_neg (by decide)]at ap1;rw[if_neg (by decide),Bool.false_and];clear hq o1 o2 o3 o4 t1 t2 t3;have glb_c236:=uG;have glb_c64:=zL;have glb_c237:=tK;exact wlkF
 |true=>
  rw[hq,if_pos rfl]at ap1;rw[if_pos rfl,Bool.true_and];clear hq;generalize jq (kU l (aF l a) en)=t at*;obtain⟨tw,ts,th,tod⟩:=t;dsimp only at o1 o2 o3 o4 t1 t2 t3;have hG:atn (tw,ts,th,tod) wd=if tw≤wd then(if tod=1 then(0,true)else(aa3 (wd-tw) ts,true))else if tw-wd≤th then(aa3 (tw-wd) th,false)else(-1,false):=rfl;rw[hG];by_cases h1:tw≤wd
  ·have ap3:=om (need:=wd-tw) (room:=ts) ⟨⟨by omega,by omega⟩,by omega,by omega⟩
   rw[if_pos h1];by_cases h2:tod=1
   ·rw[if_pos h2]
    subst h2;have glb_c236:=uG;have glb_c64:=zL;have glb_c237:=tK;exact wlkF
   ·rw[if_neg h2]
    generalize aa3 (wd-tw) ts=bd at*;have glb_c236:=uG;have glb_c64:=zL;have glb_c237:=tK;exact wlkF
  ·rw[if_neg h1]
   by_cases h2:tw-wd≤th
   ·have ap3:=om (need:=tw-wd) (room:=th) ⟨⟨by omega,by omega⟩,by omega,by omega⟩
    rw[if_pos h2];generalize aa3 (tw-wd) th=bd at*;have glb_c236:=uG;have glb_c64:=zL;have glb_c237:=tK;exact wlkF
   ·rw[if_neg h2]
    have glb_c236:=uG;have glb_c64:=zL;have glb_c237:=tK;exact wlkF
abbrev LE:=Int×Bool×Int
abbrev dLe:Dec LE:=dA3 dI dB dI
abbrev avQ (x:LE):PV:=.agg [.val (.int .i64 x.1),.val (.bool x.2.1),.val (.int .i64 x.2.2)]
def lcR (l:List It) (wd most:Int) (a en:Nat) (lk:Int):Int×LE:=match iT l wd most a en with
 |none=>(-1,(0,false,0))
 |some x=>(x.1+iZ l a en lk x.2,((en:Int),(l[en]?.getD it0).2.2.2.2.2.2,x.2))
abbrev axb (l:List It) (wd most:Int) (e:LE) (m:Int):Prop:=aon l e.1 m∧(0≤wd∧wd≤1000)∧(0≤most∧most≤10000)∧(0≤e.2.2∧e.2.2≤3)∧(0≤e.1→e.2.1=(l[e.1.toNat]?.getD it0).2.2.2.2.2.2)
def φLc:Fun:=F5 mQ dI dI dLe dI fun l wd most e m=>open Classical in if axb l wd most e m then some (.tup [iv (lcR l wd most (e.1+1).toNat m.toNat e.2.2).1,avQ (lcR l wd most (e.1+1).toNat m.toNat e.2.2).2])else none
theorem an0 {l:List It} {wd most:Int} {a en:Nat} {mk:Bool} {lk:Int} (h:axb l wd most ((a:Int)-1,mk,lk) en):φLc [fV l,.val (.int .i64 wd),.val (.int .i64 most),avQ ((a:Int)-1,mk,lk),.val (.int .i64 en)]=some (.tup [.val (.int .i64 (lcR l wd most a en lk).1),avQ (lcR l wd most a en lk).2]):=
 (asZ (A:=mQ) (B:=dI) (C:=dI) (D:=dLe) (E:=dI) l wd most ((a:Int)-1,mk,lk) en).trans ((if_pos h).trans (by rw[show(((a:Int)-1,mk,lk).1+1).toNat=a by dsimp only;omega,Int.toNat_natCast]))
def GLc:Ctx:={fn:=aY [(215,φLb),(216,φLk),(217,φCo)],io:=aY []}
theorem atd:ak Tryz.prog GLc:=okΓ (fC Tryz.func215 agz (fC Tryz.func216 ahc (fC Tryz.func217 agJ aj))) aj
def sM:=ah (Γ:=GLc) (f:=215) (φ:=φLb) rfl
def rQ:=ah (Γ:=GLc) (f:=216) (φ:=φLk) rfl
def uJ:=ah (Γ:=GLc) (f:=217) (φ:=φCo) rfl
theorem ahk:Sound Tryz.prog 176 φLc:=by
 refine au mixed atd Tryz.func176 rfl 77 rfl [.tmp 10,.cell 11 145] rfl (by kernel_rfl) fun ps r hr=>?_;obtain⟨l,wd,most,⟨n,mk,lk⟩,m,rfl,hq⟩:=agf hr;clear hr;split at hq
 case isFalse=>cases hq
 case isTrue hpre=>
 cases hq;refine⟨by simp,?_⟩;simp only[dIs,dUs,dSs,dz,dF,dx,dG,aR,dD,aU,aV,aS,aT];obtain⟨⟨hB,hn0,hn1,hn2⟩,hw,hm,hlk,hmk⟩:=hpre;(try dsimp only at hn0 hn1 hn2 hlk hmk);obtain⟨a,rfl⟩:∃a:Nat,n=(a:Int)-1:=⟨(n+1).toNat,by omega⟩;obtain⟨en,rfl⟩:∃en:Nat,m=en:=⟨m.toNat,by omega⟩;show pq _ _ _ _ _ (bY [fV l,.val (.int .i64 wd),.val (.int .i64 most),avQ ((a:Int)-1,mk,lk),.val (.int .i64 en)]).tm _ _;(try dsimp only);rw[show((a:Int)-1+1).toNat=a by omega,Int.toNat_natCast];have hl:=bH hB;have hel:en<l.length:=by omega
 have ap1:=arh hB (show a≤en by omega) hel hw;have hcst:agB (l[en]?.getD it0).2.2.2.2.2.1:=(gQ hB hel).cost;have hlr:iT l wd most a en=if eG l a en=true∧0≤(iM l wd a en).1∧(iM l wd a en).1≤most then some (lT (iM l wd a en).1 (l[en]?.getD it0).2.2.2.2.2.1,gH (iM l wd a en).2 (iM l wd a en).1)else none:=rfl;have hbw:∀k,iZ l a en lk k=(if 0<a∧(l[a-1]?.getD it0).2.2.2.2.2.2=true∧(l[en]?.getD it0).2.2.2.2.2.2=true then 3000 else 0)+(if 0<a∧(1<lk-k∨lk-k< -1)then 3000 else 0):=fun k=>rfl;have hmk2:0<a→(l[a-1]?.getD it0).2.2.2.2.2.2=mk:=fun h=>by have:=hmk (by omega);rw[show((a:Int)-1).toNat=a-1 by omega]at this;exact this.symm
 unfold lcR;rw[hlr];clear hlr hmk hn0 hn1 hn2 hB;generalize iM l wd a en=B at*;obtain⟨bad,st⟩:=B;(try dsimp only at ap1⊢);by_cases hL:eG l a en=true∧0≤bad∧bad≤most
 ·rw[if_pos hL]
  (try dsimp only);obtain⟨h1,h2,h3⟩:=hL;rw[h1,if_pos rfl,Bool.true_and]at ap1;have ap2:=wJ (s:=st) (bad:=bad) ⟨h2,by omega⟩;have ap3:=abp (bad:=bad) ⟨h2,by omega⟩ hcst;have hkr:=l5 st bad;have hcr:=ow (bad:=bad) ⟨h2,by omega⟩ hcst;rw[hbw];clear hbw h1 hcst;by_cases h0:0<a
  ·rw[hmk2 h0]
   clear hmk2;generalize hy:l[en]?.getD it0=y at*;obtain⟨y1,y2,y3,y4,y5,y6,y7⟩:=y;(try dsimp only at ap3 hcr⊢);generalize lT bad y6=co at*;generalize gH st bad=k at*;cases mk<;>cases y7<;>by_cases hz:1<lk-k∨lk-k< -1<;>
   ·first
     |rw[if_pos (show 0<a∧(1<lk-k∨lk-k< -1)from⟨h0,hz⟩)]
     |rw[if_neg (show¬(0<a∧(1<lk-k∨lk-k< -1))from fun q=>hz q.2)]
    have glc_c215:=sM;have glc_c216:=rQ;have glc_c217:=uJ;(refine wlk ?_;intros);refine lZ 10 (by simp only[List.map_cons,List.map_nil]<;>exact rfl) (by simp only[List.take_succ_cons,List.take_zero]<;>exact rfl) (by simp only[List.drop_succ_cons,List.drop_zero]<;>exact rfl) vQ (by decide+kernel) (by decide+kernel) ?_;(refine wlk ?_;intros);refine asg (by(simp(disch:=(first|omega|(simp only[push_cast];first|done|omega))) only[push_cast,↓reduceIte,Nat.reduceEqDiff,Nat.reduceBEq,Nat.reduceAdd,Nat.reduceSub,Int.reduceToNat, *]<;>with_reducible exact rfl)) ?_;((refine wlk6 ?_ ?_ ?_ ?_ ?_ ?_<;>intros<;>try with_reducible exact trivial)<;>(refine fnG ?_;try with_reducible exact trivial));all_goals(simp[h0];try omega)
  ·obtain rfl:a=0:=by omega
   rw[if_neg (fun q=>h0 q.1),if_neg (fun q=>h0 q.1)];clear hmk2;generalize hy:l[en]?.getD it0=y at*;obtain⟨y1,y2,y3,y4,y5,y6,y7⟩:=y;(try dsimp only at ap3 hcr⊢);generalize lT bad y6=co at*;generalize gH st bad=k at*;simp only[Int.natCast_zero,Int.zero_sub]at ap1⊢;have glc_c215:=sM;have glc_c216:=rQ;have glc_c217:=uJ;(refine wlk ?_;intros);refine lZ 10 (by simp only[List.map_cons,List.map_nil]<;>exact rfl) (by simp only[List.take_succ_cons,List.take_zero]<;>exact rfl) (by simp only[List.drop_succ_cons,List.drop_zero]<;>exact rfl) vQ (by decide+kernel) (by decide+kernel) ?_;(refine wlk ?_;intros);refine asg (by(simp(disch:=(first|omega|(simp only[push_cast];first|done|omega))) only[push_cast,↓reduceIte,Nat.reduceEqDiff,Nat.reduceBEq,Nat.reduceAdd,Nat.reduceSub,Int.reduceToNat, *]<;>with_reducible exact rfl)) ?_;((refine wlk6 ?_ ?_ ?_ ?_ ?_ ?_<;>intros<;>try with_reducible exact trivial)<;>(refine fnG ?_;try with_reducible exact trivial));all_goals(simp;try omega)
 ·rw[if_neg hL]
  (try dsimp only);have hbb:∃b9:Int,φLb [fV l,.val (.int .i64 ((a:Int)-1)),.val (.int .i64 en),.val (.int .i64 wd)]=some (.tup [.val (.int .i64 b9),.val (.bool (eG l a en&&st))])∧(b9<0∨most<b9):=by
   refine⟨_,ap1,?_⟩;split
   ·rename_i h
    by_cases hb0:bad<0
    ·exact .inl hb0
    ·refine .inr ?_
     by_cases hb1:bad≤most
     ·exact absurd ⟨h,by omega,hb1⟩ hL
     ·omega
   ·exact .inl (by decide)
  clear hL ap1 hbw hmk2 hcst;obtain⟨b9,ap1,hb⟩:=hbb;generalize(eG l a en&&st)=q9 at*;rcases hb with hb|hb
  ·have glc_c215:=sM;have glc_c216:=rQ;have glc_c217:=uJ
   exact wlkF
  ·by_cases h00:b9<0
   ·have glc_c215:=sM;have glc_c216:=rQ;have glc_c217:=uJ
    exact wlkF
   ·have glc_c215:=sM;have glc_c216:=rQ;have glc_c217:=uJ
    exact wlkF
theorem ao8:Tryz.prog.underlying 141=some (.map 145 147):=by kernel_rfl
theorem axK:(145:TypeId)<Tryz.prog.types.size:=of_decide_eq_true (by kernel_rfl)
theorem av4:(match Tryz.prog.underlying 145 with|some (.array _ _)|some (.struct _)=>true|_=>false)=true:=by kernel_rfl
set_option maxRecDepth 100000 in
theorem auk:laidOutB Tryz.prog=true:=by kernel_rfl
set_option maxRecDepth 100000 in
theorem azp:Tryz.prog.keyTypeAt 3 145=true:=by kernel_rfl
theorem afy {P:Program} {k:TypeId} (hl:laidOutB P=true) (hrow:k<P.types.size) (hk:P.keyTypeAt 3 k=true) (hwide:(match P.underlying k with|some (.array _ _)|some (.struct _)=>true|_=>false)=true):Go.Maps.Keyed P k:=Go.Maps.Keyed.of_law (deep_law_laid hl (m:=3) (by omega) hrow hk hwide)
set_option maxRecDepth 100000 in
theorem abR:Go.Maps.Keyed Tryz.prog 145:=afy auk axK azp av4
abbrev aev (n:Int) (mk:Bool) (lk:Int):Value:=.agg #[.int .i64 n,.bool mk,.int .i64 lk]
def kl1 (n:Int):Option (List Lit):=if IntKind.i64=.i64∧(Lit.int .i64 n).wf=true then some [.int .i64 n]else none
set_option maxRecDepth 100000 in
theorem aer (n lk:Int) (mk:Bool):Tryz.prog.keyLits (Tryz.prog.types.size+1) 145 (aev n mk lk).cells.toList=(do let a←kl1 n;let b←some [Lit.bool mk];let c←kl1 lk;pure [a,b,c]:Option (List (List Lit))).map List.flatten:=by kernel_rfl
theorem wU {n lk:Int} {mk:Bool} (h1:okI n) (h2:okI lk):∃l,keyOf Tryz.prog 145 (aev n mk lk)=some l:=by
 have hk:Tryz.prog.keyType 145=true:=by kernel_rfl
 have hf:(aev n mk lk).formed Tryz.prog 145=true:=by
  obtain⟨fs,hu⟩:∃fs,Tryz.prog.underlying 145=some (.struct fs):=⟨_,ani⟩;have hc:Tryz.prog.cellsOf 145=3:=by kernel_rfl
  simp[Value.formed,hu,hc]
 have w1:(Lit.int .i64 n).wf=true:=by show(decide (-9223372036854775808≤n)&&decide (n≤9223372036854775807))=true;simp[h1.1,h1.2]
 have w2:(Lit.int .i64 lk).wf=true:=by show(decide (-9223372036854775808≤lk)&&decide (lk≤9223372036854775807))=true;simp[h2.1,h2.2]
 unfold keyOf;rw[ani];dsimp only
 rw[hk,hf,Bool.and_self,if_pos rfl];rw[aer];unfold kl1;rw[if_pos ⟨rfl,w1⟩,if_pos ⟨rfl,w2⟩];exact⟨_,rfl⟩
theorem ajN:bf Tryz.prog 143 0=some 0:=by kernel_rfl
theorem akJ:bf Tryz.prog 143 1=some 1:=by kernel_rfl
theorem akZ:bf Tryz.prog 143 2=some 2:=by kernel_rfl
theorem akB:bf Tryz.prog 143 3=some 3:=by kernel_rfl
theorem aoE:bn Tryz.prog 141=some 1:=by kernel_rfl
theorem aoN:jN Tryz.prog 141=some false:=by kernel_rfl
attribute[push_cast]
 ajN akJ akZ akB aoE aoN
abbrev mkA (l:List It) (a:Nat):Bool:=if a=0 then false else(gI l (a-1)).2.2.2.2.2.2
def chV (l:List It) (a:Nat) (r:Option Ch):Value:=if a=l.length then .agg #[.int .i64 0,.int .i64 0,.bool false,.int .i64 0]else match r with
 |none=> .agg #[.int .i64 (-1),.int .i64 0,.bool false,.int .i64 0]
 |some x=> .agg #[.int .i64 x.1,.int .i64 x.2.1,.bool (gI l x.2.1).2.2.2.2.2.2,.int .i64 x.2.2]
def chP (l:List It) (a:Nat) (r:Option Ch):PV:=if a=l.length then .agg [iv 0,iv 0,bv false,iv 0]else match r with
 |none=> .agg [iv (-1),iv 0,bv false,iv 0]
 |some x=> .agg [iv x.1,iv x.2.1,bv (gI l x.2.1).2.2.2.2.2.2,iv x.2.2]
theorem qM (l:List It) (a:Nat) (r:Option Ch):toVal (chP l a r)=some (chV l a r):=by
 unfold chP chV;split
 ·rfl
 ·cases r<;>rfl
abbrev ahJ (l:List It) (wd most:Int) (b:Nat):PV:=.ptr false (.agg [fV l,iv wd,iv most,.val (.map (some b))]) 0
def qG (l:List It) (wd most:Int) (L:VL):Prop:=∀p∈L,∃(a:Nat) (lk:Int),a<l.length∧(0≤lk∧lk≤3)∧p.1=aev ((a:Int)-1) (mkA l a) lk∧p.2=chV l a (aJ l wd most a lk)
def aC (r:Option Ch):Int:=match r with|none=>-1|some x=>x.1
def aN (r:Option Ch):Int:=match r with|none=>0|some x=>x.2.1
def aM (l:List It) (r:Option Ch):Bool:=match r with|none=>false|some x=>(gI l x.2.1).2.2.2.2.2.2
def aK (r:Option Ch):Int:=match r with|none=>0|some x=>x.2.2
theorem aah {l:List It} {a:Nat} {r:Option Ch} (h:¬a=l.length):chP l a r=.agg [iv (aC r),iv (aN r),bv (aM l r),iv (aK r)]:=by unfold chP;rw[if_neg h];cases r<;>rfl
theorem ajW (l:List It) (a:Nat) (lk wd most:Int):∃c n m k,chP l a (aJ l wd most a lk)=.agg [iv c,iv n,bv m,iv k]∧((aJ l wd most a lk=none∧c=-1)∨∃r,aJ l wd most a lk=some r∧c=r.1):=by
 by_cases h:a=l.length
 ·subst h
  exact⟨0,0,false,0,if_pos rfl,.inr ⟨_,nR _ _ _ _,rfl⟩⟩
 ·refine⟨_,_,_,_,aah h,?_⟩
  cases hr:aJ l wd most a lk with
  |none=>exact .inl ⟨rfl,rfl⟩
  |some r=>exact .inr ⟨r,rfl,rfl⟩
theorem alh {n:Nat} {ob:bD} (l:List It) (wd most:Int) (b:Nat):reify false n ob 8 (ahJ l wd most b)=some (ahJ l wd most b):=by
 have h1:reify false n ob 6 (fV l)=some (fV l):=by(simp(disch:=(first|omega|(simp only[push_cast];first|done|omega))) only[push_cast,↓reduceIte,Nat.reduceEqDiff,Nat.reduceBEq,Nat.reduceAdd,Nat.reduceSub,Int.reduceToNat, *]<;>with_reducible exact rfl)
 show(if false=true∧false=false then none else(([fV l,iv wd,iv most,.val (.map (some b))].mapM (reify false n ob 6)).map PV.agg).map (PV.ptr false · 0))=_;rw[if_neg (by decide)];simp only[List.mapM_cons,List.mapM_nil,h1];rfl
attribute[push_cast]
 alh
theorem HY.ayJ {P:Program} {k:TypeId} {N B:Nat} {w00:World} {Γ:Ctx} {K:X→AS→Sg→Prop} {s:AS} {b:Nat} {L:VL} {id:Nat} (n:Nat) {os pre:List Oper} {t e:TypeId} {x y z:Operand} {ty:Nat} {pos:String} {af:Array Edge} (hm:P.follows .mixedOrders=true) (hΓ:ak P Γ) (Ky:Go.Maps.Keyed P k) (ht:P.underlying t=some (.map k e))
 (h1:os.take n=pre) (h2:os.drop n=[{dst:=none,op:=.mapUpdate t x y z,type:=ty,pos:=pos,after:=af,guard:=none}]) {gs:List (Option Nat)} (hgs:os.map (·.dst)=gs) (hd:os.toArray.all (jB N)=true) (hok:oF Γ (amQ true os.toArray) os.toArray=true) (hlast:(List.range n).all (fun i=>aaL os.toArray os.toArray.size i n)=true) (hn:pre.length=n)
 (hp:wq P Γ (amQ true os.toArray) gs pre (fun s1=>∃key val kl,look s1.tm x=.val (.map (some b))∧toVal (look s1.tm y)=some key∧toVal (look s1.tm z)=some val∧keyOf P k key=some kl∧∀L',Upd L key val L'→K .normal s1 (some (b,L'))) s.tm s.ob s.nx):HY P k N B w00 (.region id os.toArray true) K s (some (b,L)):=
 HY.azf hm hΓ Ky ht hd hok hlast (show os=pre++_ by rw[←h1,←h2,List.take_append_drop]) hn rfl rfl rfl hgs hp
theorem qG.upd {l:List It} {wd most:Int} {L L':VL} {a:Nat} {lk:Int} (h:qG l wd most L) (ha:a<l.length) (hk:0≤lk∧lk≤3) (hu:Upd L (aev ((a:Int)-1) (mkA l a) lk) (chV l a (aJ l wd most a lk)) L'):qG l wd most L':=by
 cases hu with
 |new h1=>
  intro p hp;rcases List.mem_append.1 hp with hp|hp
  ·exact h p hp
  ·rw[List.mem_singleton.1 hp]
   exact⟨a,lk,ha,hk,rfl,rfl⟩
 |old h1=>
  subst h1;intro p hp;rcases List.mem_append.1 hp with hp|hp
  ·exact h p (List.mem_append.2 (.inl hp))
  ·rcases List.mem_cons.1 hp with rfl|hp
   ·exact⟨a,lk,ha,hk,rfl,rfl⟩
   ·exact h p (List.mem_append.2 (.inr (List.mem_cons_of_mem _ hp)))
def awW:Ctx:={fn:=aY [(176,φLc)],io:=aY []}
theorem cu:ak Tryz.prog awW:=okΓ (fC Tryz.func176 ahk aj) aj
def amt:=ah (Γ:=awW) (f:=176) (φ:=φLc) rfl
set_option maxRecDepth 100000 in
theorem al1 {l:List It} {wd most:Int} (hl:aW l=true) (hpos:0<l.length) (hw:0≤wd∧wd≤1000) (hm:0≤most∧most≤10000):∀(n a:Nat) (lk:Int),l.length-a=n→a≤l.length→(0≤lk∧lk≤3)→∀(b:Nat) (L:VL),qG l wd most L→
 ∀(w:World) (Jm:Nat→Prop) (args:Array Value),(∀i,Jm i→i<w.heap.size∧i≠b)→bX (aaN Jm) w [ahJ l wd most b,avQ ((a:Int)-1,mkA l a,lk)] args.toList→mO Tryz.prog 145 w b L→qF w (fun i=>i=b)→
 Calls Tryz.prog 123 args w fun e w'=>∃p v L',e=.returned v∧(∀(g:Gh) (w:World),Rep g w p v)∧w.grownBy w' (some b)∧mO Tryz.prog 145 w' b L'∧(p=chP l a (aJ l wd most a lk)∧qG l wd most L'):=by
 intro n
 induction n using Nat.strongRecOn with
 |_ n ih=>
 intro a lk hn ha hlk b L hL w Jm args hJ hargs hM hT;have hlen:=bH hl;refine HY.calls (N:=99) (rs:=[.cell 4 147]) (R:=fun p L'=>p=chP l a (aJ l wd most a lk)∧qG l wd most L') Tryz.func123 rfl rfl rfl (by simp) hJ hargs hM hT (HY.start ?_);refine HY.seq (HY.eng mixed cu (by kernel_rfl) ?_);(try dsimp only);(refine wlk ?_;intros);refine HY.seq (HY.eng mixed cu (by kernel_rfl) ?_);(try dsimp only);have hll:((l.map gG).length:Int)=(l.length:Int):=by simp
 have IH:=Lib.hid ih;have HL:=Lib.hid hL;clear ih hL hJ hargs hM hT;by_cases han:a=l.length
 ·have hch:chP l a (aJ l wd most a lk)=.agg [iv 0,iv 0,bv false,iv 0]:=if_pos han
  have hv:=qM l a (aJ l wd most a lk);generalize mkA l a=mk;subst han;(refine wlk ?_;intros);dsimp only
  refine⟨.inr rfl,_,_,L,?_,hv,rfl,rfl,HL.out⟩;rw[hch];clear hv hch;exact agr
 have hal:a<l.length:=by omega
 have hkn:okI ((a:Int)-1):=by omega
 have hkk:okI lk:=by omega
 obtain⟨c0,n0,m0,k0,hch⟩:∃c n m k,chP l a (aJ l wd most a lk)=.agg [iv c,iv n,bv m,iv k]:=by unfold chP;rw[if_neg han];cases aJ l wd most a lk<;>exact⟨_,_,_,_,rfl⟩
 have hv:=qM l a (aJ l wd most a lk);rw[hch]at hv;by_cases hit:∃v,(aev ((a:Int)-1) (mkA l a) lk,v)∈L
 ·obtain⟨v,hin⟩:=hit
  obtain⟨a',lk',h1,h2,h3,h4⟩:=HL.out _ hin;obtain⟨rfl,rfl⟩:a'=a∧lk'=lk:=by simp only[aev,Value.agg.injEq]at h3;have:=congrArg Array.toList h3;simp at this;omega
  have h4':v=chV l a' (aJ l wd most a' lk'):=h4;subst h4';clear h1 h2 h3 h4;have HIN:=Lib.hid hin;have HCH:=Lib.hid hch;have HV:=Lib.hid hv;clear hin hch hv;generalize mkA l a'=mk at*;(refine wlk ?_;intros);dsimp only
  have hlk:=ane (Γ:=awW) (t:=141) (b:=b) (c:=true) (k0:=aev ((a':Int)-1) mk lk') (p:=.tup [.agg [iv c0,iv n0,bv m0,iv k0],bv true]);refine HY.seq (HY.see (M:=⟨141,b,wo true (aev ((a':Int)-1) mk lk') (.tup [.agg [iv c0,iv n0,bv m0,iv k0],bv true])⟩) mixed cu rfl ?_ (by kernel_rfl) ?_)
  ·intro key c p hp w1 g1 hM1
   obtain⟨rfl,rfl,rfl⟩:=tJ hp;obtain⟨kl,hkl⟩:=wU (mk:=mk) hkn hkk;refine⟨_,hM1.ad9 abR ao8 true hkl HIN.out,?_⟩;exact adB (uV HV.out) (by simp[Rep])
  (try dsimp only);(refine wlk ?_;intros);refine lZ 9 (by simp only[List.map_cons,List.map_nil]<;>exact rfl) (by simp only[List.take_succ_cons,List.take_zero]<;>exact rfl) (by simp only[List.drop_succ_cons,List.drop_zero]<;>exact rfl) vR (by kernel_rfl) (by kernel_rfl) ?_;(refine wlk ?_;intros);refine asg (by(simp(disch:=(first|omega|(simp only[push_cast];first|done|omega))) only[push_cast,↓reduceIte,Nat.reduceEqDiff,Nat.reduceBEq,Nat.reduceAdd,Nat.reduceSub,Int.reduceToNat, *]<;>with_reducible exact rfl)) ?_;(refine wlk ?_;intros);dsimp only
  refine⟨.inr rfl,_,_,L,?_,HV.out,rfl,HCH.out.symm,HL.out⟩;exact agr
 ·have hmiss:∀p∈L,p.1≠aev ((a:Int)-1) (mkA l a) lk:=fun p hp e=>hit ⟨p.2,by rw[←e];exact hp⟩
  have HMI:=Lib.hid hmiss;have HCH:=Lib.hid hch;have HV:=Lib.hid hv;clear hit hch hv hmiss;obtain⟨mk,hmk⟩:∃mk,mk=mkA l a:=⟨_,rfl⟩;rw[←hmk]at HMI⊢;have HMK:=Lib.hid hmk;clear hmk;(refine wlk ?_;intros);dsimp only
  have hlk:=ane (Γ:=awW) (t:=141) (b:=b) (c:=true) (k0:=aev ((a:Int)-1) mk lk) (p:=.tup [.agg [iv 0,iv 0,bv false,iv 0],bv false]);refine HY.seq (HY.see (M:=⟨141,b,wo true (aev ((a:Int)-1) mk lk) (.tup [.agg [iv 0,iv 0,bv false,iv 0],bv false])⟩) mixed cu rfl ?_ (by kernel_rfl) ?_)
  ·intro key c p hp w1 g1 hM1
   obtain⟨rfl,rfl,rfl⟩:=tJ hp;obtain⟨kl,hkl⟩:=wU (mk:=mk) hkn hkk;refine⟨_,hM1.aqB abR ao8 true hkl (l9 vR w1) HMI.out,?_⟩;exact adB (uV rfl) (by simp[Rep])
  (try dsimp only);(refine wlk ?_;intros);refine lZ 9 (by simp only[List.map_cons,List.map_nil]<;>exact rfl) (by simp only[List.take_succ_cons,List.take_zero]<;>exact rfl) (by simp only[List.drop_succ_cons,List.drop_zero]<;>exact rfl) vR (by kernel_rfl) (by kernel_rfl) ?_;(refine wlk ?_;intros);refine asg (by(simp(disch:=(first|omega|(simp only[push_cast];first|done|omega))) only[push_cast,↓reduceIte,Nat.reduceEqDiff,Nat.reduceBEq,Nat.reduceAdd,Nat.reduceSub,Int.reduceToNat, *]<;>with_reducible exact rfl)) ?_;(refine wlk ?_;intros);dsimp only
  clear hlk;refine HY.cut (Lf:=[(0,ahJ l wd most b),(3,.own 0 3 0 0),(4,.own 1 4 0 0)]) (O:=[(0,145,3,[.agg [iv ((a:Int)-1),bv mk,iv lk]]),(1,147,4,[.agg [iv 0,iv 0,bv false,iv 0]])]) (x:=3) (by exact agr) (by exact agr) rfl ?_;refine HY.seq (HY.eng mixed cu (by kernel_rfl) ?_);dsimp only
  (refine wlk ?_;intros);dsimp only
  refine HY.seq (HY.seq (HY.eng mixed cu (by kernel_rfl) ?_));dsimp only
  (refine wlk ?_;intros);dsimp only
  refine HY.block (HY.aap (α:=Nat×Nat) (fun i=>[(0,ahJ l wd most b),(3,.own 0 3 0 0),(4,.own 1 4 0 0),(7,.own 3 4 0 0),(8,iv ((l.length:Int)-1-i.1))])
   (fun i=>[(0,145,3,[.agg [iv ((a:Int)-1),bv mk,iv lk]]),(1,147,4,[.agg [iv 0,iv 0,bv false,iv 0]]),(3,147,4,[.agg [iv (aC (bC l wd most a lk (aJ l wd most) i.1)),iv (aN (bC l wd most a lk (aJ l wd most) i.1)),bv (aM l (bC l wd most a lk (aJ l wd most) i.1)),iv (aK (bC l wd most a lk (aJ l wd most) i.1))]])])
   (fun i=>i.2) (fun i σ=>i.1≤l.length-a∧4≤i.2∧∃L',σ=some (b,L')∧qG l wd most L') (fun i=>l.length-a-i.1) (0,4) ⟨Nat.zero_le _,Nat.le_refl _,L,rfl,HL.out⟩ ?_ ?_ rfl ?_)
  ·exact agi
  ·simp only[bC,aC,aN,aM,aK]
   exact agr
  ·rintro⟨j,y⟩ σ ⟨hj,hy,L',rfl,hL'⟩
   dsimp only at hj hy;have HL2:=Lib.hid hL';clear hL';by_cases hja:j<l.length-a
   ·refine HY.seq (HY.eng mixed cu (by kernel_rfl) ?_)
    obtain⟨en,hen⟩:∃en:Nat,en+1+j=l.length:=⟨l.length-1-j,by omega⟩;have he8:(l.length:Int)-1-(j:Int)=(en:Int):=by omega
    dsimp only
    rw[he8];generalize hR:bC l wd most a lk (aJ l wd most) j=R at*;have HR:=Lib.hid hR;clear hR he8;have hap:axb l wd most ((a:Int)-1,mk,lk) en:=⟨⟨hl,by dsimp only;omega,by dsimp only;omega,by omega⟩,hw,hm,hlk,fun h0=>by have:=HMK.out;dsimp only at h0⊢;rw[this];unfold mkA;rw[if_neg (by omega),show((a:Int)-1).toNat=a-1 by omega]⟩
    have ap:=an0 hap;clear hap;generalize hE:lcR l wd most a en lk=E at*;obtain⟨c9,e9,m9,k9⟩:=E;have HE:=Lib.hid hE;clear hE;dsimp only at ap;have hy1:¬y=0:=by omega
    have hy2:¬y=1:=by omega
    have hy3:¬y=3:=by omega
    have gbst_c176:=amt;(refine wlk ?_;intros);dsimp only
    refine HY.seq (HY.block (HY.seq (HY.eng mixed cu (by kernel_rfl) ?_)));dsimp only
    (refine wlk ?_;intros);refine lZ 18 (by simp only[List.map_cons,List.map_nil]<;>exact rfl) (by simp only[List.take_succ_cons,List.take_zero]<;>exact rfl) (by simp only[List.drop_succ_cons,List.drop_zero]<;>exact rfl) vQ (by kernel_rfl) (by kernel_rfl) ?_;(refine wlk ?_;intros);refine asg (by(simp(disch:=(first|omega|(simp only[push_cast];first|done|omega))) only[push_cast,↓reduceIte,Nat.reduceEqDiff,Nat.reduceBEq,Nat.reduceAdd,Nat.reduceSub,Int.reduceToNat, *]<;>with_reducible exact rfl)) ?_;(refine wlk ?_;intros);dsimp only
    refine HY.cut (Lf:=[(0,ahJ l wd most b),(3,.own 0 3 0 0),(4,.own 1 4 0 0),(7,.own 3 4 0 0),(8,iv (en:Int)),(9,iv c9),(10,.own y 3 0 0)]) (O:=[(0,145,3,[.agg [iv ((a:Int)-1),bv mk,iv lk]]),(1,147,4,[.agg [iv 0,iv 0,bv false,iv 0]]),(3,147,4,[.agg [iv (aC R),iv (aN R),bv (aM l R),iv (aK R)]]),(y,145,3,[.agg [iv e9,bv m9,iv k9]])]) (x:=y+1) (by exact agr) (by exact agr) rfl ?_;have hbn:∀z,iF l wd most a lk (aJ l wd most) R en=z→bC l wd most a lk (aJ l wd most) (j+1)=z:=fun z hz=>by rw[bC,show l.length-(j+1)=en by omega,HR.out,hz]
    clear ap;cases hL:iT l wd most a en with
    |none=>
     have hE2:=HE.out;unfold lcR at hE2;rw[hL]at hE2;cases hE2;have hN:=Lib.hid (hbn _ (iQ hL));clear hbn hL;refine HY.seq (HY.eng mixed cu (by kernel_rfl) ?_);(refine wlk ?_;intros);refine HY.eng mixed cu (by kernel_rfl) ?_;dsimp only
     (refine wlk ?_;intros);(try dsimp only);refine⟨(j+1,y+1),⟨by dsimp only;omega,by dsimp only;omega,L',rfl,HL2.out⟩,by dsimp only;omega,?_,?_,rfl⟩
     ·dsimp only
      exact agi
     ·dsimp only
      rw[hN.out];exact agr
    |some ck=>
     obtain⟨c,k⟩:=ck;have hE2:=HE.out;unfold lcR at hE2;rw[hL]at hE2;obtain⟨⟨-,-⟩,g2,g3⟩:=nU hl hm.2 hL;have g4:=kZ l a en lk k;dsimp only at hE2 g2 g3;have hmn:mkA l (en+1)=(l[en]?.getD it0).2.2.2.2.2.2:=rfl;have IHn:=IH.out (l.length-(en+1)) (by omega) (en+1) k rfl (by omega) g3 b L' HL2.out;rw[show((en+1:Nat):Int)-1=(en:Int) by omega,hmn]at IHn;simp only[Prod.mk.injEq]at hE2;obtain⟨rfl,rfl,rfl,rfl⟩:=hE2;have hc9:0≤c+iZ l a en lk k∧c+iZ l a en lk k≤400000000:=by omega
     have hbs:=fun r (h2:aJ l wd most (en+1) k=some r)=>hbn _ (j6 hL h2);have hbd:=fun(h2:aJ l wd most (en+1) k=none)=>hbn _ (kC hL h2);have hbr:=fun r (h2:aJ l wd most (en+1) k=some r)=>dJ hl hm.2 (show en+1≤l.length by omega) h2;have hRr:∀x,R=some x→0≤x.1∧x.1≤20000000000:=fun x hx=>(qc (a:=a) hl hm.2 hal (HR.out.trans hx)).1;have hcp:=ajW l (en+1) k wd most;clear hbn g2 g4;generalize hc8:c+iZ l a en lk k=c9 at*;generalize hme:(l[en]?.getD it0).2.2.2.2.2.2=m9 at*;generalize aJ l wd most (en+1) k=rr at*;have HME:=Lib.hid hme;have HB:=Lib.hid (And.intro hbs (And.intro hbd (And.intro hbr hRr)));have HIH:=Lib.hid IHn;clear hc8 hL HE hme hbs hbd hbr hRr IHn hmn;obtain⟨c2,n2,m2,k2,hp2,hc2⟩:=hcp;have HC2:=Lib.hid hc2;have HP2:=Lib.hid hp2;clear hc2 hp2;refine HY.seq (HY.eng mixed cu (by kernel_rfl) ?_);(refine wlk ?_;intros);refine HY.seq (HY.each (HO.pre (imm:=⟨[],[],[]⟩) 2 cu (by kernel_rfl) (by simp only[List.take_succ_cons,List.take_zero]<;>exact rfl) (by simp only[List.drop_succ_cons,List.drop_zero]<;>exact rfl) (by simp only[List.map_cons,List.map_nil]<;>exact rfl) ?_));(refine wlk ?_;intros);refine HO.call (ps:=[ahJ l wd most b,.agg [iv (en:Int),bv m9,iv k]]) (R:=fun p L'=>p=chP l (en+1) rr∧qG l wd most L') rfl rfl ⟨_,Tryz.func123,rfl,rfl⟩ rfl ?_ ?_ HIH.out ?_
     ·intro x e
      cases e;decide
     ·dsimp only
      (simp(disch:=(first|omega|(simp only[push_cast];first|done|omega))) only[push_cast,↓reduceIte,Nat.reduceEqDiff,Nat.reduceBEq,Nat.reduceAdd,Nat.reduceSub,Int.reduceToNat, *]<;>with_reducible exact rfl)
     ·rintro p L3 ⟨rfl,hL3⟩
      rw[HP2.out];have HL3:=Lib.hid hL3;clear hL3;refine HO.pre (imm:=⟨[],[],[]⟩) 2 cu (by kernel_rfl) (by simp only[List.take_succ_cons,List.take_zero]<;>exact rfl) (by simp only[List.drop_succ_cons,List.drop_zero]<;>exact rfl) (by simp only[List.map_cons,List.map_nil]<;>exact rfl) ?_;dsimp only[AS.put];(refine wlk ?_;intros);refine HO.nil ?_;refine HY.cut (Lf:=[(0,ahJ l wd most b),(3,.own 0 3 0 0),(4,.own 1 4 0 0),(7,.own 3 4 0 0),(8,iv (en:Int)),(9,iv c9),(10,.own y 3 0 0),(11,.own (y+1) 4 0 0)]) (O:=[(0,145,3,[.agg [iv ((a:Int)-1),bv mk,iv lk]]),(1,147,4,[.agg [iv 0,iv 0,bv false,iv 0]]),(3,147,4,[.agg [iv (aC R),iv (aN R),bv (aM l R),iv (aK R)]]),(y,145,3,[.agg [iv (en:Int),bv m9,iv k]]),(y+1,147,4,[.agg [iv c2,iv n2,bv m2,iv k2]])]) (x:=y+2) (by exact agr) (by exact agr) rfl ?_;rcases HC2.out with⟨hr,rfl⟩|⟨r,hr,rfl⟩
      ·have hN:=Lib.hid (HB.out.2.1 hr)
       clear hr;refine HY.eng mixed cu (by kernel_rfl) ?_;(refine wlk ?_;intros);refine HY.eng mixed cu (by kernel_rfl) ?_;dsimp only
       (refine wlk ?_;intros);(try dsimp only);refine⟨(j+1,y+2),⟨by dsimp only;omega,by dsimp only;omega,L3,rfl,HL3.out⟩,by dsimp only;omega,?_,?_,rfl⟩
       ·dsimp only
        exact agi
       ·dsimp only
        rw[hN.out];(try simp only[aC,aN,aM,aK,HME.out]);exact agr
      ·have hN1:=HB.out.1 r hr
       have hr1:=(HB.out.2.2.1 r hr).1;have hRR:=HB.out.2.2.2;clear hr;generalize r.1=r1 at*;cases R with
       |none=>
        have hN:=Lib.hid (hN1.trans (if_pos rfl));clear hN1 hRR;dsimp only[aC,aN,aM,aK];refine HY.eng mixed cu (by kernel_rfl) ?_;(refine wlk ?_;intros);refine HY.eng mixed cu (by kernel_rfl) ?_;dsimp only
        (refine wlk ?_;intros);(try dsimp only);refine⟨(j+1,y+2),⟨by dsimp only;omega,by dsimp only;omega,L3,rfl,HL3.out⟩,by dsimp only;omega,?_,?_,rfl⟩
        ·dsimp only
         exact agi
        ·dsimp only
         rw[hN.out];(try simp only[aC,aN,aM,aK,HME.out]);exact agr
       |some x=>
        have hx1:=hRR x rfl;clear hRR;obtain⟨x1,x2,x3⟩:=x;dsimp only at hx1;dsimp only[aC,aN,aM,aK];by_cases hlt:c9+r1<x1
        ·have hN:=Lib.hid (hN1.trans (if_pos (by simpa using hlt)))
         clear hN1;refine HY.eng mixed cu (by kernel_rfl) ?_;(refine wlk ?_;intros);refine HY.eng mixed cu (by kernel_rfl) ?_;dsimp only
         (refine wlk ?_;intros);(try dsimp only);refine⟨(j+1,y+2),⟨by dsimp only;omega,by dsimp only;omega,L3,rfl,HL3.out⟩,by dsimp only;omega,?_,?_,rfl⟩
         ·dsimp only
          exact agi
         ·dsimp only
          rw[hN.out];(try simp only[aC,aN,aM,aK,HME.out]);exact agr
        ·have hN:=Lib.hid (hN1.trans (if_neg (by simpa using hlt)))
         clear hN1;refine HY.eng mixed cu (by kernel_rfl) ?_;(refine wlk ?_;intros);refine HY.eng mixed cu (by kernel_rfl) ?_;dsimp only
         (refine wlk ?_;intros);(try dsimp only);refine⟨(j+1,y+2),⟨by dsimp only;omega,by dsimp only;omega,L3,rfl,HL3.out⟩,by dsimp only;omega,?_,?_,rfl⟩
         ·dsimp only
          exact agi
         ·dsimp only
          rw[hN.out];(try simp only[aC,aN,aM,aK,HME.out]);exact agr
   ·refine HY.seq (HY.eng mixed cu (by kernel_rfl) ?_)
    obtain rfl:j=l.length-a:=by omega
    have hR:=(mh (wd:=wd) (most:=most) (lk:=lk) hal).symm;dsimp only
    rw[hR,show(l.length:Int)-1-((l.length-a:Nat):Int)=(a:Int)-1 by omega];generalize hrr:aJ l wd most a lk=R at*;have HRR:=Lib.hid hrr;clear hR hrr;obtain⟨kl,hkl⟩:=wU (mk:=mk) hkn hkk;have HKL:=Lib.hid hkl;clear hkl;(refine wlk ?_;intros);refine HY.seq (HY.ayJ 6 mixed cu abR ao8 (by simp only[List.take_succ_cons,List.take_zero]<;>exact rfl) (by simp only[List.drop_succ_cons,List.drop_zero]<;>exact rfl) (by simp only[List.map_cons,List.map_nil]<;>exact rfl) (by kernel_rfl) (by kernel_rfl) (by kernel_rfl) rfl ?_);(try dsimp only);(refine wlk ?_;intros);refine⟨aev ((a:Int)-1) mk lk,chV l a R,kl,by(simp(disch:=(first|omega|(simp only[push_cast];first|done|omega))) only[push_cast,↓reduceIte,Nat.reduceEqDiff,Nat.reduceBEq,Nat.reduceAdd,Nat.reduceSub,Int.reduceToNat, *]<;>with_reducible exact rfl),?_,?_,HKL.out,fun L9 hu=>?_⟩
    ·refine Eq.trans (congrArg toVal (show _=PV.agg [iv ((a:Int)-1),bv mk,iv lk] by(simp(disch:=(first|omega|(simp only[push_cast];first|done|omega))) only[push_cast,↓reduceIte,Nat.reduceEqDiff,Nat.reduceBEq,Nat.reduceAdd,Nat.reduceSub,Int.reduceToNat, *]<;>with_reducible exact rfl))) rfl
    ·refine Eq.trans (congrArg toVal (show _=chP l a R by rw[aah han];(simp(disch:=(first|omega|(simp only[push_cast];first|done|omega))) only[push_cast,↓reduceIte,Nat.reduceEqDiff,Nat.reduceBEq,Nat.reduceAdd,Nat.reduceSub,Int.reduceToNat, *]<;>with_reducible exact rfl))) (qM l a R)
    have hG:qG l wd most L9:=HL2.out.upd hal hlk (by rw[←HMK.out,HRR.out];exact hu);replace hG:=Lib.hid hG;clear hu;(try dsimp only);refine HY.seq (HY.eng mixed cu (by kernel_rfl) ?_);(try dsimp only);(refine wlk ?_;intros);refine HY.eng mixed cu (by kernel_rfl) ?_;(refine wlk ?_;intros);(try dsimp only);refine⟨.inr rfl,_,_,L9,?_,qM l a R,rfl,rfl,hG.out⟩;rw[aah han];exact agr
def φBb:Fun:=F3 mQ dI dI fun l wd most=>if afh l then some (.tup [.lst true 1 ((aqa l wd most).map fun n=> .val (.int .i64 n)),bv (jI l wd most)])else none
theorem aiv {l:List It} {wd most:Int} (h:afh l):φBb [fV l,.val (.int .i64 wd),.val (.int .i64 most)]=some (.tup [.lst true 1 ((aqa l wd most).map fun n=> .val (.int .i64 n)),.val (.bool (jI l wd most))]):=(xD (A:=mQ) (B:=dI) (C:=dI) l wd most).trans (if_pos h)
theorem kG {l:List It} {wd most:Int} {a j en:Nat} (he:l.length-(j+1)=en) (h:iT l wd most a en=none) (k:Int):bC l wd most a k (aJ l wd most) (j+1)=bC l wd most a k (aJ l wd most) j:=by rw[bC,he,iQ h]
theorem tq {l:List It} {wd most:Int} {a j en:Nat} {x:Int×Int} (he:l.length-(j+1)=en) (h:iT l wd most a en=some x) (h2:aJ l wd most (en+1) x.2=none) (k:Int):bC l wd most a k (aJ l wd most) (j+1)=bC l wd most a k (aJ l wd most) j:=by rw[bC,he,kC h h2]
theorem uL {l:List It} {wd most:Int} {a j en:Nat} {x:Int×Int} {r:Ch} (he:l.length-(j+1)=en) (h:iT l wd most a en=some x) (h2:aJ l wd most (en+1) x.2=some r) (k:Int):
 bC l wd most a k (aJ l wd most) (j+1)=if(bC l wd most a k (aJ l wd most) j).all (fun y=>decide (x.1+iZ l a en k x.2+r.1<y.1))=true then some (x.1+iZ l a en k x.2+r.1,en,x.2)else bC l wd most a k (aJ l wd most) j:=by
 rw[bC,he,j6 h h2]
theorem zR {l:List It} {wd most:Int} {a en:Nat} (h:eG l a en=true) (h2:0≤(iM l wd a en).1∧(iM l wd a en).1≤most):iT l wd most a en=some (lT (iM l wd a en).1 (gI l en).cost,gH (iM l wd a en).2 (iM l wd a en).1):=if_pos ⟨h,h2⟩
def g0 (n k:Nat):Nat→Nat→Bool:=fun i j=>decide (i=n∧j<k)
theorem anT (n:Nat):tab n (g0 n 0)=tab n (fun _ _=>false):=iL fun i j _ _=>by simp[g0]
theorem aom (n k:Nat):tab n (vM (g0 n k) n k true)=tab n (g0 n (k+1)):=iL fun i j _ _=>by
 unfold vM g0;by_cases h:i=n∧j=k
 ·rw[if_pos h,decide_eq_true (by omega)]
 ·rw[if_neg h]
  congr 1;apply propext;omega
theorem azk (l:List It) (wd most:Int):tab l.length (tB (tbA l wd most l.length))=tab l.length (fun _ _=>0)∧tab l.length (tG (tbA l wd most l.length))=tab l.length (g0 l.length 4)∧tab l.length (tN (tbA l wd most l.length))=tab l.length (fun _ _=>0):=
 ⟨iL fun i k h1 h2=>by
   unfold tB;rw[acL i k h1 h2];split<;>rfl,
   iL fun i k h1 h2=>by
    unfold tG;rw[acL i k h1 h2];unfold g0;split
    ·rw[decide_eq_true (by omega)];rfl
    ·rw[decide_eq_false (by omega)];rfl,
   iL fun i k h1 h2=>by unfold tN;rw[acL i k h1 h2];split<;>rfl⟩
theorem aaE {l:List It} {wd most:Int} {a en:Nat} (h:eG l a en=false):iT l wd most a en=none:=if_neg fun q=>by rw[h]at q;cases q.1
theorem zq {l:List It} {wd most:Int} {a en:Nat} (h:¬(0≤(iM l wd a en).1∧(iM l wd a en).1≤most)):iT l wd most a en=none:=if_neg fun q=>h q.2
def GBb:Ctx:={fn:=aY [(127,yQ),(34,φIn),(128,φBq),(129,φLq),(130,φBd),(131,φLk),(132,φCo),(133,φBw)],io:=aY []}
theorem atS:ak Tryz.prog GBb:=okΓ (fC Tryz.func127 afL (fC Tryz.func34 iy (fC Tryz.func128 zx (fC Tryz.func129 agK (fC Tryz.func130 aga (fC Tryz.func131 aiI (fC Tryz.func132 ajl (fC Tryz.func133 agC aj)))))))) aj
def rP:=ah (Γ:=GBb) (f:=127) (φ:=yQ) rfl
def zK:=ah (Γ:=GBb) (f:=34) (φ:=φIn) rfl
def tV:=ah (Γ:=GBb) (f:=128) (φ:=φBq) rfl
def uF:=ah (Γ:=GBb) (f:=129) (φ:=φLq) rfl
def sO:=ah (Γ:=GBb) (f:=130) (φ:=φBd) rfl
def rW:=ah (Γ:=GBb) (f:=131) (φ:=φLk) rfl
def uj:=ah (Γ:=GBb) (f:=132) (φ:=φCo) rfl
def uK:=ah (Γ:=GBb) (f:=133) (φ:=φBw) rfl
theorem agF:Sound Tryz.prog 97 φBb:=by
 refine au mixed atS Tryz.func97 rfl 218 rfl [.tmp 6,.tmp 7] rfl (by kernel_rfl) fun ps r hr=>?_;obtain⟨l,wd,most,rfl,hpre,rfl⟩:=vv hr;refine⟨by simp,?_⟩;simp only[dIs,dUs,dSs,dz,dF,dx,dG,aR,dD,aU,aV,aS,aT];have apv:=wV hpre;have api:=bK;have hl0:l.length≤1000:=hpre;show pq _ _ _ _ _ (bY [fV l,.val (.int .i64 wd),.val (.int .i64 most)]).tm _ _;unfold aqa;by_cases hg:aW l=true∧0<l.length∧(0≤wd∧wd≤1000)∧(0≤most∧most≤10000)
 ·obtain⟨hB,hn,hw,hm⟩:=hg
  have hl:=bH hB;have hok:jI l wd most=(aJ l wd most 0 1).isSome:=by unfold jI;rw[hB,decide_eq_true hn,av.2 hw,av.2 hm];rfl
  rw[hok];clear hok hpre;rw[hB]at apv;have api1:inB wd 0 1000=true:=av.2 hw;have api2:inB most 0 10000=true:=av.2 hm;have gbb_c127:=rP;have gbb_c34:=zK;have gbb_c128:=tV;have gbb_c129:=uF;have gbb_c130:=sO;have gbb_c131:=rW;have gbb_c132:=uj;have gbb_c133:=uK;(refine wlk ?_;intros);obtain⟨t1,t2,t3⟩:=azk l wd most;refine aG (α:=Nat) mixed (fun k=>[(0,fV l),(1,iv wd),(2,iv most),(8,.row 0 1 0 0),(9,iv l.length),(10,.row 1 4 0 (l.length+1)),(11,.row 2 4 0 (l.length+1)),(12,.row 3 4 0 (l.length+1)),(13,iv k)])
   (fun k=>[(0,3,1,[]),(1,158,4,(tab l.length fun _ _=>0).map aaM),(2,153,4,(tab l.length (g0 l.length k)).map aj4),(3,158,4,(tab l.length fun _ _=>0).map aaM)]) (fun _=>4)
   (fun k=>k≤4) (fun k=>4-k) (by kernel_rfl) 0 (Nat.zero_le _) ?_ ?_ rfl ?_
  ·exact agr
  ·simp(disch:=(first|omega|(simp only[push_cast];first|done|omega))) only[push_cast,↓reduceIte,Nat.reduceEqDiff,Nat.reduceBEq,Nat.reduceAdd,Nat.reduceSub,Int.reduceToNat,anT, *]
  intro k hk;by_cases hk4:k<4
  ·have hs:=aom l.length k
   clear t1 t2 t3;(refine wlk ?_;intros);refine⟨k+1,by omega,by dsimp only;omega,?_,?_,rfl⟩
   ·exact agr
   ·exact agr
  obtain rfl:k=4:=by omega
  (refine wlk ?_;intros);refine aG (α:=Nat×Int) mixed (fun z=>[(0,fV l),(1,iv wd),(2,iv most),(8,.row 0 1 0 0),(9,iv l.length),(10,.row 1 4 0 (l.length+1)),(11,.row 2 4 0 (l.length+1)),(12,.row 3 4 0 (l.length+1)),(14,iv z.2)])
   (fun z=>[(0,3,1,[]),(1,158,4,(tab l.length (tB (tbA l wd most z.1))).map aaM),(2,153,4,(tab l.length (tG (tbA l wd most z.1))).map aj4),(3,158,4,(tab l.length (tN (tbA l wd most z.1))).map aaM)]) (fun _=>4)
   (fun z=>z.1≤l.length∧z.2=(z.1:Int)-2) (fun z=>z.1) (by kernel_rfl) (l.length,(l.length:Int)-2) ⟨Nat.le_refl _,rfl⟩ ?_ ?_ rfl ?_
  ·exact agr
  ·exact agr
  clear t1 t2 t3 hk hk4;rintro⟨m,v⟩ ⟨hml,hv⟩;dsimp only at hml hv;by_cases h1:1≤m
  ·obtain⟨a,rfl⟩:∃a,m=a+1:=⟨m-1,by omega⟩
   obtain rfl:v=(a:Int)-1:=by omega
   clear hv h1;have hal:a<l.length:=by omega
   have hcan:(a:Int)-1+1=a:=by omega
   by_cases hskip:0<a∧nH l (a-1)=false
   ·obtain⟨ha0,hbq⟩:=hskip
    have apq:=yh (n:=a-1) hB (by omega);rw[hbq,show((a-1:Nat):Int)=(a:Int)-1 by omega]at apq;have hE:=Lib.hid (bL (alQ (wd:=wd) (most:=most) hal ha0 hbq));clear hbq;(refine wlk ?_;intros);refine⟨(a,(a:Int)-1-1),⟨by dsimp only;omega,by dsimp only;omega⟩,by dsimp only;omega,?_,?_,rfl⟩
    ·exact agr
    ·obtain⟨e1,e2,e3⟩:=hE.out
     exact agr
   ·have hgo:0<a→φBq [fV l,.val (.int .i64 ((a:Int)-1))]=some (.val (.bool true)):=fun ha0=>by
     have apq:=yh (n:=a-1) hB (by omega);rw[show((a-1:Nat):Int)=(a:Int)-1 by omega]at apq;rw[apq];cases hb:nH l (a-1)with
     |true=>rfl
     |false=>exact absurd ⟨ha0,hb⟩ hskip
    clear hskip;by_cases ha0:0<a
    ·have apq:=hgo ha0
     clear hgo;(refine wlk ?_;intros);refine aG (α:=Nat×Int) mixed (fun z=>[(0,fV l),(1,iv wd),(2,iv most),(8,.row 0 1 0 0),(9,iv l.length),(10,.row 1 4 0 (l.length+1)),(11,.row 2 4 0 (l.length+1)),(12,.row 3 4 0 (l.length+1)),(14,iv ((a:Int)-1)),(15,iv z.2)])
      (fun z=>[(0,3,1,[]),(1,158,4,(tab l.length (tB (tbJ l wd most a z.1))).map aaM),(2,153,4,(tab l.length (tG (tbJ l wd most a z.1))).map aj4),(3,158,4,(tab l.length (tN (tbJ l wd most a z.1))).map aaM)]) (fun _=>4)
      (fun z=>z.1+a≤l.length∧z.2=(l.length:Int)-1-z.1) (fun z=>l.length-z.1) (by kernel_rfl) (0,(l.length:Int)-1) ⟨by dsimp only;omega,by simp⟩ ?_ ?_ rfl ?_
     ·exact agr
     ·obtain⟨e1,e2,e3⟩:=bL (ads (l:=l) (wd:=wd) (most:=most) (a:=a))
      exact agr
     rintro⟨j,u⟩ ⟨hj,hu⟩;dsimp only at hj hu;by_cases h2:j+a<l.length
     ·obtain⟨en,rfl⟩:∃en:Nat,u=en:=⟨u.toNat,by omega⟩
      have he:l.length-(j+1)=en:=by omega
      have hu1:(en:Int)≤l.length-1-j:=by omega
      have hu2:(l.length:Int)-1-j≤en:=by omega
      replace he:=Lib.hid he;clear hu;have hae:a≤en:=by omega
      have hel:en<l.length:=by omega
      have apl:=ajh hB hae hel;have hskip:(∀k:Int,bC l wd most a k (aJ l wd most) (j+1)=bC l wd most a k (aJ l wd most) j)→tab l.length (tB (tbJ l wd most a j))=tab l.length (tB (tbJ l wd most a (j+1)))∧tab l.length (tG (tbJ l wd most a j))=tab l.length (tG (tbJ l wd most a (j+1)))∧tab l.length (tN (tbJ l wd most a j))=tab l.length (tN (tbJ l wd most a (j+1))):=fun h=>bL (acZ h);cases hq:eG l a en with
      |false=>
       rw[hq]at apl;have hE:=Lib.hid (hskip (kG he.out (aaE hq)));clear hskip hq;(refine wlk ?_;intros);refine⟨(j+1,(en:Int)-1),⟨by dsimp only;omega,by dsimp only;omega⟩,by dsimp only;omega,?_,?_,rfl⟩
       ·exact agr
       ·obtain⟨e1,e2,e3⟩:=hE.out
        exact agr
      |true=>
      rw[hq]at apl;have hst:=(fZ.1 hq).2.2.2.1;have apb:=abJ hB hae hel hw hst;by_cases hb:0≤(iM l wd a en).1∧(iM l wd a en).1≤most
      ·have hcst:agB (l[en]?.getD it0).2.2.2.2.2.1:=(gQ hB hel).cost
       have hL:iT l wd most a en=some (lT (iM l wd a en).1 (l[en]?.getD it0).2.2.2.2.2.1,gH (iM l wd a en).2 (iM l wd a en).1):=zR hq hb;clear hq hst;generalize iM l wd a en=bd at*;obtain⟨bad,st⟩:=bd;dsimp only at hb hL apb;have apk:=wJ (s:=st) (bad:=bad) ⟨hb.1,by omega⟩;have apc:=abp (bad:=bad) ⟨hb.1,by omega⟩ hcst;have hcr:=ow (bad:=bad) ⟨hb.1,by omega⟩ hcst;have hkr:=l5 st bad;obtain⟨kk,hkk⟩:∃kk:Nat,gH st bad=kk:=⟨(gH st bad).toNat,by omega⟩;rw[hkk]at hL apk hkr;clear hkk hcst;cases hr:aJ l wd most (en+1) kk with
       |none=>
        have hG:tG (tbJ l wd most a j) (en+1) kk=false:=by unfold tG;rw[jE (by omega),hr];rfl
        have hE:=Lib.hid (hskip (tq he.out hL hr));clear hskip hL hr;(refine wlk ?_;intros);refine⟨(j+1,(en:Int)-1),⟨by dsimp only;omega,by dsimp only;omega⟩,by dsimp only;omega,?_,?_,rfl⟩
        ·exact agr
        ·obtain⟨e1,e2,e3⟩:=hE.out
         exact agr
       |some r=>
        have hG:tG (tbJ l wd most a j) (en+1) kk=true:=by unfold tG;rw[jE (by omega),hr];rfl
        have hBv:tB (tbJ l wd most a j) (en+1) kk=r.1:=by unfold tB;rw[jE (by omega),hr];rfl
        have hrr:=(dJ hB hm.2 (by omega) hr).1;have hlive:=fun k=>uL he.out hL hr k;clear hskip hL hr;generalize hyy:l[en]?.getD it0=yy at*;obtain⟨y1,y2,y3,y4,y5,y6,y7⟩:=yy;dsimp only at apc hcr hlive;generalize lT bad y6=co at*;obtain⟨rc,rn,rk⟩:=r;dsimp only at hBv hrr hlive;replace hlive:=Lib.hid hlive;(refine wlk ?_;intros);refine aG (α:=Nat) mixed (fun b=>[(0,fV l),(1,iv wd),(2,iv most),(8,.row 0 1 0 0),(9,iv l.length),(10,.row 1 4 0 (l.length+1)),(11,.row 2 4 0 (l.length+1)),(12,.row 3 4 0 (l.length+1)),(14,iv ((a:Int)-1)),(15,iv en),(18,iv kk),(19,iv (co+rc)),(20,iv b)])
         (fun b=>[(0,3,1,[]),(1,158,4,(tab l.length (tB (tbK l wd most a j b))).map aaM),(2,153,4,(tab l.length (tG (tbK l wd most a j b))).map aj4),(3,158,4,(tab l.length (tN (tbK l wd most a j b))).map aaM)]) (fun _=>4)
         (fun b=>b≤4) (fun b=>4-b) (by kernel_rfl) 0 (Nat.zero_le _) ?_ ?_ rfl ?_
        ·exact agr
        ·obtain⟨e1,e2,e3⟩:=bL (adf (l:=l) (wd:=wd) (most:=most) (a:=a) (j:=j))
         exact agr
        clear hG hBv apc apk apb apl;intro b hb4;by_cases hb3:b<4
        ·have apw:=ahn (be:=(b:Int)) (lk:=(kk:Int)) hB hae hel ⟨by omega,by omega⟩ ⟨by omega,by omega⟩
         have hbw:=kZ l a en b kk;have hx:=hlive.out (b:Int);generalize iZ l a en b kk=bw at*;cases hacc:bC l wd most a b (aJ l wd most) j with
         |none=>
          rw[hacc]at hx;replace hx:_=some _:=hx;have hG:tG (tbK l wd most a j b) a b=false:=by unfold tG;rw[mg,hacc];rfl
          have hE:=Lib.hid (bL (rC hx));clear hx hacc;(refine wlk ?_;intros);refine⟨b+1,by omega,by dsimp only;omega,?_,?_,rfl⟩
          ·exact agr
          ·have hE2:=hE.out
           rw[←adg,←aen,←ac3]at hE2;obtain⟨e1,e2,e3⟩:=hE2;dsimp only at e1 e2 e3;rw[show co+bw+rc=co+rc+bw by omega]at e1;exact agr
         |some y=>
          rw[hacc]at hx;have hG:tG (tbK l wd most a j b) a b=true:=by unfold tG;rw[mg,hacc];rfl
          have hB2:tB (tbK l wd most a j b) a b=y.1:=by unfold tB;rw[mg,hacc];rfl
          have hyr:=(qc hB hm.2 hal hacc).1;by_cases hlt:co+rc+bw<y.1
          ·rw[if_pos (show(some y).all (fun y=>decide (co+bw+rc<y.1))=true from decide_eq_true (show co+bw+rc<y.1 by omega))]at hx
           have hE:=Lib.hid (bL (rC hx));clear hx hacc;generalize y.1=yc at*;(refine wlk ?_;intros);refine⟨b+1,by omega,by dsimp only;omega,?_,?_,rfl⟩
           ·exact agr
           ·have hE2:=hE.out
            rw[←adg,←aen,←ac3]at hE2;obtain⟨e1,e2,e3⟩:=hE2;dsimp only at e1 e2 e3;rw[show co+bw+rc=co+rc+bw by omega]at e1;exact agr
          ·rw[if_neg (show¬(some y).all (fun y=>decide (co+bw+rc<y.1))=true from fun q=>hlt (by have:=of_decide_eq_true (show decide (co+bw+rc<y.1)=true from q);omega))]at hx
           have hE:=Lib.hid (bL (adY (hx.trans hacc.symm)));clear hx hacc;generalize y.1=yc at*;(refine wlk ?_;intros);refine⟨b+1,by omega,by dsimp only;omega,?_,?_,rfl⟩
           ·exact agr
           ·obtain⟨e1,e2,e3⟩:=hE.out
            exact agr
        ·obtain rfl:b=4:=by omega
         have hE:=Lib.hid (bL (aiS (l:=l) (wd:=wd) (most:=most) (a:=a) (j:=j)));clear hlive;(refine wlk ?_;intros);refine⟨(j+1,(en:Int)-1),⟨by dsimp only;omega,by dsimp only;omega⟩,by dsimp only;omega,?_,?_,rfl⟩
         ·exact agr
         ·obtain⟨e1,e2,e3⟩:=hE.out
          exact agr
      ·have hE:=Lib.hid (hskip (kG he.out (zq hb)))
       clear hskip hq;generalize iM l wd a en=bd at*;obtain⟨bad,st⟩:=bd;dsimp only at hb apb;by_cases hb0:bad<0
       ·clear hb
        (refine wlk ?_;intros);refine⟨(j+1,(en:Int)-1),⟨by dsimp only;omega,by dsimp only;omega⟩,by dsimp only;omega,?_,?_,rfl⟩
        ·exact agr
        ·obtain⟨e1,e2,e3⟩:=hE.out
         exact agr
       ·have hb1:most<bad:=by omega
        clear hb;(refine wlk ?_;intros);refine⟨(j+1,(en:Int)-1),⟨by dsimp only;omega,by dsimp only;omega⟩,by dsimp only;omega,?_,?_,rfl⟩
        ·exact agr
        ·obtain⟨e1,e2,e3⟩:=hE.out
         exact agr
     ·obtain rfl:j=l.length-a:=by omega
      have hE:=Lib.hid (bL (agO (wd:=wd) (most:=most) hal));(refine wlk ?_;intros);refine⟨(a,(a:Int)-1-1),⟨by dsimp only;omega,by dsimp only;omega⟩,by dsimp only;omega,?_,?_,rfl⟩
      ·exact agr
      ·obtain⟨e1,e2,e3⟩:=hE.out
       exact agr
    ·clear hgo
     (refine wlk ?_;intros);refine aG (α:=Nat×Int) mixed (fun z=>[(0,fV l),(1,iv wd),(2,iv most),(8,.row 0 1 0 0),(9,iv l.length),(10,.row 1 4 0 (l.length+1)),(11,.row 2 4 0 (l.length+1)),(12,.row 3 4 0 (l.length+1)),(14,iv ((a:Int)-1)),(15,iv z.2)])
      (fun z=>[(0,3,1,[]),(1,158,4,(tab l.length (tB (tbJ l wd most a z.1))).map aaM),(2,153,4,(tab l.length (tG (tbJ l wd most a z.1))).map aj4),(3,158,4,(tab l.length (tN (tbJ l wd most a z.1))).map aaM)]) (fun _=>4)
      (fun z=>z.1+a≤l.length∧z.2=(l.length:Int)-1-z.1) (fun z=>l.length-z.1) (by kernel_rfl) (0,(l.length:Int)-1) ⟨by dsimp only;omega,by simp⟩ ?_ ?_ rfl ?_
     ·exact agr
     ·obtain⟨e1,e2,e3⟩:=bL (ads (l:=l) (wd:=wd) (most:=most) (a:=a))
      exact agr
     rintro⟨j,u⟩ ⟨hj,hu⟩;dsimp only at hj hu;by_cases h2:j+a<l.length
     ·obtain⟨en,rfl⟩:∃en:Nat,u=en:=⟨u.toNat,by omega⟩
      have he:l.length-(j+1)=en:=by omega
      have hu1:(en:Int)≤l.length-1-j:=by omega
      have hu2:(l.length:Int)-1-j≤en:=by omega
      replace he:=Lib.hid he;clear hu;have hae:a≤en:=by omega
      have hel:en<l.length:=by omega
      have apl:=ajh hB hae hel;have hskip:(∀k:Int,bC l wd most a k (aJ l wd most) (j+1)=bC l wd most a k (aJ l wd most) j)→tab l.length (tB (tbJ l wd most a j))=tab l.length (tB (tbJ l wd most a (j+1)))∧tab l.length (tG (tbJ l wd most a j))=tab l.length (tG (tbJ l wd most a (j+1)))∧tab l.length (tN (tbJ l wd most a j))=tab l.length (tN (tbJ l wd most a (j+1))):=fun h=>bL (acZ h);cases hq:eG l a en with
      |false=>
       rw[hq]at apl;have hE:=Lib.hid (hskip (kG he.out (aaE hq)));clear hskip hq;(refine wlk ?_;intros);refine⟨(j+1,(en:Int)-1),⟨by dsimp only;omega,by dsimp only;omega⟩,by dsimp only;omega,?_,?_,rfl⟩
       ·exact agr
       ·obtain⟨e1,e2,e3⟩:=hE.out
        exact agr
      |true=>
      rw[hq]at apl;have hst:=(fZ.1 hq).2.2.2.1;have apb:=abJ hB hae hel hw hst;by_cases hb:0≤(iM l wd a en).1∧(iM l wd a en).1≤most
      ·have hcst:agB (l[en]?.getD it0).2.2.2.2.2.1:=(gQ hB hel).cost
       have hL:iT l wd most a en=some (lT (iM l wd a en).1 (l[en]?.getD it0).2.2.2.2.2.1,gH (iM l wd a en).2 (iM l wd a en).1):=zR hq hb;clear hq hst;generalize iM l wd a en=bd at*;obtain⟨bad,st⟩:=bd;dsimp only at hb hL apb;have apk:=wJ (s:=st) (bad:=bad) ⟨hb.1,by omega⟩;have apc:=abp (bad:=bad) ⟨hb.1,by omega⟩ hcst;have hcr:=ow (bad:=bad) ⟨hb.1,by omega⟩ hcst;have hkr:=l5 st bad;obtain⟨kk,hkk⟩:∃kk:Nat,gH st bad=kk:=⟨(gH st bad).toNat,by omega⟩;rw[hkk]at hL apk hkr;clear hkk hcst;cases hr:aJ l wd most (en+1) kk with
       |none=>
        have hG:tG (tbJ l wd most a j) (en+1) kk=false:=by unfold tG;rw[jE (by omega),hr];rfl
        have hE:=Lib.hid (hskip (tq he.out hL hr));clear hskip hL hr;(refine wlk ?_;intros);refine⟨(j+1,(en:Int)-1),⟨by dsimp only;omega,by dsimp only;omega⟩,by dsimp only;omega,?_,?_,rfl⟩
        ·exact agr
        ·obtain⟨e1,e2,e3⟩:=hE.out
         exact agr
       |some r=>
        have hG:tG (tbJ l wd most a j) (en+1) kk=true:=by unfold tG;rw[jE (by omega),hr];rfl
        have hBv:tB (tbJ l wd most a j) (en+1) kk=r.1:=by unfold tB;rw[jE (by omega),hr];rfl
        have hrr:=(dJ hB hm.2 (by omega) hr).1;have hlive:=fun k=>uL he.out hL hr k;clear hskip hL hr;generalize hyy:l[en]?.getD it0=yy at*;obtain⟨y1,y2,y3,y4,y5,y6,y7⟩:=yy;dsimp only at apc hcr hlive;generalize lT bad y6=co at*;obtain⟨rc,rn,rk⟩:=r;dsimp only at hBv hrr hlive;replace hlive:=Lib.hid hlive;(refine wlk ?_;intros);refine aG (α:=Nat) mixed (fun b=>[(0,fV l),(1,iv wd),(2,iv most),(8,.row 0 1 0 0),(9,iv l.length),(10,.row 1 4 0 (l.length+1)),(11,.row 2 4 0 (l.length+1)),(12,.row 3 4 0 (l.length+1)),(14,iv ((a:Int)-1)),(15,iv en),(18,iv kk),(19,iv (co+rc)),(20,iv b)])
         (fun b=>[(0,3,1,[]),(1,158,4,(tab l.length (tB (tbK l wd most a j b))).map aaM),(2,153,4,(tab l.length (tG (tbK l wd most a j b))).map aj4),(3,158,4,(tab l.length (tN (tbK l wd most a j b))).map aaM)]) (fun _=>4)
         (fun b=>b≤4) (fun b=>4-b) (by kernel_rfl) 0 (Nat.zero_le _) ?_ ?_ rfl ?_
        ·exact agr
        ·obtain⟨e1,e2,e3⟩:=bL (adf (l:=l) (wd:=wd) (most:=most) (a:=a) (j:=j))
         exact agr
        clear hG hBv apc apk apb apl;intro b hb4;by_cases hb3:b<4
        ·have apw:=ahn (be:=(b:Int)) (lk:=(kk:Int)) hB hae hel ⟨by omega,by omega⟩ ⟨by omega,by omega⟩
         have hbw:=kZ l a en b kk;have hx:=hlive.out (b:Int);generalize iZ l a en b kk=bw at*;cases hacc:bC l wd most a b (aJ l wd most) j with
         |none=>
          rw[hacc]at hx;replace hx:_=some _:=hx;have hG:tG (tbK l wd most a j b) a b=false:=by unfold tG;rw[mg,hacc];rfl
          have hE:=Lib.hid (bL (rC hx));clear hx hacc;(refine wlk ?_;intros);refine⟨b+1,by omega,by dsimp only;omega,?_,?_,rfl⟩
          ·exact agr
          ·have hE2:=hE.out
           rw[←adg,←aen,←ac3]at hE2;obtain⟨e1,e2,e3⟩:=hE2;dsimp only at e1 e2 e3;rw[show co+bw+rc=co+rc+bw by omega]at e1;exact agr
         |some y=>
          rw[hacc]at hx;have hG:tG (tbK l wd most a j b) a b=true:=by unfold tG;rw[mg,hacc];rfl
          have hB2:tB (tbK l wd most a j b) a b=y.1:=by unfold tB;rw[mg,hacc];rfl
          have hyr:=(qc hB hm.2 hal hacc).1;by_cases hlt:co+rc+bw<y.1
          ·rw[if_pos (show(some y).all (fun y=>decide (co+bw+rc<y.1))=true from decide_eq_true (show co+bw+rc<y.1 by omega))]at hx
           have hE:=Lib.hid (bL (rC hx));clear hx hacc;generalize y.1=yc at*;(refine wlk ?_;intros);refine⟨b+1,by omega,by dsimp only;omega,?_,?_,rfl⟩
           ·exact agr
           ·have hE2:=hE.out
            rw[←adg,←aen,←ac3]at hE2;obtain⟨e1,e2,e3⟩:=hE2;dsimp only at e1 e2 e3;rw[show co+bw+rc=co+rc+bw by omega]at e1;exact agr
          ·rw[if_neg (show¬(some y).all (fun y=>decide (co+bw+rc<y.1))=true from fun q=>hlt (by have:=of_decide_eq_true (show decide (co+bw+rc<y.1)=true from q);omega))]at hx
           have hE:=Lib.hid (bL (adY (hx.trans hacc.symm)));clear hx hacc;generalize y.1=yc at*;(refine wlk ?_;intros);refine⟨b+1,by omega,by dsimp only;omega,?_,?_,rfl⟩
           ·exact agr
           ·obtain⟨e1,e2,e3⟩:=hE.out
            exact agr
        ·obtain rfl:b=4:=by omega
         have hE:=Lib.hid (bL (aiS (l:=l) (wd:=wd) (most:=most) (a:=a) (j:=j)));clear hlive;(refine wlk ?_;intros);refine⟨(j+1,(en:Int)-1),⟨by dsimp only;omega,by dsimp only;omega⟩,by dsimp only;omega,?_,?_,rfl⟩
         ·exact agr
         ·obtain⟨e1,e2,e3⟩:=hE.out
          exact agr
      ·have hE:=Lib.hid (hskip (kG he.out (zq hb)))
       clear hskip hq;generalize iM l wd a en=bd at*;obtain⟨bad,st⟩:=bd;dsimp only at hb apb;by_cases hb0:bad<0
       ·clear hb
        (refine wlk ?_;intros);refine⟨(j+1,(en:Int)-1),⟨by dsimp only;omega,by dsimp only;omega⟩,by dsimp only;omega,?_,?_,rfl⟩
        ·exact agr
        ·obtain⟨e1,e2,e3⟩:=hE.out
         exact agr
       ·have hb1:most<bad:=by omega
        clear hb;(refine wlk ?_;intros);refine⟨(j+1,(en:Int)-1),⟨by dsimp only;omega,by dsimp only;omega⟩,by dsimp only;omega,?_,?_,rfl⟩
        ·exact agr
        ·obtain⟨e1,e2,e3⟩:=hE.out
         exact agr
     ·obtain rfl:j=l.length-a:=by omega
      have hE:=Lib.hid (bL (agO (wd:=wd) (most:=most) hal));(refine wlk ?_;intros);refine⟨(a,(a:Int)-1-1),⟨by dsimp only;omega,by dsimp only;omega⟩,by dsimp only;omega,?_,?_,rfl⟩
      ·exact agr
      ·obtain⟨e1,e2,e3⟩:=hE.out
       exact agr
  ·obtain rfl:m=0:=by omega
   have hG:tG (tbA l wd most 0) 0 1=(aJ l wd most 0 1).isSome:=by unfold tG;rw[adF];rfl
   have hbl:(dZ l wd most).length≤l.length:=abA hB hm.2 _ _ _ (Nat.zero_le _);have hb0:dZ l wd most=[]++bkF l wd most (l.length+1) 0 ((1:Nat):Int):=rfl;cases hs:aJ l wd most 0 1 with
   |none=>rw[hs]at hG;simp only[Option.isSome_none]at hG⊢;rw[if_neg (by decide)];clear hb0 hbl;exact wlkF
   |some r0=>
    rw[hs]at hG;simp only[Option.isSome_some]at hG⊢;rw[show(if True then dZ l wd most else [])=dZ l wd most from if_pos trivial];generalize dZ l wd most=res at*;replace hb0:=Lib.hid hb0;have hs0:(aJ l wd most 0 ((1:Nat):Int)).isSome=true:=by show(aJ l wd most 0 1).isSome=true;rw[hs];rfl
    replace hs0:=Lib.hid hs0;clear hs;(refine wlk ?_;intros);clear hG;refine aG (α:=Nat×Int×Nat×LI×Nat×Nat×Nat) mixed (fun z=>[(0,fV l),(1,iv wd),(2,iv most),(8,.row z.2.2.2.2.1 1 0 z.2.2.2.1.length),(9,iv l.length),(12,.row 3 4 0 (l.length+1)),(22,iv z.2.1),(23,iv z.2.2.1)])
     (fun z=>[(3,158,4,(tab l.length (tN (tbA l wd most 0))).map aaM),(z.2.2.2.2.1,3,1,z.2.2.2.1.map pvN)]) (fun z=>z.2.2.2.2.2.1)
     (fun z=>z.1≤l.length∧z.2.1=(z.1:Int)-1∧z.2.2.1<4∧(aJ l wd most z.1 (z.2.2.1:Int)).isSome=true∧z.2.2.2.1.length≤z.1∧(¬z.2.2.2.2.1=3∧z.2.2.2.2.1<z.2.2.2.2.2.1∧4≤z.2.2.2.2.2.1)∧l.length+1≤z.2.2.2.2.2.2+z.1∧res=z.2.2.2.1++bkF l wd most z.2.2.2.2.2.2 z.1 (z.2.2.1:Int)) (fun z=>l.length-z.1) (by kernel_rfl)
     (0,-1,1,[],0,4,l.length+1) ⟨Nat.zero_le _,rfl,by simp,hs0.out,Nat.le_refl _,by simp,by simp,hb0.out⟩ ?_ ?_ rfl ?_
    ·exact agi
    ·exact agr
    rintro⟨a,v,kk,out,x,y,f⟩ ⟨hal,hv,hkk,hs,hol,⟨hx3,hxy,hy4⟩,hf,hres⟩;dsimp only at hal hv hkk hs hol hx3 hxy hy4 hf hres;have hx3':¬3=x:=fun q=>hx3 q.symm;subst hv;clear hs0 hb0;by_cases hlt:a<l.length
    ·obtain⟨r,hr⟩:∃r,aJ l wd most a (kk:Int)=some r:=Option.isSome_iff_exists.1 hs
     obtain⟨f',rfl⟩:∃f',f=f'+1:=⟨f-1,by omega⟩;rw[nK (by omega) hr]at hres;have hN:tN (tbA l wd most 0) a kk=(r.2.1:Int):=by unfold tN;rw[adF,hr];rfl
     obtain⟨-,hb2⟩:=dJ hB hm.2 hal hr;obtain⟨⟨ha1,ha2⟩,hk0,hk3⟩:=hb2 hlt;obtain⟨x',c0,hx',hL⟩:=p8 hlt hr;obtain⟨hq,hbd,hpair⟩:=o8 hL;have hlk:r.2.2=gH (iM l wd a r.2.1).2 (iM l wd a r.2.1).1:=congrArg Prod.snd hpair;obtain⟨-,-,-,hst,-⟩:=fZ.1 hq;have apb:=abJ hB ha1 ha2 hw hst;have apk:=wJ (s:=(iM l wd a r.2.1).2) (bad:=(iM l wd a r.2.1).1) ⟨hbd.1,by omega⟩;rw[←hlk]at apk;clear hL hpair hlk hq hst hr hs hb2;obtain⟨rc,en,rk⟩:=r;dsimp only at hres hN ha1 ha2 hk0 hk3 hx' hbd apb apk;obtain⟨k2,rfl⟩:∃k2:Nat,rk=k2:=⟨rk.toNat,by omega⟩;generalize iM l wd a en=bd at*;obtain⟨bad,st⟩:=bd;dsimp only at hbd apb apk;have hcan:(a:Int)-1+1=a:=by omega
     replace hres:=Lib.hid hres;replace hx':=Lib.hid hx';have hkk2:k2<4:=by omega
     (refine wlk ?_;intros);refine⟨(en+1,(en:Int),k2,out++[(en:Int)],y+1,y+2,f'),⟨by dsimp only;omega,by dsimp only;omega,hkk2,by dsimp only;rw[hx'.out];rfl,by simp;omega,⟨by dsimp only;omega,by dsimp only;omega,by dsimp only;omega⟩,by dsimp only;omega,by dsimp only;rw[hres.out];simp⟩,by dsimp only;omega,?_,?_,rfl⟩
     ·exact agr
     ·exact agr
    ·obtain rfl:a=l.length:=by omega
     rw[yI,List.append_nil]at hres;subst hres;clear hs;exact wlkF
 ·have hok:jI l wd most=false:=Bool.eq_false_iff.2 fun q=>by obtain⟨q1,q2,q3,q4,-⟩:=gZ.1 q;exact hg ⟨q1,q2,q3,q4⟩
  rw[hok,if_neg (by decide)];clear hok hpre;cases hB:aW l with
  |false=>rw[hB]at apv;clear hg hB;have gbb_c127:=rP;have gbb_c34:=zK;have gbb_c128:=tV;have gbb_c129:=uF;have gbb_c130:=sO;have gbb_c131:=rW;have gbb_c132:=uj;have gbb_c133:=uK;exact wlkF
  |true=>
  rw[hB]at apv;by_cases hw:0≤wd∧wd≤1000
  ·have api1:inB wd 0 1000=true:=av.2 hw
   by_cases hm:0≤most∧most≤10000
   ·have api2:inB most 0 10000=true:=av.2 hm
    have hl0:l.length<1:=by
     by_cases h:l.length<1
     ·exact h
     ·exact absurd ⟨hB,by omega,hw,hm⟩ hg
    clear hg hB;have gbb_c127:=rP;have gbb_c34:=zK;have gbb_c128:=tV;have gbb_c129:=uF;have gbb_c130:=sO;have gbb_c131:=rW;have gbb_c132:=uj;have gbb_c133:=uK;exact wlkF
   ·have api2:inB most 0 10000=false:=Bool.eq_false_iff.2 fun q=>hm (av.1 q)
    clear hg hB hm;have gbb_c127:=rP;have gbb_c34:=zK;have gbb_c128:=tV;have gbb_c129:=uF;have gbb_c130:=sO;have gbb_c131:=rW;have gbb_c132:=uj;have gbb_c133:=uK;exact wlkF
  ·have api1:inB wd 0 1000=false:=Bool.eq_false_iff.2 fun q=>hw (av.1 q)
   clear hg hB hw;have gbb_c127:=rP;have gbb_c34:=zK;have gbb_c128:=tV;have gbb_c129:=uF;have gbb_c130:=sO;have gbb_c131:=rW;have gbb_c132:=uj;have gbb_c133:=uK;exact wlkF
end
end Go.Proofs.YtmmafcjjlbgnkaaGreatDoor
