/- What the proof rests on, part 11: contracts of functions. No condition beyond what each states. -/
import Derived.Test.YtmmafcjjlbgnkaaGreatDoorZBiE10
namespace Go.Proofs.YtmmafcjjlbgnkaaGreatDoor
open Go.RowKit
open Nat renaming reduceEqDiff→Rq,reduceBEq→Rb,reduceAdd→Ra,reduceSub→Rs
open Int renaming reduceToNat→Rt
set_option linter.all false
set_option maxHeartbeats 32000000
noncomputable section
abbrev pvG (g:I4):PV:=.agg [.val (.int .i64 g.1),.val (.int .i64 g.2.1),.val (.int .i64 g.2.2.1),.val (.int .i64 g.2.2.2)]
theorem ao3 (a b c d a' b' c' d':Int):aeU (a,b,c,d) (a',b',c',d')=(a+a',(if(if b=0 then 0 else d)=max (if b=0 then 0 else d) (if b'=0 then 0 else d')then b else 0)+(if(if b'=0 then 0 else d')=max (if b=0 then 0 else d) (if b'=0 then 0 else d')then b' else 0),c+c',max (if b=0 then 0 else d) (if b'=0 then 0 else d')):=rfl
abbrev az3 (g:I4):Prop:=(0≤g.1∧g.1≤1000000)∧(0≤g.2.1∧g.2.1≤1000000)∧(0≤g.2.2.1∧g.2.2.1≤1000000)∧(g.2.2.2=0∨g.2.2.2=1)
def apE:Fun:=F2 dI4 dI4 fun a b=>open Classical in if az3 a∧az3 b then some (pvG (aeU a b))else none
theorem ah7 {a b:I4} (h:az3 a) (h2:az3 b):apE [pvG a,pvG b]=some (pvG (aeU a b)):=(fZ (A:=dI4) (B:=dI4) a b).trans (if_pos ⟨h,h2⟩)
theorem ajI:Sound Tryz.prog 222 apE:=by
 refine ak mixed bV Tryz.func222 rfl 58 rfl [.cell 4 60] rfl (by kernel_rfl) fun ps r hr=>?_;obtain⟨⟨a,b,c,d⟩,⟨a',b',c',d'⟩,rfl,hpre,rfl⟩:=gN hr;refine⟨by simp,?_⟩;simp only[dIs,dUs,dSs,bP,bS,bQ,bT,aP,bR,aQ,aO,aR,aL];obtain⟨⟨h1,h2,h3,h4⟩,h5,h6,h7,h8⟩:=hpre;dsimp only at h1 h2 h3 h4 h5 h6 h7 h8;rw[ao3];have g00:¬((0:Int)>0):=by decide
 have g10:(1:Int)>0:=by decide
 have g01:¬((0:Int)>1):=by decide
 have g11:¬((1:Int)>1):=by decide
 have n01:¬((0:Int)=1):=by decide
 have n10:¬((1:Int)=0):=by decide
 have m00:max (0:Int) 0=0:=by decide
 have m01:max (0:Int) 1=1:=by decide
 have m10:max (1:Int) 0=1:=by decide
 have m11:max (1:Int) 1=1:=by decide
 rcases h4 with rfl|rfl<;>rcases h8 with rfl|rfl<;>
 ·by_cases hb:b=0<;>by_cases hb':b'=0<;>
  ·first|subst hb|skip
   first|subst hb'|skip
   simp only[if_true,if_false,m00,m01,m10,m11,n01,n10, *];((refine wlk6 ?_ ?_ ?_ ?_ ?_ ?_<;>intros<;>try with_reducible exact trivial)<;>(refine fnG ?_;try with_reducible exact trivial));all_goals(simp;try omega)
def mX (l:List It) (b en:Nat):List I4:=((oL l b en).map fun n:Int=>(gI l n.toNat).gl)++(if(gI l en).kd=3 then [(gI l en).gl]else [])
def rQ (l:List It) (b k:Nat):List I4:=(oL l b k).map fun n:Int=>(gI l n.toNat).gl
theorem apF {l:List It} {b:Nat}:rQ l b b=[]:=by unfold rQ;rw[vX (Nat.le_refl _)];rfl
theorem apg {l:List It} {b k:Nat} (h:b≤k) (hk:¬(gI l k).kd=3):rQ l b (k+1)=rQ l b k++[(gI l k).gl]:=by unfold rQ;rw[qF h hk,List.map_append];rfl
theorem axM {l:List It} {b k:Nat} (h:b≤k) (hk:(gI l k).kd=3):rQ l b (k+1)=rQ l b k:=by unfold rQ;rw[abO h hk]
theorem aaT (l:List It) (b k:Nat):(rQ l b k).length≤k-b:=by unfold rQ;rw[List.length_map];exact qB l b k
theorem afI {l:List It} {b k:Nat} (hB:aW l=true) (hk:k≤l.length):∀g∈rQ l b k,GOk g:=fun g hg=>by obtain⟨n,hn,rfl⟩:=List.mem_map.1 hg;have:=vO n hn;exact(gZ hB (k:=n.toNat) (by omega)).gl
theorem adF {l:List It} {b en:Nat} (hB:aW l=true) (hk:en<l.length):(∀g∈mX l b en,GOk g)∧(mX l b en).length≤60:=by
 have hl:=bK hB;have h1:=aaT l b en;unfold mX;refine⟨fun g hg=>?_,?_⟩
 ·rcases List.mem_append.1 hg with hg|hg
  ·exact afI hB (by omega) g hg
  ·split at hg
   ·rw[List.mem_singleton.1 hg]
    exact(gZ hB hk).gl
   ·simp at hg
 ·unfold rQ at h1
  rw[List.length_append];split
  ·rw[List.length_singleton];omega
  ·rw[List.length_nil];omega
theorem aoh {gs:List I4} (h:∀g∈gs,GOk g) (hl:gs.length≤60):az3 (jT gs)∧(jT gs).1≤60000∧(jT gs).2.1≤60000∧(jT gs).2.2.1≤60000:=by obtain⟨h1,h2,h3,h4⟩:=ax9 gs h;exact⟨⟨⟨h1.1,by omega⟩,⟨h2.1,by omega⟩,⟨h3.1,by omega⟩,h4⟩,by omega,by omega,by omega⟩
def arw:Fun:=F3 oQ dI dI fun l n m=>open Classical in if aW l=true∧0≤n∧n≤m∧m<l.length then some (pvG (jT (mX l n.toNat m.toNat)))else none
theorem aqi {l:List It} {b en:Nat} (h:aW l=true) (h2:b≤en) (h3:en<l.length):arw [gy l,.val (.int .i64 b),.val (.int .i64 en)]=some (pvG (jT (mX l b en))):=(adE (A:=oQ) (B:=dI) (C:=dI) l b en).trans (if_pos ⟨h,by omega,by omega,by omega⟩)
def aGW:Ctx:={fn:=aT [(222,apE)],io:=aT []}
theorem awx:au Tryz.prog aGW:=okΓ (fC Tryz.func222 ajI aj) aj
def asB:=ah (Γ:=aGW) (f:=222) (φ:=apE) rfl
theorem aiE:Sound Tryz.prog 184 arw:=by
 refine ak mixed awx Tryz.func184 rfl 49 rfl [.cell 6 60] rfl (by kernel_rfl) fun ps r hr=>?_;obtain⟨l,n,m,rfl,hpre,rfl⟩:=aby hr;refine⟨by simp,?_⟩;simp only[dIs,dUs,dSs,bP,bS,bQ,bT,aP,bR,aQ,aO,aR,aL];obtain⟨hB,hn0,hn1,hn2⟩:=hpre;obtain⟨b,rfl⟩:∃b:Nat,n=b:=⟨n.toNat,by omega⟩;obtain⟨en,rfl⟩:∃en:Nat,m=en:=⟨m.toNat,by omega⟩;have hl:=bK hB;have hbe:b≤en:=by omega
 have hel:en<l.length:=by omega
 show pq _ _ _ _ _ (bX [gy l,.val (.int .i64 b),.val (.int .i64 en)]).tm _ _;rw[Int.toNat_natCast,Int.toNat_natCast];clear hn0 hn1 hn2;have hgs:mX l b en=rQ l b en++(if(gI l en).kd=3 then [(gI l en).gl]else []):=rfl;rw[hgs];have gsum_c222:=asB;(refine wlk ?_;intros);refine aB (α:=Nat) mixed (fun k=>[(0,gy l),(2,iv en),(6,.own 0 4 0 0),(7,.own 1 4 0 0),(8,iv k)])
  (fun k=>[(0,60,4,[pvG g40]),(1,60,4,[pvG (jT (rQ l b k))])]) (fun _=>2)
  (fun k=>b≤k∧k≤en) (fun k=>en-k) (by kernel_rfl) b ⟨Nat.le_refl _,hbe⟩ ?_ ?_ rfl ?_
 ·exact agr
 ·simp(disch:=(first|omega|(simp only[push_cast];first|done|omega))) only[push_cast,↓reduceIte,Rq,Rb,Ra,Rs,Rt,apF,jT,List.foldl_nil,g40, *]
 rintro k ⟨hk1,hk2⟩;obtain⟨ho,-⟩:=aoh (afI (b:=b) hB (show k≤l.length by omega)) (by have:=aaT l b k;omega);by_cases h0:k<en
 ·have hx1:=(gZ hB (k:=k) (by omega)).gl
  have hy:=@apg l b k hk1;have hno:=@axM l b k hk1;have hkx:gI l k=l[k]?.getD it0:=rfl;rw[hkx]at hy hno;generalize hx:l[k]?.getD it0=x at*;obtain⟨kd,w9,c,d,e,cost,g⟩:=x;replace hy:¬kd=3→rQ l b (k+1)=rQ l b k++[(w9,c,d,e)]:=hy;replace hno:kd=3→rQ l b (k+1)=rQ l b k:=hno;obtain⟨g1,g2,g3,g4⟩:=hx1;dsimp only at g1 g2 g3 g4;have apa:=ah7 ho (b:=(w9,c,d,e)) ⟨⟨g1.1,by(try dsimp only);omega⟩,⟨g2.1,by(try dsimp only);omega⟩,⟨g3.1,by(try dsimp only);omega⟩,g4⟩;by_cases h3:kd=3
  ·have hs:=hno h3
   replace hs:=Lib.hid hs;clear hno hy apa ho g1 g2 g3 g4 hgs hB hkx;generalize ht9:jT (rQ l b k)=t at*;obtain⟨t1,t2,t3,t4⟩:=t;subst h3;(refine wlk ?_;intros);refine⟨k+1,⟨by omega,by omega⟩,by dsimp only;omega,?_,?_,rfl⟩
   ·exact agr
   ·dsimp only
    rw[hs.out];simp(disch:=(first|omega|(simp only[push_cast];first|done|omega))) only[push_cast,↓reduceIte,Rq,Rb,Ra,Rs,Rt, *]
  ·have hs:=hy h3
   have ht:jT (rQ l b (k+1))=aeU (jT (rQ l b k)) (w9,c,d,e):=by rw[hs,qC]
   replace ht:=Lib.hid ht;clear hno hy hs ho g1 g2 g3 g4 hgs hB hkx;generalize jT (rQ l b k)=t at*;generalize aeU t (w9,c,d,e)=u at*;obtain⟨t1,t2,t3,t4⟩:=t;obtain⟨u1,u2,u3,u4⟩:=u;try dsimp only at apa
   (refine wlk ?_;intros);refine⟨k+1,⟨by omega,by omega⟩,by dsimp only;omega,?_,?_,rfl⟩
   ·exact agr
   ·dsimp only
    rw[ht.out];exact agr
 ·obtain rfl:k=en:=by omega
  have hx1:GOk (l[k]?.getD it0).gl:=(gZ hB hel).gl;have hkx:gI l k=l[k]?.getD it0:=rfl;rw[hkx];generalize hx:l[k]?.getD it0=x at*;obtain⟨kd,w9,c,d,e,cost,g⟩:=x;obtain⟨g1,g2,g3,g4⟩:=hx1;dsimp only at g1 g2 g3 g4;have apa:=ah7 ho (b:=(w9,c,d,e)) ⟨⟨g1.1,by(try dsimp only);omega⟩,⟨g2.1,by(try dsimp only);omega⟩,⟨g3.1,by(try dsimp only);omega⟩,g4⟩;by_cases h3:kd=3
  ·have ht:jT (rQ l b k++[(w9,c,d,e)])=aeU (jT (rQ l b k)) (w9,c,d,e):=qC _ _
   rw[if_pos (show It.kd (kd,w9,c,d,e,cost,g)=3 from h3)];have hz:It.gl (kd,w9,c,d,e,cost,g)=(w9,c,d,e):=rfl;rw[hz,ht];clear ho g1 g2 g3 g4 hgs hB hkx ht hz;generalize jT (rQ l b k)=t at*;generalize aeU t (w9,c,d,e)=u at*;obtain⟨t1,t2,t3,t4⟩:=t;obtain⟨u1,u2,u3,u4⟩:=u;try dsimp only at apa
   subst h3;exact wlkF
  ·rw[if_neg (show¬It.kd (kd,w9,c,d,e,cost,g)=3 from h3),List.append_nil]
   clear ho g1 g2 g3 g4 hgs hB hkx apa;generalize jT (rQ l b k)=t at*;obtain⟨t1,t2,t3,t4⟩:=t;exact wlkF
theorem ah1 {need room:Int} (h:0≤need∧need≤100000) (h2:0<room∧room≤100000):(0≤100*need*need∧100*need*need≤1000000000000)∧(0≤100*need*need*need∧100*need*need*need≤100000000000000000)∧(0<room*room∧room*room≤10000000000)∧(0<room*room*room∧room*room*room≤1000000000000000)∧0≤100*need*need*need/(room*room*room):=by have a1:0≤100*need*need:=Int.mul_nonneg (by omega) h.1;have a2:100*need*need≤10000000*100000:=Int.mul_le_mul (by omega) h.2 h.1 (by omega);have a3:0≤100*need*need*need:=Int.mul_nonneg a1 h.1;have a4:100*need*need*need≤1000000000000*100000:=Int.mul_le_mul (by omega) h.2 h.1 (by omega);have b1:0<room*room:=Int.mul_pos h2.1 h2.1;have b2:room*room≤100000*100000:=Int.mul_le_mul h2.2 h2.2 (by omega) (by omega);have b3:0<room*room*room:=Int.mul_pos b1 h2.1;have b4:room*room*room≤10000000000*100000:=Int.mul_le_mul (by omega) h2.2 (by omega) (by omega);exact⟨⟨a1,by omega⟩,⟨a3,by omega⟩,⟨b1,by omega⟩,⟨b3,by omega⟩,Int.ediv_nonneg a3 (by omega)⟩
def wK:Fun:=F2 dI dI fun need room=>open Classical in if(0≤need∧need≤100000)∧0≤room∧room≤100000 then some (iv (aec need room))else none
theorem qm {need room:Int} (h:(0≤need∧need≤100000)∧0≤room∧room≤100000):wK [.val (.int .i64 need),.val (.int .i64 room)]=some (.val (.int .i64 (aec need room))):=(fZ (A:=dI) (B:=dI) need room).trans (if_pos h)
theorem aey:Sound Tryz.prog 237 wK:=by
 refine ak mixed bV Tryz.func237 rfl 29 rfl [.tmp 4] rfl (by kernel_rfl) fun ps r hr=>?_;obtain⟨need,room,rfl,hpre,rfl⟩:=gN hr;refine⟨by simp,?_⟩;simp only[dIs,dUs,dSs,bP,bS,bQ,bT,aP,bR,aQ,aO,aR,aL];obtain⟨h1,h2⟩:=hpre;unfold aec;by_cases hn:need=0
 ·subst hn
  exact wlkF
 ·rw[if_neg hn]
  by_cases hr:room=0
  ·subst hr
   ((refine wlk6 ?_ ?_ ?_ ?_ ?_ ?_<;>intros<;>try with_reducible exact trivial)<;>(refine fnG ?_;try with_reducible exact trivial));all_goals simp
  ·obtain⟨c1,c2,c3,c4,c5⟩:=ah1 h1 (room:=room) ⟨by omega,by omega⟩
   have hq:Int.tdiv (100*need*need*need) (room*room*room)=100*need*need*need/(room*room*room):=Int.tdiv_eq_ediv_of_nonneg c2.1;by_cases hb:10*room<need
   ·rw[if_pos (.inr hb)]
    clear c1 c2 c3 c4 c5 hq;exact wlkF
   ·rw[if_neg (by omega)]
    have hz:¬room*room*room=0:=by omega
    have w1:=dD (n:=100*need*need) (by omega) (by omega);have w2:=dD (n:=100*need*need*need) (by omega) (by omega);have w3:=dD (n:=room*room) (by omega) (by omega);have w4:=dD (n:=room*room*room) (by omega) (by omega);have c6:100*need*need*need/(room*room*room)≤100000000000000000:=by have:=Int.ediv_le_self (room*room*room) c2.1;omega
    have w5:=dD (n:=100*need*need*need/(room*room*room)) (by omega) (by omega);((refine wlk6 ?_ ?_ ?_ ?_ ?_ ?_<;>intros<;>try with_reducible exact trivial)<;>(refine fnG ?_;try with_reducible exact trivial));all_goals((refine congrArg (fun z=>some (PV.val (Value.int IntKind.i64 z))) ?_);generalize 100*need*need*need/(room*room*room)=q at*;(try(split))<;>omega)
def aGD:Ctx:={fn:=aT [(34,φIn)],io:=aT []}
theorem awF:au Tryz.prog aGD:=okΓ (fC Tryz.func34 fK aj) aj
def abt:=ah (Γ:=aGD) (f:=34) (φ:=φIn) rfl
theorem afv:Sound Tryz.prog 185 wK:=by
 refine ak mixed awF Tryz.func185 rfl 36 rfl [.tmp 4] rfl (by kernel_rfl) fun ps r hr=>?_;obtain⟨need,room,rfl,hpre,rfl⟩:=gN hr;refine⟨by simp,?_⟩;simp only[dIs,dUs,dSs,bP,bS,bQ,bT,aP,bR,aQ,aO,aR,aL];obtain⟨h1,h2⟩:=hpre;have ap1:φIn [.val (.int .i64 need),.val (.int .i64 0),.val (.int .i64 100000)]=some (.val (.bool true)):=(bI _ _ _).trans (by rw[aD.2 h1]);have ap2:φIn [.val (.int .i64 room),.val (.int .i64 0),.val (.int .i64 100000)]=some (.val (.bool true)):=(bI _ _ _).trans (by rw[aD.2 h2]);rw[anG h1.1 h2.1];by_cases hn:need=0
 ·subst hn
  have gbds_c34:=abt;exact wlkF
 ·rw[if_neg hn]
  by_cases hr:room=0
  ·subst hr
   have gbds_c34:=abt;((refine wlk6 ?_ ?_ ?_ ?_ ?_ ?_<;>intros<;>try with_reducible exact trivial)<;>(refine fnG ?_;try with_reducible exact trivial));all_goals simp
  ·obtain⟨c1,c2,c3,c4,c5⟩:=ah1 h1 (room:=room) ⟨by omega,by omega⟩
   by_cases hb:5*room<need
   ·rw[if_pos (.inr hb)]
    clear c1 c2 c3 c4 c5;have gbds_c34:=abt;exact wlkF
   ·rw[if_neg (by omega)]
    have hz:¬room*room*room=0:=by omega
    have w1:=dD (n:=100*need*need) (by omega) (by omega);have w2:=dD (n:=100*need*need*need) (by omega) (by omega);have w3:=dD (n:=room*room) (by omega) (by omega);have w4:=dD (n:=room*room*room) (by omega) (by omega);have c6:100*need*need*need/(room*room*room)≤100000000000000000:=by have:=Int.ediv_le_self (room*room*room) c2.1;omega
    have w5:=dD (n:=100*need*need*need/(room*room*room)) (by omega) (by omega);have gbds_c34:=abt;((refine wlk6 ?_ ?_ ?_ ?_ ?_ ?_<;>intros<;>try with_reducible exact trivial)<;>(refine fnG ?_;try with_reducible exact trivial));all_goals((refine congrArg (fun z=>some (PV.val (Value.int IntKind.i64 z))) ?_);generalize 100*need*need*need/(room*room*room)=q at*;(try(split))<;>omega)
def φLk:Fun:=F2 dB dI fun s bad=>open Classical in if 0≤bad∧bad≤10000 then some (iv (gL s bad))else none
theorem aaL {s:Bool} {bad:Int} (h:0≤bad∧bad≤10000):φLk [.val (.bool s),.val (.int .i64 bad)]=some (.val (.int .i64 (gL s bad))):=(fZ (A:=dB) (B:=dI) s bad).trans (if_pos h)
def aGI:Ctx:={fn:=aT [(72,qN)],io:=aT []}
theorem avv:au Tryz.prog aGI:=okΓ (fC Tryz.func72 qZ aj) aj
def avM:=ah (Γ:=aGI) (f:=72) (φ:=qN) rfl
theorem am6:Sound Tryz.prog 216 φLk:=by
 refine ak mixed avv Tryz.func216 rfl 18 rfl [.tmp 4] rfl (by kernel_rfl) fun ps r hr=>?_;obtain⟨s,bad,rfl,hpre,rfl⟩:=gN hr;refine⟨by simp,?_⟩;simp only[dIs,dUs,dSs,bP,bS,bQ,bT,aP,bR,aQ,aO,aR,aL];have ap:qN [.val (.int .i64 bad)]=some (.val (.bool true)):=(oh bad).trans (by rw[aD.2 hpre]);unfold gL;have glki_c72:=avM;cases s<;>
 ·((refine wlk6 ?_ ?_ ?_ ?_ ?_ ?_<;>intros<;>try with_reducible exact trivial)<;>(refine fnG ?_;try with_reducible exact trivial))
  all_goals((refine congrArg (fun z=>some (PV.val (Value.int IntKind.i64 z))) ?_);(repeat' split)<;>first|rfl|omega|(simp_all;done))
def aGR:Ctx:={fn:=aT [(34,φIn)],io:=aT []}
theorem ayN:au Tryz.prog aGR:=okΓ (fC Tryz.func34 fK aj) aj
def avo:=ah (Γ:=aGR) (f:=34) (φ:=φIn) rfl
theorem aop:Sound Tryz.prog 131 φLk:=by
 refine ak mixed ayN Tryz.func131 rfl 14 rfl [.tmp 4] rfl (by kernel_rfl) fun ps r hr=>?_;obtain⟨s,bad,rfl,hpre,rfl⟩:=gN hr;refine⟨by simp,?_⟩;simp only[dIs,dUs,dSs,bP,bS,bQ,bT,aP,bR,aQ,aO,aR,aL];have ap:φIn [.val (.int .i64 bad),.val (.int .i64 0),.val (.int .i64 10000)]=some (.val (.bool true)):=(bI _ _ _).trans (by rw[aD.2 hpre]);unfold gL;have glks_c34:=avo;cases s<;>
 ·((refine wlk6 ?_ ?_ ?_ ?_ ?_ ?_<;>intros<;>try with_reducible exact trivial)<;>(refine fnG ?_;try with_reducible exact trivial))
  all_goals((refine congrArg (fun z=>some (PV.val (Value.int IntKind.i64 z))) ?_);(repeat' split)<;>first|rfl|omega|(simp_all;done))
abbrev aoB (c:Int):Prop:=(0≤c∧c≤10000)∨c=-10000
def φCo:Fun:=F2 dI dI fun bad c=>open Classical in if(0≤bad∧bad≤10000)∧aoB c then some (iv (mU bad c))else none
theorem ad1 {bad c:Int} (h:0≤bad∧bad≤10000) (h2:aoB c):φCo [.val (.int .i64 bad),.val (.int .i64 c)]=some (.val (.int .i64 (mU bad c))):=(fZ (A:=dI) (B:=dI) bad c).trans (if_pos ⟨h,h2⟩)
theorem agX {bad:Int} (h:0≤bad∧bad≤10010):0≤bad*bad∧bad*bad≤100200100:=by have h3:0≤bad*bad:=Int.mul_nonneg (by omega) (by omega);have h4:bad*bad≤10010*10010:=Int.mul_le_mul (by omega) (by omega) (by omega) (by omega);omega
def aGd:Ctx:={fn:=aT [(72,qN),(235,xu)],io:=aT []}
theorem awL:au Tryz.prog aGd:=okΓ (fC Tryz.func72 qZ (fC Tryz.func235 adj aj)) aj
def auU:=ah (Γ:=aGd) (f:=72) (φ:=qN) rfl
def ape:=ah (Γ:=aGd) (f:=235) (φ:=xu) rfl
theorem aln:Sound Tryz.prog 217 φCo:=by
 refine ak mixed awL Tryz.func217 rfl 27 rfl [.tmp 4] rfl (by kernel_rfl) fun ps r hr=>?_;obtain⟨bad,c,rfl,hpre,rfl⟩:=gN hr;refine⟨by simp,?_⟩;simp only[dIs,dUs,dSs,bP,bS,bQ,bT,aP,bR,aQ,aO,aR,aL];obtain⟨h1,h2⟩:=hpre;have ap:qN [.val (.int .i64 bad)]=some (.val (.bool true)):=(oh bad).trans (by rw[aD.2 h1]);have ap2:xu [.val (.int .i64 c)]=some (.val (.bool true)):=(acB c).trans (by
  have:aaG c=true:=by
   unfold aaG;rcases h2 with h2|h2
   ·rw[aD.2 h2];rfl
   ·rw[decide_eq_true h2,Bool.or_true]
  rw[this])
 have s1:=agX (bad:=10+bad) ⟨by omega,by omega⟩;have w1:=dD (n:=(10+bad)*(10+bad)) (by omega) (by omega);unfold mU;have gcoi_c72:=auU;have gcoi_c235:=ape;by_cases hc:c=-10000
 ·subst hc
  rw[if_pos rfl];clear h2;((refine wlk6 ?_ ?_ ?_ ?_ ?_ ?_<;>intros<;>try with_reducible exact trivial)<;>(refine fnG ?_;try with_reducible exact trivial));all_goals((refine congrArg (fun z=>some (PV.val (Value.int IntKind.i64 z))) ?_);omega)
 ·have s2:=agX (bad:=c) ⟨by omega,by omega⟩
  have w2:=dD (n:=c*c) (by omega) (by omega);rw[if_neg hc];have w3:=dD (n:=(10+bad)*(10+bad)+c*c) (by omega) (by omega);clear h2;exact wlkF
def aGA:Ctx:={fn:=aT [(34,φIn)],io:=aT []}
theorem axj:au Tryz.prog aGA:=okΓ (fC Tryz.func34 fK aj) aj
def avE:=ah (Γ:=aGA) (f:=34) (φ:=φIn) rfl
theorem akU:Sound Tryz.prog 132 φCo:=by
 refine ak mixed axj Tryz.func132 rfl 31 rfl [.tmp 4] rfl (by kernel_rfl) fun ps r hr=>?_;obtain⟨bad,c,rfl,hpre,rfl⟩:=gN hr;refine⟨by simp,?_⟩;simp only[dIs,dUs,dSs,bP,bS,bQ,bT,aP,bR,aQ,aO,aR,aL];obtain⟨h1,h2⟩:=hpre;have ap:φIn [.val (.int .i64 bad),.val (.int .i64 0),.val (.int .i64 10000)]=some (.val (.bool true)):=(bI _ _ _).trans (by rw[aD.2 h1]);have s1:=agX (bad:=10+bad) ⟨by omega,by omega⟩;have w1:=dD (n:=(10+bad)*(10+bad)) (by omega) (by omega);unfold mU;have gcos_c34:=avE;by_cases hc:c=-10000
 ·have ap2:φIn [.val (.int .i64 c),.val (.int .i64 0),.val (.int .i64 10000)]=some (.val (.bool false)):=(bI _ _ _).trans (by rw[show inB c 0 10000=false from Bool.eq_false_iff.2 fun q=>by have:=aD.1 q;omega])
  subst hc;rw[if_pos rfl];clear h2;((refine wlk6 ?_ ?_ ?_ ?_ ?_ ?_<;>intros<;>try with_reducible exact trivial)<;>(refine fnG ?_;try with_reducible exact trivial));all_goals((refine congrArg (fun z=>some (PV.val (Value.int IntKind.i64 z))) ?_);omega)
 ·have h3:0≤c∧c≤10000:=by omega
  have ap2:φIn [.val (.int .i64 c),.val (.int .i64 0),.val (.int .i64 10000)]=some (.val (.bool true)):=(bI _ _ _).trans (by rw[aD.2 h3]);have s2:=agX (bad:=c) ⟨by omega,by omega⟩;have w2:=dD (n:=c*c) (by omega) (by omega);rw[if_neg hc];have w3:=dD (n:=(10+bad)*(10+bad)+c*c) (by omega) (by omega);clear h2;by_cases h0:c=0
  ·subst h0
   clear s2 w2 w3;((refine wlk6 ?_ ?_ ?_ ?_ ?_ ?_<;>intros<;>try with_reducible exact trivial)<;>(refine fnG ?_;try with_reducible exact trivial));all_goals((refine congrArg (fun z=>some (PV.val (Value.int IntKind.i64 z))) ?_);omega)
  ·exact wlkF
abbrev axu (l:List It) (n m:Int):Prop:=aW l=true∧-1≤n∧n<m∧m<l.length
section
variable {α β γ δ ε:Type} {A:Dec α} {B:Dec β} {C:Dec γ} {D:Dec δ} {E:Dec ε}
def F5 (A:Dec α) (B:Dec β) (C:Dec γ) (D:Dec δ) (E:Dec ε) (F:α→β→γ→δ→ε→Option PV):Fun:=fun ps=>match ps with
 |[p,q,r,s,t]=>(A.d p).bind fun a=>(B.d q).bind fun b=>(C.d r).bind fun c=>(D.d s).bind fun d=>(E.d t).bind fun e=>F a b c d e
 |_=>none
theorem am0 {F:α→β→γ→δ→ε→Option PV} {ps:List PV} {r:PV} (h:F5 A B C D E F ps=some r):∃a b c d e,ps=[A.e a,B.e b,C.e c,D.e d,E.e e]∧F a b c d e=some r:=by
 unfold F5 at h;split at h
 ·simp only[Option.bind_eq_some_iff]at h
  obtain⟨a,h1,b,h2,c,h3,d,h4,e,h5,h6⟩:=h;exact⟨a,b,c,d,e,by rw[A.h _ _ h1,B.h _ _ h2,C.h _ _ h3,D.h _ _ h4,E.h _ _ h5],h6⟩
 ·cases h
theorem aDl {F:α→β→γ→δ→ε→Option PV} (a:α) (b:β) (c:γ) (d:δ) (e:ε):F5 A B C D E F [A.e a,B.e b,C.e c,D.e d,E.e e]=F a b c d e:=by simp[F5,A.h',B.h',C.h',D.h',E.h']
end
def φBd:Fun:=F4 oQ dI dI dI fun l n m wd=>open Classical in if axu l n m∧(0≤wd∧wd≤1000)∧aF l (n+1).toNat≤m.toNat then some (.tup [iv (iY l wd (n+1).toNat m.toNat).1,bv (iY l wd (n+1).toNat m.toNat).2])else none
theorem afQ {l:List It} {a en:Nat} {wd:Int} (h:aW l=true) (h2:a≤en) (h3:en<l.length) (h4:0≤wd∧wd≤1000) (h5:aF l a≤en):φBd [gy l,.val (.int .i64 ((a:Int)-1)),.val (.int .i64 en),.val (.int .i64 wd)]=some (.tup [.val (.int .i64 (iY l wd a en).1),.val (.bool (iY l wd a en).2)]):=
 (aAZ (A:=oQ) (B:=dI) (C:=dI) (D:=dI) l ((a:Int)-1) en wd).trans (by rw[show((a:Int)-1+1).toNat=a by omega,Int.toNat_natCast];exact if_pos ⟨⟨h,by omega,by omega,by omega⟩,h4,h5⟩)
def aEl:Ctx:={fn:=aT [(182,φSt),(184,arw),(185,wK)],io:=aT []}
theorem axP:au Tryz.prog aEl:=okΓ (fC Tryz.func182 adp (fC Tryz.func184 aiE (fC Tryz.func185 afv aj))) aj
def vG:=ah (Γ:=aEl) (f:=182) (φ:=φSt) rfl
def vP:=ah (Γ:=aEl) (f:=184) (φ:=arw) rfl
def u7:=ah (Γ:=aEl) (f:=185) (φ:=wK) rfl
theorem alV:Sound Tryz.prog 130 φBd:=by
 refine ak mixed axP Tryz.func130 rfl 45 rfl [.tmp 8,.tmp 9] rfl (by kernel_rfl) fun ps r hr=>?_;obtain⟨l,n,m,wd,rfl,hpre,rfl⟩:=aBC hr;refine⟨by simp,?_⟩;simp only[dIs,dUs,dSs,bP,bS,bQ,bT,aP,bR,aQ,aO,aR,aL];obtain⟨⟨hB,hn0,hn1,hn2⟩,hw,hst⟩:=hpre;obtain⟨a,rfl⟩:∃a:Nat,n=(a:Int)-1:=⟨(n+1).toNat,by omega⟩;obtain⟨en,rfl⟩:∃en:Nat,m=en:=⟨m.toNat,by omega⟩;show pq _ _ _ _ _ (bX [gy l,.val (.int .i64 ((a:Int)-1)),.val (.int .i64 en),.val (.int .i64 wd)]).tm _ _;rw[show((a:Int)-1+1).toNat=a by omega,Int.toNat_natCast]at hst⊢;have ap1:=aeD (a:=a) hB (by omega);have ap2:=aqi hB hst (by omega);obtain⟨g1,g2⟩:=adF (b:=aF l a) hB (show en<l.length by omega);obtain⟨⟨o1,o2,o3,o4⟩,t1,t2,t3⟩:=aoh g1 g2;have hE:iY l wd a en=azZ (jT (mX l (aF l a) en)) wd:=rfl;rw[hE];have hl:=bK hB;clear hB g1 g2 hE;generalize aF l a=s9 at*;generalize jT (mX l s9 en)=t at*;obtain⟨tw,ts,th,tod⟩:=t;dsimp only at o1 o2 o3 o4 t1 t2 t3;have hG:azZ (tw,ts,th,tod) wd=if tw≤wd then(if tod=1 then(0,true)else(aec (wd-tw) ts,true))else if tw-wd≤th then(aec (tw-wd) th,false)else(-1,false):=rfl;rw[hG];by_cases h1:tw≤wd
 ·have ap3:=qm (need:=wd-tw) (room:=ts) ⟨⟨by omega,by omega⟩,by omega,by omega⟩
  rw[if_pos h1];by_cases h2:tod=1
  ·rw[if_pos h2]
   subst h2;have gl7b_c182:=vG;have gl7b_c184:=vP;have gl7b_c185:=u7;exact wlkF
  ·rw[if_neg h2]
   generalize aec (wd-tw) ts=bd at*;have gl7b_c182:=vG;have gl7b_c184:=vP;have gl7b_c185:=u7;exact wlkF
 ·rw[if_neg h1]
  by_cases h2:tw-wd≤th
  ·have ap3:=qm (need:=tw-wd) (room:=th) ⟨⟨by omega,by omega⟩,by omega,by omega⟩
   rw[if_pos h2];generalize aec (tw-wd) th=bd at*;have gl7b_c182:=vG;have gl7b_c184:=vP;have gl7b_c185:=u7;exact wlkF
  ·rw[if_neg h2]
   have gl7b_c182:=vG;have gl7b_c184:=vP;have gl7b_c185:=u7;exact wlkF
def φBw:Fun:=F5 oQ dI dI dI dI fun l n m be lk=>open Classical in if axu l n m∧(0≤be∧be≤3)∧0≤lk∧lk≤3 then some (iv (jD l (n+1).toNat m.toNat be lk))else none
theorem amU {l:List It} {a en:Nat} {be lk:Int} (h:aW l=true) (h2:a≤en) (h3:en<l.length) (h4:0≤be∧be≤3) (h5:0≤lk∧lk≤3):φBw [gy l,.val (.int .i64 ((a:Int)-1)),.val (.int .i64 en),.val (.int .i64 be),.val (.int .i64 lk)]=some (.val (.int .i64 (jD l a en be lk))):=
 (aDl (A:=oQ) (B:=dI) (C:=dI) (D:=dI) (E:=dI) l ((a:Int)-1) en be lk).trans (by rw[show((a:Int)-1+1).toNat=a by omega,Int.toNat_natCast];exact if_pos ⟨⟨h,by omega,by omega,by omega⟩,h4,h5⟩)
theorem aoC:Sound Tryz.prog 133 φBw:=by
 refine ak mixed bV Tryz.func133 rfl 45 rfl [.tmp 10] rfl (by kernel_rfl) fun ps r hr=>?_;obtain⟨l,n,m,be,lk,rfl,hq⟩:=am0 hr;clear hr;split at hq
 case isFalse=>cases hq
 case isTrue hpre=>
 cases hq;refine⟨by simp,?_⟩;simp only[dIs,dUs,dSs,bP,bS,bQ,bT,aP,bR,aQ,aO,aR,aL];obtain⟨⟨hB,hn0,hn1,hn2⟩,hbe,hlk⟩:=hpre;obtain⟨a,rfl⟩:∃a:Nat,n=(a:Int)-1:=⟨(n+1).toNat,by omega⟩;obtain⟨en,rfl⟩:∃en:Nat,m=en:=⟨m.toNat,by omega⟩;show pq _ _ _ _ _ (bX [gy l,.val (.int .i64 ((a:Int)-1)),.val (.int .i64 en),.val (.int .i64 be),.val (.int .i64 lk)]).tm _ _;rw[show((a:Int)-1+1).toNat=a by omega,Int.toNat_natCast];have hl:=bK hB;have hE:jD l a en be lk=(if 0<a∧(l[a-1]?.getD it0).2.2.2.2.2.2=true∧(l[en]?.getD it0).2.2.2.2.2.2=true then 3000 else 0)+(if 0<a∧(1<be-lk∨be-lk< -1)then 3000 else 0):=rfl;rw[hE];have hti:0<a→((a:Int)-1).toNat=a-1:=fun h=>by omega
 clear hB hE;by_cases h0:0<a
 ·have hti:=hti h0
  generalize hx:l[a-1]?.getD it0=x at*;generalize hy:l[en]?.getD it0=y at*;obtain⟨x1,x2,x3,x4,x5,x6,x7⟩:=x;obtain⟨y1,y2,y3,y4,y5,y6,y7⟩:=y;dsimp only
  have hd:be-lk=-3∨be-lk=-2∨be-lk=-1∨be-lk=0∨be-lk=1∨be-lk=2∨be-lk=3:=by omega
  have hd2:(if lk-be>be-lk then lk-be else be-lk)>1↔(1<be-lk∨be-lk< -1):=by split<;>omega
  clear hd;cases x7<;>cases y7<;>by_cases hz:1<be-lk∨be-lk< -1<;>
  ·have hz2:=hz
   rw[←hd2]at hz2;clear hd2;((refine wlk6 ?_ ?_ ?_ ?_ ?_ ?_<;>intros<;>try with_reducible exact trivial)<;>(refine fnG ?_;try with_reducible exact trivial));all_goals(simp[h0];try omega)
 ·obtain rfl:a=0:=by omega
  generalize hy:l[en]?.getD it0=y at*;obtain⟨y1,y2,y3,y4,y5,y6,y7⟩:=y;clear hti;rw[if_neg (fun q=>h0 q.1),if_neg (fun q=>h0 q.1)];simp only[Int.natCast_zero,Int.zero_sub];((refine wlk6 ?_ ?_ ?_ ?_ ?_ ?_<;>intros<;>try with_reducible exact trivial)<;>(refine fnG ?_;try with_reducible exact trivial));all_goals simp
def φLi:Fun:=F3 oQ dI dI fun l n m=>open Classical in if axu l n m then some (.tup [.lst true 1 ((if dX l (n+1).toNat m.toNat=true then oL l (aF l (n+1).toNat) m.toNat else []).map fun n=> .val (.int .i64 n)),bv (dX l (n+1).toNat m.toNat)])else none
theorem ak9 {l:List It} {a en:Nat} (h:aW l=true) (h2:a≤en) (h3:en<l.length):φLi [gy l,.val (.int .i64 ((a:Int)-1)),.val (.int .i64 en)]=some (.tup [.lst true 1 ((if dX l a en=true then oL l (aF l a) en else []).map fun n=> .val (.int .i64 n)),.val (.bool (dX l a en))]):=
 (adE (A:=oQ) (B:=dI) (C:=dI) l ((a:Int)-1) en).trans ((if_pos ⟨h,by omega,by omega,by omega⟩).trans (by rw[show((a:Int)-1+1).toNat=a by omega,Int.toNat_natCast]))
theorem iG {b:Bool}:(PV.tup [.val (.slice none 0 0),.val (.bool b)]).le (.tup [.lst true 1 [],.val (.bool b)]):=qL ⟨nil_le _ _,PV.le_refl _,trivial⟩
def GLi:Ctx:={fn:=aT [(175,aa9),(177,φMb),(178,φSt),(179,φFc)],io:=aT []}
theorem aCl:au Tryz.prog GLi:=okΓ (fC Tryz.func175 aak (fC Tryz.func177 akw (fC Tryz.func178 amT (fC Tryz.func179 acg aj)))) aj
def sI:=ah (Γ:=GLi) (f:=175) (φ:=aa9) rfl
def rY:=ah (Γ:=GLi) (f:=177) (φ:=φMb) rfl
def sU:=ah (Γ:=GLi) (f:=178) (φ:=φSt) rfl
def tJ:=ah (Γ:=GLi) (f:=179) (φ:=φFc) rfl
theorem adf:Sound Tryz.prog 124 φLi:=by
 refine gB mixed aCl Tryz.func124 rfl 73 rfl [.tmp 6,.tmp 7] rfl (by kernel_rfl) fun ps r hr=>?_;obtain⟨l,n,m,rfl,hpre,rfl⟩:=aby hr;refine⟨by simp,?_⟩;simp only[dIs,dUs,dSs,bP,bS,bQ,bT,aP,bR,aQ,aO,aR,aL];obtain⟨hB,hn0,hn1,hn2⟩:=hpre;obtain⟨a,rfl⟩:∃a:Nat,n=(a:Int)-1:=⟨(n+1).toNat,by omega⟩;obtain⟨en,rfl⟩:∃en:Nat,m=en:=⟨m.toNat,by omega⟩;have hl:=bK hB;have hae:a≤en:=by omega
 have hel:en<l.length:=by omega
 show pq _ _ _ _ _ (bX [gy l,.val (.int .i64 ((a:Int)-1)),.val (.int .i64 en)]).tm _ _;rw[show((a:Int)-1+1).toNat=a by omega,Int.toNat_natCast];have ap1:=abI (l:=l) (by omega);rw[hB]at ap1;have ap2:=alA (n:=en) hB ⟨by omega,by omega⟩;rw[decide_eq_true (show(0:Int)≤en∧(en:Int)<l.length by omega),Bool.true_and,Int.toNat_natCast]at ap2;have ap3:=aeD (a:=a) hB (by omega);have hE:dX l a en=(mZ l en&&((decide (a=0)||mZ l (a-1))&&(decide (aF l a≤en)&&uQ l a en))):=by unfold dX;rw[decide_eq_true ⟨hae,hel⟩,Bool.true_and]
 have ap4:0<a→φMb [gy l,.val (.int .i64 ((a:Int)-1))]=some (.val (.bool (mZ l (a-1)))):=fun h=>by have:=alA (n:=(a:Int)-1) hB ⟨by omega,by omega⟩;rw[decide_eq_true (show(0:Int)≤(a:Int)-1∧(a:Int)-1<l.length by omega),Bool.true_and,show((a:Int)-1).toNat=a-1 by omega]at this;exact this
 have apf:=@amZ;have hsr:=(@zw l a).1;rw[hE];clear hE hn0 hn1 hn2 hB;by_cases hc:mZ l en=true∧(a=0∨mZ l (a-1)=true)∧aF l a≤en
 ·obtain⟨c1,c2,c3⟩:=hc
  rw[c1]at ap2;have hE:(mZ l en&&((decide (a=0)||mZ l (a-1))&&(decide (aF l a≤en)&&uQ l a en)))=uQ l a en:=by
   rw[c1,decide_eq_true c3];rcases c2 with c2|c2
   ·rw[decide_eq_true c2];simp
   ·rw[c2];simp
  rw[hE];rcases Nat.eq_zero_or_pos a with h9|h9
  ·subst h9
   replace ap4:True:=trivial;simp only[Int.natCast_zero,Int.zero_sub]at ap3⊢;clear hE c1 c2;have hq:=fun k=>xQ (l:=l) (a:=0) (b:=k);have hno:=fun k h1 h2 h3=>aeI (l:=l) (a:=0) (b:=en) (k:=k) h1 h2 h3;have hz0:uQ l 0 0=true:=aaC (Nat.le_refl _);have hiy:=fun k=>@qF l (aF l 0) k;have hin:=fun k=>@abO l (aF l 0) k;have hi0:oL l (aF l 0) (aF l 0)=[]:=vX (Nat.le_refl _);have hil:=qB l (aF l 0);generalize aF l 0=s9 at*;have gli_c175:=sI;have gli_c177:=rY;have gli_c178:=sU;have gli_c179:=tJ;(refine wlk ?_;intros);refine aB (α:=Nat) mixed (fun k=>[(0,gy l),(1,iv (-1)),(2,iv en),(8,iv k)]) (fun _=>[]) (fun _=>0)
    (fun k=>(0≤k∧k≤en)∧uQ l 0 k=true) (fun k=>en-k) (by kernel_rfl) 0 ⟨⟨Nat.le_refl _,hae⟩,hz0⟩ ?_ ?_ rfl ?_
   ·exact agi
   ·exact agr
   rintro k ⟨⟨hk1,hk2⟩,hI⟩;clear hz0;by_cases h0:k<en
   ·have hfr:forced (gI l k)=forced (l[k]?.getD it0):=rfl
    have hs:=hq k hk1;rw[hI,Bool.true_and,hfr]at hs;have hno:=fun h=>hno k h hk1 h0;clear hfr hq hI hiy hin hi0 hil ap4 ap3 ap2;generalize hx:l[k]?.getD it0=x at*;obtain⟨kd,w9,c,d,e,cost,g⟩:=x;cases hf:forced (kd,w9,c,d,e,cost,g)with
    |true=>
     rw[hf]at hs;rw[hno hs];clear hs hno;(refine wlk ?_;intros);all_goals((with_reducible apply cO (by first|exact .inl rfl|exact .inr rfl));(exact sr))
     all_goals exact iG
    |false=>
     rw[hf]at hs;replace hs:=Lib.hid hs;clear hno;(refine wlk ?_;intros);refine⟨k+1,⟨⟨by omega,by omega⟩,hs.out⟩,by dsimp only;omega,?_,?_,rfl⟩
     ·exact agr
     ·exact agr
   ·obtain rfl:k=en:=by omega
    rw[hI,if_pos rfl];clear hI hq hno ap4;(refine wlk ?_;intros);refine aB (α:=Nat×LI×Nat×Nat) mixed (fun z=>[(0,gy l),(2,iv k),(9,nP 1 (z.2.1.map pvN) z.2.2.1),(10,iv z.1)])
     (fun z=>nO 3 1 (z.2.1.map pvN) z.2.2.1) (fun z=>z.2.2.2)
     (fun z=>(s9≤z.1∧z.1≤k)∧z.2.1=oL l s9 z.1∧(0<z.2.1.length→z.2.2.1<z.2.2.2)) (fun z=>k-z.1) (by kernel_rfl) (s9,[],0,0) ⟨⟨Nat.le_refl _,c3⟩,hi0.symm,by simp⟩ ?_ ?_ rfl ?_
    ·exact agr
    ·exact agr
    rintro⟨j,out,x,y⟩ ⟨⟨hj1,hj2⟩,hI,hxy⟩;dsimp only at hj1 hj2 hI hxy;have hol:out.length≤60:=by rw[hI];have:=hil j;omega
    clear hil hi0 ap3 ap2;by_cases h1:j<k
    ·have hiy:=hiy j hj1
     have hin:=hin j hj1;have hkx:(gI l j).kd=(l[j]?.getD it0).1:=rfl;rw[hkx]at hiy hin;clear hkx;generalize hx:l[j]?.getD it0=z9 at*;obtain⟨kd,w9,c,d,e,cost,g⟩:=z9;dsimp only at hiy hin;by_cases h3:kd=3
     ·have hI2:out=oL l s9 (j+1):=by rw[hin h3,←hI]
      replace hI2:=Lib.hid hI2;clear hI hiy hin;(refine wlk ?_;intros);refine⟨(j+1,out,x,y),⟨⟨by dsimp only;omega,by dsimp only;omega⟩,hI2.out,hxy⟩,by dsimp only;omega,?_,qI,rfl⟩
      ·exact agr
     ·have hI2:out++[(j:Int)]=oL l s9 (j+1):=by rw[hiy h3,←hI]
      replace hI2:=Lib.hid hI2;clear hI hiy hin;by_cases hz:out.length=0
      ·obtain rfl:out=[]:=List.eq_nil_of_length_eq_zero hz
       (refine wlk ?_;intros);refine⟨(j+1,[]++[(j:Int)],y+1,y+2),⟨⟨by dsimp only;omega,by dsimp only;omega⟩,hI2.out,fun _=>by dsimp only;omega⟩,by dsimp only;omega,?_,?_,rfl⟩
       ·exact agr
       ·exact agr
      ·have hxy:=hxy (by omega)
       have hap:0<(out.map pvN).length:=by rw[List.length_map];omega
       clear hz;have hap3:0<((out++[(j:Int)]).map pvN).length:=by simp
       simp only[av hap,ay hap,List.length_map];(refine wlk ?_;intros);refine⟨(j+1,out++[(j:Int)],y+1,y+2),⟨⟨by dsimp only;omega,by dsimp only;omega⟩,hI2.out,fun _=>by dsimp only;omega⟩,by dsimp only;omega,?_,?_,rfl⟩
       ·simp(disch:=(first|omega|(simp only[push_cast];first|done|omega))) only[push_cast,↓reduceIte,Rq,Rb,Ra,Rs,Rt,av hap3,List.length_append, *]
       ·simp(disch:=(first|omega|(simp only[push_cast];first|done|omega))) only[push_cast,↓reduceIte,Rq,Rb,Ra,Rs,Rt,ay hap3, *]
    ·obtain rfl:j=k:=by omega
     rw[←hI];clear hI hiy hin;by_cases hz:out.length=0
     ·obtain rfl:out=[]:=List.eq_nil_of_length_eq_zero hz
      (refine wlk ?_;intros);all_goals((with_reducible apply cO (by first|exact .inl rfl|exact .inr rfl));(exact sr))
      all_goals exact iG
     ·have hxy:=hxy (by omega)
      have hap:0<(out.map pvN).length:=by rw[List.length_map];omega
      clear hz;simp only[av hap,ay hap,List.length_map];(refine wlk ?_;intros);all_goals((with_reducible apply cO (by first|exact .inl rfl|exact .inr rfl));(exact sr))
      all_goals exact PV.le_refl _
  ·replace ap4:φMb [gy l,.val (.int .i64 ((a:Int)-1))]=some (.val (.bool true)):=by
    have:=ap4 h9;rcases c2 with c2|c2
    ·omega
    ·rwa[c2]at this
   clear hE c1 c2;have hq:=fun k=>xQ (l:=l) (a:=a) (b:=k);have hno:=fun k h1 h2 h3=>aeI (l:=l) (a:=a) (b:=en) (k:=k) h1 h2 h3;have hz0:uQ l a a=true:=aaC (Nat.le_refl _);have hiy:=fun k=>@qF l (aF l a) k;have hin:=fun k=>@abO l (aF l a) k;have hi0:oL l (aF l a) (aF l a)=[]:=vX (Nat.le_refl _);have hil:=qB l (aF l a);generalize aF l a=s9 at*;have gli_c175:=sI;have gli_c177:=rY;have gli_c178:=sU;have gli_c179:=tJ;(refine wlk ?_;intros);refine aB (α:=Nat) mixed (fun k=>[(0,gy l),(1,iv ((a:Int)-1)),(2,iv en),(8,iv k)]) (fun _=>[]) (fun _=>0)
    (fun k=>(a≤k∧k≤en)∧uQ l a k=true) (fun k=>en-k) (by kernel_rfl) a ⟨⟨Nat.le_refl _,hae⟩,hz0⟩ ?_ ?_ rfl ?_
   ·exact agi
   ·exact agr
   rintro k ⟨⟨hk1,hk2⟩,hI⟩;clear hz0;by_cases h0:k<en
   ·have hfr:forced (gI l k)=forced (l[k]?.getD it0):=rfl
    have hs:=hq k hk1;rw[hI,Bool.true_and,hfr]at hs;have hno:=fun h=>hno k h hk1 h0;clear hfr hq hI hiy hin hi0 hil ap4 ap3 ap2;generalize hx:l[k]?.getD it0=x at*;obtain⟨kd,w9,c,d,e,cost,g⟩:=x;cases hf:forced (kd,w9,c,d,e,cost,g)with
    |true=>
     rw[hf]at hs;rw[hno hs];clear hs hno;(refine wlk ?_;intros);all_goals((with_reducible apply cO (by first|exact .inl rfl|exact .inr rfl));(exact sr))
     all_goals exact iG
    |false=>
     rw[hf]at hs;replace hs:=Lib.hid hs;clear hno;(refine wlk ?_;intros);refine⟨k+1,⟨⟨by omega,by omega⟩,hs.out⟩,by dsimp only;omega,?_,?_,rfl⟩
     ·exact agr
     ·exact agr
   ·obtain rfl:k=en:=by omega
    rw[hI,if_pos rfl];clear hI hq hno ap4;(refine wlk ?_;intros);refine aB (α:=Nat×LI×Nat×Nat) mixed (fun z=>[(0,gy l),(2,iv k),(9,nP 1 (z.2.1.map pvN) z.2.2.1),(10,iv z.1)])
     (fun z=>nO 3 1 (z.2.1.map pvN) z.2.2.1) (fun z=>z.2.2.2)
     (fun z=>(s9≤z.1∧z.1≤k)∧z.2.1=oL l s9 z.1∧(0<z.2.1.length→z.2.2.1<z.2.2.2)) (fun z=>k-z.1) (by kernel_rfl) (s9,[],0,0) ⟨⟨Nat.le_refl _,c3⟩,hi0.symm,by simp⟩ ?_ ?_ rfl ?_
    ·exact agr
    ·exact agr
    rintro⟨j,out,x,y⟩ ⟨⟨hj1,hj2⟩,hI,hxy⟩;dsimp only at hj1 hj2 hI hxy;have hol:out.length≤60:=by rw[hI];have:=hil j;omega
    clear hil hi0 ap3 ap2;by_cases h1:j<k
    ·have hiy:=hiy j hj1
     have hin:=hin j hj1;have hkx:(gI l j).kd=(l[j]?.getD it0).1:=rfl;rw[hkx]at hiy hin;clear hkx;generalize hx:l[j]?.getD it0=z9 at*;obtain⟨kd,w9,c,d,e,cost,g⟩:=z9;dsimp only at hiy hin;by_cases h3:kd=3
     ·have hI2:out=oL l s9 (j+1):=by rw[hin h3,←hI]
      replace hI2:=Lib.hid hI2;clear hI hiy hin;(refine wlk ?_;intros);refine⟨(j+1,out,x,y),⟨⟨by dsimp only;omega,by dsimp only;omega⟩,hI2.out,hxy⟩,by dsimp only;omega,?_,qI,rfl⟩
      ·exact agr
     ·have hI2:out++[(j:Int)]=oL l s9 (j+1):=by rw[hiy h3,←hI]
      replace hI2:=Lib.hid hI2;clear hI hiy hin;by_cases hz:out.length=0
      ·obtain rfl:out=[]:=List.eq_nil_of_length_eq_zero hz
       (refine wlk ?_;intros);refine⟨(j+1,[]++[(j:Int)],y+1,y+2),⟨⟨by dsimp only;omega,by dsimp only;omega⟩,hI2.out,fun _=>by dsimp only;omega⟩,by dsimp only;omega,?_,?_,rfl⟩
       ·exact agr
       ·exact agr
      ·have hxy:=hxy (by omega)
       have hap:0<(out.map pvN).length:=by rw[List.length_map];omega
       clear hz;have hap3:0<((out++[(j:Int)]).map pvN).length:=by simp
       simp only[av hap,ay hap,List.length_map];(refine wlk ?_;intros);refine⟨(j+1,out++[(j:Int)],y+1,y+2),⟨⟨by dsimp only;omega,by dsimp only;omega⟩,hI2.out,fun _=>by dsimp only;omega⟩,by dsimp only;omega,?_,?_,rfl⟩
       ·simp(disch:=(first|omega|(simp only[push_cast];first|done|omega))) only[push_cast,↓reduceIte,Rq,Rb,Ra,Rs,Rt,av hap3,List.length_append, *]
       ·simp(disch:=(first|omega|(simp only[push_cast];first|done|omega))) only[push_cast,↓reduceIte,Rq,Rb,Ra,Rs,Rt,ay hap3, *]
    ·obtain rfl:j=k:=by omega
     rw[←hI];clear hI hiy hin;by_cases hz:out.length=0
     ·obtain rfl:out=[]:=List.eq_nil_of_length_eq_zero hz
      (refine wlk ?_;intros);all_goals((with_reducible apply cO (by first|exact .inl rfl|exact .inr rfl));(exact sr))
      all_goals exact iG
     ·have hxy:=hxy (by omega)
      have hap:0<(out.map pvN).length:=by rw[List.length_map];omega
      clear hz;simp only[av hap,ay hap,List.length_map];(refine wlk ?_;intros);all_goals((with_reducible apply cO (by first|exact .inl rfl|exact .inr rfl));(exact sr))
      all_goals exact PV.le_refl _
 ·have hE:(mZ l en&&((decide (a=0)||mZ l (a-1))&&(decide (aF l a≤en)&&uQ l a en)))=false:=by rw[Bool.eq_false_iff];intro q;simp only[Bool.and_eq_true,Bool.or_eq_true,decide_eq_true_eq]at q;exact hc ⟨q.1,q.2.1,q.2.2.1⟩
  rw[hE,if_neg (by decide)];clear hE;generalize aF l a=s9 at*;generalize mZ l en=q1 at*;generalize mZ l (a-1)=q2 at*;have hq1:q1=false∨(q1=true∧(s9≤en→0<a∧q2=false)):=by
   cases q1 with
   |false=>exact .inl rfl
   |true=>
    refine .inr ⟨rfl,fun hs=>?_⟩;rcases Nat.eq_zero_or_pos a with h|h
    ·exact absurd ⟨rfl,.inl h,hs⟩ hc
    ·refine⟨h,?_⟩
     cases q2 with
     |false=>rfl
     |true=>exact absurd ⟨rfl,.inr rfl,hs⟩ hc
  clear hc;rcases Nat.eq_zero_or_pos a with h9|h9
  ·subst h9
   clear ap4;simp only[Int.natCast_zero,Int.zero_sub]at ap3⊢;have hq2:q1=false∨(q1=true∧¬s9≤en):=hq1.imp id fun h=>⟨h.1,fun hs=>absurd (h.2 hs).1 (by omega)⟩;clear hq1;rcases hq2 with rfl|⟨rfl,hs⟩<;>
   ·have gli_c175:=sI;have gli_c177:=rY;have gli_c178:=sU;have gli_c179:=tJ
    (refine wlk ?_;intros);all_goals((with_reducible apply cO (by first|exact .inl rfl|exact .inr rfl));(exact sr))
    all_goals exact iG
  ·have ap4:=ap4 h9
   rcases hq1 with rfl|⟨rfl,hs⟩
   ·cases q2<;>
    ·have gli_c175:=sI;have gli_c177:=rY;have gli_c178:=sU;have gli_c179:=tJ
     (refine wlk ?_;intros);all_goals((with_reducible apply cO (by first|exact .inl rfl|exact .inr rfl));(exact sr))
     all_goals exact iG
   ·by_cases h8:s9≤en
    ·obtain⟨-,rfl⟩:=hs h8
     clear hs;have gli_c175:=sI;have gli_c177:=rY;have gli_c178:=sU;have gli_c179:=tJ;(refine wlk ?_;intros);all_goals((with_reducible apply cO (by first|exact .inl rfl|exact .inr rfl));(exact sr))
     all_goals exact iG
    ·clear hs
     cases q2<;>
     ·have gli_c175:=sI;have gli_c177:=rY;have gli_c178:=sU;have gli_c179:=tJ
      (refine wlk ?_;intros);all_goals((with_reducible apply cO (by first|exact .inl rfl|exact .inr rfl));(exact sr))
      all_goals exact iG
section
def adY {α:Type} (f:Nat→Nat→α) (i:Nat):List α:=(List.range 4).map (f i)
def tab {α:Type} (n:Nat) (f:Nat→Nat→α):List (List α):=(List.range (n+1)).map (adY f)
def zZ {α:Type} (f:Nat→Nat→α) (i k:Nat) (v:α):Nat→Nat→α:=fun i' k'=>if i'=i∧k'=k then v else f i' k'
abbrev aEn (b:Bool):PV:=.val (.bool b)
abbrev adV (r:List Int):PV:=.agg (r.map pvN)
abbrev arH (r:List Bool):PV:=.agg (r.map aEn)
theorem abN {α:Type} (f:Nat→Nat→α) (i:Nat):(adY f i).length=4:=by simp[adY]
theorem abV {α:Type} (n:Nat) (f:Nat→Nat→α):(tab n f).length=n+1:=by simp[tab]
theorem arY {α β:Type} {f:Nat→Nat→α} {g:α→β} {i k:Nat} (h:k<4):Option.map g (adY f i)[k]?=some (g (f i k)):=by unfold adY;rw[List.getElem?_map,List.getElem?_range h];rfl
theorem aza {α β:Type} {f:Nat→Nat→α} {g:List α→β} {n i:Nat} (h:i≤n):Option.map g (tab n f)[i]?=some (g (adY f i)):=by unfold tab;rw[List.getElem?_map,List.getElem?_range (by omega)];rfl
theorem apR {α:Type} {f:Nat→Nat→α} {i k:Nat} {v:α}:adY (zZ f i k v) i=(adY f i).set k v:=by rcases k with _|_|_|_|k<;>simp[adY,zZ,List.range_succ]
theorem auO {α:Type} {f:Nat→Nat→α} {i j k:Nat} {v:α} (h:¬j=i):adY (zZ f i k v) j=adY f j:=by unfold adY zZ;refine List.map_congr_left fun x _=>?_;rw[if_neg fun q=>h q.1]
theorem amb {α:Type} {n i k:Nat} {f:Nat→Nat→α} {v:α}:(tab n f).set i ((adY f i).set k v)=tab n (zZ f i k v):=by
 apply List.ext_getElem?;intro j;rw[List.getElem?_set,abV];by_cases hj:j<n+1
 ·by_cases h:i=j
  ·subst h
   rw[if_pos rfl,if_pos hj];unfold tab;rw[List.getElem?_map,List.getElem?_range hj,Option.map_some,apR]
  ·rw[if_neg h]
   unfold tab;rw[List.getElem?_map,List.getElem?_map,List.getElem?_range hj,Option.map_some,Option.map_some,auO (fun q=>h q.symm)]
 ·rw[List.getElem?_eq_none (by rw[abV];omega),List.getElem?_eq_none (by rw[abV];omega)]
  split<;>(try split)<;>first|rfl|omega
theorem ahw {α:Type} {g:α→PV} {l:List α} {k:Nat} {v:α} (h:k<l.length):fM (l.map g) k [g v]=(l.set k v).map g:=by unfold fM;rw[List.map_set,List.set_eq_take_append_cons_drop,List.length_map,if_pos h];simp
theorem asF {n i k:Nat} {f:Nat→Nat→Int} {v:Int} (h:k<4):((tab n f).map adV).set i (.agg (fM ((adY f i).map pvN) k [.val (.int .i64 v)]))=(tab n (zZ f i k v)).map adV:=by rw[←amb,List.map_set,ahw (g:=pvN) (v:=v) (by rw[abN];exact h)]
theorem aq3 {n i k:Nat} {f:Nat→Nat→Bool} {v:Bool} (h:k<4):((tab n f).map arH).set i (.agg (fM ((adY f i).map aEn) k [.val (.bool v)]))=(tab n (zZ f i k v)).map arH:=by rw[←amb,List.map_set,ahw (g:=aEn) (v:=v) (by rw[abN];exact h)]
theorem iQ {α:Type} {n:Nat} {f f':Nat→Nat→α} (h:∀i k,i≤n→k<4→f i k=f' i k):tab n f=tab n f':=by unfold tab adY;refine List.map_congr_left fun i hi=>List.map_congr_left fun k hk=>?_;have h1:=List.mem_range.1 hi;exact h i k (by omega) (List.mem_range.1 hk)
theorem aCM {n:Nat}:List.replicate (n+1) (PV.agg [.val (.int .i64 0),.val (.int .i64 0),.val (.int .i64 0),.val (.int .i64 0)])=(tab n (fun _ _=>(0:Int))).map adV:=by unfold tab;rw[List.map_map];symm;rw[List.eq_replicate_iff];exact⟨by rw[List.length_map,List.length_range],fun b hb=>by obtain⟨x,-,rfl⟩:=List.mem_map.1 hb;rfl⟩
theorem aAj {n:Nat}:List.replicate (n+1) (PV.agg [.val (.bool false),.val (.bool false),.val (.bool false),.val (.bool false)])=(tab n (fun _ _=>false)).map arH:=by unfold tab;rw[List.map_map];symm;rw[List.eq_replicate_iff];exact⟨by rw[List.length_map,List.length_range],fun b hb=>by obtain⟨x,-,rfl⟩:=List.mem_map.1 hb;rfl⟩
theorem aBd {l:List Int}:(l.map pvN).all nX=true:=by simp[List.all_map,nX,Value.oneCell']
theorem aDg {l:List Bool}:(l.map aEn).all nX=true:=by simp[List.all_map,nX,Value.oneCell']
attribute[push_cast]
 aBd aDg abN abV arY aza asF aq3 aCM aAj
def tbA (l:List It) (wd most:Int) (m:Nat):Nat→Nat→Option Ch:=fun i k=>if m≤i then aU l wd most i k else none
def tbJ (l:List It) (wd most:Int) (a j:Nat):Nat→Nat→Option Ch:=fun i k=>if i=a then bE l wd most a k (aU l wd most) j else tbA l wd most (a+1) i k
def tbK (l:List It) (wd most:Int) (a j b:Nat):Nat→Nat→Option Ch:=fun i k=>if i=a then bE l wd most a k (aU l wd most) (if k<b then j+1 else j)else tbA l wd most (a+1) i k
def cB (x:Option Ch):Int:=match x with|some c=>c.1|none=>0
def cN (x:Option Ch):Int:=match x with|some c=>(c.2.1:Int)|none=>0
def tB (f:Nat→Nat→Option Ch):Nat→Nat→Int:=fun i k=>cB (f i k)
def tG (f:Nat→Nat→Option Ch):Nat→Nat→Bool:=fun i k=>(f i k).isSome
def tN (f:Nat→Nat→Option Ch):Nat→Nat→Int:=fun i k=>cN (f i k)
theorem bM {n:Nat} {f f':Nat→Nat→Option Ch} (h:∀i k,i≤n→k<4→f i k=f' i k):tab n (tB f)=tab n (tB f')∧tab n (tG f)=tab n (tG f')∧tab n (tN f)=tab n (tN f'):=
 ⟨iQ fun i k h1 h2=>by unfold tB;rw[h i k h1 h2],iQ fun i k h1 h2=>by unfold tG;rw[h i k h1 h2],iQ fun i k h1 h2=>by unfold tN;rw[h i k h1 h2]⟩
variable {l:List It} {wd most:Int}
theorem aeQ:∀i k,i≤l.length→k<4→tbA l wd most l.length i k=if i=l.length then some (0,0,0)else none:=fun i k h _=>by
 unfold tbA;by_cases hi:i=l.length
 ·rw[if_pos (by omega),if_pos hi,hi,rO]
 ·rw[if_neg (by omega),if_neg hi]
theorem arI {a:Nat} (ha:a<l.length) (h0:0<a) (h:mZ l (a-1)=false):∀i k,i≤l.length→k<4→tbA l wd most (a+1) i k=tbA l wd most a i k:=fun i k hi _=>by
 unfold tbA;by_cases h1:a+1≤i
 ·rw[if_pos h1,if_pos (by omega)]
 ·rw[if_neg h1]
  by_cases h2:a≤i
  ·obtain rfl:i=a:=by omega
   rw[if_pos h2,abA ha h0 h]
  ·rw[if_neg h2]
theorem ain {a:Nat}:∀i k,i≤l.length→k<4→tbA l wd most (a+1) i k=tbJ l wd most a 0 i k:=fun i k hi _=>by
 unfold tbJ;split
 ·rename_i h
  subst h;unfold tbA;rw[if_neg (by omega)];rfl
 ·rfl
theorem amX {a:Nat} (ha:a<l.length):∀i k,i≤l.length→k<4→tbJ l wd most a (l.length-a) i k=tbA l wd most a i k:=fun i k hi _=>by
 unfold tbJ tbA;split
 ·rename_i h
  subst h;rw[if_pos (Nat.le_refl _),nR ha]
 ·by_cases h1:a+1≤i
  ·rw[if_pos h1,if_pos (by omega)]
  ·rw[if_neg h1,if_neg (by omega)]
theorem ahI {a j:Nat} (h:∀k:Int,bE l wd most a k (aU l wd most) (j+1)=bE l wd most a k (aU l wd most) j):∀i k,i≤l.length→k<4→tbJ l wd most a j i k=tbJ l wd most a (j+1) i k:=fun i k hi _=>by
 unfold tbJ;split
 ·rw[h]
 ·rfl
theorem agL {a j:Nat}:∀i k,i≤l.length→k<4→tbJ l wd most a j i k=tbK l wd most a j 0 i k:=fun i k hi _=>by
 unfold tbJ tbK;split
 ·rw[if_neg (by omega)]
 ·rfl
theorem amJ {a j:Nat}:∀i k,i≤l.length→k<4→tbK l wd most a j 4 i k=tbJ l wd most a (j+1) i k:=fun i k hi hk=>by
 unfold tbJ tbK;split
 ·first|rfl|rw[if_pos hk]
 ·rfl
theorem uW {a j b:Nat} {x:Option Ch} (hx:bE l wd most a b (aU l wd most) (j+1)=x):∀i k,i≤l.length→k<4→zZ (tbK l wd most a j b) a b x i k=tbK l wd most a j (b+1) i k:=fun i k hi hk=>by
 unfold zZ tbK;by_cases h:i=a∧k=b
 ·obtain⟨rfl,rfl⟩:=h
  rw[if_pos ⟨rfl,rfl⟩,if_pos rfl,if_pos (by omega),hx]
 ·rw[if_neg h]
  split
  ·have:¬k=b:=fun q=>h ⟨by assumption,q⟩
   by_cases h1:k<b
   ·rw[if_pos h1,if_pos (by omega)]
   ·rw[if_neg h1,if_neg (by omega)]
  ·rfl
theorem ag9 {a j b:Nat} (hx:bE l wd most a b (aU l wd most) (j+1)=bE l wd most a b (aU l wd most) j):∀i k,i≤l.length→k<4→tbK l wd most a j b i k=tbK l wd most a j (b+1) i k:=fun i k hi hk=>by
 unfold tbK;split
 ·by_cases h:k=b
  ·subst h
   rw[if_neg (by omega),if_pos (by omega),hx]
  ·by_cases h1:k<b
   ·rw[if_pos h1,if_pos (by omega)]
   ·rw[if_neg h1,if_neg (by omega)]
 ·rfl
theorem ahy (f:Nat→Nat→Option Ch) (i k:Nat) (x:Ch):zZ (tB f) i k x.1=tB (zZ f i k (some x)):=by funext i' k';unfold tB zZ;split<;>rfl
theorem agE (f:Nat→Nat→Option Ch) (i k:Nat) (x:Ch):zZ (tG f) i k true=tG (zZ f i k (some x)):=by funext i' k';unfold tG zZ;split<;>rfl
theorem ahK (f:Nat→Nat→Option Ch) (i k:Nat) (x:Ch):zZ (tN f) i k (x.2.1:Int)=tN (zZ f i k (some x)):=by funext i' k';unfold tN zZ;split<;>rfl
theorem oH {a j b:Nat}:tbK l wd most a j b a b=bE l wd most a b (aU l wd most) j:=by unfold tbK;rw[if_pos rfl,if_neg (Nat.lt_irrefl _)]
theorem kW {a j i k:Nat} (h:a<i):tbJ l wd most a j i k=aU l wd most i k:=by unfold tbJ tbA;rw[if_neg (by omega),if_pos (by omega)]
theorem agC {i k:Nat}:tbA l wd most 0 i k=aU l wd most i k:=if_pos (Nat.zero_le _)
end
section
def txK (ws pats:LS):Nat→LS
 |0=>[]
 |k+1=>txK ws pats k++bO (ws[k]?.getD .empty) pats
def txR (ws pats:LS):LS:=txK ws pats ws.length
theorem ae7 (ws pats:LS):∀k,(txK ws pats k).length≤21*k
 |0=>by simp[txK]
 |k+1=>by have:=ae7 ws pats k;have h2:=kD (ws[k]?.getD .empty) pats;rw[txK,List.length_append];omega
theorem agK (ws pats:LS):∀k,∀x∈txK ws pats k,bY x=true
 |0=>by simp[txK]
 |k+1=>fun x hx=>by
  rw[txK]at hx;rcases List.mem_append.1 hx with hx|hx
  ·exact agK ws pats k x hx
  ·exact pz x hx
theorem agN {ws pats:LS} {k:Nat} (h:k<(txR ws pats).length):bY ((txR ws pats)[k]?.getD .empty)=true:=by rw[List.getElem?_eq_getElem h,Option.getD_some];exact agK ws pats _ _ (List.getElem_mem h)
def nb (l:List It):Nat:=(l.filter fun x=>decide (x.kd=1)).length
theorem yt (l l':List It):nb (l++l')=nb l+nb l':=by simp[nb]
theorem arF (ps:LS):∀k,nb (wiK ps k)=k
 |0=>rfl
 |k+1=>by
  have ih:=arF ps k;rw[wiK,yt];have h1:nb [((1:Int),pV (ps[k]?.getD .empty),(0:Int),(0:Int),(0:Int),(0:Int),false)]=1:=by simp[nb,It.kd]
  rw[h1];split
  ·rw[ih]
  ·rw[yt,ih]
   have h2:nb [((3:Int),(3:Int),(0:Int),(0:Int),(0:Int),(50:Int),true)]=0:=by decide
   rw[h2]
theorem aqs (ws pats:LS):∀k,nb (piK ws pats k)=(txK ws pats k).length
 |0=>rfl
 |k+1=>by
  have ih:=aqs ws pats k;rw[piK,yt,txK,List.length_append];have h1:nb (wiR (ws[k]?.getD .empty) pats)=(bO (ws[k]?.getD .empty) pats).length:=arF _ _;rw[h1];split
  ·rw[ih]
  ·rw[yt,ih]
   have h2:nb [((2:Int),(4:Int),(3:Int),(1:Int),(0:Int),(0:Int),false)]=0:=by decide
   rw[h2,Nat.add_zero]
theorem aq0 (ws pats:LS):nb (piR ws pats)=(txR ws pats).length:=by
 unfold piR;rw[yt,aqs];have h2:nb [((3:Int),(0:Int),(0:Int),(0:Int),(0:Int),(10000:Int),false),(2,0,1,0,1,0,false),(3,0,0,0,0,-10000,false)]=0:=by decide
 rw[h2];rfl
theorem anA (l:List It) (n:Nat):nbX l n≤nb l:=by unfold nbX nb;exact List.Sublist.length_le ((List.take_sublist n l).filter _)
theorem zJ {l:List It} {n:Nat} (h:n<l.length) (hk:(gI l n).kd=1):nbX l n<nb l:=by have h1:=afH h hk;have h2:=anA l (n+1);omega
def frB (br:List Int) (k:Nat):Nat:=if k=0 then 0 else(br[k-1]?.getD 0).toNat+1
def mE (l:List It) (tx:LS) (br:List Int):Nat→LS
 |0=>[]
 |k+1=>mE l tx br k++[lnR l tx (frB br k) (br[k]?.getD 0).toNat]
theorem qR (l:List It) (tx:LS) (br:List Int):∀k,(mE l tx br k).length=k
 |0=>rfl
 |k+1=>by rw[mE,List.length_append,qR l tx br k];rfl
theorem vL (br:List Int) (k:Nat):frB br (k+1)=(br[k]?.getD 0).toNat+1:=by unfold frB;rw[if_neg (by omega)];rfl
def atz (l:List It) (br:List Int):Prop:=br.length≤l.length∧∀k,k<br.length→0≤br[k]?.getD 0∧dX l (frB br k) (br[k]?.getD 0).toNat=true
theorem auw {l:List It} {wd most:Int} (hl:aW l=true) (hm:most≤10000):∀(f a:Nat) (lk:Int),a≤l.length→∀k,k<(bkF l wd most f a lk).length→0≤(bkF l wd most f a lk)[k]?.getD 0∧dX l (if k=0 then a else((bkF l wd most f a lk)[k-1]?.getD 0).toNat+1) ((bkF l wd most f a lk)[k]?.getD 0).toNat=true
 |0,a,lk,_,k,hk=>by simp[bkF]at hk
 |f+1,a,lk,ha,k,hk=>by
  by_cases h:a=l.length
  ·subst h;rw[yS]at hk;simp at hk
  ·cases hr:aU l wd most a lk with
   |none=>rw[bkF,if_neg h,hr]at hk;simp at hk
   |some r=>
    obtain⟨x,c0,hx,hL⟩:=ou (by omega) hr;obtain⟨hq,-,-⟩:=sN hL;have h2:=(fE.1 hq).1;rw[nU h hr]at hk⊢;have ih:=auw (wd:=wd) hl hm f (r.2.1+1) r.2.2 (by omega);generalize bkF l wd most f (r.2.1+1) r.2.2=t at*;cases k with
    |zero=>exact⟨by simp,by simpa using hq⟩
    |succ k=>
     rw[List.length_cons]at hk;obtain⟨i1,i2⟩:=ih k (by omega);refine⟨by simpa using i1,?_⟩;rw[if_neg (by omega),List.getElem?_cons_succ,Nat.add_sub_cancel];cases k with
     |zero=>simpa using i2
     |succ k=>rw[if_neg (by omega),Nat.add_sub_cancel]at i2;rw[List.getElem?_cons_succ];exact i2
theorem ac9 {l:List It} {wd most:Int} (hl:aW l=true) (hm:most≤10000):atz l (cK l wd most):=
 ⟨afE hl hm _ _ _ (Nat.zero_le _),fun k hk=>auw hl hm _ _ _ (Nat.zero_le _) k hk⟩
theorem atz.at_ {l:List It} {br:List Int} (h:atz l br) {k:Nat} (hk:k<br.length):0≤br[k]?.getD 0∧frB br k≤(br[k]?.getD 0).toNat∧(br[k]?.getD 0).toNat<l.length∧¬(gI l (br[k]?.getD 0).toNat).kd=1:=by obtain⟨h1,h2⟩:=h.2 k hk;obtain⟨h3,h4,-⟩:=fE.1 h2;refine⟨h1,h3.1,h3.2,fun q=>?_⟩;unfold mZ at h4;rw[if_neg (by omega),decide_eq_true_eq]at h4;omega
variable {l:List It} {tx:LS} {s:ByteArray} {n:Nat}
theorem adQ (h:(gI l n).kd=1):oP l tx s n=s++tx[nbX l n]?.getD .empty:=if_pos h
theorem ag6 (h:(gI l n).kd=2∧0<(gI l n).wd∧¬s=⟨#[]⟩):oP l tx s n=s++⟨#[32]⟩:=by unfold oP;rw[if_neg (by omega),if_pos h]
theorem aja (h1:¬(gI l n).kd=1) (h:¬((gI l n).kd=2∧0<(gI l n).wd∧¬s=⟨#[]⟩)):oP l tx s n=s:=by unfold oP;rw[if_neg h1,if_neg h]
theorem abo {a:Nat} (h:∀k:Nat,(tx[k]?.getD ByteArray.empty).size≤20):∀j,(lnT l tx a j).size≤20*j
 |0=>by simp[lnT,ByteArray.size]
 |j+1=>by
  have ih:=abo (a:=a) h j;rw[lnT];unfold oP;split
  ·rw[ByteArray.size_append]
   have:=h (nbX l (a+j));omega
  ·split
   ·rw[ByteArray.size_append,show(⟨#[32]⟩:ByteArray).size=1 from rfl]
    omega
   ·omega
theorem afw {ws pats:LS} (k:Nat):((txR ws pats)[k]?.getD .empty).size≤20:=by
 by_cases h:k<(txR ws pats).length
 ·exact(aG (agN h)).2.2
 ·rw[List.getElem?_eq_none (by omega)]
  decide
def mD (ws pats:LS) (wd most:Int):Bool:=tK ws pats&&kg (piV ws pats) wd most
def mF (ws pats:LS) (wd most:Int):LS:=if mD ws pats wd most=true then mE (piR ws pats) (txR ws pats) (cK (piR ws pats) wd most) (cK (piR ws pats) wd most).length else []
end
section
open Go.ChangeMaps (setBlock heap_setBlock_same heap_setBlock_other modify_eq_set)
open Go.Maps (Keyed)
abbrev VL:=List (Value×Value)
abbrev kv (e:MapEntry):Value×Value:=(e.key,e.val)
structure ake (P:Program) (k:TypeId) (es:Array MapEntry) (clock:Nat) (L:VL):Prop where
 list:es.toList.map kv=L
 old:∀e∈es.toList,e.born<clock
 born:(es.toList.map (·.born)).Nodup
 keys:(L.map Prod.fst).Nodup
 keyed:∀p∈L,∃l,keyOf P k p.1=some l
def jm (P:Program) (k:TypeId) (w:World) (b:Nat) (L:VL):Prop:=∃es clock,w.heap[b]?=some (.map es clock)∧ake P k es clock L
def kJ (P:Program) (k:TypeId) (w:World) (r b:Nat) (L:VL) (left:List Value):Prop:=
 ∃es clock since seen c0,w.heap[b]?=some (.map es clock)∧ake P k es clock L∧w.heap[r]?=some (.mapIter (some b) since seen c0)∧(∀x∈es.toList,x.born<since)∧since≤c0∧since≤clock∧(leftOf es seen).toList.map (·.key)=left
variable {P:Program} {k t e:TypeId} {w w':World} {b r:Nat} {L:VL} {left:List Value} {key v:Value} {kl:Lit}
theorem jm.lt (h:jm P k w b L):b<w.heap.size:=by obtain⟨es,clock,hb,_⟩:=h;exact(Array.getElem?_eq_some_iff.1 hb).1
theorem jm.made (w:World):jm P k (w.alloc (.map #[] 0)) w.heap.size []:=
 ⟨#[],0,(MapKept.heap_alloc w _).1,rfl,by simp,by simp,by simp,by simp⟩
theorem jm.kept {row:Option Nat} (h:jm P k w b L) (hg:w.grownBy w' row) (hr:some b≠row):jm P k w' b L:=by have hl:=h.lt;obtain⟨es,clock,hb,H⟩:=h;exact⟨es,clock,(hg.block b hl hr).trans hb,H⟩
theorem ake.yu {es:Array MapEntry} {clock:Nat} (H:ake P k es clock L) {e0:MapEntry} (h:e0∈es.toList):(e0.key,e0.val)∈L:=by rw[←H.list];exact List.mem_map.2 ⟨e0,h,rfl⟩
theorem ake.all {es:Array MapEntry} {clock:Nat} (H:ake P k es clock L):∀e∈es.toList,∃l,keyOf P k e.key=some l:=fun e he=>H.keyed _ (H.yu he)
theorem ac5 {L:VL} (h:(L.map Prod.fst).Nodup) {key v v':Value} (h1:(key,v)∈L) (h2:(key,v')∈L):v=v':=by
 induction L with
 |nil=>simp at h1
 |cons x L ih=>
  rw[List.map_cons,List.nodup_cons]at h;rcases List.mem_cons.1 h1 with e1|h1
  ·rcases List.mem_cons.1 h2 with e2|h2
   ·have:=e1.trans e2.symm
    exact(Prod.ext_iff.1 this).2
   ·exact absurd (List.mem_map.2 ⟨_,h2,by rw[←e1]⟩) h.1
  ·rcases List.mem_cons.1 h2 with e2|h2
   ·exact absurd (List.mem_map.2 ⟨_,h1,by rw[←e2]⟩) h.1
   ·exact ih h.2 h1 h2
theorem jm.abh (h:jm P k w b L) (K:Keyed P k) (ht:P.underlying t=some (.map k e)) (c:Bool) (hkey:keyOf P k key=some kl) (hm:(key,v)∈L):
 (Instr.lookup t (.map (some b)) key c).run P w=.ok (if c then .tuple #[v,.bool true]else v) w:=by
 obtain⟨es,clock,hb,H⟩:=h;rcases K.find w hkey es.toList H.all with⟨h1,h2⟩|⟨j,e0,h1,h2,h3⟩
 ·rw[←H.list]at hm
  obtain⟨e0,he,h4⟩:=List.mem_map.1 hm;exact absurd (Prod.ext_iff.1 h4).1 (h2 e0 he)
 ·have hv:e0.val=v:=ac5 H.keys (h3▸H.yu (List.mem_of_getElem? h2)) hm
  rw[←hv];simp[Instr.lookup,run_underlying ht,MapKept.run_getObj_map hb,K.check w _ hkey,h1,Result.andThen]
theorem jm.anZ (h:jm P k w b L) (K:Keyed P k) (ht:P.underlying t=some (.map k e)) (c:Bool) (hkey:keyOf P k key=some kl) {z:Value} (hz:(zeroValue e).run P w=.ok z w) (hm:∀p∈L,p.1≠key):
 (Instr.lookup t (.map (some b)) key c).run P w=.ok (if c then .tuple #[z,.bool false]else z) w:=by
 obtain⟨es,clock,hb,H⟩:=h;rcases K.find w hkey es.toList H.all with⟨h1,h2⟩|⟨j,e0,h1,h2,h3⟩
 ·simp[Instr.lookup,run_underlying ht,MapKept.run_getObj_map hb,K.check w _ hkey,h1,hz,Result.andThen]
 ·exact absurd h3 (hm _ (H.yu (List.mem_of_getElem? h2)))
theorem jY {o o':Obj} (hb:w.heap[b]?=some o):w.grownBy (setBlock w b o') (some b):=
 ⟨rfl,rfl,rfl,by simp[setBlock],fun i _ hi=>by have:i≠b:=fun e1=>hi (by rw[e1]);simp[setBlock,Array.getElem?_setIfInBounds,Ne.symm this]⟩
theorem ake.push {es:Array MapEntry} {clock:Nat} (H:ake P k es clock L) (hkey:keyOf P k key=some kl) (hm:∀p∈L,p.1≠key):ake P k (es.push ⟨key,v,clock⟩) (clock+1) (L++[(key,v)]):=by
 refine⟨?_,fun e0 he=>?_,?_,?_,fun p hp=>?_⟩
 ·rw[Array.toList_push,List.map_append,H.list];rfl
 ·rw[Array.toList_push]at he
  rcases List.mem_append.1 he with he|he
  ·have:=H.old e0 he;omega
  ·rw[List.mem_singleton.1 he];exact Nat.lt_succ_self _
 ·rw[Array.toList_push,List.map_append,List.nodup_append]
  refine⟨H.born,by simp,fun a ha c hc=>?_⟩;obtain⟨e0,he,rfl⟩:=List.mem_map.1 ha;simp only[List.map_cons,List.map_nil,List.mem_singleton]at hc;have:=H.old e0 he;omega
 ·rw[List.map_append,List.nodup_append]
  refine⟨H.keys,by simp,fun a ha c hc=>?_⟩;obtain⟨p,hp,rfl⟩:=List.mem_map.1 ha;simp only[List.map_cons,List.map_nil,List.mem_singleton]at hc;rw[hc];exact hm p hp
 ·rcases List.mem_append.1 hp with hp|hp
  ·exact H.keyed p hp
  ·rw[List.mem_singleton.1 hp];exact⟨kl,hkey⟩
theorem jm.alk (h:jm P k w b L) (K:Keyed P k) (ht:P.underlying t=some (.map k e)) (hkey:keyOf P k key=some kl) (hm:∀p∈L,p.1≠key):
 ∃w',(Instr.mapUpdate t (.map (some b)) key v).run P w=.ok () w'∧jm P k w' b (L++[(key,v)])∧w.grownBy w' (some b)∧w'.heap.size=w.heap.size:=by
 obtain⟨es,clock,hb,H⟩:=h;rcases K.find w hkey es.toList H.all with⟨h1,h2⟩|⟨j,e0,h1,h2,h3⟩
 ·refine⟨setBlock w b (.map (es.push ⟨key,v,clock⟩) (clock+1)),?_,⟨_,_,heap_setBlock_same hb _,H.push hkey hm⟩,jY hb,by simp[setBlock]⟩
  simp[Instr.mapUpdate,run_underlying ht,MapKept.run_getObj_map hb,K.check w false hkey,h1,MapKept.run_setObj_map _ hb,Result.andThen,setBlock]
 ·exact absurd h3 (hm _ (H.yu (List.mem_of_getElem? h2)))
theorem ake.set {es:Array MapEntry} {clock:Nat} {L1 L2:VL} {v0:Value} {j:Nat} {e0:MapEntry} (H:ake P k es clock (L1++(key,v0)::L2)) (h2:es.toList[j]?=some e0) (h3:e0.key=key):
 ake P k (es.modify j fun e'=>{e' with key:=key,val:=v}) clock (L1++(key,v)::L2)∧(es.modify j fun e'=>{e' with key:=key,val:=v}).toList=es.toList.set j {e0 with key:=key,val:=v}:=by
 have hl:(es.modify j (fun e'=>{e' with key:=key,val:=v})).toList=es.toList.set j {e0 with key:=key,val:=v}:=by rw[Array.toList_modify,modify_eq_set _ _ _ _ h2]
 have hL:(L1++(key,v0)::L2)[j]?=some (key,e0.val):=by rw[←H.list,List.getElem?_map,h2,←h3];rfl
 have hj:j=L1.length:=by have hjl:=(List.getElem?_eq_some_iff.1 hL).1;refine(List.getElem?_inj (by simpa using hjl) H.keys).1 ?_;rw[List.getElem?_map,hL];simp
 refine⟨⟨?_,fun x hx=>?_,?_,?_,fun p hp=>?_⟩,hl⟩
 ·rw[hl,List.map_set,H.list,hj]
  simp
 ·rw[hl]at hx
  rcases List.mem_or_eq_of_mem_set hx with hx|rfl
  ·exact H.old x hx
  ·exact H.old e0 (List.mem_of_getElem? h2)
 ·rw[hl,List.map_set]
  have:(es.toList.map (·.born))[j]?=some e0.born:=by rw[List.getElem?_map,h2];rfl
  have e2:(es.toList.map (·.born)).set j e0.born=es.toList.map (·.born):=by obtain⟨hlt,he⟩:=List.getElem?_eq_some_iff.1 this;exact he▸List.set_getElem_self hlt
  rw[show({e0 with key:=key,val:=v}:MapEntry).born=e0.born from rfl,e2];exact H.born
 ·have:=H.keys
  simpa using this
 ·rcases List.mem_append.1 hp with hp|hp
  ·exact H.keyed p (List.mem_append.2 (.inl hp))
  ·rcases List.mem_cons.1 hp with rfl|hp
   ·exact H.keyed (key,v0) (by simp)
   ·exact H.keyed p (by simp[hp])
theorem jm.anx {L1 L2:VL} {v0:Value} (h:jm P k w b (L1++(key,v0)::L2)) (K:Keyed P k) (ht:P.underlying t=some (.map k e)) (hkey:keyOf P k key=some kl):
 ∃w',(Instr.mapUpdate t (.map (some b)) key v).run P w=.ok () w'∧jm P k w' b (L1++(key,v)::L2)∧w.grownBy w' (some b)∧w'.heap.size=w.heap.size:=by
 obtain⟨es,clock,hb,H⟩:=h;rcases K.find w hkey es.toList H.all with⟨h1,h2⟩|⟨j,e0,h1,h2,h3⟩
 ·have hm:(key,v0)∈es.toList.map kv:=by rw[H.list];simp
  obtain⟨e0,he,h4⟩:=List.mem_map.1 hm;exact absurd (Prod.ext_iff.1 h4).1 (h2 e0 he)
 ·have hj:es[j]?=some e0:=by simpa using h2
  refine⟨setBlock w b (.map (es.modify j fun e'=>{e' with key:=key,val:=v}) clock),?_,⟨_,_,heap_setBlock_same hb _,(H.set h2 h3).1⟩,jY hb,by simp[setBlock]⟩;simp[Instr.mapUpdate,run_underlying ht,MapKept.run_getObj_map hb,K.check w false hkey,h1,hj,h3,K.stays w hkey,MapKept.run_setObj_map _ hb,Result.andThen,setBlock]
theorem kJ.aox (h:kJ P k w r b L left):jm P k w b L:=by obtain⟨es,clock,since,seen,c0,hb,H,_⟩:=h;exact⟨es,clock,hb,H⟩
theorem kJ.ltr (h:kJ P k w r b L left):r<w.heap.size:=by obtain⟨es,clock,since,seen,c0,_,_,hr,_⟩:=h;exact(Array.getElem?_eq_some_iff.1 hr).1
theorem kJ.ne (h:kJ P k w r b L left):r≠b:=by obtain⟨es,clock,since,seen,c0,hb,_,hr,_⟩:=h;intro e1;rw[e1,hb]at hr;cases hr
theorem kJ.kept {row:Option Nat} (h:kJ P k w r b L left) (hg:w.grownBy w' row) (h1:some b≠row) (h2:some r≠row):kJ P k w' r b L left:=by have hl1:=h.aox.lt;have hl2:=h.ltr;obtain⟨es,clock,since,seen,c0,hb,H,hr,rest⟩:=h;exact⟨es,clock,since,seen,c0,(hg.block b hl1 h1).trans hb,H,(hg.block r hl2 h2).trans hr,rest⟩
theorem jm.range (h:jm P k w b L) (ht:P.underlying t=some (.map k e)):
 ∃w',(Instr.range t (.map (some b))).run P w=.ok (.pointer (some ⟨w.heap.size,0,none⟩)) w'∧kJ P k w' w.heap.size b L (L.map Prod.fst)∧w.grownBy w' none∧w'.heap.size=w.heap.size+1:=by
 have hlt:=h.lt;obtain⟨es,clock,hb,H⟩:=h;refine⟨_,run_range_map w t k e b es clock ht hb,⟨es,clock,clock,#[],clock,((MapKept.heap_alloc w _).2 b hlt).trans hb,H,(MapKept.heap_alloc w _).1,H.old,Nat.le_refl _,Nat.le_refl _,?_⟩,World.grownBy_alloc w _ none,by simp⟩;rw[←H.list,List.map_map];simp only[leftOf,Array.toList_filter];rw[List.filter_eq_self.2 (fun x _=>by simp)];rfl
theorem kJ.next (h:kJ P k w r b L left) (ty:TypeId):
 (left=[]∧(Instr.next (.pointer (some ⟨r,0,none⟩)) false ty).run P w=.ok (.tuple #[.bool false]) w)∨
 ∃key v w' left',key∈left∧(key,v)∈L∧(Instr.next (.pointer (some ⟨r,0,none⟩)) false ty).run P w=.ok (.tuple #[.bool true,key,v]) w'∧kJ P k w' r b L left'∧
  (∀x,x∈left'↔x∈left∧x≠key)∧left'.length<left.length∧w.grownBy w' (some r)∧w'.heap.size=w.heap.size∧∀w2:World,w2.heap[r]?=w'.heap[r]?→w2.heap[b]?=w'.heap[b]?→(Instr.entry (.pointer (some ⟨r,0,none⟩))).run P w2=.ok (.tuple #[key,v]) w2:=by
 have hne:=h.ne;obtain⟨es,clock,since,seen,c0,hb,H,hr,hold,hsc,hsk,rfl⟩:=h;rcases run_next_at (P:=P) w ty r b since c0 seen es clock hr hb hold hsc with⟨h0,hrun⟩|⟨e,he,w1,hal,hrun⟩
 ·refine Or.inl ⟨?_,hrun⟩
  have:(leftOf es seen).toList=[]:=List.eq_nil_of_length_eq_zero (by rw[Array.length_toList];exact h0);rw[this];rfl
 ·obtain⟨hem,hes⟩:=mem_left he
  have hr1:w1.heap[r]?=some (.mapIter (some b) since seen c0):=by rcases hal with rfl|rfl<;>exact hr
  have hb1:w1.heap[b]?=some (.map es clock):=by rcases hal with rfl|rfl<;>exact hb
  have hset:=MapKept.heap_set (o':=.mapIter (some b) since (seen.push e.born) clock) hr1;have hb':(setBlock w1 r (.mapIter (some b) since (seen.push e.born) clock)).heap[b]?=some (.map es clock):=(hset.2 b (fun e1=>hne e1.symm)).trans hb1;refine Or.inr ⟨e.key,e.val,_,_,List.mem_map.2 ⟨e,he,rfl⟩,H.yu hem,hrun,⟨es,clock,since,seen.push e.born,clock,hb',H,hset.1,hold,hsk,hsk,rfl⟩,fun x=>?_,?_,?_,?_,
   fun w2 h1 h2=>run_entry_at w2 r b since seen es clock e (h1.trans hset.1) (h2.trans hb') hem H.born⟩
  ·have key1:∀y∈es.toList,y.key=e.key→y.born=e.born:=fun y hy h1=>by
    have hk:=H.keys;rw[←H.list,List.map_map]at hk;obtain⟨i,hi,rfl⟩:=List.getElem_of_mem hy;obtain⟨j,hj,rfl⟩:=List.getElem_of_mem hem;have:i=j:=by refine(List.getElem?_inj (by simpa using hi) hk).1 ?_;rw[List.getElem?_map,List.getElem?_map,List.getElem?_eq_getElem hi,List.getElem?_eq_getElem hj];exact congrArg some h1
    subst this;rfl
   constructor
   ·intro hx
    obtain⟨y,hy,rfl⟩:=List.mem_map.1 hx;obtain⟨y1,y2⟩:=mem_left hy;rw[Array.contains_push]at y2;simp only[Bool.or_eq_false_iff]at y2;refine⟨List.mem_map.2 ⟨y,?_,rfl⟩,fun h1=>?_⟩
    ·simp only[leftOf,Array.mem_toList_iff,Array.mem_filter]
     exact⟨by simpa using y1,by simp only[Bool.not_eq_true'];exact y2.1⟩
    ·have:=key1 y y1 h1
     simp[this]at y2
   ·rintro⟨hx,hxe⟩
    obtain⟨y,hy,rfl⟩:=List.mem_map.1 hx;obtain⟨y1,y2⟩:=mem_left hy;refine List.mem_map.2 ⟨y,?_,rfl⟩;simp only[leftOf,Array.mem_toList_iff,Array.mem_filter];refine⟨by simpa using y1,?_⟩;rw[Array.contains_push,y2];have hbn:y.born≠e.born:=fun h1=>hxe (by
     have hk:=H.born;obtain⟨i,hi,rfl⟩:=List.getElem_of_mem y1;obtain⟨j,hj,rfl⟩:=List.getElem_of_mem hem;have:i=j:=by refine(List.getElem?_inj (by simpa using hi) hk).1 ?_;rw[List.getElem?_map,List.getElem?_map,List.getElem?_eq_getElem hi,List.getElem?_eq_getElem hj];exact congrArg some h1
     subst this;rfl)
    simp[hbn]
  ·have:=left_shrinks es seen e he
   simpa using this
  ·rcases hal with rfl|rfl<;>exact⟨rfl,rfl,rfl,by simp[setBlock],fun i _ hi=>hset.2 i (fun e1=>hi (by rw[e1]))⟩
  ·rcases hal with rfl|rfl<;>simp[setBlock]
theorem kJ.upd {L1 L2:VL} {v0:Value} (h:kJ P k w r b (L1++(key,v0)::L2) left) (K:Keyed P k) (ht:P.underlying t=some (.map k e)) (hkey:keyOf P k key=some kl):
 ∃w',(Instr.mapUpdate t (.map (some b)) key v).run P w=.ok () w'∧kJ P k w' r b (L1++(key,v)::L2) left∧w.grownBy w' (some b)∧w'.heap.size=w.heap.size:=by
 have hne:=h.ne;obtain⟨es,clock,since,seen,c0,hb,H,hr,hold,hsc,hsk,rfl⟩:=h;rcases K.find w hkey es.toList H.all with⟨h1,h2⟩|⟨j,e0,h1,h2,h3⟩
 ·have hm:(key,v0)∈es.toList.map kv:=by rw[H.list];simp
  obtain⟨e0,he,h4⟩:=List.mem_map.1 hm;exact absurd (Prod.ext_iff.1 h4).1 (h2 e0 he)
 ·have hj:es[j]?=some e0:=by simpa using h2
  obtain⟨hE,hl⟩:=H.set (v:=v) h2 h3;refine⟨setBlock w b (.map (es.modify j fun e'=>{e' with key:=key,val:=v}) clock),?_,⟨_,clock,since,seen,c0,heap_setBlock_same hb _,hE,(heap_setBlock_other hb _ hne).trans hr,fun x hx=>?_,hsc,hsk,?_⟩,jY hb,by simp[setBlock]⟩
  ·simp[Instr.mapUpdate,run_underlying ht,MapKept.run_getObj_map hb,K.check w false hkey,h1,hj,h3,K.stays w hkey,MapKept.run_setObj_map _ hb,Result.andThen,setBlock]
  ·rw[hl]at hx
   rcases List.mem_or_eq_of_mem_set hx with hx|rfl
   ·exact hold x hx
   ·exact hold e0 (List.mem_of_getElem? h2)
  ·simp only[leftOf,Array.toList_filter,hl]
   have hs:∀(l:List MapEntry) (j:Nat),l[j]?=some e0→((l.set j {e0 with key:=key,val:=v}).filter fun e=> !seen.contains e.born).map (·.key)=(l.filter fun e=> !seen.contains e.born).map (·.key):=by
    intro l
    induction l with
    |nil=>intro j hj;simp at hj
    |cons x l ih=>
     intro j hj;cases j with
     |zero=>
      simp only[List.getElem?_cons_zero,Option.some.injEq]at hj;subst hj;rw[List.set_cons_zero,List.filter_cons,List.filter_cons];dsimp only
      split
      ·rw[List.map_cons,List.map_cons,h3]
      ·rfl
     |succ j=>
      rw[List.getElem?_cons_succ]at hj;rw[List.set_cons_succ,List.filter_cons,List.filter_cons];split
      ·rw[List.map_cons,List.map_cons,ih j hj]
      ·exact ih j hj
   exact hs _ j h2
end
end
end Go.Proofs.YtmmafcjjlbgnkaaGreatDoor
