/- What the proof rests on, part 10: contracts of functions. No condition beyond what each states. -/
import Derived.Test.YtmmafcjjlbgnkaaGreatZBg9
namespace Go.Proofs.YtmmafcjjlbgnkaaGreat
open Go.RowKit
set_option linter.all false
set_option maxHeartbeats 32000000
noncomputable section
abbrev pvG (g:I4):PV:=.agg [.val (.int .i64 g.1),.val (.int .i64 g.2.1),.val (.int .i64 g.2.2.1),.val (.int .i64 g.2.2.2)]
theorem aks (a b c d a' b' c' d':Int):abl (a,b,c,d) (a',b',c',d')=(a+a',(if(if b=0 then 0 else d)=max (if b=0 then 0 else d) (if b'=0 then 0 else d')then b else 0)+(if(if b'=0 then 0 else d')=max (if b=0 then 0 else d) (if b'=0 then 0 else d')then b' else 0),c+c',max (if b=0 then 0 else d) (if b'=0 then 0 else d')):=rfl
abbrev arR (g:I4):Prop:=(0≤g.1∧g.1≤1000000)∧(0≤g.2.1∧g.2.1≤1000000)∧(0≤g.2.2.1∧g.2.2.1≤1000000)∧(g.2.2.2=0∨g.2.2.2=1)
def ak4:Fun:=F2 dI4 dI4 fun a b=>open Classical in if arR a∧arR b then some (pvG (abl a b))else none
theorem acY {a b:I4} (h:arR a) (h2:arR b):ak4 [pvG a,pvG b]=some (pvG (abl a b)):=(jZ (A:=dI4) (B:=dI4) a b).trans (if_pos ⟨h,h2⟩)
theorem aev:Sound Tryz.prog 114 ak4:=by
 refine au mixed gV Tryz.func114 rfl 58 rfl [.cell 4 54] rfl (by kernel_rfl) fun ps r hr=>?_;obtain⟨⟨a,b,c,d⟩,⟨a',b',c',d'⟩,rfl,hpre,rfl⟩:=iF hr;refine⟨by simp,?_⟩;simp only[dIs,dUs,dSs,dx,dA,dz,dF,aS,dD,aT,aU,aR,aV];obtain⟨⟨h1,h2,h3,h4⟩,h5,h6,h7,h8⟩:=hpre;dsimp only at h1 h2 h3 h4 h5 h6 h7 h8;rw[aks];have g00:¬((0:Int)>0):=by decide
 have g10:(1:Int)>0:=by decide
 have g01:¬((0:Int)>1):=by decide
 have g11:¬((1:Int)>1):=by decide
 have n01:¬((0:Int)=1):=by decide
 have n10:¬((1:Int)=0):=by decide
 have m00:max (0:Int) 0=0:=by decide
 have m01:max (0:Int) 1=1:=by decide
 have m10:max (1:Int) 0=1:=by decide
 have m11:max (1:Int) 1=1:=by decide
 rcases h4 with rfl|rfl<;>rcases h8 with rfl|rfl<;>
 ·by_cases hb:b=0<;>by_cases hb':b'=0<;>
  ·first|subst hb|skip
   first|subst hb'|skip
   simp only[if_true,if_false,m00,m01,m10,m11,n01,n10, *];((refine wlk6 ?_ ?_ ?_ ?_ ?_ ?_<;>intros<;>try with_reducible exact trivial)<;>(refine fnG ?_;try with_reducible exact trivial));all_goals(simp;try omega)
def kN (l:List It) (b en:Nat):List I4:=((l9 l b en).map fun n:Int=>(gI l n.toNat).gl)++(if(gI l en).kd=3 then [(gI l en).gl]else [])
def oF (l:List It) (b k:Nat):List I4:=(l9 l b k).map fun n:Int=>(gI l n.toNat).gl
theorem aiQ {l:List It} {b:Nat}:oF l b b=[]:=by unfold oF;rw[qG (Nat.le_refl _)];rfl
theorem aiZ {l:List It} {b k:Nat} (h:b≤k) (hk:¬(gI l k).kd=3):oF l b (k+1)=oF l b k++[(gI l k).gl]:=by unfold oF;rw[ni h hk,List.map_append];rfl
theorem anR {l:List It} {b k:Nat} (h:b≤k) (hk:(gI l k).kd=3):oF l b (k+1)=oF l b k:=by unfold oF;rw[vR h hk]
theorem xP (l:List It) (b k:Nat):(oF l b k).length≤k-b:=by unfold oF;rw[List.length_map];exact nV l b k
theorem aaX {l:List It} {b k:Nat} (hB:aX l=true) (hk:k≤l.length):∀g∈oF l b k,GOk g:=fun g hg=>by obtain⟨n,hn,rfl⟩:=List.mem_map.1 hg;have:=qm n hn;exact(gM hB (k:=n.toNat) (by omega)).gl
theorem zI {l:List It} {b en:Nat} (hB:aX l=true) (hk:en<l.length):(∀g∈kN l b en,GOk g)∧(kN l b en).length≤60:=by
 have hl:=bG hB;have h1:=xP l b en;unfold kN;refine⟨fun g hg=>?_,?_⟩
 ·rcases List.mem_append.1 hg with hg|hg
  ·exact aaX hB (by omega) g hg
  ·split at hg
   ·rw[List.mem_singleton.1 hg]
    exact(gM hB hk).gl
   ·simp at hg
 ·unfold oF at h1
  rw[List.length_append];split
  ·rw[List.length_singleton];omega
  ·rw[List.length_nil];omega
theorem aht {gs:List I4} (h:∀g∈gs,GOk g) (hl:gs.length≤60):arR (jo gs)∧(jo gs).1≤60000∧(jo gs).2.1≤60000∧(jo gs).2.2.1≤60000:=by obtain⟨h1,h2,h3,h4⟩:=aob gs h;exact⟨⟨⟨h1.1,by omega⟩,⟨h2.1,by omega⟩,⟨h3.1,by omega⟩,h4⟩,by omega,by omega,by omega⟩
def ajo:Fun:=F3 mg dI dI fun l n m=>open Classical in if aX l=true∧0≤n∧n≤m∧m<l.length then some (pvG (jo (kN l n.toNat m.toNat)))else none
theorem ak7 {l:List It} {b en:Nat} (h:aX l=true) (h2:b≤en) (h3:en<l.length):ajo [fT l,.val (.int .i64 b),.val (.int .i64 en)]=some (pvG (jo (kN l b en))):=(zm (A:=mg) (B:=dI) (C:=dI) l b en).trans (if_pos ⟨h,by omega,by omega,by omega⟩)
def aw7:Ctx:={fn:=aY [(114,ak4)],io:=aY []}
theorem aoc:ak Tryz.prog aw7:=okΓ (fC Tryz.func114 aev aj) aj
def akL:=ah (Γ:=aw7) (f:=114) (φ:=ak4) rfl
theorem aeN:Sound Tryz.prog 100 ajo:=by
 refine au mixed aoc Tryz.func100 rfl 49 rfl [.cell 6 54] rfl (by kernel_rfl) fun ps r hr=>?_;obtain⟨l,n,m,rfl,hpre,rfl⟩:=vZ hr;refine⟨by simp,?_⟩;simp only[dIs,dUs,dSs,dx,dA,dz,dF,aS,dD,aT,aU,aR,aV];obtain⟨hB,hn0,hn1,hn2⟩:=hpre;obtain⟨b,rfl⟩:∃b:Nat,n=b:=⟨n.toNat,by omega⟩;obtain⟨en,rfl⟩:∃en:Nat,m=en:=⟨m.toNat,by omega⟩;have hl:=bG hB;have hbe:b≤en:=by omega
 have hel:en<l.length:=by omega
 show pq _ _ _ _ _ (bZ [fT l,.val (.int .i64 b),.val (.int .i64 en)]).tm _ _;rw[Int.toNat_natCast,Int.toNat_natCast];clear hn0 hn1 hn2;have hgs:kN l b en=oF l b en++(if(gI l en).kd=3 then [(gI l en).gl]else []):=rfl;rw[hgs];have gsum_c114:=akL;(refine wlk ?_;intros);refine aG (α:=Nat) mixed (fun k=>[(0,fT l),(2,iv en),(6,.own 0 4 0 0),(7,.own 1 4 0 0),(8,iv k)])
  (fun k=>[(0,54,4,[pvG g40]),(1,54,4,[pvG (jo (oF l b k))])]) (fun _=>2)
  (fun k=>b≤k∧k≤en) (fun k=>en-k) (by kernel_rfl) b ⟨Nat.le_refl _,hbe⟩ ?_ ?_ rfl ?_
 ·exact agr
 ·simp(disch:=(first|omega|(simp only[push_cast];first|done|omega))) only[push_cast,↓reduceIte,Nat.reduceEqDiff,Nat.reduceBEq,Nat.reduceAdd,Nat.reduceSub,Int.reduceToNat,aiQ,jo,List.foldl_nil,g40, *]
 rintro k ⟨hk1,hk2⟩;obtain⟨ho,-⟩:=aht (aaX (b:=b) hB (show k≤l.length by omega)) (by have:=xP l b k;omega);by_cases h0:k<en
 ·have hx1:=(gM hB (k:=k) (by omega)).gl
  have hy:=@aiZ l b k hk1;have hno:=@anR l b k hk1;have hkx:gI l k=l[k]?.getD it0:=rfl;rw[hkx]at hy hno;generalize hx:l[k]?.getD it0=x at*;obtain⟨kd,w9,c,d,e,cost,g⟩:=x;replace hy:¬kd=3→oF l b (k+1)=oF l b k++[(w9,c,d,e)]:=hy;replace hno:kd=3→oF l b (k+1)=oF l b k:=hno;obtain⟨g1,g2,g3,g4⟩:=hx1;dsimp only at g1 g2 g3 g4;have apa:=acY ho (b:=(w9,c,d,e)) ⟨⟨g1.1,by(try dsimp only);omega⟩,⟨g2.1,by(try dsimp only);omega⟩,⟨g3.1,by(try dsimp only);omega⟩,g4⟩;by_cases h3:kd=3
  ·have hs:=hno h3
   replace hs:=Lib.hid hs;clear hno hy apa ho g1 g2 g3 g4 hgs hB hkx;generalize ht9:jo (oF l b k)=t at*;obtain⟨t1,t2,t3,t4⟩:=t;subst h3;(refine wlk ?_;intros);refine⟨k+1,⟨by omega,by omega⟩,by dsimp only;omega,?_,?_,rfl⟩
   ·exact agr
   ·dsimp only
    rw[hs.out];simp(disch:=(first|omega|(simp only[push_cast];first|done|omega))) only[push_cast,↓reduceIte,Nat.reduceEqDiff,Nat.reduceBEq,Nat.reduceAdd,Nat.reduceSub,Int.reduceToNat, *]
  ·have hs:=hy h3
   have ht:jo (oF l b (k+1))=abl (jo (oF l b k)) (w9,c,d,e):=by rw[hs,nS]
   replace ht:=Lib.hid ht;clear hno hy hs ho g1 g2 g3 g4 hgs hB hkx;generalize jo (oF l b k)=t at*;generalize abl t (w9,c,d,e)=u at*;obtain⟨t1,t2,t3,t4⟩:=t;obtain⟨u1,u2,u3,u4⟩:=u;try dsimp only at apa
   (refine wlk ?_;intros);refine⟨k+1,⟨by omega,by omega⟩,by dsimp only;omega,?_,?_,rfl⟩
   ·exact agr
   ·dsimp only
    rw[ht.out];exact agr
 ·obtain rfl:k=en:=by omega
  have hx1:GOk (l[k]?.getD it0).gl:=(gM hB hel).gl;have hkx:gI l k=l[k]?.getD it0:=rfl;rw[hkx];generalize hx:l[k]?.getD it0=x at*;obtain⟨kd,w9,c,d,e,cost,g⟩:=x;obtain⟨g1,g2,g3,g4⟩:=hx1;dsimp only at g1 g2 g3 g4;have apa:=acY ho (b:=(w9,c,d,e)) ⟨⟨g1.1,by(try dsimp only);omega⟩,⟨g2.1,by(try dsimp only);omega⟩,⟨g3.1,by(try dsimp only);omega⟩,g4⟩;by_cases h3:kd=3
  ·have ht:jo (oF l b k++[(w9,c,d,e)])=abl (jo (oF l b k)) (w9,c,d,e):=nS _ _
   rw[if_pos (show It.kd (kd,w9,c,d,e,cost,g)=3 from h3)];have hz:It.gl (kd,w9,c,d,e,cost,g)=(w9,c,d,e):=rfl;rw[hz,ht];clear ho g1 g2 g3 g4 hgs hB hkx ht hz;generalize jo (oF l b k)=t at*;generalize abl t (w9,c,d,e)=u at*;obtain⟨t1,t2,t3,t4⟩:=t;obtain⟨u1,u2,u3,u4⟩:=u;try dsimp only at apa
   subst h3;exact wlkF
  ·rw[if_neg (show¬It.kd (kd,w9,c,d,e,cost,g)=3 from h3),List.append_nil]
   clear ho g1 g2 g3 g4 hgs hB hkx apa;generalize jo (oF l b k)=t at*;obtain⟨t1,t2,t3,t4⟩:=t;exact wlkF
theorem acP {need room:Int} (h:0≤need∧need≤100000) (h2:0<room∧room≤100000):(0≤100*need*need∧100*need*need≤1000000000000)∧(0≤100*need*need*need∧100*need*need*need≤100000000000000000)∧(0<room*room∧room*room≤10000000000)∧(0<room*room*room∧room*room*room≤1000000000000000)∧0≤100*need*need*need/(room*room*room):=by have a1:0≤100*need*need:=Int.mul_nonneg (by omega) h.1;have a2:100*need*need≤10000000*100000:=Int.mul_le_mul (by omega) h.2 h.1 (by omega);have a3:0≤100*need*need*need:=Int.mul_nonneg a1 h.1;have a4:100*need*need*need≤1000000000000*100000:=Int.mul_le_mul (by omega) h.2 h.1 (by omega);have b1:0<room*room:=Int.mul_pos h2.1 h2.1;have b2:room*room≤100000*100000:=Int.mul_le_mul h2.2 h2.2 (by omega) (by omega);have b3:0<room*room*room:=Int.mul_pos b1 h2.1;have b4:room*room*room≤10000000000*100000:=Int.mul_le_mul (by omega) h2.2 (by omega) (by omega);exact⟨⟨a1,by omega⟩,⟨a3,by omega⟩,⟨b1,by omega⟩,⟨b3,by omega⟩,Int.ediv_nonneg a3 (by omega)⟩
def sM:Fun:=F2 dI dI fun need room=>open Classical in if(0≤need∧need≤100000)∧0≤room∧room≤100000 then some (iv (abd need room))else none
theorem oq {need room:Int} (h:(0≤need∧need≤100000)∧0≤room∧room≤100000):sM [.val (.int .i64 need),.val (.int .i64 room)]=some (.val (.int .i64 (abd need room))):=(jZ (A:=dI) (B:=dI) need room).trans (if_pos h)
theorem aaY:Sound Tryz.prog 121 sM:=by
 refine au mixed gV Tryz.func121 rfl 29 rfl [.tmp 4] rfl (by kernel_rfl) fun ps r hr=>?_;obtain⟨need,room,rfl,hpre,rfl⟩:=iF hr;refine⟨by simp,?_⟩;simp only[dIs,dUs,dSs,dx,dA,dz,dF,aS,dD,aT,aU,aR,aV];obtain⟨h1,h2⟩:=hpre;unfold abd;by_cases hn:need=0
 ·subst hn
  exact wlkF
 ·rw[if_neg hn]
  by_cases hr:room=0
  ·subst hr
   ((refine wlk6 ?_ ?_ ?_ ?_ ?_ ?_<;>intros<;>try with_reducible exact trivial)<;>(refine fnG ?_;try with_reducible exact trivial));all_goals simp
  ·obtain⟨c1,c2,c3,c4,c5⟩:=acP h1 (room:=room) ⟨by omega,by omega⟩
   have hq:Int.tdiv (100*need*need*need) (room*room*room)=100*need*need*need/(room*room*room):=Int.tdiv_eq_ediv_of_nonneg c2.1;by_cases hb:10*room<need
   ·rw[if_pos (.inr hb)]
    clear c1 c2 c3 c4 c5 hq;exact wlkF
   ·rw[if_neg (by omega)]
    have hz:¬room*room*room=0:=by omega
    have w1:=dw (n:=100*need*need) (by omega) (by omega);have w2:=dw (n:=100*need*need*need) (by omega) (by omega);have w3:=dw (n:=room*room) (by omega) (by omega);have w4:=dw (n:=room*room*room) (by omega) (by omega);have c6:100*need*need*need/(room*room*room)≤100000000000000000:=by have:=Int.ediv_le_self (room*room*room) c2.1;omega
    have w5:=dw (n:=100*need*need*need/(room*room*room)) (by omega) (by omega);((refine wlk6 ?_ ?_ ?_ ?_ ?_ ?_<;>intros<;>try with_reducible exact trivial)<;>(refine fnG ?_;try with_reducible exact trivial));all_goals((refine congrArg (fun z=>some (PV.val (Value.int IntKind.i64 z))) ?_);generalize 100*need*need*need/(room*room*room)=q at*;(try(split))<;>omega)
def axb:Ctx:={fn:=aY [(48,φIn)],io:=aY []}
theorem aqi:ak Tryz.prog axb:=okΓ (fC Tryz.func48 iq aj) aj
def vJ:=ah (Γ:=axb) (f:=48) (φ:=φIn) rfl
theorem abv:Sound Tryz.prog 101 sM:=by
 refine au mixed aqi Tryz.func101 rfl 36 rfl [.tmp 4] rfl (by kernel_rfl) fun ps r hr=>?_;obtain⟨need,room,rfl,hpre,rfl⟩:=iF hr;refine⟨by simp,?_⟩;simp only[dIs,dUs,dSs,dx,dA,dz,dF,aS,dD,aT,aU,aR,aV];obtain⟨h1,h2⟩:=hpre;have ap1:φIn [.val (.int .i64 need),.val (.int .i64 0),.val (.int .i64 100000)]=some (.val (.bool true)):=(bL _ _ _).trans (by rw[av.2 h1]);have ap2:φIn [.val (.int .i64 room),.val (.int .i64 0),.val (.int .i64 100000)]=some (.val (.bool true)):=(bL _ _ _).trans (by rw[av.2 h2]);rw[afS h1.1 h2.1];by_cases hn:need=0
 ·subst hn
  have gbds_c48:=vJ;exact wlkF
 ·rw[if_neg hn]
  by_cases hr:room=0
  ·subst hr
   have gbds_c48:=vJ;((refine wlk6 ?_ ?_ ?_ ?_ ?_ ?_<;>intros<;>try with_reducible exact trivial)<;>(refine fnG ?_;try with_reducible exact trivial));all_goals simp
  ·obtain⟨c1,c2,c3,c4,c5⟩:=acP h1 (room:=room) ⟨by omega,by omega⟩
   by_cases hb:5*room<need
   ·rw[if_pos (.inr hb)]
    clear c1 c2 c3 c4 c5;have gbds_c48:=vJ;exact wlkF
   ·rw[if_neg (by omega)]
    have hz:¬room*room*room=0:=by omega
    have w1:=dw (n:=100*need*need) (by omega) (by omega);have w2:=dw (n:=100*need*need*need) (by omega) (by omega);have w3:=dw (n:=room*room) (by omega) (by omega);have w4:=dw (n:=room*room*room) (by omega) (by omega);have c6:100*need*need*need/(room*room*room)≤100000000000000000:=by have:=Int.ediv_le_self (room*room*room) c2.1;omega
    have w5:=dw (n:=100*need*need*need/(room*room*room)) (by omega) (by omega);have gbds_c48:=vJ;((refine wlk6 ?_ ?_ ?_ ?_ ?_ ?_<;>intros<;>try with_reducible exact trivial)<;>(refine fnG ?_;try with_reducible exact trivial));all_goals((refine congrArg (fun z=>some (PV.val (Value.int IntKind.i64 z))) ?_);generalize 100*need*need*need/(room*room*room)=q at*;(try(split))<;>omega)
def φLk:Fun:=F2 dB dI fun s bad=>open Classical in if 0≤bad∧bad≤10000 then some (iv (gF s bad))else none
theorem xA {s:Bool} {bad:Int} (h:0≤bad∧bad≤10000):φLk [.val (.bool s),.val (.int .i64 bad)]=some (.val (.int .i64 (gF s bad))):=(jZ (A:=dB) (B:=dI) s bad).trans (if_pos h)
def axm:Ctx:={fn:=aY [(51,nk)],io:=aY []}
theorem aon:ak Tryz.prog axm:=okΓ (fC Tryz.func51 nZ aj) aj
def aof:=ah (Γ:=axm) (f:=51) (φ:=nk) rfl
theorem ahG:Sound Tryz.prog 108 φLk:=by
 refine au mixed aon Tryz.func108 rfl 18 rfl [.tmp 4] rfl (by kernel_rfl) fun ps r hr=>?_;obtain⟨s,bad,rfl,hpre,rfl⟩:=iF hr;refine⟨by simp,?_⟩;simp only[dIs,dUs,dSs,dx,dA,dz,dF,aS,dD,aT,aU,aR,aV];have ap:nk [.val (.int .i64 bad)]=some (.val (.bool true)):=(lI bad).trans (by rw[av.2 hpre]);unfold gF;have glki_c51:=aof;cases s<;>
 ·((refine wlk6 ?_ ?_ ?_ ?_ ?_ ?_<;>intros<;>try with_reducible exact trivial)<;>(refine fnG ?_;try with_reducible exact trivial))
  all_goals((refine congrArg (fun z=>some (PV.val (Value.int IntKind.i64 z))) ?_);(repeat' split)<;>first|rfl|omega|(simp_all;done))
def axf:Ctx:={fn:=aY [(48,φIn)],io:=aY []}
theorem aqg:ak Tryz.prog axf:=okΓ (fC Tryz.func48 iq aj) aj
def amf:=ah (Γ:=axf) (f:=48) (φ:=φIn) rfl
theorem ahu:Sound Tryz.prog 81 φLk:=by
 refine au mixed aqg Tryz.func81 rfl 14 rfl [.tmp 4] rfl (by kernel_rfl) fun ps r hr=>?_;obtain⟨s,bad,rfl,hpre,rfl⟩:=iF hr;refine⟨by simp,?_⟩;simp only[dIs,dUs,dSs,dx,dA,dz,dF,aS,dD,aT,aU,aR,aV];have ap:φIn [.val (.int .i64 bad),.val (.int .i64 0),.val (.int .i64 10000)]=some (.val (.bool true)):=(bL _ _ _).trans (by rw[av.2 hpre]);unfold gF;have glks_c48:=amf;cases s<;>
 ·((refine wlk6 ?_ ?_ ?_ ?_ ?_ ?_<;>intros<;>try with_reducible exact trivial)<;>(refine fnG ?_;try with_reducible exact trivial))
  all_goals((refine congrArg (fun z=>some (PV.val (Value.int IntKind.i64 z))) ?_);(repeat' split)<;>first|rfl|omega|(simp_all;done))
abbrev ahA (c:Int):Prop:=(0≤c∧c≤10000)∨c=-10000
def φCo:Fun:=F2 dI dI fun bad c=>open Classical in if(0≤bad∧bad≤10000)∧ahA c then some (iv (kR bad c))else none
theorem aaP {bad c:Int} (h:0≤bad∧bad≤10000) (h2:ahA c):φCo [.val (.int .i64 bad),.val (.int .i64 c)]=some (.val (.int .i64 (kR bad c))):=(jZ (A:=dI) (B:=dI) bad c).trans (if_pos ⟨h,h2⟩)
theorem ac1 {bad:Int} (h:0≤bad∧bad≤10010):0≤bad*bad∧bad*bad≤100200100:=by have h3:0≤bad*bad:=Int.mul_nonneg (by omega) (by omega);have h4:bad*bad≤10010*10010:=Int.mul_le_mul (by omega) (by omega) (by omega) (by omega);omega
def av2:Ctx:={fn:=aY [(51,nk),(119,tT)],io:=aY []}
theorem apU:ak Tryz.prog av2:=okΓ (fC Tryz.func51 nZ (fC Tryz.func119 yO aj)) aj
def amE:=ah (Γ:=av2) (f:=51) (φ:=nk) rfl
def ajp:=ah (Γ:=av2) (f:=119) (φ:=tT) rfl
theorem agq:Sound Tryz.prog 109 φCo:=by
 refine au mixed apU Tryz.func109 rfl 27 rfl [.tmp 4] rfl (by kernel_rfl) fun ps r hr=>?_;obtain⟨bad,c,rfl,hpre,rfl⟩:=iF hr;refine⟨by simp,?_⟩;simp only[dIs,dUs,dSs,dx,dA,dz,dF,aS,dD,aT,aU,aR,aV];obtain⟨h1,h2⟩:=hpre;have ap:nk [.val (.int .i64 bad)]=some (.val (.bool true)):=(lI bad).trans (by rw[av.2 h1]);have ap2:tT [.val (.int .i64 c)]=some (.val (.bool true)):=(y8 c).trans (by
  have:xR c=true:=by
   unfold xR;rcases h2 with h2|h2
   ·rw[av.2 h2];rfl
   ·rw[decide_eq_true h2,Bool.or_true]
  rw[this])
 have s1:=ac1 (bad:=10+bad) ⟨by omega,by omega⟩;have w1:=dw (n:=(10+bad)*(10+bad)) (by omega) (by omega);unfold kR;have gcoi_c51:=amE;have gcoi_c119:=ajp;by_cases hc:c=-10000
 ·subst hc
  rw[if_pos rfl];clear h2;((refine wlk6 ?_ ?_ ?_ ?_ ?_ ?_<;>intros<;>try with_reducible exact trivial)<;>(refine fnG ?_;try with_reducible exact trivial));all_goals((refine congrArg (fun z=>some (PV.val (Value.int IntKind.i64 z))) ?_);omega)
 ·have s2:=ac1 (bad:=c) ⟨by omega,by omega⟩
  have w2:=dw (n:=c*c) (by omega) (by omega);rw[if_neg hc];have w3:=dw (n:=(10+bad)*(10+bad)+c*c) (by omega) (by omega);clear h2;exact wlkF
def axh:Ctx:={fn:=aY [(48,φIn)],io:=aY []}
theorem amR:ak Tryz.prog axh:=okΓ (fC Tryz.func48 iq aj) aj
def amM:=ah (Γ:=axh) (f:=48) (φ:=φIn) rfl
theorem afZ:Sound Tryz.prog 82 φCo:=by
 refine au mixed amR Tryz.func82 rfl 31 rfl [.tmp 4] rfl (by kernel_rfl) fun ps r hr=>?_;obtain⟨bad,c,rfl,hpre,rfl⟩:=iF hr;refine⟨by simp,?_⟩;simp only[dIs,dUs,dSs,dx,dA,dz,dF,aS,dD,aT,aU,aR,aV];obtain⟨h1,h2⟩:=hpre;have ap:φIn [.val (.int .i64 bad),.val (.int .i64 0),.val (.int .i64 10000)]=some (.val (.bool true)):=(bL _ _ _).trans (by rw[av.2 h1]);have s1:=ac1 (bad:=10+bad) ⟨by omega,by omega⟩;have w1:=dw (n:=(10+bad)*(10+bad)) (by omega) (by omega);unfold kR;have gcos_c48:=amM;by_cases hc:c=-10000
 ·have ap2:φIn [.val (.int .i64 c),.val (.int .i64 0),.val (.int .i64 10000)]=some (.val (.bool false)):=(bL _ _ _).trans (by rw[show inB c 0 10000=false from Bool.eq_false_iff.2 fun q=>by have:=av.1 q;omega])
  subst hc;rw[if_pos rfl];clear h2;((refine wlk6 ?_ ?_ ?_ ?_ ?_ ?_<;>intros<;>try with_reducible exact trivial)<;>(refine fnG ?_;try with_reducible exact trivial));all_goals((refine congrArg (fun z=>some (PV.val (Value.int IntKind.i64 z))) ?_);omega)
 ·have h3:0≤c∧c≤10000:=by omega
  have ap2:φIn [.val (.int .i64 c),.val (.int .i64 0),.val (.int .i64 10000)]=some (.val (.bool true)):=(bL _ _ _).trans (by rw[av.2 h3]);have s2:=ac1 (bad:=c) ⟨by omega,by omega⟩;have w2:=dw (n:=c*c) (by omega) (by omega);rw[if_neg hc];have w3:=dw (n:=(10+bad)*(10+bad)+c*c) (by omega) (by omega);clear h2;by_cases h0:c=0
  ·subst h0
   clear s2 w2 w3;((refine wlk6 ?_ ?_ ?_ ?_ ?_ ?_<;>intros<;>try with_reducible exact trivial)<;>(refine fnG ?_;try with_reducible exact trivial));all_goals((refine congrArg (fun z=>some (PV.val (Value.int IntKind.i64 z))) ?_);omega)
  ·exact wlkF
abbrev anO (l:List It) (n m:Int):Prop:=aX l=true∧-1≤n∧n<m∧m<l.length
section
variable {α β γ δ ε:Type} {A:Dec α} {B:Dec β} {C:Dec γ} {D:Dec δ} {E:Dec ε}
def F5 (A:Dec α) (B:Dec β) (C:Dec γ) (D:Dec δ) (E:Dec ε) (F:α→β→γ→δ→ε→Option PV):Fun:=fun ps=>match ps with
 |[p,q,r,s,t]=>(A.d p).bind fun a=>(B.d q).bind fun b=>(C.d r).bind fun c=>(D.d s).bind fun d=>(E.d t).bind fun e=>F a b c d e
 |_=>none
theorem agt {F:α→β→γ→δ→ε→Option PV} {ps:List PV} {r:PV} (h:F5 A B C D E F ps=some r):∃a b c d e,ps=[A.e a,B.e b,C.e c,D.e d,E.e e]∧F a b c d e=some r:=by
 unfold F5 at h;split at h
 ·simp only[Option.bind_eq_some_iff]at h
  obtain⟨a,h1,b,h2,c,h3,d,h4,e,h5,h6⟩:=h;exact⟨a,b,c,d,e,by rw[A.h _ _ h1,B.h _ _ h2,C.h _ _ h3,D.h _ _ h4,E.h _ _ h5],h6⟩
 ·cases h
theorem atW {F:α→β→γ→δ→ε→Option PV} (a:α) (b:β) (c:γ) (d:δ) (e:ε):F5 A B C D E F [A.e a,B.e b,C.e c,D.e d,E.e e]=F a b c d e:=by simp[F5,A.h',B.h',C.h',D.h',E.h']
end
def φBd:Fun:=F4 mg dI dI dI fun l n m wd=>open Classical in if anO l n m∧(0≤wd∧wd≤1000)∧aD l (n+1).toNat≤m.toNat then some (.tup [iv (iK l wd (n+1).toNat m.toNat).1,bv (iK l wd (n+1).toNat m.toNat).2])else none
theorem aaR {l:List It} {a en:Nat} {wd:Int} (h:aX l=true) (h2:a≤en) (h3:en<l.length) (h4:0≤wd∧wd≤1000) (h5:aD l a≤en):φBd [fT l,.val (.int .i64 ((a:Int)-1)),.val (.int .i64 en),.val (.int .i64 wd)]=some (.tup [.val (.int .i64 (iK l wd a en).1),.val (.bool (iK l wd a en).2)]):=
 (ar5 (A:=mg) (B:=dI) (C:=dI) (D:=dI) l ((a:Int)-1) en wd).trans (by rw[show((a:Int)-1+1).toNat=a by omega,Int.toNat_natCast];exact if_pos ⟨⟨h,by omega,by omega,by omega⟩,h4,h5⟩)
def au5:Ctx:={fn:=aY [(98,φSt),(100,ajo),(101,sM)],io:=aY []}
theorem am6:ak Tryz.prog au5:=okΓ (fC Tryz.func98 yM (fC Tryz.func100 aeN (fC Tryz.func101 abv aj))) aj
def vW:=ah (Γ:=au5) (f:=98) (φ:=φSt) rfl
def qg:=ah (Γ:=au5) (f:=100) (φ:=ajo) rfl
def qz:=ah (Γ:=au5) (f:=101) (φ:=sM) rfl
theorem ahN:Sound Tryz.prog 80 φBd:=by
 refine au mixed am6 Tryz.func80 rfl 45 rfl [.tmp 8,.tmp 9] rfl (by kernel_rfl) fun ps r hr=>?_;obtain⟨l,n,m,wd,rfl,hpre,rfl⟩:=aus hr;refine⟨by simp,?_⟩;simp only[dIs,dUs,dSs,dx,dA,dz,dF,aS,dD,aT,aU,aR,aV];obtain⟨⟨hB,hn0,hn1,hn2⟩,hw,hst⟩:=hpre;obtain⟨a,rfl⟩:∃a:Nat,n=(a:Int)-1:=⟨(n+1).toNat,by omega⟩;obtain⟨en,rfl⟩:∃en:Nat,m=en:=⟨m.toNat,by omega⟩;show pq _ _ _ _ _ (bZ [fT l,.val (.int .i64 ((a:Int)-1)),.val (.int .i64 en),.val (.int .i64 wd)]).tm _ _;rw[show((a:Int)-1+1).toNat=a by omega,Int.toNat_natCast]at hst⊢;have ap1:=abE (a:=a) hB (by omega);have ap2:=ak7 hB hst (by omega);obtain⟨g1,g2⟩:=zI (b:=aD l a) hB (show en<l.length by omega);obtain⟨⟨o1,o2,o3,o4⟩,t1,t2,t3⟩:=aht g1 g2;have hE:iK l wd a en=aqZ (jo (kN l (aD l a) en)) wd:=rfl;rw[hE];have hl:=bG hB;clear hB g1 g2 hE;generalize aD l a=s9 at*;generalize jo (kN l s9 en)=t at*;obtain⟨tw,ts,th,tod⟩:=t;dsimp only at o1 o2 o3 o4 t1 t2 t3;have hG:aqZ (tw,ts,th,tod) wd=if tw≤wd then(if tod=1 then(0,true)else(abd (wd-tw) ts,true))else if tw-wd≤th then(abd (tw-wd) th,false)else(-1,false):=rfl;rw[hG];by_cases h1:tw≤wd
 ·have ap3:=oq (need:=wd-tw) (room:=ts) ⟨⟨by omega,by omega⟩,by omega,by omega⟩
  rw[if_pos h1];by_cases h2:tod=1
  ·rw[if_pos h2]
   subst h2;have gl7b_c98:=vW;have gl7b_c100:=qg;have gl7b_c101:=qz;exact wlkF
  ·rw[if_neg h2]
   generalize abd (wd-tw) ts=bd at*;have gl7b_c98:=vW;have gl7b_c100:=qg;have gl7b_c101:=qz;exact wlkF
 ·rw[if_neg h1]
  by_cases h2:tw-wd≤th
  ·have ap3:=oq (need:=tw-wd) (room:=th) ⟨⟨by omega,by omega⟩,by omega,by omega⟩
   rw[if_pos h2];generalize abd (tw-wd) th=bd at*;have gl7b_c98:=vW;have gl7b_c100:=qg;have gl7b_c101:=qz;exact wlkF
  ·rw[if_neg h2]
   have gl7b_c98:=vW;have gl7b_c100:=qg;have gl7b_c101:=qz;exact wlkF
def φBw:Fun:=F5 mg dI dI dI dI fun l n m be lk=>open Classical in if anO l n m∧(0≤be∧be≤3)∧0≤lk∧lk≤3 then some (iv (iT l (n+1).toNat m.toNat be lk))else none
theorem aiu {l:List It} {a en:Nat} {be lk:Int} (h:aX l=true) (h2:a≤en) (h3:en<l.length) (h4:0≤be∧be≤3) (h5:0≤lk∧lk≤3):φBw [fT l,.val (.int .i64 ((a:Int)-1)),.val (.int .i64 en),.val (.int .i64 be),.val (.int .i64 lk)]=some (.val (.int .i64 (iT l a en be lk))):=
 (atW (A:=mg) (B:=dI) (C:=dI) (D:=dI) (E:=dI) l ((a:Int)-1) en be lk).trans (by rw[show((a:Int)-1+1).toNat=a by omega,Int.toNat_natCast];exact if_pos ⟨⟨h,by omega,by omega,by omega⟩,h4,h5⟩)
theorem ah2:Sound Tryz.prog 83 φBw:=by
 refine au mixed gV Tryz.func83 rfl 45 rfl [.tmp 10] rfl (by kernel_rfl) fun ps r hr=>?_;obtain⟨l,n,m,be,lk,rfl,hq⟩:=agt hr;clear hr;split at hq
 case isFalse=>cases hq
 case isTrue hpre=>
 cases hq;refine⟨by simp,?_⟩;simp only[dIs,dUs,dSs,dx,dA,dz,dF,aS,dD,aT,aU,aR,aV];obtain⟨⟨hB,hn0,hn1,hn2⟩,hbe,hlk⟩:=hpre;obtain⟨a,rfl⟩:∃a:Nat,n=(a:Int)-1:=⟨(n+1).toNat,by omega⟩;obtain⟨en,rfl⟩:∃en:Nat,m=en:=⟨m.toNat,by omega⟩;show pq _ _ _ _ _ (bZ [fT l,.val (.int .i64 ((a:Int)-1)),.val (.int .i64 en),.val (.int .i64 be),.val (.int .i64 lk)]).tm _ _;rw[show((a:Int)-1+1).toNat=a by omega,Int.toNat_natCast];have hl:=bG hB;have hE:iT l a en be lk=(if 0<a∧(l[a-1]?.getD it0).2.2.2.2.2.2=true∧(l[en]?.getD it0).2.2.2.2.2.2=true then 3000 else 0)+(if 0<a∧(1<be-lk∨be-lk< -1)then 3000 else 0):=rfl;rw[hE];have hti:0<a→((a:Int)-1).toNat=a-1:=fun h=>by omega
 clear hB hE;by_cases h0:0<a
 ·have hti:=hti h0
  generalize hx:l[a-1]?.getD it0=x at*;generalize hy:l[en]?.getD it0=y at*;obtain⟨x1,x2,x3,x4,x5,x6,x7⟩:=x;obtain⟨y1,y2,y3,y4,y5,y6,y7⟩:=y;dsimp only
  have hd:be-lk=-3∨be-lk=-2∨be-lk=-1∨be-lk=0∨be-lk=1∨be-lk=2∨be-lk=3:=by omega
  have hd2:(if lk-be>be-lk then lk-be else be-lk)>1↔(1<be-lk∨be-lk< -1):=by split<;>omega
  clear hd;cases x7<;>cases y7<;>by_cases hz:1<be-lk∨be-lk< -1<;>
  ·have hz2:=hz
   rw[←hd2]at hz2;clear hd2;((refine wlk6 ?_ ?_ ?_ ?_ ?_ ?_<;>intros<;>try with_reducible exact trivial)<;>(refine fnG ?_;try with_reducible exact trivial));all_goals(simp[h0];try omega)
 ·obtain rfl:a=0:=by omega
  generalize hy:l[en]?.getD it0=y at*;obtain⟨y1,y2,y3,y4,y5,y6,y7⟩:=y;clear hti;rw[if_neg (fun q=>h0 q.1),if_neg (fun q=>h0 q.1)];simp only[Int.natCast_zero,Int.zero_sub];((refine wlk6 ?_ ?_ ?_ ?_ ?_ ?_<;>intros<;>try with_reducible exact trivial)<;>(refine fnG ?_;try with_reducible exact trivial));all_goals simp
def φLi:Fun:=F3 mg dI dI fun l n m=>open Classical in if anO l n m then some (.tup [.lst true 1 ((if eu l (n+1).toNat m.toNat=true then l9 l (aD l (n+1).toNat) m.toNat else []).map fun n=> .val (.int .i64 n)),bv (eu l (n+1).toNat m.toNat)])else none
theorem afu {l:List It} {a en:Nat} (h:aX l=true) (h2:a≤en) (h3:en<l.length):φLi [fT l,.val (.int .i64 ((a:Int)-1)),.val (.int .i64 en)]=some (.tup [.lst true 1 ((if eu l a en=true then l9 l (aD l a) en else []).map fun n=> .val (.int .i64 n)),.val (.bool (eu l a en))]):=
 (zm (A:=mg) (B:=dI) (C:=dI) l ((a:Int)-1) en).trans ((if_pos ⟨h,by omega,by omega,by omega⟩).trans (by rw[show((a:Int)-1+1).toNat=a by omega,Int.toNat_natCast]))
theorem iy {b:Bool}:(PV.tup [.val (.slice none 0 0),.val (.bool b)]).le (.tup [.lst true 1 [],.val (.bool b)]):=nL ⟨nil_le _ _,PV.le_refl _,trivial⟩
def GLi:Ctx:={fn:=aY [(91,vI),(93,φMb),(94,φSt),(95,φFc)],io:=aY []}
theorem auq:ak Tryz.prog GLi:=okΓ (fC Tryz.func91 u7 (fC Tryz.func93 agO (fC Tryz.func94 afN (fC Tryz.func95 yw aj)))) aj
def uJ:=ah (Γ:=GLi) (f:=91) (φ:=vI) rfl
def uU:=ah (Γ:=GLi) (f:=93) (φ:=φMb) rfl
def uK:=ah (Γ:=GLi) (f:=94) (φ:=φSt) rfl
def uI:=ah (Γ:=GLi) (f:=95) (φ:=φFc) rfl
theorem zi:Sound Tryz.prog 72 φLi:=by
 refine gP mixed auq Tryz.func72 rfl 73 rfl [.tmp 6,.tmp 7] rfl (by kernel_rfl) fun ps r hr=>?_;obtain⟨l,n,m,rfl,hpre,rfl⟩:=vZ hr;refine⟨by simp,?_⟩;simp only[dIs,dUs,dSs,dx,dA,dz,dF,aS,dD,aT,aU,aR,aV];obtain⟨hB,hn0,hn1,hn2⟩:=hpre;obtain⟨a,rfl⟩:∃a:Nat,n=(a:Int)-1:=⟨(n+1).toNat,by omega⟩;obtain⟨en,rfl⟩:∃en:Nat,m=en:=⟨m.toNat,by omega⟩;have hl:=bG hB;have hae:a≤en:=by omega
 have hel:en<l.length:=by omega
 show pq _ _ _ _ _ (bZ [fT l,.val (.int .i64 ((a:Int)-1)),.val (.int .i64 en)]).tm _ _;rw[show((a:Int)-1+1).toNat=a by omega,Int.toNat_natCast];have ap1:=xG (l:=l) (by omega);rw[hB]at ap1;have ap2:=afw (n:=en) hB ⟨by omega,by omega⟩;rw[decide_eq_true (show(0:Int)≤en∧(en:Int)<l.length by omega),Bool.true_and,Int.toNat_natCast]at ap2;have ap3:=abE (a:=a) hB (by omega);have hE:eu l a en=(mH l en&&((decide (a=0)||mH l (a-1))&&(decide (aD l a≤en)&&qb l a en))):=by unfold eu;rw[decide_eq_true ⟨hae,hel⟩,Bool.true_and]
 have ap4:0<a→φMb [fT l,.val (.int .i64 ((a:Int)-1))]=some (.val (.bool (mH l (a-1)))):=fun h=>by have:=afw (n:=(a:Int)-1) hB ⟨by omega,by omega⟩;rw[decide_eq_true (show(0:Int)≤(a:Int)-1∧(a:Int)-1<l.length by omega),Bool.true_and,show((a:Int)-1).toNat=a-1 by omega]at this;exact this
 have apf:=@agm;have hsr:=(@uR l a).1;rw[hE];clear hE hn0 hn1 hn2 hB;by_cases hc:mH l en=true∧(a=0∨mH l (a-1)=true)∧aD l a≤en
 ·obtain⟨c1,c2,c3⟩:=hc
  rw[c1]at ap2;have hE:(mH l en&&((decide (a=0)||mH l (a-1))&&(decide (aD l a≤en)&&qb l a en)))=qb l a en:=by
   rw[c1,decide_eq_true c3];rcases c2 with c2|c2
   ·rw[decide_eq_true c2];simp
   ·rw[c2];simp
  rw[hE];rcases Nat.eq_zero_or_pos a with h9|h9
  ·subst h9
   replace ap4:True:=trivial;simp only[Int.natCast_zero,Int.zero_sub]at ap3⊢;clear hE c1 c2;have hq:=fun k=>qZ (l:=l) (a:=0) (b:=k);have hno:=fun k h1 h2 h3=>aaQ (l:=l) (a:=0) (b:=en) (k:=k) h1 h2 h3;have hz0:qb l 0 0=true:=wD (Nat.le_refl _);have hiy:=fun k=>@ni l (aD l 0) k;have hin:=fun k=>@vR l (aD l 0) k;have hi0:l9 l (aD l 0) (aD l 0)=[]:=qG (Nat.le_refl _);have hil:=nV l (aD l 0);generalize aD l 0=s9 at*;have gli_c91:=uJ;have gli_c93:=uU;have gli_c94:=uK;have gli_c95:=uI;(refine wlk ?_;intros);refine aG (α:=Nat) mixed (fun k=>[(0,fT l),(1,iv (-1)),(2,iv en),(8,iv k)]) (fun _=>[]) (fun _=>0)
    (fun k=>(0≤k∧k≤en)∧qb l 0 k=true) (fun k=>en-k) (by kernel_rfl) 0 ⟨⟨Nat.le_refl _,hae⟩,hz0⟩ ?_ ?_ rfl ?_
   ·exact agi
   ·exact agr
   rintro k ⟨⟨hk1,hk2⟩,hI⟩;clear hz0;by_cases h0:k<en
   ·have hfr:forced (gI l k)=forced (l[k]?.getD it0):=rfl
    have hs:=hq k hk1;rw[hI,Bool.true_and,hfr]at hs;have hno:=fun h=>hno k h hk1 h0;clear hfr hq hI hiy hin hi0 hil ap4 ap3 ap2;generalize hx:l[k]?.getD it0=x at*;obtain⟨kd,w9,c,d,e,cost,g⟩:=x;cases hf:forced (kd,w9,c,d,e,cost,g)with
    |true=>
     rw[hf]at hs;rw[hno hs];clear hs hno;(refine wlk ?_;intros);all_goals((with_reducible apply cO (by first|exact .inl rfl|exact .inr rfl));(simp(disch:=(first|omega|(simp only[push_cast];first|done|omega))) only[push_cast,↓reduceIte,Nat.reduceEqDiff,Nat.reduceBEq,Nat.reduceAdd,Nat.reduceSub,Int.reduceToNat, *]<;>with_reducible exact rfl))
     all_goals exact iy
    |false=>
     rw[hf]at hs;replace hs:=Lib.hid hs;clear hno;(refine wlk ?_;intros);refine⟨k+1,⟨⟨by omega,by omega⟩,hs.out⟩,by dsimp only;omega,?_,?_,rfl⟩
     ·exact agr
     ·exact agr
   ·obtain rfl:k=en:=by omega
    rw[hI,if_pos rfl];clear hI hq hno ap4;(refine wlk ?_;intros);refine aG (α:=Nat×LI×Nat×Nat) mixed (fun z=>[(0,fT l),(2,iv k),(9,nP 1 (z.2.1.map pvN) z.2.2.1),(10,iv z.1)])
     (fun z=>nO 3 1 (z.2.1.map pvN) z.2.2.1) (fun z=>z.2.2.2)
     (fun z=>(s9≤z.1∧z.1≤k)∧z.2.1=l9 l s9 z.1∧(0<z.2.1.length→z.2.2.1<z.2.2.2)) (fun z=>k-z.1) (by kernel_rfl) (s9,[],0,0) ⟨⟨Nat.le_refl _,c3⟩,hi0.symm,by simp⟩ ?_ ?_ rfl ?_
    ·exact agr
    ·exact agr
    rintro⟨j,out,x,y⟩ ⟨⟨hj1,hj2⟩,hI,hxy⟩;dsimp only at hj1 hj2 hI hxy;have hol:out.length≤60:=by rw[hI];have:=hil j;omega
    clear hil hi0 ap3 ap2;by_cases h1:j<k
    ·have hiy:=hiy j hj1
     have hin:=hin j hj1;have hkx:(gI l j).kd=(l[j]?.getD it0).1:=rfl;rw[hkx]at hiy hin;clear hkx;generalize hx:l[j]?.getD it0=z9 at*;obtain⟨kd,w9,c,d,e,cost,g⟩:=z9;dsimp only at hiy hin;by_cases h3:kd=3
     ·have hI2:out=l9 l s9 (j+1):=by rw[hin h3,←hI]
      replace hI2:=Lib.hid hI2;clear hI hiy hin;(refine wlk ?_;intros);refine⟨(j+1,out,x,y),⟨⟨by dsimp only;omega,by dsimp only;omega⟩,hI2.out,hxy⟩,by dsimp only;omega,?_,oh,rfl⟩
      ·exact agr
     ·have hI2:out++[(j:Int)]=l9 l s9 (j+1):=by rw[hiy h3,←hI]
      replace hI2:=Lib.hid hI2;clear hI hiy hin;by_cases hz:out.length=0
      ·obtain rfl:out=[]:=List.eq_nil_of_length_eq_zero hz
       (refine wlk ?_;intros);refine⟨(j+1,[]++[(j:Int)],y+1,y+2),⟨⟨by dsimp only;omega,by dsimp only;omega⟩,hI2.out,fun _=>by dsimp only;omega⟩,by dsimp only;omega,?_,?_,rfl⟩
       ·exact agr
       ·exact agr
      ·have hxy:=hxy (by omega)
       have hap:0<(out.map pvN).length:=by rw[List.length_map];omega
       clear hz;have hap3:0<((out++[(j:Int)]).map pvN).length:=by simp
       simp only[aB hap,aF hap,List.length_map];(refine wlk ?_;intros);refine⟨(j+1,out++[(j:Int)],y+1,y+2),⟨⟨by dsimp only;omega,by dsimp only;omega⟩,hI2.out,fun _=>by dsimp only;omega⟩,by dsimp only;omega,?_,?_,rfl⟩
       ·simp(disch:=(first|omega|(simp only[push_cast];first|done|omega))) only[push_cast,↓reduceIte,Nat.reduceEqDiff,Nat.reduceBEq,Nat.reduceAdd,Nat.reduceSub,Int.reduceToNat,aB hap3,List.length_append, *]
       ·simp(disch:=(first|omega|(simp only[push_cast];first|done|omega))) only[push_cast,↓reduceIte,Nat.reduceEqDiff,Nat.reduceBEq,Nat.reduceAdd,Nat.reduceSub,Int.reduceToNat,aF hap3, *]
    ·obtain rfl:j=k:=by omega
     rw[←hI];clear hI hiy hin;by_cases hz:out.length=0
     ·obtain rfl:out=[]:=List.eq_nil_of_length_eq_zero hz
      (refine wlk ?_;intros);all_goals((with_reducible apply cO (by first|exact .inl rfl|exact .inr rfl));(simp(disch:=(first|omega|(simp only[push_cast];first|done|omega))) only[push_cast,↓reduceIte,Nat.reduceEqDiff,Nat.reduceBEq,Nat.reduceAdd,Nat.reduceSub,Int.reduceToNat, *]<;>with_reducible exact rfl))
      all_goals exact iy
     ·have hxy:=hxy (by omega)
      have hap:0<(out.map pvN).length:=by rw[List.length_map];omega
      clear hz;simp only[aB hap,aF hap,List.length_map];(refine wlk ?_;intros);all_goals((with_reducible apply cO (by first|exact .inl rfl|exact .inr rfl));(simp(disch:=(first|omega|(simp only[push_cast];first|done|omega))) only[push_cast,↓reduceIte,Nat.reduceEqDiff,Nat.reduceBEq,Nat.reduceAdd,Nat.reduceSub,Int.reduceToNat, *]<;>with_reducible exact rfl))
      all_goals exact PV.le_refl _
  ·replace ap4:φMb [fT l,.val (.int .i64 ((a:Int)-1))]=some (.val (.bool true)):=by
    have:=ap4 h9;rcases c2 with c2|c2
    ·omega
    ·rwa[c2]at this
   clear hE c1 c2;have hq:=fun k=>qZ (l:=l) (a:=a) (b:=k);have hno:=fun k h1 h2 h3=>aaQ (l:=l) (a:=a) (b:=en) (k:=k) h1 h2 h3;have hz0:qb l a a=true:=wD (Nat.le_refl _);have hiy:=fun k=>@ni l (aD l a) k;have hin:=fun k=>@vR l (aD l a) k;have hi0:l9 l (aD l a) (aD l a)=[]:=qG (Nat.le_refl _);have hil:=nV l (aD l a);generalize aD l a=s9 at*;have gli_c91:=uJ;have gli_c93:=uU;have gli_c94:=uK;have gli_c95:=uI;(refine wlk ?_;intros);refine aG (α:=Nat) mixed (fun k=>[(0,fT l),(1,iv ((a:Int)-1)),(2,iv en),(8,iv k)]) (fun _=>[]) (fun _=>0)
    (fun k=>(a≤k∧k≤en)∧qb l a k=true) (fun k=>en-k) (by kernel_rfl) a ⟨⟨Nat.le_refl _,hae⟩,hz0⟩ ?_ ?_ rfl ?_
   ·exact agi
   ·exact agr
   rintro k ⟨⟨hk1,hk2⟩,hI⟩;clear hz0;by_cases h0:k<en
   ·have hfr:forced (gI l k)=forced (l[k]?.getD it0):=rfl
    have hs:=hq k hk1;rw[hI,Bool.true_and,hfr]at hs;have hno:=fun h=>hno k h hk1 h0;clear hfr hq hI hiy hin hi0 hil ap4 ap3 ap2;generalize hx:l[k]?.getD it0=x at*;obtain⟨kd,w9,c,d,e,cost,g⟩:=x;cases hf:forced (kd,w9,c,d,e,cost,g)with
    |true=>
     rw[hf]at hs;rw[hno hs];clear hs hno;(refine wlk ?_;intros);all_goals((with_reducible apply cO (by first|exact .inl rfl|exact .inr rfl));(simp(disch:=(first|omega|(simp only[push_cast];first|done|omega))) only[push_cast,↓reduceIte,Nat.reduceEqDiff,Nat.reduceBEq,Nat.reduceAdd,Nat.reduceSub,Int.reduceToNat, *]<;>with_reducible exact rfl))
     all_goals exact iy
    |false=>
     rw[hf]at hs;replace hs:=Lib.hid hs;clear hno;(refine wlk ?_;intros);refine⟨k+1,⟨⟨by omega,by omega⟩,hs.out⟩,by dsimp only;omega,?_,?_,rfl⟩
     ·exact agr
     ·exact agr
   ·obtain rfl:k=en:=by omega
    rw[hI,if_pos rfl];clear hI hq hno ap4;(refine wlk ?_;intros);refine aG (α:=Nat×LI×Nat×Nat) mixed (fun z=>[(0,fT l),(2,iv k),(9,nP 1 (z.2.1.map pvN) z.2.2.1),(10,iv z.1)])
     (fun z=>nO 3 1 (z.2.1.map pvN) z.2.2.1) (fun z=>z.2.2.2)
     (fun z=>(s9≤z.1∧z.1≤k)∧z.2.1=l9 l s9 z.1∧(0<z.2.1.length→z.2.2.1<z.2.2.2)) (fun z=>k-z.1) (by kernel_rfl) (s9,[],0,0) ⟨⟨Nat.le_refl _,c3⟩,hi0.symm,by simp⟩ ?_ ?_ rfl ?_
    ·exact agr
    ·exact agr
    rintro⟨j,out,x,y⟩ ⟨⟨hj1,hj2⟩,hI,hxy⟩;dsimp only at hj1 hj2 hI hxy;have hol:out.length≤60:=by rw[hI];have:=hil j;omega
    clear hil hi0 ap3 ap2;by_cases h1:j<k
    ·have hiy:=hiy j hj1
     have hin:=hin j hj1;have hkx:(gI l j).kd=(l[j]?.getD it0).1:=rfl;rw[hkx]at hiy hin;clear hkx;generalize hx:l[j]?.getD it0=z9 at*;obtain⟨kd,w9,c,d,e,cost,g⟩:=z9;dsimp only at hiy hin;by_cases h3:kd=3
     ·have hI2:out=l9 l s9 (j+1):=by rw[hin h3,←hI]
      replace hI2:=Lib.hid hI2;clear hI hiy hin;(refine wlk ?_;intros);refine⟨(j+1,out,x,y),⟨⟨by dsimp only;omega,by dsimp only;omega⟩,hI2.out,hxy⟩,by dsimp only;omega,?_,oh,rfl⟩
      ·exact agr
     ·have hI2:out++[(j:Int)]=l9 l s9 (j+1):=by rw[hiy h3,←hI]
      replace hI2:=Lib.hid hI2;clear hI hiy hin;by_cases hz:out.length=0
      ·obtain rfl:out=[]:=List.eq_nil_of_length_eq_zero hz
       (refine wlk ?_;intros);refine⟨(j+1,[]++[(j:Int)],y+1,y+2),⟨⟨by dsimp only;omega,by dsimp only;omega⟩,hI2.out,fun _=>by dsimp only;omega⟩,by dsimp only;omega,?_,?_,rfl⟩
       ·exact agr
       ·exact agr
      ·have hxy:=hxy (by omega)
       have hap:0<(out.map pvN).length:=by rw[List.length_map];omega
       clear hz;have hap3:0<((out++[(j:Int)]).map pvN).length:=by simp
       simp only[aB hap,aF hap,List.length_map];(refine wlk ?_;intros);refine⟨(j+1,out++[(j:Int)],y+1,y+2),⟨⟨by dsimp only;omega,by dsimp only;omega⟩,hI2.out,fun _=>by dsimp only;omega⟩,by dsimp only;omega,?_,?_,rfl⟩
       ·simp(disch:=(first|omega|(simp only[push_cast];first|done|omega))) only[push_cast,↓reduceIte,Nat.reduceEqDiff,Nat.reduceBEq,Nat.reduceAdd,Nat.reduceSub,Int.reduceToNat,aB hap3,List.length_append, *]
       ·simp(disch:=(first|omega|(simp only[push_cast];first|done|omega))) only[push_cast,↓reduceIte,Nat.reduceEqDiff,Nat.reduceBEq,Nat.reduceAdd,Nat.reduceSub,Int.reduceToNat,aF hap3, *]
    ·obtain rfl:j=k:=by omega
     rw[←hI];clear hI hiy hin;by_cases hz:out.length=0
     ·obtain rfl:out=[]:=List.eq_nil_of_length_eq_zero hz
      (refine wlk ?_;intros);all_goals((with_reducible apply cO (by first|exact .inl rfl|exact .inr rfl));(simp(disch:=(first|omega|(simp only[push_cast];first|done|omega))) only[push_cast,↓reduceIte,Nat.reduceEqDiff,Nat.reduceBEq,Nat.reduceAdd,Nat.reduceSub,Int.reduceToNat, *]<;>with_reducible exact rfl))
      all_goals exact iy
     ·have hxy:=hxy (by omega)
      have hap:0<(out.map pvN).length:=by rw[List.length_map];omega
      clear hz;simp only[aB hap,aF hap,List.length_map];(refine wlk ?_;intros);all_goals((with_reducible apply cO (by first|exact .inl rfl|exact .inr rfl));(simp(disch:=(first|omega|(simp only[push_cast];first|done|omega))) only[push_cast,↓reduceIte,Nat.reduceEqDiff,Nat.reduceBEq,Nat.reduceAdd,Nat.reduceSub,Int.reduceToNat, *]<;>with_reducible exact rfl))
      all_goals exact PV.le_refl _
 ·have hE:(mH l en&&((decide (a=0)||mH l (a-1))&&(decide (aD l a≤en)&&qb l a en)))=false:=by rw[Bool.eq_false_iff];intro q;simp only[Bool.and_eq_true,Bool.or_eq_true,decide_eq_true_eq]at q;exact hc ⟨q.1,q.2.1,q.2.2.1⟩
  rw[hE,if_neg (by decide)];clear hE;generalize aD l a=s9 at*;generalize mH l en=q1 at*;generalize mH l (a-1)=q2 at*;have hq1:q1=false∨(q1=true∧(s9≤en→0<a∧q2=false)):=by
   cases q1 with
   |false=>exact .inl rfl
   |true=>
    refine .inr ⟨rfl,fun hs=>?_⟩;rcases Nat.eq_zero_or_pos a with h|h
    ·exact absurd ⟨rfl,.inl h,hs⟩ hc
    ·refine⟨h,?_⟩
     cases q2 with
     |false=>rfl
     |true=>exact absurd ⟨rfl,.inr rfl,hs⟩ hc
  clear hc;rcases Nat.eq_zero_or_pos a with h9|h9
  ·subst h9
   clear ap4;simp only[Int.natCast_zero,Int.zero_sub]at ap3⊢;have hq2:q1=false∨(q1=true∧¬s9≤en):=hq1.imp id fun h=>⟨h.1,fun hs=>absurd (h.2 hs).1 (by omega)⟩;clear hq1;rcases hq2 with rfl|⟨rfl,hs⟩<;>
   ·have gli_c91:=uJ;have gli_c93:=uU;have gli_c94:=uK;have gli_c95:=uI
    (refine wlk ?_;intros);all_goals((with_reducible apply cO (by first|exact .inl rfl|exact .inr rfl));(simp(disch:=(first|omega|(simp only[push_cast];first|done|omega))) only[push_cast,↓reduceIte,Nat.reduceEqDiff,Nat.reduceBEq,Nat.reduceAdd,Nat.reduceSub,Int.reduceToNat, *]<;>with_reducible exact rfl))
    all_goals exact iy
  ·have ap4:=ap4 h9
   rcases hq1 with rfl|⟨rfl,hs⟩
   ·cases q2<;>
    ·have gli_c91:=uJ;have gli_c93:=uU;have gli_c94:=uK;have gli_c95:=uI
     (refine wlk ?_;intros);all_goals((with_reducible apply cO (by first|exact .inl rfl|exact .inr rfl));(simp(disch:=(first|omega|(simp only[push_cast];first|done|omega))) only[push_cast,↓reduceIte,Nat.reduceEqDiff,Nat.reduceBEq,Nat.reduceAdd,Nat.reduceSub,Int.reduceToNat, *]<;>with_reducible exact rfl))
     all_goals exact iy
   ·by_cases h8:s9≤en
    ·obtain⟨-,rfl⟩:=hs h8
     clear hs;have gli_c91:=uJ;have gli_c93:=uU;have gli_c94:=uK;have gli_c95:=uI;(refine wlk ?_;intros);all_goals((with_reducible apply cO (by first|exact .inl rfl|exact .inr rfl));(simp(disch:=(first|omega|(simp only[push_cast];first|done|omega))) only[push_cast,↓reduceIte,Nat.reduceEqDiff,Nat.reduceBEq,Nat.reduceAdd,Nat.reduceSub,Int.reduceToNat, *]<;>with_reducible exact rfl))
     all_goals exact iy
    ·clear hs
     cases q2<;>
     ·have gli_c91:=uJ;have gli_c93:=uU;have gli_c94:=uK;have gli_c95:=uI
      (refine wlk ?_;intros);all_goals((with_reducible apply cO (by first|exact .inl rfl|exact .inr rfl));(simp(disch:=(first|omega|(simp only[push_cast];first|done|omega))) only[push_cast,↓reduceIte,Nat.reduceEqDiff,Nat.reduceBEq,Nat.reduceAdd,Nat.reduceSub,Int.reduceToNat, *]<;>with_reducible exact rfl))
      all_goals exact iy
section
def aal {α:Type} (f:Nat→Nat→α) (i:Nat):List α:=(List.range 4).map (f i)
def tab {α:Type} (n:Nat) (f:Nat→Nat→α):List (List α):=(List.range (n+1)).map (aal f)
def uF {α:Type} (f:Nat→Nat→α) (i k:Nat) (v:α):Nat→Nat→α:=fun i' k'=>if i'=i∧k'=k then v else f i' k'
abbrev auZ (b:Bool):PV:=.val (.bool b)
abbrev aaj (r:List Int):PV:=.agg (r.map pvN)
abbrev ajN (r:List Bool):PV:=.agg (r.map auZ)
theorem wE {α:Type} (f:Nat→Nat→α) (i:Nat):(aal f i).length=4:=by simp[aal]
theorem vP {α:Type} (n:Nat) (f:Nat→Nat→α):(tab n f).length=n+1:=by simp[tab]
theorem akI {α β:Type} {f:Nat→Nat→α} {g:α→β} {i k:Nat} (h:k<4):Option.map g (aal f i)[k]?=some (g (f i k)):=by unfold aal;rw[List.getElem?_map,List.getElem?_range h];rfl
theorem aom {α β:Type} {f:Nat→Nat→α} {g:List α→β} {n i:Nat} (h:i≤n):Option.map g (tab n f)[i]?=some (g (aal f i)):=by unfold tab;rw[List.getElem?_map,List.getElem?_range (by omega)];rfl
theorem ajh {α:Type} {f:Nat→Nat→α} {i k:Nat} {v:α}:aal (uF f i k v) i=(aal f i).set k v:=by rcases k with _|_|_|_|k<;>simp[aal,uF,List.range_succ]
theorem ano {α:Type} {f:Nat→Nat→α} {i j k:Nat} {v:α} (h:¬j=i):aal (uF f i k v) j=aal f j:=by unfold aal uF;refine List.map_congr_left fun x _=>?_;rw[if_neg fun q=>h q.1]
theorem afA {α:Type} {n i k:Nat} {f:Nat→Nat→α} {v:α}:(tab n f).set i ((aal f i).set k v)=tab n (uF f i k v):=by
 apply List.ext_getElem?;intro j;rw[List.getElem?_set,vP];by_cases hj:j<n+1
 ·by_cases h:i=j
  ·subst h
   rw[if_pos rfl,if_pos hj];unfold tab;rw[List.getElem?_map,List.getElem?_range hj,Option.map_some,ajh]
  ·rw[if_neg h]
   unfold tab;rw[List.getElem?_map,List.getElem?_map,List.getElem?_range hj,Option.map_some,Option.map_some,ano (fun q=>h q.symm)]
 ·rw[List.getElem?_eq_none (by rw[vP];omega),List.getElem?_eq_none (by rw[vP];omega)]
  split<;>(try split)<;>first|rfl|omega
theorem ac6 {α:Type} {g:α→PV} {l:List α} {k:Nat} {v:α} (h:k<l.length):fU (l.map g) k [g v]=(l.set k v).map g:=by unfold fU;rw[List.map_set,List.set_eq_take_append_cons_drop,List.length_map,if_pos h];simp
theorem ajS {n i k:Nat} {f:Nat→Nat→Int} {v:Int} (h:k<4):((tab n f).map aaj).set i (.agg (fU ((aal f i).map pvN) k [.val (.int .i64 v)]))=(tab n (uF f i k v)).map aaj:=by rw[←afA,List.map_set,ac6 (g:=pvN) (v:=v) (by rw[wE];exact h)]
theorem aiP {n i k:Nat} {f:Nat→Nat→Bool} {v:Bool} (h:k<4):((tab n f).map ajN).set i (.agg (fU ((aal f i).map auZ) k [.val (.bool v)]))=(tab n (uF f i k v)).map ajN:=by rw[←afA,List.map_set,ac6 (g:=auZ) (v:=v) (by rw[wE];exact h)]
theorem iH {α:Type} {n:Nat} {f f':Nat→Nat→α} (h:∀i k,i≤n→k<4→f i k=f' i k):tab n f=tab n f':=by unfold tab aal;refine List.map_congr_left fun i hi=>List.map_congr_left fun k hk=>?_;have h1:=List.mem_range.1 hi;exact h i k (by omega) (List.mem_range.1 hk)
theorem auE {n:Nat}:List.replicate (n+1) (PV.agg [.val (.int .i64 0),.val (.int .i64 0),.val (.int .i64 0),.val (.int .i64 0)])=(tab n (fun _ _=>(0:Int))).map aaj:=by unfold tab;rw[List.map_map];symm;rw[List.eq_replicate_iff];exact⟨by rw[List.length_map,List.length_range],fun b hb=>by obtain⟨x,-,rfl⟩:=List.mem_map.1 hb;rfl⟩
theorem aqF {n:Nat}:List.replicate (n+1) (PV.agg [.val (.bool false),.val (.bool false),.val (.bool false),.val (.bool false)])=(tab n (fun _ _=>false)).map ajN:=by unfold tab;rw[List.map_map];symm;rw[List.eq_replicate_iff];exact⟨by rw[List.length_map,List.length_range],fun b hb=>by obtain⟨x,-,rfl⟩:=List.mem_map.1 hb;rfl⟩
theorem atU {l:List Int}:(l.map pvN).all nD=true:=by simp[List.all_map,nD,Value.oneCell']
theorem asN {l:List Bool}:(l.map auZ).all nD=true:=by simp[List.all_map,nD,Value.oneCell']
attribute[push_cast]
 atU asN wE vP akI aom ajS aiP auE aqF
def tbA (l:List It) (wd most:Int) (m:Nat):Nat→Nat→Option Ch:=fun i k=>if m≤i then aJ l wd most i k else none
def tbJ (l:List It) (wd most:Int) (a j:Nat):Nat→Nat→Option Ch:=fun i k=>if i=a then bB l wd most a k (aJ l wd most) j else tbA l wd most (a+1) i k
def tbK (l:List It) (wd most:Int) (a j b:Nat):Nat→Nat→Option Ch:=fun i k=>if i=a then bB l wd most a k (aJ l wd most) (if k<b then j+1 else j)else tbA l wd most (a+1) i k
def cB (x:Option Ch):Int:=match x with|some c=>c.1|none=>0
def cN (x:Option Ch):Int:=match x with|some c=>(c.2.1:Int)|none=>0
def tB (f:Nat→Nat→Option Ch):Nat→Nat→Int:=fun i k=>cB (f i k)
def tG (f:Nat→Nat→Option Ch):Nat→Nat→Bool:=fun i k=>(f i k).isSome
def tN (f:Nat→Nat→Option Ch):Nat→Nat→Int:=fun i k=>cN (f i k)
theorem bI {n:Nat} {f f':Nat→Nat→Option Ch} (h:∀i k,i≤n→k<4→f i k=f' i k):tab n (tB f)=tab n (tB f')∧tab n (tG f)=tab n (tG f')∧tab n (tN f)=tab n (tN f'):=
 ⟨iH fun i k h1 h2=>by unfold tB;rw[h i k h1 h2],iH fun i k h1 h2=>by unfold tG;rw[h i k h1 h2],iH fun i k h1 h2=>by unfold tN;rw[h i k h1 h2]⟩
variable {l:List It} {wd most:Int}
theorem aaK:∀i k,i≤l.length→k<4→tbA l wd most l.length i k=if i=l.length then some (0,0,0)else none:=fun i k h _=>by
 unfold tbA;by_cases hi:i=l.length
 ·rw[if_pos (by omega),if_pos hi,hi,nY]
 ·rw[if_neg (by omega),if_neg hi]
theorem ajC {a:Nat} (ha:a<l.length) (h0:0<a) (h:mH l (a-1)=false):∀i k,i≤l.length→k<4→tbA l wd most (a+1) i k=tbA l wd most a i k:=fun i k hi _=>by
 unfold tbA;by_cases h1:a+1≤i
 ·rw[if_pos h1,if_pos (by omega)]
 ·rw[if_neg h1]
  by_cases h2:a≤i
  ·obtain rfl:i=a:=by omega
   rw[if_pos h2,xS ha h0 h]
  ·rw[if_neg h2]
theorem acu {a:Nat}:∀i k,i≤l.length→k<4→tbA l wd most (a+1) i k=tbJ l wd most a 0 i k:=fun i k hi _=>by
 unfold tbJ;split
 ·rename_i h
  subst h;unfold tbA;rw[if_neg (by omega)];rfl
 ·rfl
theorem aiv {a:Nat} (ha:a<l.length):∀i k,i≤l.length→k<4→tbJ l wd most a (l.length-a) i k=tbA l wd most a i k:=fun i k hi _=>by
 unfold tbJ tbA;split
 ·rename_i h
  subst h;rw[if_pos (Nat.le_refl _),lH ha]
 ·by_cases h1:a+1≤i
  ·rw[if_pos h1,if_pos (by omega)]
  ·rw[if_neg h1,if_neg (by omega)]
theorem acA {a j:Nat} (h:∀k:Int,bB l wd most a k (aJ l wd most) (j+1)=bB l wd most a k (aJ l wd most) j):∀i k,i≤l.length→k<4→tbJ l wd most a j i k=tbJ l wd most a (j+1) i k:=fun i k hi _=>by
 unfold tbJ;split
 ·rw[h]
 ·rfl
theorem ady {a j:Nat}:∀i k,i≤l.length→k<4→tbJ l wd most a j i k=tbK l wd most a j 0 i k:=fun i k hi _=>by
 unfold tbJ tbK;split
 ·rw[if_neg (by omega)]
 ·rfl
theorem afU {a j:Nat}:∀i k,i≤l.length→k<4→tbK l wd most a j 4 i k=tbJ l wd most a (j+1) i k:=fun i k hi hk=>by
 unfold tbJ tbK;split
 ·first|rfl|rw[if_pos hk]
 ·rfl
theorem qo {a j b:Nat} {x:Option Ch} (hx:bB l wd most a b (aJ l wd most) (j+1)=x):∀i k,i≤l.length→k<4→uF (tbK l wd most a j b) a b x i k=tbK l wd most a j (b+1) i k:=fun i k hi hk=>by
 unfold uF tbK;by_cases h:i=a∧k=b
 ·obtain⟨rfl,rfl⟩:=h
  rw[if_pos ⟨rfl,rfl⟩,if_pos rfl,if_pos (by omega),hx]
 ·rw[if_neg h]
  split
  ·have:¬k=b:=fun q=>h ⟨by assumption,q⟩
   by_cases h1:k<b
   ·rw[if_pos h1,if_pos (by omega)]
   ·rw[if_neg h1,if_neg (by omega)]
  ·rfl
theorem ac9 {a j b:Nat} (hx:bB l wd most a b (aJ l wd most) (j+1)=bB l wd most a b (aJ l wd most) j):∀i k,i≤l.length→k<4→tbK l wd most a j b i k=tbK l wd most a j (b+1) i k:=fun i k hi hk=>by
 unfold tbK;split
 ·by_cases h:k=b
  ·subst h
   rw[if_neg (by omega),if_pos (by omega),hx]
  ·by_cases h1:k<b
   ·rw[if_pos h1,if_pos (by omega)]
   ·rw[if_neg h1,if_neg (by omega)]
 ·rfl
theorem ado (f:Nat→Nat→Option Ch) (i k:Nat) (x:Ch):uF (tB f) i k x.1=tB (uF f i k (some x)):=by funext i' k';unfold tB uF;split<;>rfl
theorem adt (f:Nat→Nat→Option Ch) (i k:Nat) (x:Ch):uF (tG f) i k true=tG (uF f i k (some x)):=by funext i' k';unfold tG uF;split<;>rfl
theorem acZ (f:Nat→Nat→Option Ch) (i k:Nat) (x:Ch):uF (tN f) i k (x.2.1:Int)=tN (uF f i k (some x)):=by funext i' k';unfold tN uF;split<;>rfl
theorem lM {a j b:Nat}:tbK l wd most a j b a b=bB l wd most a b (aJ l wd most) j:=by unfold tbK;rw[if_pos rfl,if_neg (Nat.lt_irrefl _)]
theorem jD {a j i k:Nat} (h:a<i):tbJ l wd most a j i k=aJ l wd most i k:=by unfold tbJ tbA;rw[if_neg (by omega),if_pos (by omega)]
theorem ab6 {i k:Nat}:tbA l wd most 0 i k=aJ l wd most i k:=if_pos (Nat.zero_le _)
end
section
def txK (ws pats:LS):Nat→LS
 |0=>[]
 |k+1=>txK ws pats k++bW (ws[k]?.getD .empty) pats
def txR (ws pats:LS):LS:=txK ws pats ws.length
theorem aaL (ws pats:LS):∀k,(txK ws pats k).length≤21*k
 |0=>by simp[txK]
 |k+1=>by have:=aaL ws pats k;have h2:=jN (ws[k]?.getD .empty) pats;rw[txK,List.length_append];omega
theorem acf (ws pats:LS):∀k,∀x∈txK ws pats k,dM x=true
 |0=>by simp[txK]
 |k+1=>fun x hx=>by
  rw[txK]at hx;rcases List.mem_append.1 hx with hx|hx
  ·exact acf ws pats k x hx
  ·exact mV x hx
theorem alE {ws pats:LS} {k:Nat} (h:k<(txR ws pats).length):dM ((txR ws pats)[k]?.getD .empty)=true:=by rw[List.getElem?_eq_getElem h,Option.getD_some];exact acf ws pats _ _ (List.getElem_mem h)
def nb (l:List It):Nat:=(l.filter fun x=>decide (x.kd=1)).length
theorem zT (l l':List It):nb (l++l')=nb l+nb l':=by simp[nb]
theorem auH (ps:LS):∀k,nb (wiK ps k)=k
 |0=>rfl
 |k+1=>by
  have ih:=auH ps k;rw[wiK,zT];have h1:nb [((1:Int),pI (ps[k]?.getD .empty),(0:Int),(0:Int),(0:Int),(0:Int),false)]=1:=by simp[nb,It.kd]
  rw[h1];split
  ·rw[ih]
  ·rw[zT,ih]
   have h2:nb [((3:Int),(3:Int),(0:Int),(0:Int),(0:Int),(50:Int),true)]=0:=by decide
   rw[h2]
theorem aoR (ws pats:LS):∀k,nb (piK ws pats k)=(txK ws pats k).length
 |0=>rfl
 |k+1=>by
  have ih:=aoR ws pats k;rw[piK,zT,txK,List.length_append];have h1:nb (wiR (ws[k]?.getD .empty) pats)=(bW (ws[k]?.getD .empty) pats).length:=auH _ _;rw[h1];split
  ·rw[ih]
  ·rw[zT,ih]
   have h2:nb [((2:Int),(4:Int),(3:Int),(1:Int),(0:Int),(0:Int),false)]=0:=by decide
   rw[h2,Nat.add_zero]
theorem atX (ws pats:LS):nb (piR ws pats)=(txR ws pats).length:=by
 unfold piR;rw[zT,aoR];have h2:nb [((3:Int),(0:Int),(0:Int),(0:Int),(0:Int),(10000:Int),false),(2,0,1,0,1,0,false),(3,0,0,0,0,-10000,false)]=0:=by decide
 rw[h2];rfl
theorem af0 (l:List It) (n:Nat):nbX l n≤nb l:=by unfold nbX nb;exact List.Sublist.length_le ((List.take_sublist n l).filter _)
theorem ahs {l:List It} {n:Nat} (h:n<l.length) (hk:(gI l n).kd=1):nbX l n<nb l:=by have h1:=aa6 h hk;have h2:=af0 l (n+1);omega
def frB (br:List Int) (k:Nat):Nat:=if k=0 then 0 else(br[k-1]?.getD 0).toNat+1
def oG (l:List It) (tx:LS) (br:List Int):Nat→LS
 |0=>[]
 |k+1=>oG l tx br k++[lnR l tx (frB br k) (br[k]?.getD 0).toNat]
theorem og (l:List It) (tx:LS) (br:List Int):∀k,(oG l tx br k).length=k
 |0=>rfl
 |k+1=>by rw[oG,List.length_append,og l tx br k];rfl
theorem xB (br:List Int) (k:Nat):frB br (k+1)=(br[k]?.getD 0).toNat+1:=by unfold frB;rw[if_neg (by omega)];rfl
def aqA (l:List It) (br:List Int):Prop:=br.length≤l.length∧∀k,k<br.length→0≤br[k]?.getD 0∧eu l (frB br k) (br[k]?.getD 0).toNat=true
theorem alZ {l:List It} {wd most:Int} (hl:aX l=true) (hm:most≤10000):∀(f a:Nat) (lk:Int),a≤l.length→∀k,k<(bkF l wd most f a lk).length→0≤(bkF l wd most f a lk)[k]?.getD 0∧eu l (if k=0 then a else((bkF l wd most f a lk)[k-1]?.getD 0).toNat+1) ((bkF l wd most f a lk)[k]?.getD 0).toNat=true
 |0,a,lk,_,k,hk=>by simp[bkF]at hk
 |f+1,a,lk,ha,k,hk=>by
  by_cases h:a=l.length
  ·subst h;rw[wz]at hk;simp at hk
  ·cases hr:aJ l wd most a lk with
   |none=>rw[bkF,if_neg h,hr]at hk;simp at hk
   |some r=>
    obtain⟨x,c0,hx,hL⟩:=oQ (by omega) hr;obtain⟨hq,-,-⟩:=pK hL;have h2:=(fP.1 hq).1;rw[nN h hr]at hk⊢;have ih:=alZ (wd:=wd) hl hm f (r.2.1+1) r.2.2 (by omega);generalize bkF l wd most f (r.2.1+1) r.2.2=t at*;cases k with
    |zero=>exact⟨by simp,by simpa using hq⟩
    |succ k=>
     rw[List.length_cons]at hk;obtain⟨i1,i2⟩:=ih k (by omega);refine⟨by simpa using i1,?_⟩;rw[if_neg (by omega),List.getElem?_cons_succ,Nat.add_sub_cancel];cases k with
     |zero=>simpa using i2
     |succ k=>rw[if_neg (by omega),Nat.add_sub_cancel]at i2;rw[List.getElem?_cons_succ];exact i2
theorem agV {l:List It} {wd most:Int} (hl:aX l=true) (hm:most≤10000):aqA l (dX l wd most):=
 ⟨aaz hl hm _ _ _ (Nat.zero_le _),fun k hk=>alZ hl hm _ _ _ (Nat.zero_le _) k hk⟩
theorem aqA.at_ {l:List It} {br:List Int} (h:aqA l br) {k:Nat} (hk:k<br.length):0≤br[k]?.getD 0∧frB br k≤(br[k]?.getD 0).toNat∧(br[k]?.getD 0).toNat<l.length∧¬(gI l (br[k]?.getD 0).toNat).kd=1:=by obtain⟨h1,h2⟩:=h.2 k hk;obtain⟨h3,h4,-⟩:=fP.1 h2;refine⟨h1,h3.1,h3.2,fun q=>?_⟩;unfold mH at h4;rw[if_neg (by omega),decide_eq_true_eq]at h4;omega
variable {l:List It} {tx:LS} {s:ByteArray} {n:Nat}
theorem al1 (h:(gI l n).kd=1):oz l tx s n=s++tx[nbX l n]?.getD .empty:=if_pos h
theorem ali (h:(gI l n).kd=2∧0<(gI l n).wd∧¬s=⟨#[]⟩):oz l tx s n=s++⟨#[32]⟩:=by unfold oz;rw[if_neg (by omega),if_pos h]
theorem ajA (h1:¬(gI l n).kd=1) (h:¬((gI l n).kd=2∧0<(gI l n).wd∧¬s=⟨#[]⟩)):oz l tx s n=s:=by unfold oz;rw[if_neg h1,if_neg h]
theorem wh {a:Nat} (h:∀k:Nat,(tx[k]?.getD ByteArray.empty).size≤20):∀j,(lnT l tx a j).size≤20*j
 |0=>by simp[lnT,ByteArray.size]
 |j+1=>by
  have ih:=wh (a:=a) h j;rw[lnT];unfold oz;split
  ·rw[ByteArray.size_append]
   have:=h (nbX l (a+j));omega
  ·split
   ·rw[ByteArray.size_append,show(⟨#[32]⟩:ByteArray).size=1 from rfl]
    omega
   ·omega
theorem abG {ws pats:LS} (k:Nat):((txR ws pats)[k]?.getD .empty).size≤20:=by
 by_cases h:k<(txR ws pats).length
 ·exact(aW (alE h)).2.2
 ·rw[List.getElem?_eq_none (by omega)]
  decide
def mO (ws pats:LS) (wd most:Int):Bool:=oO ws pats&&jH (piV ws pats) wd most
def mE (ws pats:LS) (wd most:Int):LS:=if mO ws pats wd most=true then oG (piR ws pats) (txR ws pats) (dX (piR ws pats) wd most) (dX (piR ws pats) wd most).length else []
end
section
open Go.ChangeMaps (setBlock heap_setBlock_same heap_setBlock_other modify_eq_set)
open Go.Maps (Keyed)
abbrev VL:=List (Value×Value)
abbrev kv (e:MapEntry):Value×Value:=(e.key,e.val)
structure aiw (P:Program) (k:TypeId) (es:Array MapEntry) (clock:Nat) (L:VL):Prop where
 list:es.toList.map kv=L
 old:∀e∈es.toList,e.born<clock
 born:(es.toList.map (·.born)).Nodup
 keys:(L.map Prod.fst).Nodup
 keyed:∀p∈L,∃l,keyOf P k p.1=some l
def l5 (P:Program) (k:TypeId) (w:World) (b:Nat) (L:VL):Prop:=∃es clock,w.heap[b]?=some (.map es clock)∧aiw P k es clock L
variable {P:Program} {k t e:TypeId} {w w':World} {b r:Nat} {L:VL} {left:List Value} {key v:Value} {kl:Lit}
theorem l5.lt (h:l5 P k w b L):b<w.heap.size:=by obtain⟨es,clock,hb,_⟩:=h;exact(Array.getElem?_eq_some_iff.1 hb).1
theorem l5.made (w:World):l5 P k (w.alloc (.map #[] 0)) w.heap.size []:=
 ⟨#[],0,(MapKept.heap_alloc w _).1,rfl,by simp,by simp,by simp,by simp⟩
theorem aiw.xU {es:Array MapEntry} {clock:Nat} (H:aiw P k es clock L) {e0:MapEntry} (h:e0∈es.toList):(e0.key,e0.val)∈L:=by rw[←H.list];exact List.mem_map.2 ⟨e0,h,rfl⟩
theorem aiw.all {es:Array MapEntry} {clock:Nat} (H:aiw P k es clock L):∀e∈es.toList,∃l,keyOf P k e.key=some l:=fun e he=>H.keyed _ (H.xU he)
theorem yB {L:VL} (h:(L.map Prod.fst).Nodup) {key v v':Value} (h1:(key,v)∈L) (h2:(key,v')∈L):v=v':=by
 induction L with
 |nil=>simp at h1
 |cons x L ih=>
  rw[List.map_cons,List.nodup_cons]at h;rcases List.mem_cons.1 h1 with e1|h1
  ·rcases List.mem_cons.1 h2 with e2|h2
   ·have:=e1.trans e2.symm
    exact(Prod.ext_iff.1 this).2
   ·exact absurd (List.mem_map.2 ⟨_,h2,by rw[←e1]⟩) h.1
  ·rcases List.mem_cons.1 h2 with e2|h2
   ·exact absurd (List.mem_map.2 ⟨_,h1,by rw[←e2]⟩) h.1
   ·exact ih h.2 h1 h2
theorem l5.ab5 (h:l5 P k w b L) (K:Keyed P k) (ht:P.underlying t=some (.map k e)) (c:Bool) (hkey:keyOf P k key=some kl) (hm:(key,v)∈L):
 (Instr.lookup t (.map (some b)) key c).run P w=.ok (if c then .tuple #[v,.bool true]else v) w:=by
 obtain⟨es,clock,hb,H⟩:=h;rcases K.find w hkey es.toList H.all with⟨h1,h2⟩|⟨j,e0,h1,h2,h3⟩
 ·rw[←H.list]at hm
  obtain⟨e0,he,h4⟩:=List.mem_map.1 hm;exact absurd (Prod.ext_iff.1 h4).1 (h2 e0 he)
 ·have hv:e0.val=v:=yB H.keys (h3▸H.xU (List.mem_of_getElem? h2)) hm
  rw[←hv];simp[Instr.lookup,run_underlying ht,MapKept.run_getObj_map hb,K.check w _ hkey,h1,Result.andThen]
theorem l5.apP (h:l5 P k w b L) (K:Keyed P k) (ht:P.underlying t=some (.map k e)) (c:Bool) (hkey:keyOf P k key=some kl) {z:Value} (hz:(zeroValue e).run P w=.ok z w) (hm:∀p∈L,p.1≠key):
 (Instr.lookup t (.map (some b)) key c).run P w=.ok (if c then .tuple #[z,.bool false]else z) w:=by
 obtain⟨es,clock,hb,H⟩:=h;rcases K.find w hkey es.toList H.all with⟨h1,h2⟩|⟨j,e0,h1,h2,h3⟩
 ·simp[Instr.lookup,run_underlying ht,MapKept.run_getObj_map hb,K.check w _ hkey,h1,hz,Result.andThen]
 ·exact absurd h3 (hm _ (H.xU (List.mem_of_getElem? h2)))
theorem mD {o o':Obj} (hb:w.heap[b]?=some o):w.grownBy (setBlock w b o') (some b):=
 ⟨rfl,rfl,rfl,by simp[setBlock],fun i _ hi=>by have:i≠b:=fun e1=>hi (by rw[e1]);simp[setBlock,Array.getElem?_setIfInBounds,Ne.symm this]⟩
theorem aiw.push {es:Array MapEntry} {clock:Nat} (H:aiw P k es clock L) (hkey:keyOf P k key=some kl) (hm:∀p∈L,p.1≠key):aiw P k (es.push ⟨key,v,clock⟩) (clock+1) (L++[(key,v)]):=by
 refine⟨?_,fun e0 he=>?_,?_,?_,fun p hp=>?_⟩
 ·rw[Array.toList_push,List.map_append,H.list];rfl
 ·rw[Array.toList_push]at he
  rcases List.mem_append.1 he with he|he
  ·have:=H.old e0 he;omega
  ·rw[List.mem_singleton.1 he];exact Nat.lt_succ_self _
 ·rw[Array.toList_push,List.map_append,List.nodup_append]
  refine⟨H.born,by simp,fun a ha c hc=>?_⟩;obtain⟨e0,he,rfl⟩:=List.mem_map.1 ha;simp only[List.map_cons,List.map_nil,List.mem_singleton]at hc;have:=H.old e0 he;omega
 ·rw[List.map_append,List.nodup_append]
  refine⟨H.keys,by simp,fun a ha c hc=>?_⟩;obtain⟨p,hp,rfl⟩:=List.mem_map.1 ha;simp only[List.map_cons,List.map_nil,List.mem_singleton]at hc;rw[hc];exact hm p hp
 ·rcases List.mem_append.1 hp with hp|hp
  ·exact H.keyed p hp
  ·rw[List.mem_singleton.1 hp];exact⟨kl,hkey⟩
theorem l5.aoP (h:l5 P k w b L) (K:Keyed P k) (ht:P.underlying t=some (.map k e)) (hkey:keyOf P k key=some kl) (hm:∀p∈L,p.1≠key):
 ∃w',(Instr.mapUpdate t (.map (some b)) key v).run P w=.ok () w'∧l5 P k w' b (L++[(key,v)])∧w.grownBy w' (some b)∧w'.heap.size=w.heap.size:=by
 obtain⟨es,clock,hb,H⟩:=h;rcases K.find w hkey es.toList H.all with⟨h1,h2⟩|⟨j,e0,h1,h2,h3⟩
 ·refine⟨setBlock w b (.map (es.push ⟨key,v,clock⟩) (clock+1)),?_,⟨_,_,heap_setBlock_same hb _,H.push hkey hm⟩,mD hb,by simp[setBlock]⟩
  simp[Instr.mapUpdate,run_underlying ht,MapKept.run_getObj_map hb,K.check w false hkey,h1,MapKept.run_setObj_map _ hb,Result.andThen,setBlock]
 ·exact absurd h3 (hm _ (H.xU (List.mem_of_getElem? h2)))
theorem aiw.set {es:Array MapEntry} {clock:Nat} {L1 L2:VL} {v0:Value} {j:Nat} {e0:MapEntry} (H:aiw P k es clock (L1++(key,v0)::L2)) (h2:es.toList[j]?=some e0) (h3:e0.key=key):
 aiw P k (es.modify j fun e'=>{e' with key:=key,val:=v}) clock (L1++(key,v)::L2)∧(es.modify j fun e'=>{e' with key:=key,val:=v}).toList=es.toList.set j {e0 with key:=key,val:=v}:=by
 have hl:(es.modify j (fun e'=>{e' with key:=key,val:=v})).toList=es.toList.set j {e0 with key:=key,val:=v}:=by rw[Array.toList_modify,modify_eq_set _ _ _ _ h2]
 have hL:(L1++(key,v0)::L2)[j]?=some (key,e0.val):=by rw[←H.list,List.getElem?_map,h2,←h3];rfl
 have hj:j=L1.length:=by have hjl:=(List.getElem?_eq_some_iff.1 hL).1;refine(List.getElem?_inj (by simpa using hjl) H.keys).1 ?_;rw[List.getElem?_map,hL];simp
 refine⟨⟨?_,fun x hx=>?_,?_,?_,fun p hp=>?_⟩,hl⟩
 ·rw[hl,List.map_set,H.list,hj]
  simp
 ·rw[hl]at hx
  rcases List.mem_or_eq_of_mem_set hx with hx|rfl
  ·exact H.old x hx
  ·exact H.old e0 (List.mem_of_getElem? h2)
 ·rw[hl,List.map_set]
  have:(es.toList.map (·.born))[j]?=some e0.born:=by rw[List.getElem?_map,h2];rfl
  have e2:(es.toList.map (·.born)).set j e0.born=es.toList.map (·.born):=by obtain⟨hlt,he⟩:=List.getElem?_eq_some_iff.1 this;exact he▸List.set_getElem_self hlt
  rw[show({e0 with key:=key,val:=v}:MapEntry).born=e0.born from rfl,e2];exact H.born
 ·have:=H.keys
  simpa using this
 ·rcases List.mem_append.1 hp with hp|hp
  ·exact H.keyed p (List.mem_append.2 (.inl hp))
  ·rcases List.mem_cons.1 hp with rfl|hp
   ·exact H.keyed (key,v0) (by simp)
   ·exact H.keyed p (by simp[hp])
theorem l5.apm {L1 L2:VL} {v0:Value} (h:l5 P k w b (L1++(key,v0)::L2)) (K:Keyed P k) (ht:P.underlying t=some (.map k e)) (hkey:keyOf P k key=some kl):
 ∃w',(Instr.mapUpdate t (.map (some b)) key v).run P w=.ok () w'∧l5 P k w' b (L1++(key,v)::L2)∧w.grownBy w' (some b)∧w'.heap.size=w.heap.size:=by
 obtain⟨es,clock,hb,H⟩:=h;rcases K.find w hkey es.toList H.all with⟨h1,h2⟩|⟨j,e0,h1,h2,h3⟩
 ·have hm:(key,v0)∈es.toList.map kv:=by rw[H.list];simp
  obtain⟨e0,he,h4⟩:=List.mem_map.1 hm;exact absurd (Prod.ext_iff.1 h4).1 (h2 e0 he)
 ·have hj:es[j]?=some e0:=by simpa using h2
  refine⟨setBlock w b (.map (es.modify j fun e'=>{e' with key:=key,val:=v}) clock),?_,⟨_,_,heap_setBlock_same hb _,(H.set h2 h3).1⟩,mD hb,by simp[setBlock]⟩;simp[Instr.mapUpdate,run_underlying ht,MapKept.run_getObj_map hb,K.check w false hkey,h1,hj,h3,K.stays w hkey,MapKept.run_setObj_map _ hb,Result.andThen,setBlock]
end
theorem ahR (l:List It):∀(f n m:Nat),n≤m→m<stN l f n→¬(gI l m).kd=1∧forced (gI l m)=false
 |0,n,m,h1,h2=>by simp only[stN]at h2;omega
 |f+1,n,m,h1,h2=>by
  unfold stN at h2;split at h2
  ·rename_i hc
   by_cases h:m=n
   ·subst h;exact hc.2
   ·exact ahR l f (n+1) m (by omega) h2
  ·omega
theorem aiq (l:List It):∀(f n:Nat),l.length≤f+n→stN l f n<l.length→(gI l (stN l f n)).kd=1∨forced (gI l (stN l f n))=true
 |0,n,h1,h2=>by simp only[stN]at h2;omega
 |f+1,n,h1,h2=>by
  unfold stN at h2⊢;split at h2
  ·rename_i hc
   rw[if_pos hc];exact aiq l f (n+1) (by omega) h2
  ·rename_i hc
   rw[if_neg hc];by_cases hk:(gI l n).kd=1
   ·exact .inl hk
   ·right
    cases hf:forced (gI l n)with
    |true=>rfl
    |false=>exact absurd ⟨h2,hk,hf⟩ hc
theorem anE {l:List It} {a b n:Nat} (h:qb l a b=true) (h1:a≤n) (h2:n<b):forced (gI l n)=false:=by unfold qb at h;rw[List.all_eq_true]at h;have:=h (n-a) (List.mem_range.2 (by omega));rw[show a+(n-a)=n by omega]at this;simpa using this
def pU (l:List It) (tx:LS) (s:ByteArray) (n:Nat):ByteArray:=
 if(gI l n).kd=1 then s++(tx[nbX l n]?.getD .empty)else if 0<(gI l n).wd then s++⟨#[32]⟩else s
def liF (l:List It) (tx:LS) (is:List Int):ByteArray:=is.foldl (fun s n=>pU l tx s n.toNat) ⟨#[]⟩
theorem xO (l:List It) (tx:LS) (is:List Int) (n:Int):liF l tx (is++[n])=pU l tx (liF l tx is) n.toNat:=by simp[liF,List.foldl_append]
theorem xk {l:List It} {tx:LS} {is:List Int} {j:Nat} (h:j<is.length):liF l tx (is.take (j+1))=pU l tx (liF l tx (is.take j)) (is[j]?.getD 0).toNat:=by rw[List.take_succ_eq_append_getElem h,xO,List.getElem?_eq_getElem h,Option.getD_some]
theorem wC {l:List It} {tx:LS} (h:∀k:Nat,(tx[k]?.getD ByteArray.empty).size≤20) (is:List Int):∀j,j≤is.length→(liF l tx (is.take j)).size≤20*j
 |0,_=>by simp[liF,ByteArray.size]
 |j+1,hj=>by
  have ih:=wC (l:=l) h is j (by omega);rw[xk (by omega)];unfold pU;split
  ·rw[ByteArray.size_append]
   have:=h (nbX l (is[j]?.getD 0).toNat);omega
  ·split
   ·rw[ByteArray.size_append,show(⟨#[32]⟩:ByteArray).size=1 from rfl]
    omega
   ·omega
theorem akY {s:ByteArray} (h:1≤s.size):¬s=⟨#[]⟩:=fun e=>by subst e;simp[ByteArray.size]at h
theorem av8 {l:List It} {tx:LS} {a en:Nat} (hl:aX l=true) (hq:eu l a en=true) (htx:∀k,k<nb l→1≤(tx[k]?.getD .empty).size):∀i,aD l a+i≤en→liF l tx (l9 l (aD l a) (aD l a+i))=lnT l tx a (aD l a+i-a)∧(0<i→1≤(lnT l tx a (aD l a+i-a)).size):=by
 obtain⟨⟨ha,hen⟩,-,-,hs,hf⟩:=fP.1 hq;have hsa:=(uR (l:=l) (a:=a)).1;have hfront:∀i,a+i≤aD l a→lnT l tx a i=⟨#[]⟩:=by
  intro i
  induction i with
  |zero=>intro _;rfl
  |succ i ih=>intro h;have h1:=ahR l (l.length-a) a (a+i) (by omega) (show a+i<aD l a by omega);rw[lnT,ih (by omega),ajA h1.1 (fun q=>q.2.2 rfl)]
 intro i
 induction i with
 |zero=>intro h;refine⟨?_,fun h=>by omega⟩;rw[Nat.add_zero,qG (Nat.le_refl _),hfront _ (by omega)];rfl
 |succ i ih=>
  intro h;obtain⟨e1,e2⟩:=ih (by omega);have hlt:aD l a+i<l.length:=by omega
  have hI:=gM hl hlt;have hS:lnT l tx a (aD l a+(i+1)-a)=oz l tx (lnT l tx a (aD l a+i-a)) (aD l a+i):=by rw[show aD l a+(i+1)-a=(aD l a+i-a)+1 by omega,lnT,show a+(aD l a+i-a)=aD l a+i by omega]
  have hfirst:i=0→(gI l (aD l a+i)).kd=1:=fun h0=>by
   subst h0;rcases aiq l (l.length-a) a (by omega) (show aD l a<l.length by omega)with h1|h1
   ·exact h1
   ·have h2:=anE hf hsa (show aD l a<en by omega)
    have h3:forced (gI l (aD l a))=true:=h1;rw[h2]at h3;cases h3
  rw[hS,←Nat.add_assoc];generalize lnT l tx a (aD l a+i-a)=s at*;by_cases k1:(gI l (aD l a+i)).kd=1
  ·rw[ni (by omega) (by omega),xO,e1,Int.toNat_natCast,al1 k1]
   unfold pU;rw[if_pos k1];refine⟨rfl,fun _=>?_⟩;have:=htx _ (ahs hlt k1);rw[ByteArray.size_append];omega
  ·have hi0:0<i:=by
    rcases Nat.eq_zero_or_pos i with h0|h0
    ·exact absurd (hfirst h0) k1
    ·exact h0
   have hs1:=e2 hi0;by_cases k3:(gI l (aD l a+i)).kd=3
   ·rw[vR (by omega) k3,e1,ajA k1 (fun q=>by have:=q.1;omega)]
    exact⟨rfl,fun _=>hs1⟩
   ·have k2:(gI l (aD l a+i)).kd=2:=by have h5:(gI l (aD l a+i)).kd=1∨(gI l (aD l a+i)).kd=2∨(gI l (aD l a+i)).kd=3:=hI.kd;omega
    rw[ni (by omega) k3,xO,e1,Int.toNat_natCast];unfold pU;rw[if_neg k1];by_cases hw:0<(gI l (aD l a+i)).wd
    ·rw[if_pos hw,ali ⟨k2,hw,akY hs1⟩]
     refine⟨rfl,fun _=>?_⟩;rw[ByteArray.size_append];omega
    ·rw[if_neg hw,ajA k1 (fun q=>hw q.2.1)]
     exact⟨rfl,fun _=>hs1⟩
theorem afB {l:List It} {tx:LS} {a en:Nat} (hl:aX l=true) (hq:eu l a en=true) (htx:∀k,k<nb l→1≤(tx[k]?.getD .empty).size):liF l tx (l9 l (aD l a) en)=lnT l tx a (en-a):=by
 have hs:=(fP.1 hq).2.2.2.1;have:=(av8 hl hq htx (en-aD l a) (by omega)).1
 rwa[show aD l a+(en-aD l a)=en by omega]at this
theorem aut {ws pats:LS} {k:Nat} (h:k<(txR ws pats).length):1≤((txR ws pats)[k]?.getD .empty).size:=(aW (alE h)).2.1
def bxL (l:List It) (tx:LS) (k:Nat):VL:=((List.range k).filter fun n:Nat=>decide ((gI l n).kd=1)).map fun n:Nat=>(Value.int .i64 (n:Int),Value.string (tx[nbX l n]?.getD .empty))
theorem agw {l:List It} {tx:LS} {k:Nat} (h:(gI l k).kd=1):bxL l tx (k+1)=bxL l tx k++[(.int .i64 (k:Int),.string (tx[nbX l k]?.getD .empty))]:=by simp[bxL,List.range_succ,List.filter_append,h]
theorem al6 {l:List It} {tx:LS} {k:Nat} (h:¬(gI l k).kd=1):bxL l tx (k+1)=bxL l tx k:=by simp[bxL,List.range_succ,List.filter_append,h]
theorem ag6 {l:List It} {tx:LS}:∀{k:Nat},k≤l.length→(bxL l tx k).length=nbX l k
 |0,_=>rfl
 |k+1,h=>by
  have ih:=ag6 (l:=l) (tx:=tx) (k:=k) (by omega);by_cases hk:(gI l k).kd=1
  ·rw[agw hk,List.length_append,ih,aa6 (by omega) hk];rfl
  ·rw[al6 hk,ih,ahy (by omega) hk]
theorem aoB {l:List It} {tx:LS} {k n:Nat} (h:n<k) (hk:(gI l n).kd=1):(Value.int .i64 (n:Int),Value.string (tx[nbX l n]?.getD .empty))∈bxL l tx k:=
 List.mem_map.2 ⟨n,List.mem_filter.2 ⟨List.mem_range.2 h,by simpa using hk⟩,rfl⟩
theorem agB {l:List It} {tx:LS} {k:Nat} {p:Value×Value} (h:p∈bxL l tx k):∃n:Nat,n<k∧p.1=.int .i64 (n:Int):=by obtain⟨n,h1,rfl⟩:=List.mem_map.1 h;exact⟨n,List.mem_range.1 (List.mem_filter.1 h1).1,rfl⟩
theorem aos {l:List It} {tx:LS} {k:Nat}:∀p∈bxL l tx k,p.1≠ .int .i64 (k:Int):=fun p hp e=>by obtain⟨n,h1,h2⟩:=agB hp;rw[h2]at e;simp only[Value.int.injEq,true_and]at e;omega
theorem afQ {l:List It} {tx:LS} (k:Nat):((bxL l tx k).map Prod.fst).Nodup:=by unfold bxL;rw[List.map_map];refine List.Pairwise.map _ (fun a b h=>?_) (List.Pairwise.filter _ List.nodup_range);simp only[Function.comp,ne_eq,Value.int.injEq,true_and];omega
end
end Go.Proofs.YtmmafcjjlbgnkaaGreat
