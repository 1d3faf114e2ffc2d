/- What the proof rests on, part 17: contracts of functions. No condition beyond what each states. -/
import Derived.Test.YtmmafcjjlbgnkaaGreatZBpE16
namespace Go.Proofs.YtmmafcjjlbgnkaaGreat
open Go.RowKit
set_option linter.all false
set_option maxHeartbeats 32000000
noncomputable section
abbrev zN (c:List Nat):List Int:=c.map fun n:Nat=>(n:Int)
theorem as2 {a b:List Nat} (h:zN a=zN b):a=b:=(List.map_inj_right fun x y e=>Int.natCast_inj.1 e).1 h
theorem int_inj {a b:List Int} (h:(a.map fun n=>PV.val (.int .i64 n))=b.map fun n=>PV.val (.int .i64 n)):a=b:=(List.map_inj_right fun x y e=>by simpa using e).1 h
theorem alM {c:List Nat} {k:Nat} (h:k<c.length):(zN c)[k]?.getD 0=((c[k]?.getD 0:Nat):Int):=by rw[List.getElem?_map,List.getElem?_eq_getElem h];rfl
def amm (c:List Nat):Prop:=(∀x∈c,1≤x)∧c.sum≤30
def vH:Fun:=fun ps=>open Classical in if hx:∃c:List Nat,ps=[.lst false 1 ((zN c).map fun n=> .val (.int .i64 n)),.val (.int .i64 1)]∧amm c then some (.lst true 4 ((dF hx.choose).map eu))else none
theorem qO {c:List Nat} (h:amm c):vH [.lst false 1 ((zN c).map fun n=> .val (.int .i64 n)),.val (.int .i64 1)]=some (.lst true 4 ((dF c).map eu)):=by have hx:∃c':List Nat,[PV.lst false 1 ((zN c).map fun n=> .val (.int .i64 n)),.val (.int .i64 1)]=[.lst false 1 ((zN c').map fun n=> .val (.int .i64 n)),.val (.int .i64 1)]∧amm c':=⟨c,rfl,h⟩;unfold vH;rw[dif_pos hx];have e:=hx.choose_spec.1;generalize hx.choose=c' at*;simp only[List.cons.injEq,PV.lst.injEq,true_and,and_true]at e;rw[as2 (int_inj e)]
theorem uZ {ps:List PV} {r:PV} (h:vH ps=some r):∃c:List Nat,ps=[.lst false 1 ((zN c).map fun n=> .val (.int .i64 n)),.val (.int .i64 1)]∧amm c∧r=.lst true 4 ((dF c).map eu):=by
 have h0:=h;unfold vH at h;split at h
 ·rename_i hx
  obtain⟨c,rfl,hc⟩:=hx;rw[qO hc]at h0;exact⟨c,rfl,hc,(Option.some.inj h0).symm⟩
 ·cases h
theorem atj {c:List Nat} (h:amm c):c.length≤30:=by
 have:c.length≤c.sum:=by
  have h1:=h.1;clear h
  induction c with
  |nil=>simp
  |cons x c ih=>have:=ih fun y hy=>h1 y (by simp[hy]);have:=h1 x (by simp);simp only[List.length_cons,List.sum_cons];omega
 have:=h.2;omega
theorem zM {c:List Nat} (h:amm c) {k:Nat} (hk:k<c.length):1≤c[k]?.getD 0∧(dF (c.take k)).length+c[k]?.getD 0≤30:=by have h1:=adJ hk;have h2:=sF c (k+1);rw[nu];refine⟨?_,by have:=h.2;omega⟩;rw[List.getElem?_eq_getElem hk,Option.getD_some];exact h.1 _ (List.getElem_mem hk)
def aut:Ctx:={fn:=aT [(48,φIn)],io:=aT []}
theorem ajH:au Tryz.prog aut:=okΓ (fC Tryz.func48 gB aj) aj
def ajL:=ah (Γ:=aut) (f:=48) (φ:=φIn) rfl
theorem afo:Sound Tryz.prog 25 vH:=by
 refine fU mixed ajH Tryz.func25 rfl 75 rfl [.tmp 4] rfl (by kernel_rfl) fun ps r hr=>?_;obtain⟨c,rfl,hc,rfl⟩:=uZ hr;clear hr;refine⟨by simp,?_⟩;have hcl:=atj hc;have hzl:(zN c).length=c.length:=by simp
 have hza:=fun k h=>alM (c:=c) (k:=k) h;have hpt:=fun k h=>zM hc (k:=k) h;have hrt:=fun k h=>pG (c:=c) (k:=k) h;have hfull:c.take c.length=c:=List.take_length;have h11:inB 1 1 1000=true:=by decide
 have ap:=bJ;clear hc;generalize zN c=C at*;have grwps_c48:=ajL;(refine wlk ?_;intros);refine aF (α:=Nat×Nat×Nat) mixed (fun i=>[(0,.lst false 1 (C.map fun n=> .val (.int .i64 n))),(1,iv 1),(5,.row i.2.1 4 0 (dF (c.take i.1)).length),(6,iv i.1)])
  (fun i=>[(i.2.1,70,4,(dF (c.take i.1)).map eu)]) (fun i=>i.2.2) (fun i=>i.1≤c.length∧i.2.1<i.2.2) (fun i=>c.length-i.1) (by kernel_rfl) (0,0,1) ⟨Nat.zero_le _,by decide⟩ ?_ ?_ rfl ?_
 ·(simp(disch:=(first|omega|(simp only[push_cast];first|done|omega))) only[push_cast,↓reduceIte,Nat.reduceEqDiff,Nat.reduceBEq,Nat.reduceAdd,Nat.reduceSub,Int.reduceToNat,List.length_append, *];try exact congrArg (fun z=>PV.val (Value.int IntKind.i64 z)) (by omega))
  try rfl
 ·simp(disch:=(first|omega|(simp only[push_cast];first|done|omega))) only[push_cast,↓reduceIte,Nat.reduceEqDiff,Nat.reduceBEq,Nat.reduceAdd,Nat.reduceSub,Int.reduceToNat,List.length_append, *]
  try rfl
 rintro⟨k,o,y⟩ ⟨hk,hoy⟩;dsimp only at hk hoy⊢;by_cases hkl:k<c.length
 ·obtain⟨hn1,hn30⟩:=hpt k hkl
  have hzk:=hza k hkl;have hr1:=hrt k hkl;have hin:inB (c[k]?.getD 0:Nat) 1 30=true:=ay.2 ⟨by omega,by omega⟩;clear hpt hza hrt hfull;replace hr1:=Lib.hid hr1;generalize c[k]?.getD 0=n at*;generalize dF (c.take k)=R at*;(refine wlk ?_;intros);refine aF (α:=Nat×Nat×Nat) mixed (fun i=>[(0,.lst false 1 (C.map fun n=> .val (.int .i64 n))),(1,iv 1),(5,.row i.2.1 4 0 (R++kpN n i.1).length),(6,iv k),(7,iv i.1)])
   (fun i=>[(i.2.1,70,4,(R++kpN n i.1).map eu)]) (fun i=>i.2.2) (fun i=>i.1≤n∧i.2.1<i.2.2) (fun i=>n-i.1) (by kernel_rfl) (0,o,_) ⟨Nat.zero_le _,hoy⟩ ?_ ?_ rfl ?_
  ·(try dsimp only)
   rw[iU,List.append_nil];exact agi;try rfl
  ·(try dsimp only)
   rw[iU,List.append_nil];exact agr;try rfl
  rintro⟨j,o2,y2⟩ ⟨hj,hoy2⟩;dsimp only at hj hoy2⊢;have hRl:(R++kpN n j).length=R.length+j:=by rw[List.length_append,ko]
  by_cases hjl:j<n
  ·have hs:(R++kpN n (j+1)).map eu=(R++kpN n j).map eu++[eu (kp n j)]:=by rw[vS,←List.append_assoc,List.map_append];rfl
   have hsl:(R++kpN n (j+1)).length=R.length+j+1:=by rw[List.length_append,ko];omega
   replace hs:=Lib.hid hs;replace hsl:=Lib.hid hsl;have hkt:=fun h=>aul (n:=n) (j:=j) h;have hkf:=fun h=>awM (n:=n) (j:=j) h;replace hkt:=Lib.hid hkt;replace hkf:=Lib.hid hkf;have hml:((R++kpN n j).map eu).length=R.length+j:=by rw[List.length_map,hRl]
   rw[hRl];generalize(R++kpN n j).map eu=Q at*;clear hr1 hRl;(refine wlk6 ?_ ?_ ?_ ?_ ?_ ?_<;>intros<;>try with_reducible exact trivial);all_goals refine⟨(j+1,y2+1,y2+2),⟨by dsimp only;omega,by dsimp only;omega⟩,by dsimp only;omega,?_,?_,rfl⟩
   all_goals first
    |(dsimp only;rw[hsl.out];(simp(disch:=(first|omega|(simp only[push_cast];first|done|omega))) only[push_cast,↓reduceIte,Nat.reduceEqDiff,Nat.reduceBEq,Nat.reduceAdd,Nat.reduceSub,Int.reduceToNat,List.length_append, *];try exact congrArg (fun z=>PV.val (Value.int IntKind.i64 z)) (by omega));done)
    |skip
   all_goals(try dsimp only)
   all_goals rw[hs.out]
   all_goals first
    |rw[hkt.out (by omega)]
    |rw[hkf.out (by omega)]
    |rw[show kp n j=decide ((2:Int)<(n:Int)) by
      rcases Nat.lt_or_ge 2 n with q|q
      ·rw[hkt.out (by omega),decide_eq_true (by omega)]
      ·rw[hkf.out (by omega),decide_eq_false (by omega)]]
    |rw[show kp n j=decide ((1:Int)<(n:Int)) by
      rcases Nat.lt_or_ge 1 n with q|q
      ·rw[hkt.out (by omega),decide_eq_true (by omega)]
      ·rw[hkf.out (by omega),decide_eq_false (by omega)]]
   all_goals(try rw[show decide ((2:Int)<(n:Int))=true from decide_eq_true (by omega)])
   all_goals(try rw[show decide ((1:Int)<(n:Int))=true from decide_eq_true (by omega)])
   all_goals exact agr
  ·obtain rfl:j=n:=by omega
   rw[←hr1.out]at*;(refine wlk ?_;intros);refine⟨(k+1,o2,y2),⟨by dsimp only;omega,hoy2⟩,by dsimp only;omega,?_,?_,rfl⟩
   ·exact agi
   ·exact agr
 ·obtain rfl:k=c.length:=by omega
  rw[hfull];clear hpt hza hrt hfull;generalize dF c=R at*;(refine wlk ?_;intros);all_goals((with_reducible apply bS (by first|exact .inl rfl|exact .inr rfl));(simp(disch:=(first|omega|(simp only[push_cast];first|done|omega))) only[push_cast,↓reduceIte,Nat.reduceEqDiff,Nat.reduceBEq,Nat.reduceAdd,Nat.reduceSub,Int.reduceToNat, *]<;>with_reducible exact rfl))
  all_goals exact PV.le_refl _
def anA:Ctx:={fn:=aT [(43,φIn),(42,pY)],io:=aT []}
theorem alJ:au Tryz.prog anA:=okΓ (fC Tryz.func43 qd (fC Tryz.func42 agu aj)) aj
def akE:=ah (Γ:=anA) (f:=43) (φ:=φIn) rfl
def akc:=ah (Γ:=anA) (f:=42) (φ:=pY) rfl
theorem aeu:Sound Tryz.prog 21 vH:=by
 refine fU mixed alJ Tryz.func21 rfl 52 rfl [.tmp 4] rfl (by kernel_rfl) fun ps r hr=>?_;obtain⟨c,rfl,hc,rfl⟩:=uZ hr;clear hr;refine⟨by simp,?_⟩;have hcl:=atj hc;have hzl:(zN c).length=c.length:=by simp
 have hza:=fun k h=>alM (c:=c) (k:=k) h;have hpt:=fun k h=>zM hc (k:=k) h;have hrt:=fun k h=>pG (c:=c) (k:=k) h;have hfull:c.take c.length=c:=List.take_length;have h11:inB 1 1 1000=true:=by decide
 have ap:=bJ;have ap2:=@sZ;clear hc;generalize zN c=C at*;have grwpi_c43:=akE;have grwpi_c42:=akc;(refine wlk ?_;intros);refine aF (α:=Nat×Nat×Nat) mixed (fun i=>[(1,iv 1),(5,nP 4 ((dF (c.take i.1)).map eu) i.2.1),(12,.lst false 1 (C.map fun n=> .val (.int .i64 n))),(13,iv c.length),(14,iv i.1)])
  (fun i=>nO 70 4 ((dF (c.take i.1)).map eu) i.2.1) (fun i=>i.2.2) (fun i=>i.1≤c.length∧(0<(dF (c.take i.1)).length→i.2.1<i.2.2)) (fun i=>c.length-i.1) (by kernel_rfl) (0,0,0) ⟨Nat.zero_le _,fun h=>absurd h (Nat.lt_irrefl 0)⟩ ?_ ?_ rfl ?_
 ·(try dsimp only)
  rw[show(dF (c.take 0)).map eu=[]from rfl,eG];exact agi
 ·(try dsimp only)
  rw[show(dF (c.take 0)).map eu=[]from rfl,dM];(try trivial)
 rintro⟨k,o,y⟩ ⟨hk,hoy⟩;dsimp only at hk hoy⊢;by_cases hkl:k<c.length
 ·obtain⟨hn1,hn30⟩:=hpt k hkl
  have hzk:=hza k hkl;have hr1:=hrt k hkl;have hin:inB (c[k]?.getD 0:Nat) 1 (30-((dF (c.take k)).length:Int))=true:=ay.2 ⟨by omega,by omega⟩;have hin0:(dF (c.take k)).length=0→inB (c[k]?.getD 0:Nat) 1 30=true:=fun h=>ay.2 ⟨by omega,by omega⟩;clear hpt hza hrt hfull;replace hr1:=Lib.hid hr1;generalize c[k]?.getD 0=n at*;generalize dF (c.take k)=R at*;by_cases hR0:R.length=0
  ·obtain rfl:R=[]:=List.eq_nil_of_length_eq_zero hR0
   have hin1:=hin0 rfl;have hin2:inB (n:Int) 1 (30-0)=true:=hin1;clear hin;rw[List.map_nil,eG,dM];(refine wlk ?_;intros);refine aF (α:=Nat×Nat×Nat) mixed (fun i=>[(1,iv 1),(5,nP 4 (([]++kpN n i.1).map eu) i.2.1),(7,iv n),(12,.lst false 1 (C.map fun n=> .val (.int .i64 n))),(13,iv c.length),(14,iv k),(24,iv n),(25,iv i.1)])
    (fun i=>nO 70 4 (([]++kpN n i.1).map eu) i.2.1) (fun i=>i.2.2) (fun i=>i.1≤n∧(0<([]++kpN n i.1).length→i.2.1<i.2.2)) (fun i=>n-i.1) (by kernel_rfl) (0,o,_) ⟨Nat.zero_le _,by rw[iU,List.append_nil];exact hoy⟩ ?_ ?_ rfl ?_
   ·(try dsimp only)
    rw[iU,List.append_nil];(try rw[aA (es:=([]:List Bool).map eu) (by rw[List.length_map];omega)]);exact agi;try rfl
   ·(try dsimp only)
    rw[iU,List.append_nil];(try rw[aD (es:=([]:List Bool).map eu) (by rw[List.length_map];omega)]);(try simp only[List.map_nil,dM]);first
     |trivial
     |(simp(disch:=(first|omega|(simp only[push_cast];first|done|omega))) only[push_cast,↓reduceIte,Nat.reduceEqDiff,Nat.reduceBEq,Nat.reduceAdd,Nat.reduceSub,Int.reduceToNat,List.length_append, *];done)
     |(simp(disch:=(first|omega|(simp only[push_cast];first|done|omega))) only[push_cast,↓reduceIte,Nat.reduceEqDiff,Nat.reduceBEq,Nat.reduceAdd,Nat.reduceSub,Int.reduceToNat,List.length_append, *];rfl)
   rintro⟨j,o2,y2⟩ ⟨hj,hoy2⟩;dsimp only at hj hoy2⊢;have hRl:([]++kpN n j).length=([]:List Bool).length+j:=by rw[List.length_append,ko]
   by_cases hjl:j<n
   ·have hs:([]++kpN n (j+1)).map eu=([]++kpN n j).map eu++[eu (kp n j)]:=by rw[vS,←List.append_assoc,List.map_append];rfl
    have hsl:([]++kpN n (j+1)).length=([]:List Bool).length+j+1:=by rw[List.length_append,ko];omega
    replace hs:=Lib.hid hs;replace hsl:=Lib.hid hsl;have hkt:=fun h=>aul (n:=n) (j:=j) h;have hkf:=fun h=>awM (n:=n) (j:=j) h;replace hkt:=Lib.hid hkt;replace hkf:=Lib.hid hkf;have hml:(([]++kpN n j).map eu).length=([]:List Bool).length+j:=by rw[List.length_map,hRl]
    rw[hRl]at hoy2;generalize([]++kpN n j).map eu=Q at*;clear hr1 hRl;by_cases hQ0:Q.length=0
    ·obtain rfl:Q=[]:=List.eq_nil_of_length_eq_zero hQ0
     rw[eG,dM];clear hQ0 hml;(refine wlk6 ?_ ?_ ?_ ?_ ?_ ?_<;>intros<;>try with_reducible exact trivial);all_goals refine⟨(j+1,y2+1,y2+2),⟨by dsimp only;omega,fun _=>by dsimp only;omega⟩,by dsimp only;omega,?_,?_,rfl⟩
     all_goals(try dsimp only)
     all_goals rw[hs.out,List.nil_append]
     all_goals first
      |rw[hkt.out (by omega)]
      |rw[hkf.out (by omega)]
      |rw[show kp n j=decide ((n:Int)≥3) by
        rcases Nat.lt_or_ge 2 n with q|q
        ·rw[hkt.out (by omega),decide_eq_true (by omega)]
        ·rw[hkf.out (by omega),decide_eq_false (by omega)]]
      |rw[show kp n j=decide ((n:Int)≥2) by
        rcases Nat.lt_or_ge 1 n with q|q
        ·rw[hkt.out (by omega),decide_eq_true (by omega)]
        ·rw[hkf.out (by omega),decide_eq_false (by omega)]]
     all_goals(try rw[show decide ((n:Int)≥3)=true from decide_eq_true (by omega)])
     all_goals(try rw[show decide ((n:Int)≥2)=true from decide_eq_true (by omega)])
     all_goals(try rw[aA (by simp)])
     all_goals(try rw[aD (by simp)])
     all_goals exact agi
    ·have hoy3:=hoy2 (by omega)
     rw[aA (es:=Q) (by omega),aD (es:=Q) (by omega)];rw[hml];(refine wlk6 ?_ ?_ ?_ ?_ ?_ ?_<;>intros<;>try with_reducible exact trivial);all_goals refine⟨(j+1,y2+1,y2+2),⟨by dsimp only;omega,fun _=>by dsimp only;omega⟩,by dsimp only;omega,?_,?_,rfl⟩
     all_goals(try dsimp only)
     all_goals rw[hs.out]
     all_goals first
      |rw[hkt.out (by omega)]
      |rw[hkf.out (by omega)]
      |rw[show kp n j=decide ((n:Int)≥3) by
        rcases Nat.lt_or_ge 2 n with q|q
        ·rw[hkt.out (by omega),decide_eq_true (by omega)]
        ·rw[hkf.out (by omega),decide_eq_false (by omega)]]
      |rw[show kp n j=decide ((n:Int)≥2) by
        rcases Nat.lt_or_ge 1 n with q|q
        ·rw[hkt.out (by omega),decide_eq_true (by omega)]
        ·rw[hkf.out (by omega),decide_eq_false (by omega)]]
     all_goals(try rw[show decide ((n:Int)≥3)=true from decide_eq_true (by omega)])
     all_goals(try rw[show decide ((n:Int)≥2)=true from decide_eq_true (by omega)])
     all_goals(try rw[aA (by simp)])
     all_goals(try rw[aD (by simp)])
     all_goals exact agi
   ·obtain rfl:j=n:=by omega
    rw[←hr1.out]at*;have hoy3:=hoy2 (by omega);rw[aA (es:=(dF (c.take (k+1))).map eu) (by rw[List.length_map];omega),aD (es:=(dF (c.take (k+1))).map eu) (by rw[List.length_map];omega)];rw[List.length_map];clear hr1;(refine wlk ?_;intros);refine⟨(k+1,o2,y2),⟨by dsimp only;omega,hoy2⟩,by dsimp only;omega,?_,?_,rfl⟩
    ·(try dsimp only)
     rw[aA (es:=(dF (c.take (k+1))).map eu) (by rw[List.length_map];omega)];exact agi
    ·(try dsimp only)
     rw[aD (es:=(dF (c.take (k+1))).map eu) (by rw[List.length_map];omega)];exact agr
  ·have hoy1:=hoy (by omega)
   rw[aA (es:=R.map eu) (by rw[List.length_map];omega),aD (es:=R.map eu) (by rw[List.length_map];omega)];rw[List.length_map];(refine wlk ?_;intros);refine aF (α:=Nat×Nat×Nat) mixed (fun i=>[(1,iv 1),(5,nP 4 ((R++kpN n i.1).map eu) i.2.1),(7,iv n),(12,.lst false 1 (C.map fun n=> .val (.int .i64 n))),(13,iv c.length),(14,iv k),(24,iv n),(25,iv i.1)])
    (fun i=>nO 70 4 ((R++kpN n i.1).map eu) i.2.1) (fun i=>i.2.2) (fun i=>i.1≤n∧(0<(R++kpN n i.1).length→i.2.1<i.2.2)) (fun i=>n-i.1) (by kernel_rfl) (0,o,_) ⟨Nat.zero_le _,by rw[iU,List.append_nil];exact hoy⟩ ?_ ?_ rfl ?_
   ·(try dsimp only)
    rw[iU,List.append_nil];(try rw[aA (es:=R.map eu) (by rw[List.length_map];omega)]);exact agi;try rfl
   ·(try dsimp only)
    rw[iU,List.append_nil];(try rw[aD (es:=R.map eu) (by rw[List.length_map];omega)]);(try simp only[List.map_nil,dM]);first
     |trivial
     |(simp(disch:=(first|omega|(simp only[push_cast];first|done|omega))) only[push_cast,↓reduceIte,Nat.reduceEqDiff,Nat.reduceBEq,Nat.reduceAdd,Nat.reduceSub,Int.reduceToNat,List.length_append, *];done)
     |(simp(disch:=(first|omega|(simp only[push_cast];first|done|omega))) only[push_cast,↓reduceIte,Nat.reduceEqDiff,Nat.reduceBEq,Nat.reduceAdd,Nat.reduceSub,Int.reduceToNat,List.length_append, *];rfl)
   rintro⟨j,o2,y2⟩ ⟨hj,hoy2⟩;dsimp only at hj hoy2⊢;have hRl:(R++kpN n j).length=R.length+j:=by rw[List.length_append,ko]
   by_cases hjl:j<n
   ·have hs:(R++kpN n (j+1)).map eu=(R++kpN n j).map eu++[eu (kp n j)]:=by rw[vS,←List.append_assoc,List.map_append];rfl
    have hsl:(R++kpN n (j+1)).length=R.length+j+1:=by rw[List.length_append,ko];omega
    replace hs:=Lib.hid hs;replace hsl:=Lib.hid hsl;have hkt:=fun h=>aul (n:=n) (j:=j) h;have hkf:=fun h=>awM (n:=n) (j:=j) h;replace hkt:=Lib.hid hkt;replace hkf:=Lib.hid hkf;have hml:((R++kpN n j).map eu).length=R.length+j:=by rw[List.length_map,hRl]
    rw[hRl]at hoy2;generalize(R++kpN n j).map eu=Q at*;clear hr1 hRl;by_cases hQ0:Q.length=0
    ·obtain rfl:Q=[]:=List.eq_nil_of_length_eq_zero hQ0
     rw[eG,dM];clear hQ0 hml;(refine wlk6 ?_ ?_ ?_ ?_ ?_ ?_<;>intros<;>try with_reducible exact trivial);all_goals refine⟨(j+1,y2+1,y2+2),⟨by dsimp only;omega,fun _=>by dsimp only;omega⟩,by dsimp only;omega,?_,?_,rfl⟩
     all_goals(try dsimp only)
     all_goals rw[hs.out,List.nil_append]
     all_goals first
      |rw[hkt.out (by omega)]
      |rw[hkf.out (by omega)]
      |rw[show kp n j=decide ((n:Int)≥3) by
        rcases Nat.lt_or_ge 2 n with q|q
        ·rw[hkt.out (by omega),decide_eq_true (by omega)]
        ·rw[hkf.out (by omega),decide_eq_false (by omega)]]
      |rw[show kp n j=decide ((n:Int)≥2) by
        rcases Nat.lt_or_ge 1 n with q|q
        ·rw[hkt.out (by omega),decide_eq_true (by omega)]
        ·rw[hkf.out (by omega),decide_eq_false (by omega)]]
     all_goals(try rw[show decide ((n:Int)≥3)=true from decide_eq_true (by omega)])
     all_goals(try rw[show decide ((n:Int)≥2)=true from decide_eq_true (by omega)])
     all_goals(try rw[aA (by simp)])
     all_goals(try rw[aD (by simp)])
     all_goals exact agi
    ·have hoy3:=hoy2 (by omega)
     rw[aA (es:=Q) (by omega),aD (es:=Q) (by omega)];rw[hml];(refine wlk6 ?_ ?_ ?_ ?_ ?_ ?_<;>intros<;>try with_reducible exact trivial);all_goals refine⟨(j+1,y2+1,y2+2),⟨by dsimp only;omega,fun _=>by dsimp only;omega⟩,by dsimp only;omega,?_,?_,rfl⟩
     all_goals(try dsimp only)
     all_goals rw[hs.out]
     all_goals first
      |rw[hkt.out (by omega)]
      |rw[hkf.out (by omega)]
      |rw[show kp n j=decide ((n:Int)≥3) by
        rcases Nat.lt_or_ge 2 n with q|q
        ·rw[hkt.out (by omega),decide_eq_true (by omega)]
        ·rw[hkf.out (by omega),decide_eq_false (by omega)]]
      |rw[show kp n j=decide ((n:Int)≥2) by
        rcases Nat.lt_or_ge 1 n with q|q
        ·rw[hkt.out (by omega),decide_eq_true (by omega)]
        ·rw[hkf.out (by omega),decide_eq_false (by omega)]]
     all_goals(try rw[show decide ((n:Int)≥3)=true from decide_eq_true (by omega)])
     all_goals(try rw[show decide ((n:Int)≥2)=true from decide_eq_true (by omega)])
     all_goals(try rw[aA (by simp)])
     all_goals(try rw[aD (by simp)])
     all_goals exact agi
   ·obtain rfl:j=n:=by omega
    rw[←hr1.out]at*;have hoy3:=hoy2 (by omega);rw[aA (es:=(dF (c.take (k+1))).map eu) (by rw[List.length_map];omega),aD (es:=(dF (c.take (k+1))).map eu) (by rw[List.length_map];omega)];rw[List.length_map];clear hr1;(refine wlk ?_;intros);refine⟨(k+1,o2,y2),⟨by dsimp only;omega,hoy2⟩,by dsimp only;omega,?_,?_,rfl⟩
    ·(try dsimp only)
     rw[aA (es:=(dF (c.take (k+1))).map eu) (by rw[List.length_map];omega)];exact agi
    ·(try dsimp only)
     rw[aD (es:=(dF (c.take (k+1))).map eu) (by rw[List.length_map];omega)];exact agr
 ·obtain rfl:k=c.length:=by omega
  rw[hfull]at*;clear hpt hza hrt hfull;generalize dF c=R at*;by_cases hR0:R.length=0
  ·obtain rfl:R=[]:=List.eq_nil_of_length_eq_zero hR0
   rw[List.map_nil,eG,dM];(refine wlk ?_;intros);all_goals((with_reducible apply bS (by first|exact .inl rfl|exact .inr rfl));(simp(disch:=(first|omega|(simp only[push_cast];first|done|omega))) only[push_cast,↓reduceIte,Nat.reduceEqDiff,Nat.reduceBEq,Nat.reduceAdd,Nat.reduceSub,Int.reduceToNat, *]<;>with_reducible exact rfl))
   all_goals exact nil_le _ _
  ·have hoy1:=hoy (by omega)
   rw[aA (es:=R.map eu) (by rw[List.length_map];omega),aD (es:=R.map eu) (by rw[List.length_map];omega)];rw[List.length_map];(refine wlk ?_;intros);all_goals((with_reducible apply bS (by first|exact .inl rfl|exact .inr rfl));(simp(disch:=(first|omega|(simp only[push_cast];first|done|omega))) only[push_cast,↓reduceIte,Nat.reduceEqDiff,Nat.reduceBEq,Nat.reduceAdd,Nat.reduceSub,Int.reduceToNat, *]<;>with_reducible exact rfl))
   all_goals exact PV.le_refl _
abbrev jG (x:LS):PV:=.lst true 1 (x.map fun s=> .val (.string s))
abbrev arQ (x:LS):PV:=.lst false 1 (x.map fun s=> .val (.string s))
theorem ahc {l:List LS} {k:Nat} (h:k<l.length):(l.take (k+1)).map jG=(l.take k).map jG++[jG (l[k]?.getD [])]:=by rw[List.take_succ_eq_append_getElem h,List.map_append,List.getElem?_eq_getElem h,Option.getD_some];rfl
def φOr:Fun:=F1 (dL 1 dSs) fun l=>open Classical in if l.length≤1048576∧∀i:Nat,lX (l[i]?.getD [])then some (.lst true 1 (l.map jG))else none
theorem aoz {l:List LS} (h:l.length≤1048576) (h2:∀i:Nat,lX (l[i]?.getD [])):φOr [.lst false 1 (l.map fun p=> .lst false 1 (p.map fun s=> .val (.string s)))]=some (.lst true 1 (l.map jG)):=(fM (A:=dL 1 dSs) l).trans (if_pos ⟨h,h2⟩)
theorem aeB:Sound Tryz.prog 44 φOr:=by
 refine HZ.sound (N:=22) (rs:=[.tmp 2]) Tryz.func44 rfl rfl rfl fun ps r hr=>?_;obtain⟨l,rfl,hq⟩:=bG hr;clear hr;split at hq
 case isFalse=>cases hq
 case isTrue hpre=>
 cases hq;obtain⟨hlen,hall⟩:=hpre;refine⟨by simp,fun B w00=>HZ.start ?_⟩;simp only[dIs,dUs,dSs,bR,bV,bT,bU,aI,bW,aL,aO,aH,aJ];show HZ _ _ _ _ _ _ ⟨(bM [.lst false 1 (l.map arQ)]).tm,fun _=>none,0⟩ _;refine HZ.seq (HZ.eng mixed bL (by kernel_rfl) ?_);(try dsimp only);(refine wlk ?_;intros);refine HZ.seq (HZ.eng mixed bL (by kernel_rfl) ?_);(try dsimp only);(refine wlk ?_;intros);refine HZ.seq (HZ.seq (HZ.eng mixed bL (by kernel_rfl) ?_));(try dsimp only);(refine wlk ?_;intros);(try dsimp only);refine HZ.block (HZ.xW (α:=Nat×Nat×Nat) (fun i=>[(0,.lst false 1 (l.map arQ)),(3,.row i.2.1 1 0 i.1),(4,iv i.1)]) (fun i=>[(i.2.1,24,1,(l.take i.1).map jG)]) (fun i=>i.2.2)
  (fun i σ=>(i.1≤l.length∧i.2.1<i.2.2)∧σ=Fgn.no) (fun i=>l.length-i.1) (0,0,1) ⟨⟨Nat.zero_le _,by decide⟩,rfl⟩ ?_ ?_ rfl ?_)
 ·(try dsimp only)
  exact agr;try rfl
 ·(try dsimp only)
  exact agr;try rfl
 rintro⟨k,o,y⟩ σ ⟨⟨hk,hoy⟩,rfl⟩;dsimp only at hk hoy;by_cases hkl:k<l.length
 ·have hok:=hall k
  have ht:=ahc hkl;have htl:((l.take k).map jG).length=k:=by rw[List.length_map,List.length_take];omega
  replace ht:=Lib.hid ht;refine HZ.seq (HZ.eng mixed bL (by kernel_rfl) ?_);(try dsimp only);(refine wlk ?_;intros);(try dsimp only);generalize(l.take k).map jG=R at*;refine HZ.seq (HZ.block (HZ.eng mixed bL (by kernel_rfl) ?_));(try dsimp only);clear hall;(refine wlk ?_;intros);(try dsimp only[X.out]);refine HZ.vP (o:=y+1) (x:=y+3) (T:=9) (sz:=1) (T2:=24) (sz2:=1) (n:=(l[k]?.getD []).length) (es:=(l[k]?.getD []).map fun s=> .val (.string s)) (l:=R) (by(simp(disch:=(first|omega|(simp only[push_cast];first|done|omega))) only[push_cast,↓reduceIte,Nat.reduceEqDiff,Nat.reduceBEq,Nat.reduceAdd,Nat.reduceSub,Int.reduceToNat, *]<;>with_reducible exact rfl)) (by(simp(disch:=(first|omega|(simp only[push_cast];first|done|omega))) only[push_cast,↓reduceIte,Nat.reduceEqDiff,Nat.reduceBEq,Nat.reduceAdd,Nat.reduceSub,Int.reduceToNat, *]<;>with_reducible exact rfl)) (by simp) (by omega) ?_;refine HZ.eng mixed bL (by kernel_rfl) ?_;(try dsimp only);(refine wlk ?_;intros);(try dsimp only);refine⟨(k+1,y+3,y+4),⟨⟨by dsimp only;omega,by dsimp only;omega⟩,rfl⟩,by dsimp only;omega,?_,?_,rfl⟩
  ·(try dsimp only)
   exact agi
  ·(try dsimp only)
   rw[ht.out];exact agr
 ·obtain rfl:k=l.length:=by omega
  rw[List.take_length];refine HZ.seq (HZ.eng mixed bL (by kernel_rfl) ?_);(try dsimp only);clear hall;(refine wlk ?_;intros);(try simp only[X.out,↓reduceIte]);refine HZ.eng mixed bL (by kernel_rfl) ?_;(try dsimp only);(refine wlk ?_;intros);(try dsimp only);refine⟨.inr rfl,⟨_,fun g w v h=>h,by(simp(disch:=(first|omega|(simp only[push_cast];first|done|omega))) only[push_cast,↓reduceIte,Nat.reduceEqDiff,Nat.reduceBEq,Nat.reduceAdd,Nat.reduceSub,Int.reduceToNat, *]<;>with_reducible exact rfl)⟩,fun i e=>False.elim e⟩
def φOb:Fun:=F1 iY fun b=>if acP b.1 b.2.1 then some (.agg [.lst true 1 (b.1.map jG),.lst true 1 (b.2.1.map fun s=> .val (.string s)),.val (.int .i64 b.2.2.1),.val (.int .i64 b.2.2.2.1),.val (.int .i64 b.2.2.2.2)])else none
theorem apB {p:List LS} {q:LS} {x y z:Int} (h:acP p q):φOb [.agg [.lst false 1 (p.map fun p=> .lst false 1 (p.map fun s=> .val (.string s))),.lst false 1 (q.map fun s=> .val (.string s)),.val (.int .i64 x),.val (.int .i64 y),.val (.int .i64 z)]]=some (.agg [.lst true 1 (p.map jG),.lst true 1 (q.map fun s=> .val (.string s)),.val (.int .i64 x),.val (.int .i64 y),.val (.int .i64 z)]):=
 (fM (A:=iY) (p,q,x,y,z)).trans (if_pos h)
def GOb:Ctx:={fn:=aT [(44,φOr)],io:=aT []}
theorem atX:au Tryz.prog GOb:=okΓ (fC Tryz.func44 aeB aj) aj
def avf:=ah (Γ:=GOb) (f:=44) (φ:=φOr) rfl
theorem aeF:Sound Tryz.prog 22 φOb:=by refine ak mixed atX Tryz.func22 rfl 15 rfl [.cell 2 26] rfl (by kernel_rfl) fun ps r hr=>?_;obtain⟨⟨p,q,x,y,z⟩,rfl,hpre,rfl⟩:=kW hr;refine⟨by simp,?_⟩;simp only[dIs,dUs,dSs,bR,bV,bT,bU,aI,bW,aL,aO,aH,aJ];(try dsimp only at hpre⊢);obtain⟨hlen,hall,hoq⟩:=hpre;have ap:=aoz hlen hall;clear hall;have gob_c44:=avf;exact wlkF
def oV (p:List LS) (q:LS) (x y:Int):List Nat:=p.map fun w=>(lT w q x y).length
theorem ala (p:List LS) (q:LS) (x y:Int):(oV p q x y).length=p.length:=by unfold oV;rw[List.length_map]
theorem ah5 {p:List LS} {q:LS} {x y:Int} {k:Nat} (hk:k<(oV p q x y).length):(oV p q x y)[k]=(lT (p[k]?.getD []) q x y).length:=by
 have hp:k<p.length:=by rw[←ala p q x y];exact hk
 have h0:(oV p q x y)[k]?=some (lT (p[k]?.getD []) q x y).length:=by unfold oV;rw[List.getElem?_map,List.getElem?_eq_getElem hp];rfl
 rw[List.getElem?_eq_getElem hk]at h0;exact Option.some.inj h0
theorem ags (p:List LS) (q:LS) (x y:Int):∀k,k≤p.length→bcK p q x y k=zN ((oV p q x y).take k)
 |0,_=>rfl
 |k+1,h=>by
  have hk:k<(oV p q x y).length:=by unfold oV;rw[List.length_map];omega
  rw[bcK,ags p q x y k (by omega),List.take_succ_eq_append_getElem hk];unfold zN;rw[List.map_append,ah5 hk];rfl
theorem ajY (p:List LS) (q:LS) (x y:Int):bcK p q x y p.length=zN (oV p q x y):=by rw[ags p q x y p.length (Nat.le_refl _),List.take_of_length_le (by unfold oV;rw[List.length_map];exact Nat.le_refl _)]
theorem ahq (p:List LS) (q:LS) (x y:Int):∀k,k≤p.length→(blK p q x y k).length=((oV p q x y).take k).sum
 |0,_=>rfl
 |k+1,h=>by
  have hk:k<(oV p q x y).length:=by unfold oV;rw[List.length_map];omega
  rw[blK,List.length_append,ahq p q x y k (by omega),adJ hk];rw[List.getElem?_eq_getElem hk,Option.getD_some,ah5 hk]
theorem aku (p:List LS) (q:LS) (x y:Int):(blK p q x y p.length).length=(oV p q x y).sum:=by rw[ahq p q x y p.length (Nat.le_refl _),List.take_of_length_le (by unfold oV;rw[List.length_map];exact Nat.le_refl _)]
def jd (p:List LS) (q:LS) (x y:Int):List Bool:=dF (oV p q x y)
def bpB (p:List LS) (q:LS) (x y z:Int):Bool:=blB p q x y z&&(decide ((blL p q x y z).length≤30)&&yw (jd p q x y) z.toNat)
def bpV (p:List LS) (q:LS) (x y z:Int):List LS:=if bpB p q x y z=true then mJ (blL p q x y z) 0 (jh (jd p q x y) z.toNat)else []
theorem acr {p:List LS} {q:LS} {x y z:Int} (h:blB p q x y z=true) (h30:(blL p q x y z).length≤30):amm (oV p q x y)∧blC p q x y z=zN (oV p q x y)∧(jd p q x y).length=(blL p q x y z).length∧1≤z∧z≤30:=by
 have hL:blL p q x y z=blK p q x y p.length:=if_pos h;have hC:blC p q x y z=bcK p q x y p.length:=if_pos h;have hs:=aku p q x y;refine⟨⟨fun m hm=>?_,by rw[←hs,←hL];exact h30⟩,by rw[hC];exact ajY p q x y,by unfold jd;rw[nu,hL,hs],?_⟩
 ·unfold oV at hm
  obtain⟨w,hw,rfl⟩:=List.mem_map.1 hm;refine ab4 ?_;unfold blB at h;rw[Bool.and_eq_true]at h;exact List.all_eq_true.1 h.2 w hw
 ·unfold blB iE at h
  simp only[Bool.and_eq_true]at h;exact ay.1 h.1.2.2.2.2.2
def φBp:Fun:=F1 iY fun b=>if acP b.1 b.2.1 then some (.tup [.lst true 1 ((bpV b.1 b.2.1 b.2.2.1 b.2.2.2.1 b.2.2.2.2).map jG),bv (bpB b.1 b.2.1 b.2.2.1 b.2.2.2.1 b.2.2.2.2)])else none
theorem aqb {p:List LS} {q:LS} {x y z:Int} (h:acP p q):φBp [.agg [.lst false 1 (p.map fun p=> .lst false 1 (p.map fun s=> .val (.string s))),.lst false 1 (q.map fun s=> .val (.string s)),.val (.int .i64 x),.val (.int .i64 y),.val (.int .i64 z)]]=some (.tup [.lst true 1 ((bpV p q x y z).map jG),.val (.bool (bpB p q x y z))]):=
 (fM (A:=iY) (p,q,x,y,z)).trans (if_pos h)
def pF (e:List Nat) (k:Nat):Nat:=((e.take k).getLast?).getD 0
theorem rC {e:List Nat} {k:Nat} (h:k<e.length):pF e (k+1)=e[k]?.getD 0:=by unfold pF;rw[List.take_succ_eq_append_getElem h,List.getLast?_append,List.getElem?_eq_getElem h];simp
theorem ab7 {α:Type} {l:List α} {e:List Nat} {k:Nat} (h:k<e.length):mJ l 0 (e.take (k+1))=mJ l 0 (e.take k)++[(l.drop (pF e k)).take (e[k]?.getD 0-pF e k)]:=by rw[List.take_succ_eq_append_getElem h,acT,List.getElem?_eq_getElem h,Option.getD_some];rfl
theorem auG:∀{ks:List Bool} {h p:Nat} {r:List Nat},ChP ks h p r→∀k,k<r.length→(if k=0 then p else r[k-1]?.getD 0)<r[k]?.getD 0∧r[k]?.getD 0≤ks.length
 |ks,h,p,[],_,k,hk=>by simp at hk
 |ks,h,p,q::r,hc,0,_=>⟨hc.1.1,hc.1.2.1⟩
 |ks,h,p,q::r,hc,k+1,hk=>by
  have:=auG hc.2 k (by simpa using hk);rw[if_neg (by omega)];cases k with
  |zero=>simpa using this
  |succ k=>simpa using this
theorem abd {ks:List Bool} {h:Nat} {e:List Nat} (hc:ChP ks h 0 e) {k:Nat} (hk:k<e.length):pF e k<e[k]?.getD 0∧e[k]?.getD 0≤ks.length:=by
 have:=auG hc k hk;cases k with
 |zero=>exact this
 |succ k=>rw[rC (by omega)];simpa using this
theorem ajt {p:List LS} {q:LS} {x y z:Int} (h:bpB p q x y z=false):bpV p q x y z=[]:=if_neg (by rw[h];decide)
theorem anD {p:List LS} {q:LS} {x y z:Int} (h:(blL p q x y z).length=0):bpV p q x y z=[]:=by
 unfold bpV;split
 ·rename_i hb
  unfold bpB at hb;rw[Bool.and_eq_true,Bool.and_eq_true]at hb;have hc:=acr hb.1 (of_decide_eq_true hb.2.1);have hl:=rM (uH hb.2.2);have he:(jh (jd p q x y) z.toNat).length=0:=by have:=hc.2.2.1;omega
  rw[List.eq_nil_of_length_eq_zero he];rfl
 ·rfl
theorem ajG {q:LS} {x y z:Int} (h:blB [] q x y z=true):bpB [] q x y z=true∧yw [] z.toNat=true∧jh [] z.toNat=[]:=by
 have h1:yw [] z.toNat=true:=rfl;have hL:(blL [] q x y z).length=0:=by unfold blL;rw[if_pos h];rfl
 refine⟨?_,h1,?_⟩
 ·unfold bpB
  rw[h,hL,show jd [] q x y=[]from rfl,h1];rfl
 ·unfold jh
  rw[if_pos h1];rfl
def acV:Fun:=axq 1 vH
theorem ajb {c:List Nat} (h:amm c):acV [.lst false 1 ((zN c).map fun n=> .val (.int .i64 n)),.val (.int .i64 1)]=some (.lst true 4 ((dF c).map eu)):=qO h
theorem aen:acV [.val (.slice none 0 0),.val (.int .i64 1)]=some (.lst true 4 []):=qO (c:=[]) ⟨by simp,by decide⟩
abbrev bkP (p:List LS) (q:LS) (x y z:Int):PV:=.agg [.lst false 1 (p.map fun p=> .lst false 1 (p.map fun s=> .val (.string s))),.lst false 1 (q.map fun s=> .val (.string s)),.val (.int .i64 x),.val (.int .i64 y),.val (.int .i64 z)]
theorem adl (vs:List Value) (u:Value):vs.map PV.val++[PV.val u]=(vs++[u]).map PV.val:=by rw[List.map_append];rfl
def avn:Ctx:={fn:=aT [(10,afV),(21,acV),(20,tZ)],io:=aT []}
theorem bH:au Tryz.prog avn:=okΓ (fC Tryz.func10 ahu (fC Tryz.func21 (aeu.nil 1) (fC Tryz.func20 aff aj))) aj
def rT:=ah (Γ:=avn) (f:=10) (φ:=afV) rfl
def qX:=ah (Γ:=avn) (f:=21) (φ:=acV) rfl
def rV:=ah (Γ:=avn) (f:=20) (φ:=tZ) rfl
def BpQ (T1 T2:Nat) (L:List LS) (b:Bool) (p':PV) (σ':Fgn):Prop:=∃v vs,p'=.tup [.val v,bv b]∧(∀w,σ'.at_ w→iM T1 T2 v vs L w)∧∀i,mI v vs i→σ'.bk i
theorem zf {p:List LS} {q:LS} {x y z:Int} {w:World} {Jm:Nat→Prop} {args:Array Value} (hpre:acP p q) (hJ:∀b,Jm b→b<w.heap.size) (hT:jv w fun _=>False) (hargs:bI (kG Jm) w [bkP p q x y z] args.toList):
 Calls Tryz.prog 6 args w fun e w'=>∃v vs,e=.returned (.tuple #[v,.bool (bpB p q x y z)])∧Fr (fun _=>False) w w'∧iM 24 9 v vs (bpV p q x y z) w'∧∀i,mI v vs i→w.heap.size≤i:=by
 have hc:=HZ.calls (σ:=Fgn.no) (N:=52) (rs:=[.tmp 2,.tmp 3]) (ps:=[bkP p q x y z]) Tryz.func6 rfl rfl rfl (fun b e=>False.elim e) trivial hT hJ (fun b _ e=>e) hargs (by show 1≤_;decide) (BpQ 24 9 (bpV p q x y z) (bpB p q x y z)) ?_
 ·refine hc.mono ?_
  rintro e w' ⟨v0,σ',P',g,rfl,⟨v,vs,rfl,h1,h2⟩,hr,hf,hb,ha⟩;simp only[Rep,bI]at hr;obtain⟨l,rfl,v1,l1,h3,rfl,v2,l2,rfl,rfl,rfl⟩:=hr;refine⟨_,vs,?_,hf,h1 w' ha,fun i hi=>((hb i (h2 i hi)).2).elim (fun e=>False.elim e) id⟩;obtain⟨ll⟩:=l;simp only at h3;rw[h3]
 refine HZ.start ?_;show HZ _ _ _ _ _ _ ⟨(bM [bkP p q x y z]).tm,fun _=>none,0⟩ _;by_cases h0:(blL p q x y z).length=0
 ·have ap1:=ajD hpre h0
  obtain⟨hc0,hp0⟩:=alK h0;rw[anD h0];clear hpre h0 hc0;cases hB:blB p q x y z with
  |false=>
   rw[hB]at ap1;have hb:bpB p q x y z=false:=by unfold bpB;rw[hB];rfl
   rw[hb];clear hp0 hB hb hargs hT hJ;have gbhi_c10:=rT;have gbhi_c21:=qX;have gbhi_c20:=rV;refine HZ.eng mixed bH (by kernel_rfl) ?_;(try dsimp only);(refine wlk ?_;intros);(try dsimp only);refine⟨.inr rfl,⟨_,by(simp(disch:=(first|omega|(simp only[push_cast];first|done|omega))) only[push_cast,↓reduceIte,Nat.reduceEqDiff,Nat.reduceBEq,Nat.reduceAdd,Nat.reduceSub,Int.reduceToNat, *]<;>with_reducible exact rfl),yx,[],rfl,fun w _=>iM.none,fun i hi=>absurd hi oz⟩,fun i e=>False.elim e⟩
  |true=>
   obtain rfl:=hp0 hB;obtain⟨e1,e2,e3⟩:=ajG hB;rw[hB]at ap1;have hz:1≤z∧z≤30:=by unfold blB iE at hB;simp only[Bool.and_eq_true]at hB;exact ay.1 hB.1.2.2.2.2.2
   have hzz:((z.toNat:Nat):Int)=z:=by omega
   have ap2:=aen;have ap3:=qM (ks:=[]) (h:=z.toNat) (by decide) (by omega) (by omega);rw[e2,e3,hzz,List.map_nil,List.map_nil]at ap3;rw[e1];simp only[List.map_nil]at ap1;clear hp0 hB e1 e2 e3 hzz hargs hT hJ;have gbhi_c10:=rT;have gbhi_c21:=qX;have gbhi_c20:=rV;refine HZ.eng mixed bH (by kernel_rfl) ?_;(try dsimp only);(refine wlk ?_;intros);(try dsimp only);refine aF (α:=Unit) mixed (fun _=>[(8,.val (.slice none 0 0)),(36,iv 0),(37,iv 0)]) (fun _=>[]) (fun _=>1) (fun _=>True) (fun _=>0) (by kernel_rfl) () trivial ?_ trivial rfl ?_
   ·exact agr
   rintro _ _;(refine wlk ?_;intros);(try dsimp only);refine⟨.inr rfl,⟨_,by(simp(disch:=(first|omega|(simp only[push_cast];first|done|omega))) only[push_cast,↓reduceIte,Nat.reduceEqDiff,Nat.reduceBEq,Nat.reduceAdd,Nat.reduceSub,Int.reduceToNat, *]<;>with_reducible exact rfl),yx,[],rfl,fun w _=>iM.none,fun i hi=>absurd hi oz⟩,fun i e=>False.elim e⟩
 ·have hB:blB p q x y z=true:=by
   cases hB:blB p q x y z with
   |true=>rfl
   |false=>unfold blL at h0;rw[if_neg (by rw[hB];decide)]at h0;simp at h0
  have ap1:=agf (x:=x) (y:=y) (z:=z) hpre (by omega);rw[hB]at ap1;have hl60:=afA (p:=p) (q:=q) (x:=x) (y:=y) (z:=z) (by unfold blB iE at hB;simp only[Bool.and_eq_true,decide_eq_true_eq]at hB;exact hB.1.2.1)
  by_cases h30:(blL p q x y z).length≤30
  ·obtain⟨k1,k2,k3,k4,k5⟩:=acr hB h30
   have hzz:((z.toNat:Nat):Int)=z:=by omega
   have ap2:=ajb k1;have ap3:=qM (ks:=jd p q x y) (h:=z.toNat) (by omega) (by omega) (by omega);rw[hzz]at ap3;rw[k2]at ap1;have hV:bpV p q x y z=if bpB p q x y z=true then mJ (blL p q x y z) 0 (jh (jd p q x y) z.toNat)else []:=rfl;have hb:bpB p q x y z=yw (jd p q x y) z.toNat:=by unfold bpB;rw[hB,decide_eq_true h30];rfl
   rw[hb]at hV;rw[hV,hb];have hch:=fun h=>uH (ks:=jd p q x y) (h:=z.toNat) h;rw[show dF (oV p q x y)=jd p q x y from rfl]at ap2;clear hpre hB h0 hV hb k1 k2 hzz hargs hT hJ;generalize blL p q x y z=BL at*;generalize zN (oV p q x y)=CN at*;generalize jd p q x y=KS at*;cases hG:yw KS z.toNat with
   |false=>rw[hG]at ap3;rw[if_neg (by decide)];clear hch hG;have gbhi_c10:=rT;have gbhi_c21:=qX;have gbhi_c20:=rV;refine HZ.eng mixed bH (by kernel_rfl) ?_;(try dsimp only);(refine wlk ?_;intros);(try dsimp only);refine⟨.inr rfl,⟨_,by(simp(disch:=(first|omega|(simp only[push_cast];first|done|omega))) only[push_cast,↓reduceIte,Nat.reduceEqDiff,Nat.reduceBEq,Nat.reduceAdd,Nat.reduceSub,Int.reduceToNat, *]<;>with_reducible exact rfl),yx,[],rfl,fun w _=>iM.none,fun i hi=>absurd hi oz⟩,fun i e=>False.elim e⟩
   |true=>
    rw[hG]at ap3;have hc:=hch hG;rw[if_pos rfl];have hct:=fun k h=>ab7 (l:=BL) (e:=jh KS z.toNat) (k:=k) h;have hfl:=fun k h=>abd hc (k:=k) h;have hfs:=fun k h=>rC (e:=jh KS z.toNat) (k:=k) h;have hel:=rM hc;have hfull:(jh KS z.toNat).take (jh KS z.toNat).length=jh KS z.toNat:=List.take_length;have hze:=fun k h=>alM (c:=jh KS z.toNat) (k:=k) h;have hzl:(zN (jh KS z.toNat)).length=(jh KS z.toNat).length:=by simp
    rw[show(jh KS z.toNat).map (fun n:Nat=>(n:Int))=zN (jh KS z.toNat)from rfl]at ap3;clear hch hG hc;generalize jh KS z.toNat=E at*;generalize zN E=ZE at*;have gbhi_c10:=rT;have gbhi_c21:=qX;have gbhi_c20:=rV;(refine HZ.seq (HZ.eng mixed bH (by kernel_rfl) ?_);(try dsimp only);((refine wlk ?_;intros));(try dsimp only[X.out]);(try simp only[↓reduceIte]));(refine HZ.seq (HZ.eng mixed bH (by kernel_rfl) ?_);(try dsimp only);((refine wlk ?_;intros));(try dsimp only[X.out]);(try simp only[↓reduceIte]));(refine HZ.seq (HZ.eng mixed bH (by kernel_rfl) ?_);(try dsimp only);((refine wlk ?_;intros));(try dsimp only[X.out]);(try simp only[↓reduceIte]));(refine HZ.seq (HZ.eng mixed bH (by kernel_rfl) ?_);(try dsimp only);((refine wlk ?_;intros));(try dsimp only[X.out]);(try simp only[↓reduceIte]));(refine HZ.seq (HZ.eng mixed bH (by kernel_rfl) ?_);(try dsimp only);((refine wlk ?_;intros));(try dsimp only[X.out]);(try simp only[↓reduceIte]));(refine HZ.seq (HZ.eng mixed bH (by kernel_rfl) ?_);(try dsimp only);((refine wlk ?_;intros));(try dsimp only[X.out]);(try simp only[↓reduceIte]));(refine HZ.seq (HZ.eng mixed bH (by kernel_rfl) ?_);(try dsimp only);((refine wlk ?_;intros));(try dsimp only[X.out]);(try simp only[↓reduceIte]));(refine HZ.seq (HZ.seq (HZ.eng mixed bH (by kernel_rfl) ?_));(try dsimp only);((refine wlk ?_;intros));(try dsimp only[X.out]);(try simp only[↓reduceIte]));refine HZ.ayy (afI 9 [] []) (fun i=>⟨fun⟨u,hu,_⟩=>by simp at hu,fun e=>False.elim e⟩) (fun w _=>ql.nil) ?_;refine HZ.block (HZ.xW (α:=Nat×Nat×Nat×List Value) (fun i=>[(4,.lst true 1 (BL.map fun s=> .val (.string s))),(8,nP 1 (i.2.2.2.map PV.val) i.2.1),(9,iv (pF E i.1)),(35,.lst true 1 (ZE.map fun n=> .val (.int .i64 n))),(36,iv E.length),(37,iv i.1)]) (fun i=>nO 24 1 (i.2.2.2.map PV.val) i.2.1) (fun i=>i.2.2.1)
     (fun i σ=>(i.1≤E.length∧(0<i.1→i.2.1<i.2.2.1))∧i.2.2.2.length=i.1∧(∀u∈i.2.2.2,aeS u∧∀g,u.ownBlock=some g→w.heap.size≤g)∧σ=afI 9 i.2.2.2 (mJ BL 0 (E.take i.1))) (fun i=>E.length-i.1) (0,0,1,[]) ⟨⟨Nat.zero_le _,fun h=>absurd h (Nat.lt_irrefl 0)⟩,rfl,fun u hu=>by simp at hu,rfl⟩ ?_ ?_ rfl ?_)
    ·have z1:pF E 0=0:=rfl
     (try dsimp only);rw[List.map_nil,eG,z1];exact agr
    ·(try dsimp only)
     rw[List.map_nil,dM];exact agr
    rintro⟨k,o,y,vs⟩ σ ⟨⟨hk,hoy⟩,hvl,hvb,rfl⟩;dsimp only at hk hoy hvl hvb;clear ap1 ap2 ap3;by_cases hkl:k<E.length
    ·have h1:=hct k hkl
     have h2:=hfl k hkl;have h3:=hfs k hkl;have h4:=hze k hkl;have hcl:(vs.map PV.val).length=k:=by rw[List.length_map,hvl]
     clear hct hfl hfs hze hfull;have hkz:k<ZE.length:=by omega
     have h5:E[k]?.getD 0≤BL.length:=by omega
     dsimp only
     generalize mJ BL 0 (E.take k)=LL at*;replace h1:=Lib.hid h1;replace h3:=Lib.hid h3;replace hvb:=Lib.hid hvb;replace hvl:=Lib.hid hvl;generalize E[k]?.getD 0=e at*;generalize pF E k=f at*;have hlx:((BL.drop f).take (e-f)).length=e-f:=by rw[List.length_take,List.length_drop];omega
     generalize hR:vs.map PV.val=R at*;replace hR:=Lib.hid hR;replace hlx:=Lib.hid hlx;by_cases h0:k=0
     ·obtain rfl:R=[]:=List.eq_nil_of_length_eq_zero (by omega)
      subst h0;(try dsimp only[eG,dM]);(refine HZ.seq (HZ.eng mixed bH (by kernel_rfl) ?_);(try dsimp only);((refine wlk ?_;intros));(try dsimp only[X.out]);(try simp only[↓reduceIte]));(refine HZ.seq (HZ.eng mixed bH (by kernel_rfl) ?_);(try dsimp only);((refine wlk ?_;intros));(try dsimp only[X.out]);(try simp only[↓reduceIte]));(refine HZ.seq (HZ.block (HZ.seq (HZ.eng mixed bH (by kernel_rfl) ?_)));(try dsimp only);((refine wlk ?_;intros));(try dsimp only[X.out]);(try simp only[↓reduceIte]));(refine HZ.seq (HZ.eng mixed bH (by kernel_rfl) ?_);(try dsimp only);((refine wlk ?_;intros));(try dsimp only[X.out]);(try simp only[↓reduceIte]));refine HZ.akX (o:=y) (x:=y+1+1) (T2:=9) (T1:=24) (n:=e-f) (z:=(BL.drop f).take (e-f)) (l:=[]) (by(simp(disch:=(first|omega|(simp only[push_cast];first|done|omega))) only[push_cast,↓reduceIte,Nat.reduceEqDiff,Nat.reduceBEq,Nat.reduceAdd,Nat.reduceSub,Int.reduceToNat, *]<;>with_reducible exact rfl)) (by(simp(disch:=(first|omega|(simp only[push_cast];first|done|omega))) only[push_cast,↓reduceIte,Nat.reduceEqDiff,Nat.reduceBEq,Nat.reduceAdd,Nat.reduceSub,Int.reduceToNat, *]<;>with_reducible exact rfl)) hlx.out.symm (by omega) fun b c' hb=>?_;(try dsimp only);(refine HZ.eng mixed bH (by kernel_rfl) ?_;(try dsimp only);((refine wlk ?_;intros));(try dsimp only[X.out]);(try simp only[↓reduceIte]));(refine HZ.eng mixed bH (by kernel_rfl) ?_;(try dsimp only);((refine wlk ?_;intros));(try dsimp only[X.out]);(try simp only[↓reduceIte]));refine⟨(0+1,y+1+1,y+1+1+1,vs++[.slice (some ⟨b,0,none⟩) ((BL.drop f).take (e-f)).length c']),⟨⟨by dsimp only;omega,fun _=>by dsimp only;omega⟩,by dsimp only;rw[List.length_append,hvl.out];rfl,fun u hu=>?_,by dsimp only;rw[h1.out]⟩,by dsimp only;omega,?_,?_,rfl⟩
      ·rcases List.mem_append.1 hu with q|q
       ·exact hvb.out u q
       ·rw[List.mem_singleton]at q
        subst q;exact⟨gH _ _ _,fun g hg=>by cases hg;exact hb⟩
      ·(try dsimp only)
       rw[←adl,hR.out,h3.out,aA (by simp),List.length_append];exact agi
      ·(try dsimp only)
       rw[←adl,hR.out,aD (by simp)];exact agr
     ·rw[aA (by omega),aD (by omega)]
      (refine HZ.seq (HZ.eng mixed bH (by kernel_rfl) ?_);(try dsimp only);((refine wlk ?_;intros));(try dsimp only[X.out]);(try simp only[↓reduceIte]));(refine HZ.seq (HZ.eng mixed bH (by kernel_rfl) ?_);(try dsimp only);((refine wlk ?_;intros));(try dsimp only[X.out]);(try simp only[↓reduceIte]));(refine HZ.seq (HZ.block (HZ.seq (HZ.eng mixed bH (by kernel_rfl) ?_)));(try dsimp only);((refine wlk ?_;intros));(try dsimp only[X.out]);(try simp only[↓reduceIte]));(refine HZ.seq (HZ.eng mixed bH (by kernel_rfl) ?_);(try dsimp only);((refine wlk ?_;intros));(try dsimp only[X.out]);(try simp only[↓reduceIte]));refine HZ.akX (o:=y) (x:=y+1+1) (T2:=9) (T1:=24) (n:=e-f) (z:=(BL.drop f).take (e-f)) (l:=R) (by(simp(disch:=(first|omega|(simp only[push_cast];first|done|omega))) only[push_cast,↓reduceIte,Nat.reduceEqDiff,Nat.reduceBEq,Nat.reduceAdd,Nat.reduceSub,Int.reduceToNat, *]<;>with_reducible exact rfl)) (by(simp(disch:=(first|omega|(simp only[push_cast];first|done|omega))) only[push_cast,↓reduceIte,Nat.reduceEqDiff,Nat.reduceBEq,Nat.reduceAdd,Nat.reduceSub,Int.reduceToNat, *]<;>with_reducible exact rfl)) hlx.out.symm (by omega) fun b c' hb=>?_;(try dsimp only);(refine HZ.eng mixed bH (by kernel_rfl) ?_;(try dsimp only);((refine wlk ?_;intros));(try dsimp only[X.out]);(try simp only[↓reduceIte]));(refine HZ.eng mixed bH (by kernel_rfl) ?_;(try dsimp only);((refine wlk ?_;intros));(try dsimp only[X.out]);(try simp only[↓reduceIte]));refine⟨(k+1,y+1+1,y+1+1+1,vs++[.slice (some ⟨b,0,none⟩) ((BL.drop f).take (e-f)).length c']),⟨⟨by dsimp only;omega,fun _=>by dsimp only;omega⟩,by dsimp only;rw[List.length_append,hvl.out];rfl,fun u hu=>?_,by dsimp only;rw[h1.out]⟩,by dsimp only;omega,?_,?_,rfl⟩
      ·rcases List.mem_append.1 hu with q|q
       ·exact hvb.out u q
       ·rw[List.mem_singleton]at q
        subst q;exact⟨gH _ _ _,fun g hg=>by cases hg;exact hb⟩
      ·(try dsimp only)
       rw[←adl,hR.out,h3.out,aA (by simp),List.length_append];exact agi
      ·(try dsimp only)
       rw[←adl,hR.out,aD (by simp)];exact agr
    ·obtain rfl:k=E.length:=by omega
     rw[hfull];clear hct hfl hfs hze hfull;have hcl:(mJ BL 0 E).length=E.length:=oM;dsimp only
     generalize mJ BL 0 E=L at*;by_cases h0:E.length=0
     ·obtain rfl:E=[]:=List.eq_nil_of_length_eq_zero h0
      obtain rfl:vs=[]:=List.eq_nil_of_length_eq_zero hvl;obtain rfl:L=[]:=List.eq_nil_of_length_eq_zero hcl;rw[List.map_nil,eG,dM];(refine HZ.seq (HZ.eng mixed bH (by kernel_rfl) ?_);(try dsimp only);((refine wlk ?_;intros));(try dsimp only[X.out]);(try simp only[↓reduceIte]));(refine HZ.seq (HZ.eng mixed bH (by kernel_rfl) ?_);(try dsimp only);((refine wlk ?_;intros));(try dsimp only[X.out]);(try simp only[↓reduceIte]));(refine HZ.eng mixed bH (by kernel_rfl) ?_;(try dsimp only);((refine wlk ?_;intros));(try dsimp only[X.out]);(try simp only[↓reduceIte]));exact⟨by simp,⟨_,by(simp(disch:=(first|omega|(simp only[push_cast];first|done|omega))) only[push_cast,↓reduceIte,Nat.reduceEqDiff,Nat.reduceBEq,Nat.reduceAdd,Nat.reduceSub,Int.reduceToNat, *]<;>with_reducible exact rfl),yx,[],rfl,fun w _=>iM.none,fun i hi=>absurd hi oz⟩,fun i ⟨u,hu,_⟩=>by simp at hu⟩
     ·rw[aA (by rw[List.length_map];omega),aD (by rw[List.length_map];omega)]
      replace hvb:=Lib.hid hvb;replace hvl:=Lib.hid hvl;replace hcl:=Lib.hid hcl;have hml:(vs.map PV.val).length=E.length:=by rw[List.length_map,hvl.out]
      (refine HZ.seq (HZ.eng mixed bH (by kernel_rfl) ?_);(try dsimp only);((refine wlk ?_;intros));(try dsimp only[X.out]);(try simp only[↓reduceIte]));(refine HZ.seq (HZ.eng mixed bH (by kernel_rfl) ?_);(try dsimp only);((refine wlk ?_;intros));(try dsimp only[X.out]);(try simp only[↓reduceIte]));refine HZ.atQ (t:=8) (n:=E.length) (ob:=o) (T:=24) (vs:=vs) (σ':=fun v=>ssF 24 9 v vs L) ?_ ?_ hvl.out.symm (fun u hu=>(hvb.out u hu).1) (fun v b hv hnb w hw hM=>⟨fun i=>⟨fun e=>e.elim (fun e=> .inr (by rw[hv]at e;cases e;rfl)) .inl,fun e=>e.elim .inr (fun e=> .inl (by rw[hv,e]))⟩,ql.ss hM hw hv fun u hu e=>hnb ⟨u,hu,e⟩⟩) fun v b hvb2 hBb ⟨cc,hcc⟩=>?_
      ·(simp(disch:=(first|omega|(simp only[push_cast];first|done|omega))) only[push_cast,↓reduceIte,Nat.reduceEqDiff,Nat.reduceBEq,Nat.reduceAdd,Nat.reduceSub,Int.reduceToNat, *]<;>with_reducible exact rfl)
      ·(simp(disch:=(first|omega|(simp only[push_cast];first|done|omega))) only[push_cast,↓reduceIte,Nat.reduceEqDiff,Nat.reduceBEq,Nat.reduceAdd,Nat.reduceSub,Int.reduceToNat, *]<;>with_reducible exact rfl)
      subst hcc;(try dsimp only);(refine HZ.eng mixed bH (by kernel_rfl) ?_;(try dsimp only);((refine wlk ?_;intros));(try dsimp only[X.out]);(try simp only[↓reduceIte]));exact⟨by simp,⟨_,by(simp(disch:=(first|omega|(simp only[push_cast];first|done|omega))) only[push_cast,↓reduceIte,Nat.reduceEqDiff,Nat.reduceBEq,Nat.reduceAdd,Nat.reduceSub,Int.reduceToNat, *]<;>with_reducible exact rfl),_,vs,rfl,fun w h=>h,fun i hi=>hi⟩,fun i hi=> .inr (hi.elim (fun e=>by rw[hvb2]at e;cases e;exact hBb) fun⟨u,hu,e⟩=>(hvb.out u hu).2 i e)⟩
  ·have hb:bpB p q x y z=false:=by unfold bpB;rw[decide_eq_false h30,Bool.false_and,Bool.and_false]
   rw[ajt hb,hb];clear hpre hB h0 hb hargs hT hJ;generalize blL p q x y z=BL at*;generalize blC p q x y z=BC at*;have gbhi_c10:=rT;have gbhi_c21:=qX;have gbhi_c20:=rV;refine HZ.eng mixed bH (by kernel_rfl) ?_;(try dsimp only);(refine wlk ?_;intros);(try dsimp only);exact⟨.inr rfl,⟨_,by(simp(disch:=(first|omega|(simp only[push_cast];first|done|omega))) only[push_cast,↓reduceIte,Nat.reduceEqDiff,Nat.reduceBEq,Nat.reduceAdd,Nat.reduceSub,Int.reduceToNat, *]<;>with_reducible exact rfl),yx,[],rfl,fun w _=>iM.none,fun i hi=>absurd hi oz⟩,fun i e=>False.elim e⟩
def awS (l:List LS) (k:Int):Prop:=l.length≤1048576∧jV l≤1048576∧0<k∧k≤1048577∧∀j,j<l.length→l[j]?.getD []=iX (mkK l k j) (l[j]?.getD []).length
open Classical in
noncomputable def adL:Fun:=F2 dSS dI fun l k=>if awS l k then some (.val (.int .i64 (k+jV l)))else none
open Classical in
theorem aa4 {l:List LS} {k:Int} (h:awS l k):adL [aaj l,.val (.int .i64 k)]=some (.val (.int .i64 (k+jV l))):=(gY (A:=dSS) (B:=dI) l k).trans (if_pos h)
def GHs:Ctx:={fn:=aT [(35,xg)],io:=aT []}
theorem arU:au Tryz.prog GHs:=okΓ (fC Tryz.func35 tX aj) aj
def asi:=ah (Γ:=GHs) (f:=35) (φ:=xg) rfl
open Classical in
theorem jZ:Sound Tryz.prog 17 adL:=by
 refine ak mixed arU Tryz.func17 rfl 21 rfl [.tmp 4] rfl (by kernel_rfl) fun ps r hr=>?_;obtain⟨l,k0,rfl,hpre,rfl⟩:=gy hr;refine⟨by simp,?_⟩;simp only[dIs,dUs,dSs,bR,bV,bT,bU,aI,bW,aL,aO,aH,aJ];obtain⟨hlen,hT,hk0,hk1,hrow⟩:=hpre;have hkk:=fun j=>zU l k0 j;have hlt:=fun j=>sS l j;have hla:=fun j h=>aa0 (l:=l) (j:=j) h;have hend:mkK l k0 l.length=k0+jV l:=by rw[hkk l.length (Nat.le_refl _),List.take_length]
 replace hkk:=Lib.hid hkk;replace hlt:=Lib.hid hlt;replace hrow:=Lib.hid hrow;replace hend:=Lib.hid hend;have ghs_c35:=asi;(refine wlk ?_;intros);refine aF (α:=Nat) mixed (fun k=>[(0,aaj l),(1,iv (mkK l k0 k)),(5,iv k)]) (fun k=>[]) (fun _=>0)
  (fun k=>k≤l.length) (fun k=>l.length-k) (by kernel_rfl) 0 (Nat.zero_le _) ?_ trivial rfl ?_
 ·have z0:mkK l k0 0=k0:=rfl
  (try dsimp only);rw[z0];exact agr
 intro k hk;by_cases hkl:k<l.length
 ·have h1:=hkk.out k hk
  have h2:=hlt.out k;have h3:=hla k hkl;have h4:=hrow.out k hkl;have h5:mkK l k0 (k+1)=mkK l k0 k+(l[k]?.getD []).length:=rfl;have ap:=adX (k:=mkK l k0 k) (n:=(l[k]?.getD []).length) (by omega) (by omega) (by omega);rw[←h4]at ap;have hm1:0<mkK l k0 k:=by omega
  have hm2:mkK l k0 k+(l[k]?.getD []).length≤4194304:=by omega
  replace h5:=Lib.hid h5;clear h1 h2 h3 h4 hla;generalize mkK l k0 k=m at*;(refine wlk ?_;intros);refine⟨k+1,by omega,by dsimp only;omega,?_,trivial,rfl⟩;(try dsimp only);rw[h5.out];exact agr
 ·obtain rfl:k=l.length:=by omega
  clear hla;rw[hend.out];exact wlkS
theorem akY {ks:List Bool} {h:Nat} {E:Nat→Int} {p:Nat} {B:Int} (hh:h≤30) (hB:0≤B) (hE:∀q,E q≤B) (m:Nat) (hm:p+m≤ks.length):-1≤(upP ks h E p m).1∧(upP ks h E p m).1≤900+B∧(upP ks h E p m).2≤ks.length:=by
 have hb:=yj (ks:=ks) (h:=h) (E:=E) (p:=p) m;by_cases c:(upP ks h E p m).1<0
 ·rw[(hb.no c).1]
  refine⟨?_,?_,?_⟩
  ·show(-1:Int)≤-1
   omega
  ·show(-1:Int)≤900+B
   omega
  ·show 0≤ks.length
   omega
 ·obtain⟨q1,q2,q3,q4⟩:=hb.yes (by omega)
  have h1:=sQ q2.1 hh;have h2:=hE (upP ks h E p m).2;rw[qJ]at q3;exact⟨by omega,by omega,by omega⟩
def axt:Ctx:={fn:=aT [(47,sG),(48,φIn)],io:=aT []}
theorem aqB:au Tryz.prog axt:=okΓ (fC Tryz.func47 abz (fC Tryz.func48 gB aj)) aj
def ank:=ah (Γ:=axt) (f:=47) (φ:=sG) rfl
def anV:=ah (Γ:=axt) (f:=48) (φ:=φIn) rfl
theorem aeN:Sound Tryz.prog 24 tZ:=by
 refine fU mixed aqB Tryz.func24 rfl 135 rfl [.tmp 4,.tmp 5] rfl (by kernel_rfl) fun ps r hr=>?_;obtain⟨ks,h,rfl,⟨h1,h2,h3⟩,rfl⟩:=uV hr;clear hr;refine⟨by simp,?_⟩;have apa:=zP (l:=ks) (by omega);rw[decide_eq_true h1]at apa;have api:=bJ;have hin:inB (h:Int) 1 1000=true:=ay.2 ⟨by omega,by omega⟩;have gbps_c47:=ank;have gbps_c48:=anV;(refine wlk ?_;intros);clear hin api;refine aF (α:=Nat) mixed (fun k=>[(0,.lst false 4 (ks.map eu)),(1,iv h),(6,.row 0 1 0 0),(7,iv ks.length),(8,.row 1 1 0 (ks.length+1)),(9,.row 2 1 0 (ks.length+1)),(10,.val (.int .i64 ((ks.length:Int)-1-k)))])
  (fun k=>[(0,3,1,[]),(1,3,1,xH ks.length (fun x=>(tbP ks h k x).1)),(2,3,1,xH ks.length (fun x=>((tbP ks h k x).2:Int)))]) (fun _=>3) (fun k=>k≤ks.length) (fun k=>ks.length-k) (by kernel_rfl) 0 (Nat.zero_le _) ?_ ?_ rfl ?_
 ·exact agi
 ·simp(disch:=(first|omega|(simp only[push_cast];first|done|omega))) only[push_cast,↓reduceIte,Nat.reduceEqDiff,Nat.reduceBEq,Nat.reduceAdd,Nat.reduceSub,Int.reduceToNat,List.length_append, *]
  try exact⟨rfl,rfl⟩
 intro k hk;have hbd:=kJ (ks:=ks) h3 k hk;by_cases hkl:k<ks.length
 ·obtain⟨e1,e2⟩:=acH (h:=h) hkl
  have hlow:=ab2 (ks:=ks) (h:=h) (k:=k) (x:=ks.length-(k+1)) hk (by omega);have hp:(ks.length:Int)-1-k=((ks.length-(k+1):Nat):Int):=by omega
  rw[hp];replace hp:=Lib.hid hp;have hup:=fun m hm=>akY (ks:=ks) (h:=h) (E:=fun q=>(tbP ks h k q).1) (p:=ks.length-(k+1)) (B:=900*k) h3 (by omega) (fun q=>(hbd q).2.1) m hm;have hN0:((tbP ks h k (ks.length-(k+1))).2:Int)=0:=by rw[hlow];rfl
  have hEb:∀x,-1≤(fun x=>(tbP ks h k x).1) x∧(fun x=>(tbP ks h k x).1) x≤27000:=fun x=>by have:=hbd x;exact⟨this.1,by dsimp only;omega⟩
  replace hN0:(fun x=>((tbP ks h k x).2:Int)) (ks.length-(k+1))=0:=hN0;have hpk:ks.length-(k+1)<ks.length:=by omega
  clear hbd hlow;generalize hEe:(fun x=>(tbP ks h k x).1)=E at*;generalize hNe:(fun x=>((tbP ks h k x).2:Int))=Nx at*;replace e1:=Lib.hid e1;replace e2:=Lib.hid e2;clear hEe hNe;generalize ks.length-(k+1)=p at*;have hov:ovr Nx p ((upP ks h E p 0).2:Int)=Nx:=by rw[show((upP ks h E p 0).2:Int)=Nx p from hN0.symm];exact amL
  replace hov:=Lib.hid hov;replace hN0:=Lib.hid hN0;(refine wlk ?_;intros);refine aF (α:=Nat) mixed (fun m=>[(0,.lst false 4 (ks.map eu)),(1,iv h),(6,.row 0 1 0 0),(7,iv ks.length),(8,.row 1 1 0 (ks.length+1)),(9,.row 2 1 0 (ks.length+1)),(10,iv p),(11,iv m),(12,.val (.int .i64 ((p:Int)+1+m)))])
   (fun m=>[(0,3,1,[]),(1,3,1,xH ks.length (ovr E p (upP ks h E p m).1)),(2,3,1,xH ks.length (ovr Nx p ((upP ks h E p m).2:Int)))]) (fun _=>3) (fun m=>m≤ks.length-p) (fun m=>ks.length-p-m) (by kernel_rfl) 0 (Nat.zero_le _) ?_ ?_ rfl ?_
  ·exact agi
  ·(try dsimp only)
   rw[hov.out];simp(disch:=(first|omega|(simp only[push_cast];first|done|omega))) only[push_cast,↓reduceIte,Nat.reduceEqDiff,Nat.reduceBEq,Nat.reduceAdd,Nat.reduceSub,Int.reduceToNat,List.length_append, *];try rfl
  intro m hm;have hsb:=hup m (by omega);by_cases hml:m<ks.length-p
  ·have hq:(p:Int)+1+m=((p+m+1:Nat):Int):=by omega
   have hst:upP ks h E p (m+1)=wP ks h E p (p+m+1) (upP ks h E p m):=rfl;have hue:=fun hm'=>asE (ks:=ks) (h:=h) (E:=E) (p:=p) (m:=m) hm' (by omega) (by omega);have hpq:p<p+m+1:=by omega
   have hqn:p+m+1≤ks.length:=by omega
   have hqm:((p+m+1:Nat):Int)=(p:Int)+m+1:=by omega
   have hEq:=hEb (p+m+1);(try dsimp only);rw[hq];replace hq:=Lib.hid hq;replace hqm:=Lib.hid hqm;have hq1:p+m+1-1=p+m:=by omega
   have hmay:aeA ks h p (p+m+1)↔m+1≤h∧¬(p+m+1<ks.length∧ael ks (p+m+1-1)=true):=⟨fun e=>⟨by have:=e.2.2.1;omega,e.2.2.2⟩,fun e=>⟨hpq,hqn,by omega,e.2⟩⟩;have hpc:pcB ks h p (p+m+1)=if p+m+1=ks.length then 0 else((h:Int)-((m:Int)+1))*((h:Int)-((m:Int)+1)):=by unfold pcB;rw[hqm.out,show(p:Int)+m+1-p=(m:Int)+1 by omega]
   unfold ael at hmay;clear hq1;generalize hqq:p+m+1=q at*;replace hqq:=Lib.hid hqq;generalize upP ks h E p m=s at*;have ea:ovr E p s.1 q=E q:=alV (by omega);have eb:ovr E p s.1 p=s.1:=amn;have eo:∀v,ovr (ovr E p s.1) p v=ovr E p v:=fun v=>yu;have eo2:∀v,ovr (ovr Nx p (s.2:Int)) p v=ovr Nx p v:=fun v=>yu;unfold wP okQ at hst;rw[qJ]at hst;clear hEb hN0 hov hup;by_cases hmh:m+1≤h
   ·clear hue
    by_cases hE0:E q<0
    ·have hst2:upP ks h E p (m+1)=s:=by rw[hst];exact if_neg fun e=>by have:=e.1.2;omega
     replace hst2:=Lib.hid hst2;clear hst hmay hpc;(refine wlk ?_;intros);refine⟨m+1,by omega,by dsimp only;omega,?_,?_,rfl⟩
     ·have hq:=hq.out
      exact agi
     ·(try dsimp only)
      rw[hst2.out];exact agr
    ·by_cases hqe:q=ks.length
     ·subst hqe
      have hm1:aeA ks h p ks.length:=hmay.2 ⟨hmh,fun e=>by omega⟩;rw[if_pos rfl]at hpc;rw[hpc,Int.zero_add]at hst;clear hmay hpc;by_cases hs0:s.1<0
      ·have hst2:upP ks h E p (m+1)=(E ks.length,ks.length):=by rw[hst];exact if_pos ⟨⟨hm1,by omega⟩,.inl hs0⟩
       replace hst2:=Lib.hid hst2;clear hst hm1;(refine wlk ?_;intros);refine⟨m+1,by omega,by dsimp only;omega,?_,?_,rfl⟩
       ·have hq:=hq.out
        exact agi
       ·(try dsimp only)
        rw[hst2.out];exact agr
      ·by_cases hlt:E ks.length≤s.1
       ·have hst2:upP ks h E p (m+1)=(E ks.length,ks.length):=by rw[hst];exact if_pos ⟨⟨hm1,by omega⟩,.inr hlt⟩
        replace hst2:=Lib.hid hst2;clear hst hm1;(refine wlk ?_;intros);refine⟨m+1,by omega,by dsimp only;omega,?_,?_,rfl⟩
        ·have hq:=hq.out
         exact agi
        ·(try dsimp only)
         rw[hst2.out];exact agr
       ·have hst2:upP ks h E p (m+1)=s:=by rw[hst];exact if_neg fun e=>e.2.elim hs0 hlt
        replace hst2:=Lib.hid hst2;clear hst hm1;(refine wlk ?_;intros);refine⟨m+1,by omega,by dsimp only;omega,?_,?_,rfl⟩
        ·have hq:=hq.out
         exact agi
        ·(try dsimp only)
         rw[hst2.out];exact agr
     ·have hqlt:q<ks.length:=by omega
      cases hkp:ks[q-1]?.getD false with
      |true=>
       have hst2:upP ks h E p (m+1)=s:=by rw[hst];exact if_neg fun e=>(hmay.1 e.1.1).2 ⟨hqlt,hkp⟩
       replace hst2:=Lib.hid hst2;clear hst hmay hpc;(refine wlk ?_;intros);refine⟨m+1,by omega,by dsimp only;omega,?_,?_,rfl⟩
       ·have hq:=hq.out
        exact agi
       ·(try dsimp only)
        rw[hst2.out];exact agr
      |false=>
       have hm1:aeA ks h p q:=hmay.2 ⟨hmh,fun e=>by rw[hkp]at e;cases e.2⟩;rw[if_neg hqe]at hpc;obtain⟨d,hd⟩:∃d:Nat,(h:Int)-((m:Int)+1)=d:=⟨h-(m+1),by omega⟩;have hd2:d≤30:=by omega
       have hdd:d*d≤30*30:=Nat.mul_le_mul hd2 hd2;have hdc:(d:Int)*d=((d*d:Nat):Int):=by simp
       have hc0:0≤((h:Int)-((m:Int)+1))*((h:Int)-((m:Int)+1))∧((h:Int)-((m:Int)+1))*((h:Int)-((m:Int)+1))≤900:=by rw[hd,hdc];omega
       have w1:=bZ (n:=((h:Int)-((m:Int)+1))*((h:Int)-((m:Int)+1))) (by omega) (by omega);rw[hpc,Int.add_comm _ (E q)]at hst;clear hd hd2 hdd hdc hmay hpc;generalize hcc:((h:Int)-((m:Int)+1))*((h:Int)-((m:Int)+1))=c at*;by_cases hs0:s.1<0
       ·have hst2:upP ks h E p (m+1)=(E q+c,q):=by rw[hst];exact if_pos ⟨⟨hm1,by omega⟩,.inl hs0⟩
        replace hst2:=Lib.hid hst2;clear hst hm1;(refine wlk ?_;intros);refine⟨m+1,by omega,by dsimp only;omega,?_,?_,rfl⟩
        ·have hq:=hq.out
         exact agi
        ·(try dsimp only)
         rw[hst2.out];exact agr
       ·by_cases hlt:E q+c≤s.1
        ·have hst2:upP ks h E p (m+1)=(E q+c,q):=by rw[hst];exact if_pos ⟨⟨hm1,by omega⟩,.inr hlt⟩
         replace hst2:=Lib.hid hst2;clear hst hm1;(refine wlk ?_;intros);refine⟨m+1,by omega,by dsimp only;omega,?_,?_,rfl⟩
         ·have hq:=hq.out
          exact agi
         ·(try dsimp only)
          rw[hst2.out];exact agr
        ·have hst2:upP ks h E p (m+1)=s:=by rw[hst];exact if_neg fun e=>e.2.elim hs0 hlt
         replace hst2:=Lib.hid hst2;clear hst hm1;(refine wlk ?_;intros);refine⟨m+1,by omega,by dsimp only;omega,?_,?_,rfl⟩
         ·have hq:=hq.out
          exact agi
         ·(try dsimp only)
          rw[hst2.out];exact agr
   ·have hue2:=hue (by omega)
    replace hue2:=Lib.hid hue2;clear hue hst hmay hpc;(refine wlk ?_;intros);refine⟨k+1,by omega,by dsimp only;omega,?_,?_,rfl⟩
    ·have hp:=hp.out
     exact agi
    ·(try dsimp only)
     rw[e1.out,e2.out,←hue2.out];exact agr
  ·obtain rfl:m=ks.length-p:=by omega
   have hm2:(p:Int)+1+((ks.length-p:Nat):Int)=(ks.length:Int)+1:=by omega
   have hue2:=atu (ks:=ks) (h:=h) (E:=E) (p:=p) (by omega);(try dsimp only);rw[hm2];clear hm2;generalize upP ks h E p (ks.length-p)=s at*;replace hue2:=Lib.hid hue2;(refine wlk ?_;intros);refine⟨k+1,by omega,by dsimp only;omega,?_,?_,rfl⟩
   ·have hp:=hp.out
    exact agi
   ·(try dsimp only)
    rw[e1.out,e2.out,←hue2.out];exact agr
 ·obtain rfl:k=ks.length:=by omega
  (try dsimp only);rw[show(ks.length:Int)-1-(ks.length:Int)=-1 by omega,show(fun x=>(tbP ks h ks.length x).1)=dA ks h from rfl,show(fun x=>((tbP ks h ks.length x).2:Int))=fun x=>(jD ks h x:Int)from rfl];have hb0:-1≤dA ks h 0∧dA ks h 0≤27000:=by have:=hbd 0;exact⟨this.1,by unfold dA;omega⟩
  clear hbd;cases hB:yw ks h with
  |false=>
   have hl0:dA ks h 0<0:=by unfold yw at hB;simpa using hB
   have hE0:jh ks h=[]:=by unfold jh;rw[if_neg (by rw[hB];decide)]
   rw[hE0,List.map_nil,List.map_nil];clear hB hE0;generalize dA ks h=L at*;generalize(fun x=>(jD ks h x:Int))=Nx at*;(refine wlk ?_;intros);all_goals((with_reducible apply bS (by first|exact .inl rfl|exact .inr rfl));(simp(disch:=(first|omega|(simp only[push_cast];first|done|omega))) only[push_cast,↓reduceIte,Nat.reduceEqDiff,Nat.reduceBEq,Nat.reduceAdd,Nat.reduceSub,Int.reduceToNat, *]<;>with_reducible exact rfl))
   all_goals exact PV.le_refl _
  |true=>
   have hl0:=wZ.1 hB;have hE0:jh ks h=lM ks h ks.length 0:=if_pos hB;have hch:=rM (uH hB);have hnm:=fun p h1 h2=>xK (ks:=ks) (h:=h) (p:=p) h1 h2;have hpe:=fun f=>acY (ks:=ks) (h:=h) (f:=f);have hpS:∀f p,p<ks.length→lM ks h (f+1) p=jD ks h p::lM ks h f (jD ks h p):=fun f p hp=>if_pos hp;have hNb:∀p,jD ks h p≤ks.length:=fun p=>by
    by_cases hp:p<ks.length
    ·exact(sD (ks:=ks) (h:=h) (E:=dA ks h) (p:=p) (by omega))|>fun hb=>by
      have e:=abJ (h:=h) hp;by_cases c:(bq ks h (dA ks h) p).1<0
      ·unfold jD
       rw[e,(hb.no c).1];exact Nat.zero_le _
      ·unfold jD
       rw[e];exact(hb.yes (by omega)).1.2
    ·have:=(kJ (ks:=ks) h3 ks.length (Nat.le_refl _) p).2.2
     exact this
   rw[hE0]at hch;rw[hE0];clear hB hE0;generalize hLL:dA ks h=L at*;generalize hNN:jD ks h=Nx at*;generalize hZ:(lM ks h ks.length 0).map (fun n:Nat=>(n:Int))=Z at*;have hZl:Z.length≤ks.length:=by rw[←hZ,List.length_map];exact hch
   (refine wlk ?_;intros);refine aF (α:=List Int×Nat×Nat×Nat) mixed (fun i=>[(6,.row i.2.2.1 1 0 i.1.length),(7,iv ks.length),(9,.row 2 1 0 (ks.length+1)),(14,iv i.2.1)])
    (fun i=>[(2,3,1,xH ks.length (fun x=>(Nx x:Int))),(i.2.2.1,3,1,i.1.map fun n=> .val (.int .i64 n))]) (fun i=>i.2.2.2)
    (fun i=>(i.2.1≤ks.length∧0≤L i.2.1)∧(¬2=i.2.2.1∧i.2.2.1<i.2.2.2∧2<i.2.2.2)∧∃f,ks.length-i.2.1≤f∧i.1++(lM ks h f i.2.1).map (fun n:Nat=>(n:Int))=Z) (fun i=>ks.length-i.2.1) (by kernel_rfl) ([],0,0,3) ⟨⟨Nat.zero_le _,hl0⟩,⟨by decide,by decide,by decide⟩,ks.length,by dsimp only;omega,by rw[List.nil_append];exact hZ⟩ ?_ ?_ rfl ?_
   ·(try dsimp only)
    exact agi;try rfl
   ·(try dsimp only)
    exact agr;try rfl
   rintro⟨OUT,p,o,y⟩ ⟨⟨hp,hLp⟩,⟨hoo,hoy,hy⟩,f,hf,hout⟩;dsimp only at hp hLp hoo hoy hy hf hout⊢;have hoo2:¬o=2:=fun e=>hoo e.symm;by_cases hpl:p<ks.length
   ·obtain⟨f,rfl⟩:∃g,f=g+1:=⟨f-1,by omega⟩
    obtain⟨hm1,hm2⟩:=hnm p hpl hLp;have hn1:=hm1.1;have hn2:=hm1.2.1;rw[hpS f p hpl,List.map_cons]at hout;have hout2:(OUT++[(Nx p:Int)])++(lM ks h f (Nx p)).map (fun n:Nat=>(n:Int))=Z:=by rw[List.append_assoc];exact hout
    have hol:OUT.length+1≤ks.length:=by have:=congrArg List.length hout2;simp only[List.length_append,List.length_singleton]at this;omega
    clear hout hnm hpe hpS hm1 hLL hNN hZ hch;replace hout2:=Lib.hid hout2;replace hm2:=Lib.hid hm2;(refine wlk ?_;intros);refine⟨(OUT++[(Nx p:Int)],Nx p,y+1,y+2),⟨⟨by dsimp only;omega,hm2.out⟩,⟨by dsimp only;omega,by dsimp only;omega,by dsimp only;omega⟩,f,by dsimp only;omega,hout2.out⟩,by dsimp only;omega,?_,?_,rfl⟩
    ·(try dsimp only)
     exact agi
    ·(try dsimp only)
     exact agr
   ·obtain rfl:p=ks.length:=by omega
    rw[hpe f,List.map_nil,List.append_nil]at hout;subst hout;clear hnm hpe hpS hLL hNN hZ hch hNb;(refine wlk ?_;intros);all_goals((with_reducible apply bS (by first|exact .inl rfl|exact .inr rfl));(simp(disch:=(first|omega|(simp only[push_cast];first|done|omega))) only[push_cast,↓reduceIte,Nat.reduceEqDiff,Nat.reduceBEq,Nat.reduceAdd,Nat.reduceSub,Int.reduceToNat, *]<;>with_reducible exact rfl))
    all_goals exact PV.le_refl _
end
end Go.Proofs.YtmmafcjjlbgnkaaGreat
