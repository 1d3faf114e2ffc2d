/- What the proof rests on, part 18: contracts of functions. No condition beyond what each states. -/
import Derived.Test.YtmmafcjjlbgnkaaGreatDoorZBi16
namespace Go.Proofs.YtmmafcjjlbgnkaaGreatDoor
open Go.RowKit
open Nat renaming reduceEqDiff→Rq,reduceBEq→Rb,reduceAdd→Ra,reduceSub→Rs
open Int renaming reduceToNat→Rt
set_option linter.all false
set_option maxHeartbeats 32000000
noncomputable section
def GRb:Ctx:={fn:=aT [],io:=aT [(57,wM),(59,ais),(58,afo),(56,sV)]}
theorem azI:ak Tryz.prog GRb:=okΓ aj (fD Tryz.func57 yJ (fD Tryz.func59 ah0 (fD Tryz.func58 apZ (fD Tryz.func56 afs aj))))
abbrev lsE (L:List LS):List PV:=L.map fun p=> .lst true 1 (p.map fun s=> .val (.string s))
def pE (L:List LS):PV:=match L with|[]=> .val (.slice none 0 0)|_::_=> .lst true 1 (lsE L)
theorem aCy:pE []=.val (.slice none 0 0):=rfl
theorem azH {L:List LS} (h:0<L.length):pE L=.lst true 1 (lsE L):=by
 cases L with
 |nil=>simp at h
 |cons a L=>rfl
attribute[push_cast]
 abB aCy
attribute[push_cast low]
 azH
theorem aF {L:List LS} {v:LS} (hL:∀l∈L,okT 13 l) (hv:okT 13 v):∀l∈L++[v],okT 13 l:=fun l hl=>by
 rcases List.mem_append.1 hl with hl|hl
 ·exact hL l hl
 ·simp only[List.mem_singleton]at hl
  exact hl▸hv
theorem bZ:okT 13 []:=⟨by simp,by simp⟩
theorem iV:okT 13 [(⟨#[65]⟩:ByteArray)]:=⟨by simp,by intro s hs;simp only[List.mem_singleton]at hs;subst hs;decide⟩
abbrev BD:=List LS×LS×Int×Int×Int
abbrev EBk (b:BD):PV:=.agg [pE b.1,.lst true 1 (b.2.1.map fun s=> .val (.string s)),iv b.2.2.1,iv b.2.2.2.1,iv b.2.2.2.2]
def ao7 (b:BD):Prop:=(b.1.length≤5∧∀l∈b.1,okT 13 l)∧okT 22 b.2.1∧okI b.2.2.1∧okI b.2.2.2.1∧okI b.2.2.2.2
theorem su {out:List Nat} {ob:bJ} {l:List LS} {f:Nat}:(l.map fun p=>PV.lst true 1 (p.map fun s=>PV.val (.string s))).mapM (bX out ob (f+3))=some (l.map fun p=>PV.lst true 1 (p.map fun s=>PV.val (.string s))):=
 kZ fun p=>zP
theorem yC {out:List Nat} {ob:bJ} {f T m:Nat} {es:List PV} (L:List LS) (he:es=lsE L) (hm:m=L.length):aoL out ob (f+3) 1 0 m none (some (T,1,es))=some (.lst true 1 (lsE L)):=by subst he;rw[oN (by rw[List.length_map];exact hm),su];rfl
theorem vL {out:List Nat} {ob:bJ} {f T m:Nat} {es:List PV} {last:PV} (L:List LS) (l:LS) (he:es=lsE L++[last]) (hm:m=L.length+1) (hl:bX out ob (f+3) last=some (.lst true 1 (l.map fun s=>PV.val (.string s)))):
 aoL out ob (f+3) 1 0 m none (some (T,1,es))=some (.lst true 1 (lsE (L++[l]))):=by
 subst he;rw[oN (by simp;exact hm),List.mapM_append,su,mapM_cons',mapM_nil',hl];simp
attribute[push_cast]
 su EBk
theorem aeo:∃Φ:d9,bQ Tryz.prog 23 Φ∧ahj 83 Φ 500000000 2000 EBk (fun n=>0≤n∧n≤1000) (fun _ b=>ao7 b):=by
 refine tq mixed azI Tryz.func23 rfl 90 rfl [.cell 4 26] rfl (by kernel_rfl) (by simp) _ _ _ _ _ _ fun code p n hok hp hn=>?_;have hp0:=hok.pos
 repeat' (first|(first|(with_reducible first|apply gu|apply bI|apply dJ|apply dF|apply gG|apply nJ|apply fU|apply fV|apply mY|apply gB|apply gK|apply nK|apply gM|apply fT|apply fZ)|((with_reducible apply bf);(simp only[List.map_cons,List.map_nil]<;>exact rfl))|((with_reducible apply dD);(simp only[List.map_cons,List.map_nil]<;>exact rfl);decide+kernel)|((with_reducible apply gL);rfl)|((first|((with_reducible apply i_V);rfl;rfl;rfl)|((first|((with_reducible apply i_E);rfl)|((with_reducible apply i_S);rfl));first|rfl|(simp only[push_cast,↓reduceIte]))|((with_reducible apply nR);rfl;rfl)|((with_reducible apply nD);rfl;rfl;rfl)|(with_reducible first|apply om|apply dH));(simp(disch:=(first|omega|(simp only[push_cast];first|done|omega))) only[push_cast,↓reduceIte,Rq,Rb,Ra,Rs,Rt, *]<;>with_reducible exact rfl);all_goals try(first|(with_reducible first|refine hyT ?_|refine hyF ?_|exact hyA|exact hyB)|(intro hX;first|(cases hX;done)|((try simp only[decide_eq_true_eq,decide_eq_false_iff_not,Bool.not_eq_true',Bool.not_eq_false']at hX);(try have hXb:=av.1 hX))))))|((with_reducible apply bY eZ (fun _ _=>rfl));rfl;(simp(disch:=(first|omega|(simp only[push_cast];first|done|omega))) only[push_cast,↓reduceIte,Rq,Rb,Ra,Rs,Rt, *]<;>with_reducible exact rfl);(simp(disch:=(first|omega|(simp only[push_cast];first|done|omega))) only[push_cast,↓reduceIte,Rq,Rb,Ra,Rs,Rt, *]<;>with_reducible exact rfl);(simp(disch:=(first|omega|(simp only[push_cast];first|done|omega))) only[push_cast,↓reduceIte,Rq,Rb,Ra,Rs,Rt, *]<;>with_reducible exact rfl);assumption;omega;(focus(first|trivial|omega));(focus(first|rfl|(simp only[push_cast,↓reduceIte])));intro v pp hv hok hpp1 hpp2)|((with_reducible apply bY jQ (fun _ _=>rfl));rfl;(simp(disch:=(first|omega|(simp only[push_cast];first|done|omega))) only[push_cast,↓reduceIte,Rq,Rb,Ra,Rs,Rt, *]<;>with_reducible exact rfl);(simp(disch:=(first|omega|(simp only[push_cast];first|done|omega))) only[push_cast,↓reduceIte,Rq,Rb,Ra,Rs,Rt, *]<;>with_reducible exact rfl);(simp(disch:=(first|omega|(simp only[push_cast];first|done|omega))) only[push_cast,↓reduceIte,Rq,Rb,Ra,Rs,Rt, *]<;>with_reducible exact rfl);assumption;omega;(focus(first|trivial|omega));(focus(first|rfl|(simp only[push_cast,↓reduceIte])));intro v pp hv hok hpp1 hpp2)|((with_reducible apply bY nG (fun _ _=>by simp only[push_cast,↓reduceIte,Rq,Rb,Ra,Rs,Rt]));(focus rfl);(focus(simp(disch:=(first|omega|(simp only[push_cast];first|done|omega))) only[push_cast,↓reduceIte,Rq,Rb,Ra,Rs,Rt, *]<;>with_reducible exact rfl));(focus(simp(disch:=(first|omega|(simp only[push_cast];first|done|omega))) only[push_cast,↓reduceIte,Rq,Rb,Ra,Rs,Rt, *]<;>with_reducible exact rfl));(focus(simp(disch:=(first|omega|(simp only[push_cast];first|done|omega))) only[push_cast,↓reduceIte,Rq,Rb,Ra,Rs,Rt, *]<;>with_reducible exact rfl));(focus assumption);(focus omega);(focus(first|trivial|omega));(focus(first|rfl|(simp only[push_cast,↓reduceIte])));intro v pp hv hok hpp1 hpp2)|((with_reducible apply afg nH qg qy);(focus rfl);(focus(simp(disch:=(first|omega|(simp only[push_cast];first|done|omega))) only[push_cast,↓reduceIte,Rq,Rb,Ra,Rs,Rt, *]<;>with_reducible exact rfl));(focus(simp(disch:=(first|omega|(simp only[push_cast];first|done|omega))) only[push_cast,↓reduceIte,Rq,Rb,Ra,Rs,Rt, *]<;>with_reducible exact rfl));(focus(simp(disch:=(first|omega|(simp only[push_cast];first|done|omega))) only[push_cast,↓reduceIte,Rq,Rb,Ra,Rs,Rt, *]<;>with_reducible exact rfl));(focus assumption);(focus omega);(focus(first|trivial|omega));(focus(first|rfl|(simp only[push_cast,↓reduceIte])));intro v pp hv hok hpp1 hpp2))
 refine oU 14 (by simp only[List.map_cons,List.map_nil]<;>exact rfl) (by simp only[List.take_succ_cons,List.take_zero]<;>exact rfl) (by simp only[List.drop_succ_cons,List.drop_zero]<;>exact rfl) arI (by decide+kernel) (by decide+kernel) ?_
 repeat' (first|(first|(with_reducible first|apply gu|apply bI|apply dJ|apply dF|apply gG|apply nJ|apply fU|apply fV|apply mY|apply gB|apply gK|apply nK|apply gM|apply fT|apply fZ)|((with_reducible apply bf);(simp only[List.map_cons,List.map_nil]<;>exact rfl))|((with_reducible apply dD);(simp only[List.map_cons,List.map_nil]<;>exact rfl);decide+kernel)|((with_reducible apply gL);rfl)|((first|((with_reducible apply i_V);rfl;rfl;rfl)|((first|((with_reducible apply i_E);rfl)|((with_reducible apply i_S);rfl));first|rfl|(simp only[push_cast,↓reduceIte]))|((with_reducible apply nR);rfl;rfl)|((with_reducible apply nD);rfl;rfl;rfl)|(with_reducible first|apply om|apply dH));(simp(disch:=(first|omega|(simp only[push_cast];first|done|omega))) only[push_cast,↓reduceIte,Rq,Rb,Ra,Rs,Rt, *]<;>with_reducible exact rfl);all_goals try(first|(with_reducible first|refine hyT ?_|refine hyF ?_|exact hyA|exact hyB)|(intro hX;first|(cases hX;done)|((try simp only[decide_eq_true_eq,decide_eq_false_iff_not,Bool.not_eq_true',Bool.not_eq_false']at hX);(try have hXb:=av.1 hX))))))|((with_reducible apply bY eZ (fun _ _=>rfl));rfl;(simp(disch:=(first|omega|(simp only[push_cast];first|done|omega))) only[push_cast,↓reduceIte,Rq,Rb,Ra,Rs,Rt, *]<;>with_reducible exact rfl);(simp(disch:=(first|omega|(simp only[push_cast];first|done|omega))) only[push_cast,↓reduceIte,Rq,Rb,Ra,Rs,Rt, *]<;>with_reducible exact rfl);(simp(disch:=(first|omega|(simp only[push_cast];first|done|omega))) only[push_cast,↓reduceIte,Rq,Rb,Ra,Rs,Rt, *]<;>with_reducible exact rfl);assumption;omega;(focus(first|trivial|omega));(focus(first|rfl|(simp only[push_cast,↓reduceIte])));intro v pp hv hok hpp1 hpp2)|((with_reducible apply bY jQ (fun _ _=>rfl));rfl;(simp(disch:=(first|omega|(simp only[push_cast];first|done|omega))) only[push_cast,↓reduceIte,Rq,Rb,Ra,Rs,Rt, *]<;>with_reducible exact rfl);(simp(disch:=(first|omega|(simp only[push_cast];first|done|omega))) only[push_cast,↓reduceIte,Rq,Rb,Ra,Rs,Rt, *]<;>with_reducible exact rfl);(simp(disch:=(first|omega|(simp only[push_cast];first|done|omega))) only[push_cast,↓reduceIte,Rq,Rb,Ra,Rs,Rt, *]<;>with_reducible exact rfl);assumption;omega;(focus(first|trivial|omega));(focus(first|rfl|(simp only[push_cast,↓reduceIte])));intro v pp hv hok hpp1 hpp2)|((with_reducible apply bY nG (fun _ _=>by simp only[push_cast,↓reduceIte,Rq,Rb,Ra,Rs,Rt]));(focus rfl);(focus(simp(disch:=(first|omega|(simp only[push_cast];first|done|omega))) only[push_cast,↓reduceIte,Rq,Rb,Ra,Rs,Rt, *]<;>with_reducible exact rfl));(focus(simp(disch:=(first|omega|(simp only[push_cast];first|done|omega))) only[push_cast,↓reduceIte,Rq,Rb,Ra,Rs,Rt, *]<;>with_reducible exact rfl));(focus(simp(disch:=(first|omega|(simp only[push_cast];first|done|omega))) only[push_cast,↓reduceIte,Rq,Rb,Ra,Rs,Rt, *]<;>with_reducible exact rfl));(focus assumption);(focus omega);(focus(first|trivial|omega));(focus(first|rfl|(simp only[push_cast,↓reduceIte])));intro v pp hv hok hpp1 hpp2)|((with_reducible apply afg nH qg qy);(focus rfl);(focus(simp(disch:=(first|omega|(simp only[push_cast];first|done|omega))) only[push_cast,↓reduceIte,Rq,Rb,Ra,Rs,Rt, *]<;>with_reducible exact rfl));(focus(simp(disch:=(first|omega|(simp only[push_cast];first|done|omega))) only[push_cast,↓reduceIte,Rq,Rb,Ra,Rs,Rt, *]<;>with_reducible exact rfl));(focus(simp(disch:=(first|omega|(simp only[push_cast];first|done|omega))) only[push_cast,↓reduceIte,Rq,Rb,Ra,Rs,Rt, *]<;>with_reducible exact rfl));(focus assumption);(focus omega);(focus(first|trivial|omega));(focus(first|rfl|(simp only[push_cast,↓reduceIte])));intro v pp hv hok hpp1 hpp2))
 refine ay9 (by(exact sr)) ?_
 repeat' (first|(first|(with_reducible first|apply gu|apply bI|apply dJ|apply dF|apply gG|apply nJ|apply fU|apply fV|apply mY|apply gB|apply gK|apply nK|apply gM|apply fT|apply fZ)|((with_reducible apply bf);(simp only[List.map_cons,List.map_nil]<;>exact rfl))|((with_reducible apply dD);(simp only[List.map_cons,List.map_nil]<;>exact rfl);decide+kernel)|((with_reducible apply gL);rfl)|((first|((with_reducible apply i_V);rfl;rfl;rfl)|((first|((with_reducible apply i_E);rfl)|((with_reducible apply i_S);rfl));first|rfl|(simp only[push_cast,↓reduceIte]))|((with_reducible apply nR);rfl;rfl)|((with_reducible apply nD);rfl;rfl;rfl)|(with_reducible first|apply om|apply dH));(simp(disch:=(first|omega|(simp only[push_cast];first|done|omega))) only[push_cast,↓reduceIte,Rq,Rb,Ra,Rs,Rt, *]<;>with_reducible exact rfl);all_goals try(first|(with_reducible first|refine hyT ?_|refine hyF ?_|exact hyA|exact hyB)|(intro hX;first|(cases hX;done)|((try simp only[decide_eq_true_eq,decide_eq_false_iff_not,Bool.not_eq_true',Bool.not_eq_false']at hX);(try have hXb:=av.1 hX))))))|((with_reducible apply bY eZ (fun _ _=>rfl));rfl;(simp(disch:=(first|omega|(simp only[push_cast];first|done|omega))) only[push_cast,↓reduceIte,Rq,Rb,Ra,Rs,Rt, *]<;>with_reducible exact rfl);(simp(disch:=(first|omega|(simp only[push_cast];first|done|omega))) only[push_cast,↓reduceIte,Rq,Rb,Ra,Rs,Rt, *]<;>with_reducible exact rfl);(simp(disch:=(first|omega|(simp only[push_cast];first|done|omega))) only[push_cast,↓reduceIte,Rq,Rb,Ra,Rs,Rt, *]<;>with_reducible exact rfl);assumption;omega;(focus(first|trivial|omega));(focus(first|rfl|(simp only[push_cast,↓reduceIte])));intro v pp hv hok hpp1 hpp2)|((with_reducible apply bY jQ (fun _ _=>rfl));rfl;(simp(disch:=(first|omega|(simp only[push_cast];first|done|omega))) only[push_cast,↓reduceIte,Rq,Rb,Ra,Rs,Rt, *]<;>with_reducible exact rfl);(simp(disch:=(first|omega|(simp only[push_cast];first|done|omega))) only[push_cast,↓reduceIte,Rq,Rb,Ra,Rs,Rt, *]<;>with_reducible exact rfl);(simp(disch:=(first|omega|(simp only[push_cast];first|done|omega))) only[push_cast,↓reduceIte,Rq,Rb,Ra,Rs,Rt, *]<;>with_reducible exact rfl);assumption;omega;(focus(first|trivial|omega));(focus(first|rfl|(simp only[push_cast,↓reduceIte])));intro v pp hv hok hpp1 hpp2)|((with_reducible apply bY nG (fun _ _=>by simp only[push_cast,↓reduceIte,Rq,Rb,Ra,Rs,Rt]));(focus rfl);(focus(simp(disch:=(first|omega|(simp only[push_cast];first|done|omega))) only[push_cast,↓reduceIte,Rq,Rb,Ra,Rs,Rt, *]<;>with_reducible exact rfl));(focus(simp(disch:=(first|omega|(simp only[push_cast];first|done|omega))) only[push_cast,↓reduceIte,Rq,Rb,Ra,Rs,Rt, *]<;>with_reducible exact rfl));(focus(simp(disch:=(first|omega|(simp only[push_cast];first|done|omega))) only[push_cast,↓reduceIte,Rq,Rb,Ra,Rs,Rt, *]<;>with_reducible exact rfl));(focus assumption);(focus omega);(focus(first|trivial|omega));(focus(first|rfl|(simp only[push_cast,↓reduceIte])));intro v pp hv hok hpp1 hpp2)|((with_reducible apply afg nH qg qy);(focus rfl);(focus(simp(disch:=(first|omega|(simp only[push_cast];first|done|omega))) only[push_cast,↓reduceIte,Rq,Rb,Ra,Rs,Rt, *]<;>with_reducible exact rfl));(focus(simp(disch:=(first|omega|(simp only[push_cast];first|done|omega))) only[push_cast,↓reduceIte,Rq,Rb,Ra,Rs,Rt, *]<;>with_reducible exact rfl));(focus(simp(disch:=(first|omega|(simp only[push_cast];first|done|omega))) only[push_cast,↓reduceIte,Rq,Rb,Ra,Rs,Rt, *]<;>with_reducible exact rfl));(focus assumption);(focus omega);(focus(first|trivial|omega));(focus(first|rfl|(simp only[push_cast,↓reduceIte])));intro v pp hv hok hpp1 hpp2))
 rename_i ps q3 hps _ _ _ w q2 hw _ _ _ m q1 hm _ _ _ e q0 he _ _ _;refine aD (α:=List LS×Int×Int×Nat×Nat) mixed (fun s=>[(0,.own 0 2 0 0),(1,iv n),(4,.own 1 5 0 0),(5,.own 2 5 0 0),(6,iv s.2.1)])
  (fun s=>(0,rdC 83 code s.2.2.1)::(1,26,5,[PV.agg [.val (.slice none 0 0),.val (.slice none 0 0),iv 0,iv 0,iv 0]])::
    (2,26,5,[PV.agg [nP 1 (lsE s.1) s.2.2.2.1,.row 3 1 0 ps.length,iv (40+w),iv (sel 0 [500,10000,200] m.toNat),iv (3+e)]])::(3,abB ps)::nO 24 1 (lsE s.1) s.2.2.2.1) (fun s=>s.2.2.2.2)
  (fun s=>rY code s.2.2.1∧(∀l∈s.1,okT 13 l)∧p≤s.2.2.1∧s.2.2.1+210*s.2.1≤p+1100∧s.1.length+s.2.1≤4∧0≤s.2.1∧3<s.2.2.2.2∧(0<s.1.length→3<s.2.2.2.1∧s.2.2.2.1<s.2.2.2.2)) (fun s=>s.2.1.toNat) (by kernel_rfl) ([],v,pp,0,4) ⟨hok,by simp,?_⟩ ?_ ?_ rfl ?_
 ·dsimp only[List.length_nil];omega
 ·exact agr
 ·exact agr
 rintro⟨L,k,q,x,y⟩ ⟨okq,hL,i1,i2,i3,i4,i5,i6⟩;dsimp only at okq hL i1 i2 i3 i4 i5 i6;clear hok;have hpl:=hps.1;by_cases h0:L.length=0
 ·obtain rfl:L=[]:=List.eq_nil_of_length_eq_zero h0
  clear i6 hL h0
  repeat' (first|(first|(with_reducible first|apply gu|apply bI|apply dJ|apply dF|apply gG|apply nJ|apply fU|apply fV|apply mY|apply gB|apply gK|apply nK|apply gM|apply fT|apply fZ)|((with_reducible apply bf);(simp only[List.map_cons,List.map_nil]<;>exact rfl))|((with_reducible apply dD);(simp only[List.map_cons,List.map_nil]<;>exact rfl);decide+kernel)|((with_reducible apply gL);rfl)|((first|((with_reducible apply i_V);rfl;rfl;rfl)|((first|((with_reducible apply i_E);rfl)|((with_reducible apply i_S);rfl));first|rfl|(simp only[push_cast,↓reduceIte]))|((with_reducible apply nR);rfl;rfl)|((with_reducible apply nD);rfl;rfl;rfl)|(with_reducible first|apply om|apply dH));(simp(disch:=(first|omega|(simp only[push_cast];first|done|omega))) only[push_cast,↓reduceIte,Rq,Rb,Ra,Rs,Rt, *]<;>with_reducible exact rfl);all_goals try(first|(with_reducible first|refine hyT ?_|refine hyF ?_|exact hyA|exact hyB)|(intro hX;first|(cases hX;done)|((try simp only[decide_eq_true_eq,decide_eq_false_iff_not,Bool.not_eq_true',Bool.not_eq_false']at hX);(try have hXb:=av.1 hX))))))|((with_reducible apply bY eZ (fun _ _=>rfl));rfl;(simp(disch:=(first|omega|(simp only[push_cast];first|done|omega))) only[push_cast,↓reduceIte,Rq,Rb,Ra,Rs,Rt, *]<;>with_reducible exact rfl);(simp(disch:=(first|omega|(simp only[push_cast];first|done|omega))) only[push_cast,↓reduceIte,Rq,Rb,Ra,Rs,Rt, *]<;>with_reducible exact rfl);(simp(disch:=(first|omega|(simp only[push_cast];first|done|omega))) only[push_cast,↓reduceIte,Rq,Rb,Ra,Rs,Rt, *]<;>with_reducible exact rfl);assumption;omega;(focus(first|trivial|omega));(focus(first|rfl|(simp only[push_cast,↓reduceIte])));intro v pp hv hok hpp1 hpp2)|((with_reducible apply bY jQ (fun _ _=>rfl));rfl;(simp(disch:=(first|omega|(simp only[push_cast];first|done|omega))) only[push_cast,↓reduceIte,Rq,Rb,Ra,Rs,Rt, *]<;>with_reducible exact rfl);(simp(disch:=(first|omega|(simp only[push_cast];first|done|omega))) only[push_cast,↓reduceIte,Rq,Rb,Ra,Rs,Rt, *]<;>with_reducible exact rfl);(simp(disch:=(first|omega|(simp only[push_cast];first|done|omega))) only[push_cast,↓reduceIte,Rq,Rb,Ra,Rs,Rt, *]<;>with_reducible exact rfl);assumption;omega;(focus(first|trivial|omega));(focus(first|rfl|(simp only[push_cast,↓reduceIte])));intro v pp hv hok hpp1 hpp2)|((with_reducible apply bY nG (fun _ _=>by simp only[push_cast,↓reduceIte,Rq,Rb,Ra,Rs,Rt]));(focus rfl);(focus(simp(disch:=(first|omega|(simp only[push_cast];first|done|omega))) only[push_cast,↓reduceIte,Rq,Rb,Ra,Rs,Rt, *]<;>with_reducible exact rfl));(focus(simp(disch:=(first|omega|(simp only[push_cast];first|done|omega))) only[push_cast,↓reduceIte,Rq,Rb,Ra,Rs,Rt, *]<;>with_reducible exact rfl));(focus(simp(disch:=(first|omega|(simp only[push_cast];first|done|omega))) only[push_cast,↓reduceIte,Rq,Rb,Ra,Rs,Rt, *]<;>with_reducible exact rfl));(focus assumption);(focus omega);(focus(first|trivial|omega));(focus(first|rfl|(simp only[push_cast,↓reduceIte])));intro v pp hv hok hpp1 hpp2))
  ·refine⟨([v],k-1,pp,y+1,y+2),⟨hok,?_,?_⟩,?_,?_,?_,rfl⟩
   ·exact aF (L:=[]) (by simp) hv
   ·dsimp only;simp only[List.length_append,List.length_cons,List.length_nil]at*;omega
   ·dsimp only;omega
   ·exact agr
   ·simp(disch:=(first|omega|(simp only[push_cast];first|done|omega))) only[push_cast,↓reduceIte,Rq,Rb,Ra,Rs,Rt,List.length_append,List.map_append,List.map_cons,List.map_nil, *]
  ·refine⟨(([]:List LS),k-1,pp,x,y),⟨hok,by simp,?_⟩,?_,?_,?_,rfl⟩
   ·dsimp only;simp only[List.length_nil]at*;omega
   ·dsimp only;omega
   ·exact agr
   ·exact agr
  ·(with_reducible apply iB (a:=([([]:LS)],_,_,_,_)) (by first|exact .inl rfl|exact .inr rfl));(focus(simp(disch:=(first|omega|(simp only[push_cast];first|done|omega))) only[push_cast,↓reduceIte,Rq,Rb,Ra,Rs,Rt,aW,aX,bR,aY,aV, *];rw[vL [] [] (by first|rfl|simp) (by simp) (by simp(disch:=(first|omega|(simp only[push_cast];first|done|omega))) only[push_cast,↓reduceIte,Rq,Rb,Ra,Rs,Rt,oN,mapM_cons',mapM_nil',List.length_cons,List.length_nil, *])];(try simp(disch:=(first|omega|(simp only[push_cast];first|done|omega))) only[push_cast,↓reduceIte,Rq,Rb,Ra,Rs,Rt,aW,aX,bR,aY,aV, *]);with_reducible rfl));(focus(simp(disch:=(first|omega|(simp only[push_cast];first|done|omega))) only[push_cast,↓reduceIte,Rq,Rb,Ra,Rs,Rt,aW,aX,bR,aY,aV, *]<;>with_reducible exact rfl))
   all_goals try(first|assumption|omega)
   ·refine⟨⟨by(try simp only[List.length_append,List.length_cons,List.length_nil]at*);omega,?_⟩,?_,?_,?_,?_⟩
    ·first|exact hL|exact aF hL bZ|exact aF hL iV|exact aF (L:=[]) (by simp) bZ|exact aF (L:=[]) (by simp) iV|(simp;done)
    ·first|exact⟨by dsimp only;omega,hps.2⟩|exact eP (m:=21) hpl (by omega) hps.2 (by decide)
    all_goals first|(dsimp only;omega)|exact gU (p:=okI) (by decide) (by simp only[List.length_cons,List.length_nil];omega)
  ·(with_reducible apply iB (a:=([[(⟨#[65]⟩:ByteArray)]],_,_,_,_)) (by first|exact .inl rfl|exact .inr rfl));(focus(simp(disch:=(first|omega|(simp only[push_cast];first|done|omega))) only[push_cast,↓reduceIte,Rq,Rb,Ra,Rs,Rt,aW,aX,bR,aY,aV, *];rw[vL [] [(⟨#[65]⟩:ByteArray)] (by first|rfl|simp) (by simp) (by simp(disch:=(first|omega|(simp only[push_cast];first|done|omega))) only[push_cast,↓reduceIte,Rq,Rb,Ra,Rs,Rt,oN,mapM_cons',mapM_nil',List.length_cons,List.length_nil, *])];(try simp(disch:=(first|omega|(simp only[push_cast];first|done|omega))) only[push_cast,↓reduceIte,Rq,Rb,Ra,Rs,Rt,aW,aX,bR,aY,aV, *]);with_reducible rfl));(focus(simp(disch:=(first|omega|(simp only[push_cast];first|done|omega))) only[push_cast,↓reduceIte,Rq,Rb,Ra,Rs,Rt,aW,aX,bR,aY,aV, *]<;>with_reducible exact rfl))
   all_goals try(first|assumption|omega)
   ·refine⟨⟨by(try simp only[List.length_append,List.length_cons,List.length_nil]at*);omega,?_⟩,?_,?_,?_,?_⟩
    ·first|exact hL|exact aF hL bZ|exact aF hL iV|exact aF (L:=[]) (by simp) bZ|exact aF (L:=[]) (by simp) iV|(simp;done)
    ·first|exact⟨by dsimp only;omega,hps.2⟩|exact eP (m:=21) hpl (by omega) hps.2 (by decide)
    all_goals first|(dsimp only;omega)|exact gU (p:=okI) (by decide) (by simp only[List.length_cons,List.length_nil];omega)
  ·(with_reducible apply iB (a:=(([]:List LS),_,_,_,_)) (by first|exact .inl rfl|exact .inr rfl));(focus(simp(disch:=(first|omega|(simp only[push_cast];first|done|omega))) only[push_cast,↓reduceIte,Rq,Rb,Ra,Rs,Rt,aW,aX,bR,aY,aV, *]<;>with_reducible exact rfl));(focus(simp(disch:=(first|omega|(simp only[push_cast];first|done|omega))) only[push_cast,↓reduceIte,Rq,Rb,Ra,Rs,Rt,aW,aX,bR,aY,aV, *]<;>with_reducible exact rfl))
   all_goals try(first|assumption|omega)
   ·refine⟨⟨by(try simp only[List.length_append,List.length_cons,List.length_nil]at*);omega,?_⟩,?_,?_,?_,?_⟩
    ·first|exact hL|exact aF hL bZ|exact aF hL iV|exact aF (L:=[]) (by simp) bZ|exact aF (L:=[]) (by simp) iV|(simp;done)
    ·first|exact⟨by dsimp only;omega,hps.2⟩|exact eP (m:=21) hpl (by omega) hps.2 (by decide)
    all_goals first|(dsimp only;omega)|exact gU (p:=okI) (by decide) (by simp only[List.length_cons,List.length_nil];omega)
  ·(with_reducible apply iB (a:=(([]:List LS),_,_,_,_)) (by first|exact .inl rfl|exact .inr rfl));(focus(simp(disch:=(first|omega|(simp only[push_cast];first|done|omega))) only[push_cast,↓reduceIte,Rq,Rb,Ra,Rs,Rt,aW,aX,bR,aY,aV, *]<;>with_reducible exact rfl));(focus(simp(disch:=(first|omega|(simp only[push_cast];first|done|omega))) only[push_cast,↓reduceIte,Rq,Rb,Ra,Rs,Rt,aW,aX,bR,aY,aV, *]<;>with_reducible exact rfl))
   all_goals try(first|assumption|omega)
   ·refine⟨⟨by(try simp only[List.length_append,List.length_cons,List.length_nil]at*);omega,?_⟩,?_,?_,?_,?_⟩
    ·first|exact hL|exact aF hL bZ|exact aF hL iV|exact aF (L:=[]) (by simp) bZ|exact aF (L:=[]) (by simp) iV|(simp;done)
    ·first|exact⟨by dsimp only;omega,hps.2⟩|exact eP (m:=21) hpl (by omega) hps.2 (by decide)
    all_goals first|(dsimp only;omega)|exact gU (p:=okI) (by decide) (by simp only[List.length_cons,List.length_nil];omega)
  ·(with_reducible apply iB (a:=(([]:List LS),_,_,_,_)) (by first|exact .inl rfl|exact .inr rfl));(focus(simp(disch:=(first|omega|(simp only[push_cast];first|done|omega))) only[push_cast,↓reduceIte,Rq,Rb,Ra,Rs,Rt,aW,aX,bR,aY,aV, *]<;>with_reducible exact rfl));(focus(simp(disch:=(first|omega|(simp only[push_cast];first|done|omega))) only[push_cast,↓reduceIte,Rq,Rb,Ra,Rs,Rt,aW,aX,bR,aY,aV, *]<;>with_reducible exact rfl))
   all_goals try(first|assumption|omega)
   ·refine⟨⟨by(try simp only[List.length_append,List.length_cons,List.length_nil]at*);omega,?_⟩,?_,?_,?_,?_⟩
    ·first|exact hL|exact aF hL bZ|exact aF hL iV|exact aF (L:=[]) (by simp) bZ|exact aF (L:=[]) (by simp) iV|(simp;done)
    ·first|exact⟨by dsimp only;omega,hps.2⟩|exact eP (m:=21) hpl (by omega) hps.2 (by decide)
    all_goals first|(dsimp only;omega)|exact gU (p:=okI) (by decide) (by simp only[List.length_cons,List.length_nil];omega)
  ·(with_reducible apply iB (a:=(([]:List LS),_,_,_,_)) (by first|exact .inl rfl|exact .inr rfl));(focus(simp(disch:=(first|omega|(simp only[push_cast];first|done|omega))) only[push_cast,↓reduceIte,Rq,Rb,Ra,Rs,Rt,aW,aX,bR,aY,aV, *]<;>with_reducible exact rfl));(focus(simp(disch:=(first|omega|(simp only[push_cast];first|done|omega))) only[push_cast,↓reduceIte,Rq,Rb,Ra,Rs,Rt,aW,aX,bR,aY,aV, *]<;>with_reducible exact rfl))
   all_goals try(first|assumption|omega)
   ·refine⟨⟨by(try simp only[List.length_append,List.length_cons,List.length_nil]at*);omega,?_⟩,?_,?_,?_,?_⟩
    ·first|exact hL|exact aF hL bZ|exact aF hL iV|exact aF (L:=[]) (by simp) bZ|exact aF (L:=[]) (by simp) iV|(simp;done)
    ·first|exact⟨by dsimp only;omega,hps.2⟩|exact eP (m:=21) hpl (by omega) hps.2 (by decide)
    all_goals first|(dsimp only;omega)|exact gU (p:=okI) (by decide) (by simp only[List.length_cons,List.length_nil];omega)
  ·(with_reducible apply iB (a:=(([]:List LS),_,_,_,_)) (by first|exact .inl rfl|exact .inr rfl));(focus(simp(disch:=(first|omega|(simp only[push_cast];first|done|omega))) only[push_cast,↓reduceIte,Rq,Rb,Ra,Rs,Rt,aW,aX,bR,aY,aV, *]<;>with_reducible exact rfl));(focus(simp(disch:=(first|omega|(simp only[push_cast];first|done|omega))) only[push_cast,↓reduceIte,Rq,Rb,Ra,Rs,Rt,aW,aX,bR,aY,aV, *]<;>with_reducible exact rfl))
   all_goals try(first|assumption|omega)
   ·refine⟨⟨by(try simp only[List.length_append,List.length_cons,List.length_nil]at*);omega,?_⟩,?_,?_,?_,?_⟩
    ·first|exact hL|exact aF hL bZ|exact aF hL iV|exact aF (L:=[]) (by simp) bZ|exact aF (L:=[]) (by simp) iV|(simp;done)
    ·first|exact⟨by dsimp only;omega,hps.2⟩|exact eP (m:=21) hpl (by omega) hps.2 (by decide)
    all_goals first|(dsimp only;omega)|exact gU (p:=okI) (by decide) (by simp only[List.length_cons,List.length_nil];omega)
 ·obtain⟨x1,x2⟩:=i6 (by omega)
  clear i6
  repeat' (first|(first|(with_reducible first|apply gu|apply bI|apply dJ|apply dF|apply gG|apply nJ|apply fU|apply fV|apply mY|apply gB|apply gK|apply nK|apply gM|apply fT|apply fZ)|((with_reducible apply bf);(simp only[List.map_cons,List.map_nil]<;>exact rfl))|((with_reducible apply dD);(simp only[List.map_cons,List.map_nil]<;>exact rfl);decide+kernel)|((with_reducible apply gL);rfl)|((first|((with_reducible apply i_V);rfl;rfl;rfl)|((first|((with_reducible apply i_E);rfl)|((with_reducible apply i_S);rfl));first|rfl|(simp only[push_cast,↓reduceIte]))|((with_reducible apply nR);rfl;rfl)|((with_reducible apply nD);rfl;rfl;rfl)|(with_reducible first|apply om|apply dH));(simp(disch:=(first|omega|(simp only[push_cast];first|done|omega))) only[push_cast,↓reduceIte,Rq,Rb,Ra,Rs,Rt, *]<;>with_reducible exact rfl);all_goals try(first|(with_reducible first|refine hyT ?_|refine hyF ?_|exact hyA|exact hyB)|(intro hX;first|(cases hX;done)|((try simp only[decide_eq_true_eq,decide_eq_false_iff_not,Bool.not_eq_true',Bool.not_eq_false']at hX);(try have hXb:=av.1 hX))))))|((with_reducible apply bY eZ (fun _ _=>rfl));rfl;(simp(disch:=(first|omega|(simp only[push_cast];first|done|omega))) only[push_cast,↓reduceIte,Rq,Rb,Ra,Rs,Rt, *]<;>with_reducible exact rfl);(simp(disch:=(first|omega|(simp only[push_cast];first|done|omega))) only[push_cast,↓reduceIte,Rq,Rb,Ra,Rs,Rt, *]<;>with_reducible exact rfl);(simp(disch:=(first|omega|(simp only[push_cast];first|done|omega))) only[push_cast,↓reduceIte,Rq,Rb,Ra,Rs,Rt, *]<;>with_reducible exact rfl);assumption;omega;(focus(first|trivial|omega));(focus(first|rfl|(simp only[push_cast,↓reduceIte])));intro v pp hv hok hpp1 hpp2)|((with_reducible apply bY jQ (fun _ _=>rfl));rfl;(simp(disch:=(first|omega|(simp only[push_cast];first|done|omega))) only[push_cast,↓reduceIte,Rq,Rb,Ra,Rs,Rt, *]<;>with_reducible exact rfl);(simp(disch:=(first|omega|(simp only[push_cast];first|done|omega))) only[push_cast,↓reduceIte,Rq,Rb,Ra,Rs,Rt, *]<;>with_reducible exact rfl);(simp(disch:=(first|omega|(simp only[push_cast];first|done|omega))) only[push_cast,↓reduceIte,Rq,Rb,Ra,Rs,Rt, *]<;>with_reducible exact rfl);assumption;omega;(focus(first|trivial|omega));(focus(first|rfl|(simp only[push_cast,↓reduceIte])));intro v pp hv hok hpp1 hpp2)|((with_reducible apply bY nG (fun _ _=>by simp only[push_cast,↓reduceIte,Rq,Rb,Ra,Rs,Rt]));(focus rfl);(focus(simp(disch:=(first|omega|(simp only[push_cast];first|done|omega))) only[push_cast,↓reduceIte,Rq,Rb,Ra,Rs,Rt, *]<;>with_reducible exact rfl));(focus(simp(disch:=(first|omega|(simp only[push_cast];first|done|omega))) only[push_cast,↓reduceIte,Rq,Rb,Ra,Rs,Rt, *]<;>with_reducible exact rfl));(focus(simp(disch:=(first|omega|(simp only[push_cast];first|done|omega))) only[push_cast,↓reduceIte,Rq,Rb,Ra,Rs,Rt, *]<;>with_reducible exact rfl));(focus assumption);(focus omega);(focus(first|trivial|omega));(focus(first|rfl|(simp only[push_cast,↓reduceIte])));intro v pp hv hok hpp1 hpp2))
  ·refine⟨(L++[v],k-1,pp,y+1,y+2),⟨hok,?_,?_⟩,?_,?_,?_,rfl⟩
   ·exact aF hL hv
   ·dsimp only;simp only[List.length_append,List.length_cons,List.length_nil]at*;omega
   ·dsimp only;omega
   ·exact agr
   ·simp(disch:=(first|omega|(simp only[push_cast];first|done|omega))) only[push_cast,↓reduceIte,Rq,Rb,Ra,Rs,Rt,List.length_append,List.map_append,List.map_cons,List.map_nil, *]
  ·refine⟨(L,k-1,pp,x,y),⟨hok,hL,?_⟩,?_,?_,?_,rfl⟩
   ·dsimp only;omega
   ·dsimp only;omega
   ·exact agr
   ·exact agr
  ·(with_reducible apply iB (a:=(L++[([]:LS)],_,_,_,_)) (by first|exact .inl rfl|exact .inr rfl));(focus(simp(disch:=(first|omega|(simp only[push_cast];first|done|omega))) only[push_cast,↓reduceIte,Rq,Rb,Ra,Rs,Rt,aW,aX,bR,aY,aV, *];rw[vL L [] (by first|rfl|simp) (by simp) (by simp(disch:=(first|omega|(simp only[push_cast];first|done|omega))) only[push_cast,↓reduceIte,Rq,Rb,Ra,Rs,Rt,oN,mapM_cons',mapM_nil',List.length_cons,List.length_nil, *])];(try simp(disch:=(first|omega|(simp only[push_cast];first|done|omega))) only[push_cast,↓reduceIte,Rq,Rb,Ra,Rs,Rt,aW,aX,bR,aY,aV, *]);with_reducible rfl));(focus(simp(disch:=(first|omega|(simp only[push_cast];first|done|omega))) only[push_cast,↓reduceIte,Rq,Rb,Ra,Rs,Rt,aW,aX,bR,aY,aV, *]<;>with_reducible exact rfl))
   all_goals try(first|assumption|omega)
   ·refine⟨⟨by(try simp only[List.length_append,List.length_cons,List.length_nil]at*);omega,?_⟩,?_,?_,?_,?_⟩
    ·first|exact hL|exact aF hL bZ|exact aF hL iV|exact aF (L:=[]) (by simp) bZ|exact aF (L:=[]) (by simp) iV|(simp;done)
    ·first|exact⟨by dsimp only;omega,hps.2⟩|exact eP (m:=21) hpl (by omega) hps.2 (by decide)
    all_goals first|(dsimp only;omega)|exact gU (p:=okI) (by decide) (by simp only[List.length_cons,List.length_nil];omega)
  ·(with_reducible apply iB (a:=(L++[[(⟨#[65]⟩:ByteArray)]],_,_,_,_)) (by first|exact .inl rfl|exact .inr rfl));(focus(simp(disch:=(first|omega|(simp only[push_cast];first|done|omega))) only[push_cast,↓reduceIte,Rq,Rb,Ra,Rs,Rt,aW,aX,bR,aY,aV, *];rw[vL L [(⟨#[65]⟩:ByteArray)] (by first|rfl|simp) (by simp) (by simp(disch:=(first|omega|(simp only[push_cast];first|done|omega))) only[push_cast,↓reduceIte,Rq,Rb,Ra,Rs,Rt,oN,mapM_cons',mapM_nil',List.length_cons,List.length_nil, *])];(try simp(disch:=(first|omega|(simp only[push_cast];first|done|omega))) only[push_cast,↓reduceIte,Rq,Rb,Ra,Rs,Rt,aW,aX,bR,aY,aV, *]);with_reducible rfl));(focus(simp(disch:=(first|omega|(simp only[push_cast];first|done|omega))) only[push_cast,↓reduceIte,Rq,Rb,Ra,Rs,Rt,aW,aX,bR,aY,aV, *]<;>with_reducible exact rfl))
   all_goals try(first|assumption|omega)
   ·refine⟨⟨by(try simp only[List.length_append,List.length_cons,List.length_nil]at*);omega,?_⟩,?_,?_,?_,?_⟩
    ·first|exact hL|exact aF hL bZ|exact aF hL iV|exact aF (L:=[]) (by simp) bZ|exact aF (L:=[]) (by simp) iV|(simp;done)
    ·first|exact⟨by dsimp only;omega,hps.2⟩|exact eP (m:=21) hpl (by omega) hps.2 (by decide)
    all_goals first|(dsimp only;omega)|exact gU (p:=okI) (by decide) (by simp only[List.length_cons,List.length_nil];omega)
  ·(with_reducible apply iB (a:=(L,_,_,_,_)) (by first|exact .inl rfl|exact .inr rfl));(focus(simp(disch:=(first|omega|(simp only[push_cast];first|done|omega))) only[push_cast,↓reduceIte,Rq,Rb,Ra,Rs,Rt,aW,aX,bR,aY,aV, *];rw[yC (L) (by simp) (by simp)];(try simp(disch:=(first|omega|(simp only[push_cast];first|done|omega))) only[push_cast,↓reduceIte,Rq,Rb,Ra,Rs,Rt,aW,aX,bR,aY,aV, *]);with_reducible rfl));(focus(simp(disch:=(first|omega|(simp only[push_cast];first|done|omega))) only[push_cast,↓reduceIte,Rq,Rb,Ra,Rs,Rt,aW,aX,bR,aY,aV, *]<;>with_reducible exact rfl))
   all_goals try(first|assumption|omega)
   ·refine⟨⟨by(try simp only[List.length_append,List.length_cons,List.length_nil]at*);omega,?_⟩,?_,?_,?_,?_⟩
    ·first|exact hL|exact aF hL bZ|exact aF hL iV|exact aF (L:=[]) (by simp) bZ|exact aF (L:=[]) (by simp) iV|(simp;done)
    ·first|exact⟨by dsimp only;omega,hps.2⟩|exact eP (m:=21) hpl (by omega) hps.2 (by decide)
    all_goals first|(dsimp only;omega)|exact gU (p:=okI) (by decide) (by simp only[List.length_cons,List.length_nil];omega)
  ·(with_reducible apply iB (a:=(L,_,_,_,_)) (by first|exact .inl rfl|exact .inr rfl));(focus(simp(disch:=(first|omega|(simp only[push_cast];first|done|omega))) only[push_cast,↓reduceIte,Rq,Rb,Ra,Rs,Rt,aW,aX,bR,aY,aV, *];rw[yC (L) (by simp) (by simp)];(try simp(disch:=(first|omega|(simp only[push_cast];first|done|omega))) only[push_cast,↓reduceIte,Rq,Rb,Ra,Rs,Rt,aW,aX,bR,aY,aV, *]);with_reducible rfl));(focus(simp(disch:=(first|omega|(simp only[push_cast];first|done|omega))) only[push_cast,↓reduceIte,Rq,Rb,Ra,Rs,Rt,aW,aX,bR,aY,aV, *]<;>with_reducible exact rfl))
   all_goals try(first|assumption|omega)
   ·refine⟨⟨by(try simp only[List.length_append,List.length_cons,List.length_nil]at*);omega,?_⟩,?_,?_,?_,?_⟩
    ·first|exact hL|exact aF hL bZ|exact aF hL iV|exact aF (L:=[]) (by simp) bZ|exact aF (L:=[]) (by simp) iV|(simp;done)
    ·first|exact⟨by dsimp only;omega,hps.2⟩|exact eP (m:=21) hpl (by omega) hps.2 (by decide)
    all_goals first|(dsimp only;omega)|exact gU (p:=okI) (by decide) (by simp only[List.length_cons,List.length_nil];omega)
  ·(with_reducible apply iB (a:=(L,_,_,_,_)) (by first|exact .inl rfl|exact .inr rfl));(focus(simp(disch:=(first|omega|(simp only[push_cast];first|done|omega))) only[push_cast,↓reduceIte,Rq,Rb,Ra,Rs,Rt,aW,aX,bR,aY,aV, *];rw[yC (L) (by simp) (by simp)];(try simp(disch:=(first|omega|(simp only[push_cast];first|done|omega))) only[push_cast,↓reduceIte,Rq,Rb,Ra,Rs,Rt,aW,aX,bR,aY,aV, *]);with_reducible rfl));(focus(simp(disch:=(first|omega|(simp only[push_cast];first|done|omega))) only[push_cast,↓reduceIte,Rq,Rb,Ra,Rs,Rt,aW,aX,bR,aY,aV, *]<;>with_reducible exact rfl))
   all_goals try(first|assumption|omega)
   ·refine⟨⟨by(try simp only[List.length_append,List.length_cons,List.length_nil]at*);omega,?_⟩,?_,?_,?_,?_⟩
    ·first|exact hL|exact aF hL bZ|exact aF hL iV|exact aF (L:=[]) (by simp) bZ|exact aF (L:=[]) (by simp) iV|(simp;done)
    ·first|exact⟨by dsimp only;omega,hps.2⟩|exact eP (m:=21) hpl (by omega) hps.2 (by decide)
    all_goals first|(dsimp only;omega)|exact gU (p:=okI) (by decide) (by simp only[List.length_cons,List.length_nil];omega)
  ·(with_reducible apply iB (a:=(L,_,_,_,_)) (by first|exact .inl rfl|exact .inr rfl));(focus(simp(disch:=(first|omega|(simp only[push_cast];first|done|omega))) only[push_cast,↓reduceIte,Rq,Rb,Ra,Rs,Rt,aW,aX,bR,aY,aV, *];rw[yC (L) (by simp) (by simp)];(try simp(disch:=(first|omega|(simp only[push_cast];first|done|omega))) only[push_cast,↓reduceIte,Rq,Rb,Ra,Rs,Rt,aW,aX,bR,aY,aV, *]);with_reducible rfl));(focus(simp(disch:=(first|omega|(simp only[push_cast];first|done|omega))) only[push_cast,↓reduceIte,Rq,Rb,Ra,Rs,Rt,aW,aX,bR,aY,aV, *]<;>with_reducible exact rfl))
   all_goals try(first|assumption|omega)
   ·refine⟨⟨by(try simp only[List.length_append,List.length_cons,List.length_nil]at*);omega,?_⟩,?_,?_,?_,?_⟩
    ·first|exact hL|exact aF hL bZ|exact aF hL iV|exact aF (L:=[]) (by simp) bZ|exact aF (L:=[]) (by simp) iV|(simp;done)
    ·first|exact⟨by dsimp only;omega,hps.2⟩|exact eP (m:=21) hpl (by omega) hps.2 (by decide)
    all_goals first|(dsimp only;omega)|exact gU (p:=okI) (by decide) (by simp only[List.length_cons,List.length_nil];omega)
  ·(with_reducible apply iB (a:=(L,_,_,_,_)) (by first|exact .inl rfl|exact .inr rfl));(focus(simp(disch:=(first|omega|(simp only[push_cast];first|done|omega))) only[push_cast,↓reduceIte,Rq,Rb,Ra,Rs,Rt,aW,aX,bR,aY,aV, *];rw[yC (L) (by simp) (by simp)];(try simp(disch:=(first|omega|(simp only[push_cast];first|done|omega))) only[push_cast,↓reduceIte,Rq,Rb,Ra,Rs,Rt,aW,aX,bR,aY,aV, *]);with_reducible rfl));(focus(simp(disch:=(first|omega|(simp only[push_cast];first|done|omega))) only[push_cast,↓reduceIte,Rq,Rb,Ra,Rs,Rt,aW,aX,bR,aY,aV, *]<;>with_reducible exact rfl))
   all_goals try(first|assumption|omega)
   ·refine⟨⟨by(try simp only[List.length_append,List.length_cons,List.length_nil]at*);omega,?_⟩,?_,?_,?_,?_⟩
    ·first|exact hL|exact aF hL bZ|exact aF hL iV|exact aF (L:=[]) (by simp) bZ|exact aF (L:=[]) (by simp) iV|(simp;done)
    ·first|exact⟨by dsimp only;omega,hps.2⟩|exact eP (m:=21) hpl (by omega) hps.2 (by decide)
    all_goals first|(dsimp only;omega)|exact gU (p:=okI) (by decide) (by simp only[List.length_cons,List.length_nil];omega)
theorem alM {nm:Nat→Option Nat} {f sz:Nat} {k:Bool} {L:List LS}:eF nm (f+4) (.lst k sz (lsE L))=some (.lst k sz (lsE L)):=by show((lsE L).mapM (eF nm (f+3))).map (PV.lst k sz)=_;rw[kZ fun p=>qC];rfl
theorem aye {nm:Nat→Option Nat} {f:Nat} {L:List LS}:eF nm (f+4) (pE L)=some (pE L):=by
 cases L with
 |nil=>rfl
 |cons a L=>exact alM
attribute[push_cast]
 alM aye
def agJ:d9:=Classical.choose aeo
theorem avg:bQ Tryz.prog 23 agJ:=(Classical.choose_spec aeo).1
theorem abG:ahj 83 agJ 500000000 2000 EBk (fun n=>0≤n∧n≤1000) (fun _ b=>ao7 b):=(Classical.choose_spec aeo).2
theorem amb {n:Nat} {l:LS} (h:okT n l) (hn:n≤1000):rV l:=by
 refine⟨by have:=h.1;omega,fun i=>?_⟩;by_cases hi:i<l.length
 ·have:=h.2 l[i] (List.getElem_mem hi)
  simp only[List.getElem?_eq_getElem hi,Option.getD_some];omega
 ·rw[List.getElem?_eq_none (by omega)]
  simp
theorem awz {L:List LS} {ps:LS} (h1:L.length≤6) (h2:∀l∈L,okT 13 l) (h3:okT 22 ps):ab8 L ps:=by
 refine⟨by omega,fun i=>?_,amb h3 (by omega)⟩;by_cases hi:i<L.length
 ·simp only[List.getElem?_eq_getElem hi,Option.getD_some]
  exact amb (h2 L[i] (List.getElem_mem hi)) (by omega)
 ·rw[List.getElem?_eq_none (by omega)]
  exact⟨by simp,by simp⟩
abbrev lsF (L:List LS):List PV:=L.map fun p=> .lst false 1 (p.map fun s=> .val (.string s))
def axS:Fun:=F2 dSs dSs fun a b=>if a.length≤1048576∧b.length≤1048576 then some (bv (decide (a=b)))else none
theorem arN {a b:LS} (h:a.length≤1048576) (h2:b.length≤1048576):axS [.lst false 1 (a.map fun s=> .val (.string s)),.lst false 1 (b.map fun s=> .val (.string s))]=some (.val (.bool (decide (a=b)))):=
 (jA (A:=dSs) (B:=dSs) a b).trans (if_pos ⟨h,h2⟩)
theorem aBv:Sound Tryz.prog 15 axS:=by
 refine au mixed iL Tryz.func15 rfl 26 rfl [.tmp 4] rfl (by kernel_rfl) fun ps r hr=>?_;obtain⟨xs,ys,rfl,hpre,rfl⟩:=iK hr;refine⟨by simp,?_⟩;simp only[dIs,dUs,dSs,dw,dx,dh,dA,aS,dz,aQ,aR,aO,aP];obtain⟨hl1,hl2⟩:=hpre;(refine wlkX6 ?_ ?_ ?_ ?_ ?_ ?_<;>intros<;>try with_reducible exact trivial)
 ·(refine fnG ?_;try with_reducible exact trivial)
  have:¬xs=ys:=fun h=>by subst h;simp_all
  simp[this]
 refine aD (α:=Nat) mixed (fun k=>[(0,.lst false 1 (xs.map fun s=> .val (.string s))),(1,.lst false 1 (ys.map fun s=> .val (.string s))),(5,iv k)]) (fun k=>[]) (fun _=>0)
  (fun k=>k≤xs.length∧∀j,j<k→xs[j]?.getD .empty=ys[j]?.getD .empty) (fun k=>xs.length-k) (by kernel_rfl) 0 ⟨Nat.zero_le _,fun j hj=>by omega⟩ ?_ trivial rfl ?_
 ·simp only[push_cast,↓reduceIte,Rq,Rb,Ra,Rs,Rt]
 ·intro k ⟨hk,hok⟩
  (refine wlkX6 ?_ ?_ ?_ ?_ ?_ ?_<;>intros<;>try with_reducible exact trivial);all_goals try(refine fnG ?_;try with_reducible exact trivial)
  ·have:¬xs=ys:=fun h=>by subst h;simp_all
   simp[this]
  ·refine⟨k+1,⟨by omega,fun j hj=>?_⟩,by dsimp only;omega,by simp only[push_cast,↓reduceIte,Rq,Rb,Ra,Rs,Rt],trivial,rfl⟩
   by_cases h1:j<k
   ·exact hok j h1
   ·have:j=k:=by omega
    subst this;assumption
  ·have:xs=ys:=ae0 (d:=.empty) (by omega) fun j hj=>hok j (by omega)
   simp[this]
theorem aqI {p:List LS} {q:LS} {x y z:Int} (h:(blL p q x y z).length=0):blC p q x y z=[]∧(blB p q x y z=true→p=[]):=by
 unfold blL at h;unfold blC;split at h
 ·rename_i hB
  have hp:p.length=0:=by
   rcases Nat.eq_zero_or_pos p.length with h0|h0
   ·exact h0
   ·have hall:(p.all fun w=>mQ w q x y)=true:=by unfold blB at hB;rw[Bool.and_eq_true]at hB;exact hB.2
    have:=an8 (q:=q) (x:=x) (y:=y) (p:=p) (k:=p.length) (fun j hj=>by rw[List.getElem?_eq_getElem hj,Option.getD_some];exact List.all_eq_true.1 hall _ (List.getElem_mem hj)) h0
    omega
  rw[if_pos hB,List.eq_nil_of_length_eq_zero hp];exact⟨rfl,fun _=>rfl⟩
 ·rename_i hB
  rw[if_neg hB];exact⟨rfl,fun h=>absurd h hB⟩
theorem aCF {p:List LS} {q:LS} {x y z:Int} (h:blB p q x y z=true) {k:Nat} (hk:k<p.length):mQ (p[k]?.getD []) q x y=true:=by unfold blB at h;rw[Bool.and_eq_true]at h;rw[List.getElem?_eq_getElem hk,Option.getD_some];exact List.all_eq_true.1 h.2 _ (List.getElem_mem hk)
theorem aC0 (c d:aL):(fun o=>[c,d][o]?)=lo [(0,c),(1,d)]:=by
 funext o
 match o with
 |0=>rfl
 |1=>rfl
 |o+2=>simp[lo,List.lookup]
def akJ:Fun:=ac8 ΨBl
theorem amX {p:List LS} {q:LS} {x y z:Int} (h:ab8 p q) (h0:0<(blL p q x y z).length):akJ [.agg [.lst false 1 (p.map fun p=> .lst false 1 (p.map fun s=> .val (.string s))),.lst false 1 (q.map fun s=> .val (.string s)),.val (.int .i64 x),.val (.int .i64 y),.val (.int .i64 z)]]=some (.tup [.lst true 1 ((blL p q x y z).map fun s=> .val (.string s)),.lst true 1 ((blC p q x y z).map fun n=> .val (.int .i64 n)),.val (.bool (blB p q x y z))]):=by refine mq (r:=.tup [.row 0 1 0 (blL p q x y z).length,.row 1 1 0 (blC p q x y z).length,.val (.bool (blB p q x y z))]) (cs0:=[(9,1,(blL p q x y z).map fun s=> .val (.string s)),(3,1,(blC p q x y z).map fun n=> .val (.int .i64 n))]) ((apA (A:=sD) (p,q,x,y,z)).trans ((if_pos h).trans (by dsimp only;rw[if_pos h0]))) ?_;generalize blL p q x y z=A;generalize blC p q x y z=B;rw[aC0];(exact sr)
theorem aqa {p:List LS} {q:LS} {x y z:Int} (h:ab8 p q) (h0:(blL p q x y z).length=0):akJ [.agg [.lst false 1 (p.map fun p=> .lst false 1 (p.map fun s=> .val (.string s))),.lst false 1 (q.map fun s=> .val (.string s)),.val (.int .i64 x),.val (.int .i64 y),.val (.int .i64 z)]]=some (.tup [.val (.slice none 0 0),.val (.slice none 0 0),.val (.bool (blB p q x y z))]):=
 mq (r:=.tup [.val (.slice none 0 0),.val (.slice none 0 0),.val (.bool (blB p q x y z))]) (cs0:=[]) ((apA (A:=sD) (p,q,x,y,z)).trans ((if_pos h).trans (by dsimp only;rw[if_neg (by omega)]))) rfl
theorem akG:Sound Tryz.prog 25 akJ:=auR.pure
def al5:Fun:=axr 1 axS
theorem aoB {a b:LS} (h:a.length≤1048576) (h2:b.length≤1048576):al5 [.lst false 1 (a.map fun s=> .val (.string s)),.lst false 1 (b.map fun s=> .val (.string s))]=some (.val (.bool (decide (a=b)))):=arN h h2
theorem aj3 {p:List LS} {q:LS} {x y z:Int} (h:p.length≤6):(blL p q x y z).length≤360∧(blC p q x y z).length≤6:=by
 unfold blL blC;split
 ·have:=abZ p q x y p.length
  rw[aax];omega
 ·simp
def ai0 (ks:List Bool) (i:Nat):Bool:=ks[i]?.getD false
def aiK (ks:List Bool) (h p q:Nat):Prop:=p<q∧q≤ks.length∧q≤p+h∧¬(q<ks.length∧ai0 ks (q-1)=true)
instance (ks:List Bool) (h p q:Nat):Decidable (aiK ks h p q):=by unfold aiK;infer_instance
def okQ (ks:List Bool) (h:Nat) (E:Nat→Int) (p q:Nat):Prop:=aiK ks h p q∧0≤E q
instance (ks:List Bool) (h:Nat) (E:Nat→Int) (p q:Nat):Decidable (okQ ks h E p q):=by unfold okQ;infer_instance
def mG (ks:List Bool) (h:Nat) (E:Nat→Int) (p q:Nat):Int:=(if q=ks.length then 0 else((h:Int)-((q:Int)-p))*((h:Int)-((q:Int)-p)))+E q
theorem afR {ks:List Bool} {h:Nat} {E:Nat→Int} {p q:Nat} (ho:okQ ks h E p q):0≤mG ks h E p q:=by obtain⟨⟨h1,h2,h3,h4⟩,h5⟩:=ho;unfold mG;have:0≤((h:Int)-((q:Int)-p))*((h:Int)-((q:Int)-p)):=Int.mul_nonneg (by omega) (by omega);split<;>omega
def ae1 (ks:List Bool) (h:Nat) (E:Nat→Int) (p q:Nat) (s:Int×Nat):Int×Nat:=if okQ ks h E p q∧(s.1<0∨mG ks h E p q<s.1)then(mG ks h E p q,q)else s
def aaK (ks:List Bool) (h:Nat) (E:Nat→Int) (p q:Nat) (s:Int×Nat):Int×Nat:=if okQ ks h E p q∧(s.1<0∨mG ks h E p q≤s.1)then(mG ks h E p q,q)else s
def dnP (ks:List Bool) (h:Nat) (E:Nat→Int) (p:Nat):Nat→Int×Nat
 |0=>(-1,0)
 |m+1=>ae1 ks h E p (ks.length-m) (dnP ks h E p m)
def upP (ks:List Bool) (h:Nat) (E:Nat→Int) (p:Nat):Nat→Int×Nat
 |0=>(-1,0)
 |m+1=>aaK ks h E p (p+m+1) (upP ks h E p m)
structure lW (ks:List Bool) (h:Nat) (E:Nat→Int) (p:Nat) (Q:Nat→Prop) (s:Int×Nat):Prop where
 no:s.1<0→s=(-1,0)∧∀q,Q q→¬okQ ks h E p q
 yes:0≤s.1→Q s.2∧okQ ks h E p s.2∧s.1=mG ks h E p s.2∧∀q,Q q→okQ ks h E p q→mG ks h E p s.2≤mG ks h E p q∧(mG ks h E p q=mG ks h E p s.2→q≤s.2)
section
variable {ks:List Bool} {h:Nat} {E E':Nat→Int} {p:Nat} {Q Q':Nat→Prop} {s s':Int×Nat}
theorem lW.uniq (h1:lW ks h E p Q s) (h2:lW ks h E p Q s'):s=s':=by
 by_cases c1:s.1<0
 ·obtain⟨e1,n1⟩:=h1.no c1
  by_cases c2:s'.1<0
  ·rw[e1,(h2.no c2).1]
  ·obtain⟨q1,q2,_⟩:=h2.yes (by omega)
   exact absurd q2 (n1 _ q1)
 ·obtain⟨q1,q2,q3,q4⟩:=h1.yes (by omega)
  by_cases c2:s'.1<0
  ·exact absurd q2 ((h2.no c2).2 _ q1)
  ·obtain⟨r1,r2,r3,r4⟩:=h2.yes (by omega)
   have a1:=q4 _ r1 r2;have a2:=r4 _ q1 q2;have e:mG ks h E p s'.2=mG ks h E p s.2:=by omega
   have b1:=a1.2 e;have b2:=a2.2 e.symm;have e2:s.2=s'.2:=by omega
   exact Prod.ext (by rw[q3,r3,e]) e2
theorem lW.aEc (hq:∀q,Q q↔Q' q) (h1:lW ks h E p Q s):lW ks h E p Q' s:=
 ⟨fun c=>⟨(h1.no c).1,fun q hh=>(h1.no c).2 q ((hq q).2 hh)⟩,fun c=>⟨(hq _).1 (h1.yes c).1,(h1.yes c).2.1,(h1.yes c).2.2.1,fun q hh=>(h1.yes c).2.2.2 q ((hq q).2 hh)⟩⟩
theorem lW.ae1 {q0:Nat} (h1:lW ks h E p Q s) (hlt:∀q,Q q→q0<q):lW ks h E p (fun q=>Q q∨q=q0) (ae1 ks h E p q0 s):=by
 unfold Proofs.YtmmafcjjlbgnkaaGreatDoor.ae1;split
 ·rename_i hc
  obtain⟨hok,hc⟩:=hc;have hnn:=afR hok;refine⟨fun c=>?_,fun _=>⟨.inr rfl,hok,rfl,fun q hq hqo=>?_⟩⟩
  ·dsimp only at c;omega
  ·dsimp only
   rcases hq with hq|rfl
   ·by_cases c1:s.1<0
    ·exact absurd hqo ((h1.no c1).2 q hq)
    ·obtain⟨q1,q2,q3,q4⟩:=h1.yes (by omega)
     have:=(q4 q hq hqo).1;omega
   ·exact⟨Int.le_refl _,fun _=>Nat.le_refl _⟩
 ·rename_i hc
  refine⟨fun c=>⟨(h1.no c).1,fun q hq hqo=>?_⟩,fun c=>?_⟩
  ·rcases hq with hq|rfl
   ·exact(h1.no c).2 q hq hqo
   ·exact hc ⟨hqo,.inl c⟩
  ·obtain⟨q1,q2,q3,q4⟩:=h1.yes c
   refine⟨.inl q1,q2,q3,fun q hq hqo=>?_⟩;rcases hq with hq|rfl
   ·exact q4 q hq hqo
   ·have h5:¬mG ks h E p q<s.1:=fun e=>hc ⟨hqo,.inr e⟩
    have:=hlt _ q1;exact⟨by omega,fun _=>by omega⟩
theorem lW.aaK {q0:Nat} (h1:lW ks h E p Q s) (hlt:∀q,Q q→q<q0):lW ks h E p (fun q=>Q q∨q=q0) (aaK ks h E p q0 s):=by
 unfold Proofs.YtmmafcjjlbgnkaaGreatDoor.aaK;split
 ·rename_i hc
  obtain⟨hok,hc⟩:=hc;have hnn:=afR hok;refine⟨fun c=>?_,fun _=>⟨.inr rfl,hok,rfl,fun q hq hqo=>?_⟩⟩
  ·dsimp only at c;omega
  ·dsimp only
   rcases hq with hq|rfl
   ·by_cases c1:s.1<0
    ·exact absurd hqo ((h1.no c1).2 q hq)
    ·obtain⟨q1,q2,q3,q4⟩:=h1.yes (by omega)
     have:=(q4 q hq hqo).1;have:=hlt _ hq;exact⟨by omega,fun _=>by omega⟩
   ·exact⟨Int.le_refl _,fun _=>Nat.le_refl _⟩
 ·rename_i hc
  refine⟨fun c=>⟨(h1.no c).1,fun q hq hqo=>?_⟩,fun c=>?_⟩
  ·rcases hq with hq|rfl
   ·exact(h1.no c).2 q hq hqo
   ·exact hc ⟨hqo,.inl c⟩
  ·obtain⟨q1,q2,q3,q4⟩:=h1.yes c
   refine⟨.inl q1,q2,q3,fun q hq hqo=>?_⟩;rcases hq with hq|rfl
   ·exact q4 q hq hqo
   ·have h5:¬mG ks h E p q≤s.1:=fun e=>hc ⟨hqo,.inr e⟩
    exact⟨by omega,fun _=>by omega⟩
theorem lW.zero (hQ:∀q,¬Q q):lW ks h E p Q (-1,0):=⟨fun _=>⟨rfl,fun q hq=>absurd hq (hQ q)⟩,fun c=>by dsimp only at c;omega⟩
theorem vF:∀m,m≤ks.length→lW ks h E p (fun q=>ks.length-m<q∧q≤ks.length) (dnP ks h E p m)
 |0,_=>lW.zero fun q hq=>by omega
 |m+1,hm=>by refine((vF m (by omega)).ae1 (q0:=ks.length-m) fun q hq=>by omega).aEc fun q=>?_;omega
theorem abk:∀m,lW ks h E p (fun q=>p<q∧q≤p+m) (upP ks h E p m)
 |0=>lW.zero fun q hq=>by omega
 |m+1=>by refine((abk m).aaK (q0:=p+m+1) fun q hq=>by omega).aEc fun q=>?_;omega
def bq (ks:List Bool) (h:Nat) (E:Nat→Int) (p:Nat):Int×Nat:=dnP ks h E p (ks.length-p)
theorem aBC (hp:p≤ks.length):upP ks h E p (ks.length-p)=bq ks h E p:=by refine(abk (ks.length-p)).uniq (((vF (ks.length-p) (by omega))).aEc fun q=>?_);omega
theorem wR (hp:p≤ks.length):lW ks h E p (fun q=>p<q∧q≤ks.length) (bq ks h E p):=
 (vF (ks.length-p) (by omega)).aEc fun q=>by omega
theorem amu:∀d m,h≤m→upP ks h E p (m+d)=upP ks h E p m
 |0,m,_=>rfl
 |d+1,m,hm=>by show aaK ks h E p (p+(m+d)+1) (upP ks h E p (m+d))=_;rw[amu d m hm];unfold Proofs.YtmmafcjjlbgnkaaGreatDoor.aaK;rw[if_neg];rintro⟨⟨⟨_,_,h3,_⟩,_⟩,_⟩;omega
theorem aDU {m:Nat} (hm:h≤m) (hmn:m≤ks.length-p) (hp:p≤ks.length):upP ks h E p m=bq ks h E p:=by rw[←aBC hp,←amu (ks.length-p-m) m hm];congr 1;omega
theorem asa (hE:∀q,p<q→q≤ks.length→E q=E' q) (hp:p≤ks.length):bq ks h E p=bq ks h E' p:=by
 have ok:∀q,p<q→q≤ks.length→(okQ ks h E p q↔okQ ks h E' p q)∧mG ks h E p q=mG ks h E' p q:=fun q h1 h2=>by unfold okQ mG;rw[hE q h1 h2];exact⟨Iff.rfl,rfl⟩
 have hb:=wR (ks:=ks) (h:=h) (E:=E) hp;refine lW.uniq (Q:=fun q=>p<q∧q≤ks.length) ⟨fun c=>⟨(hb.no c).1,fun q hq hqo=>(hb.no c).2 q hq ((ok q hq.1 hq.2).1.2 hqo)⟩,fun c=>?_⟩ (wR hp);obtain⟨q1,q2,q3,q4⟩:=hb.yes c;refine⟨q1,(ok _ q1.1 q1.2).1.1 q2,by rw[←(ok _ q1.1 q1.2).2];exact q3,fun q hq hqo=>?_⟩;rw[←(ok _ q1.1 q1.2).2,←(ok _ hq.1 hq.2).2];exact q4 q hq ((ok q hq.1 hq.2).1.2 hqo)
end
def tbP (ks:List Bool) (h:Nat):Nat→Nat→Int×Nat
 |0=>fun _=>(0,0)
 |k+1=>fun x=>if x=ks.length-(k+1)then bq ks h (fun q=>(tbP ks h k q).1) (ks.length-(k+1))else tbP ks h k x
section
variable {ks:List Bool} {h:Nat}
theorem aea:∀{k x:Nat},k≤ks.length→x+k<ks.length→tbP ks h k x=(0,0)
 |0,x,_,_=>rfl
 |k+1,x,hk,hx=>by show(if x=ks.length-(k+1)then _ else tbP ks h k x)=_;rw[if_neg (by omega)];exact aea (by omega) (by omega)
theorem aa6 {x:Nat}:∀{d k:Nat},k+d≤ks.length→ks.length≤x+k→tbP ks h (k+d) x=tbP ks h k x
 |0,k,_,_=>rfl
 |d+1,k,hk,hx=>by show(if x=ks.length-(k+d+1)then _ else tbP ks h (k+d) x)=_;rw[if_neg (by omega)];exact aa6 (by omega) hx
def eT (ks:List Bool) (h p:Nat):Int:=(tbP ks h ks.length p).1
def lC (ks:List Bool) (h p:Nat):Nat:=(tbP ks h ks.length p).2
theorem aer {p:Nat} (hp:p<ks.length):tbP ks h ks.length p=bq ks h (eT ks h) p:=by
 have e1:tbP ks h ks.length p=tbP ks h (ks.length-p) p:=by
  have:=aa6 (ks:=ks) (h:=h) (x:=p) (d:=p) (k:=ks.length-p) (by omega) (by omega)
  rwa[show ks.length-p+p=ks.length by omega]at this
 have e2:tbP ks h (ks.length-p) p=bq ks h (fun q=>(tbP ks h (ks.length-p-1) q).1) p:=by obtain⟨k,hk⟩:∃k,ks.length-p=k+1:=⟨ks.length-p-1,by omega⟩;rw[hk,Nat.add_sub_cancel];show(if p=ks.length-(k+1)then bq ks h _ (ks.length-(k+1))else _)=_;rw[if_pos (by omega),show ks.length-(k+1)=p by omega]
 rw[e1,e2];refine asa (fun q h1 h2=>?_) (by omega);unfold eT;have:=aa6 (ks:=ks) (h:=h) (x:=q) (d:=p+1) (k:=ks.length-p-1) (by omega) (by omega);rw[show ks.length-p-1+(p+1)=ks.length by omega]at this;rw[this]
theorem aao {p:Nat} (hp:p<ks.length) (h0:0≤eT ks h p):aiK ks h p (lC ks h p)∧0≤eT ks h (lC ks h p):=by have hb:=wR (ks:=ks) (h:=h) (E:=eT ks h) (p:=p) (by omega);rw[←aer hp]at hb;exact(hb.yes h0).2.1
def o7 (ks:List Bool) (h:Nat):Nat→Nat→List Nat
 |0,_=>[]
 |f+1,p=>if p<ks.length then lC ks h p::o7 ks h f (lC ks h p)else []
theorem agN {f:Nat}:o7 ks h f ks.length=[]:=by
 cases f with
 |zero=>rfl
 |succ f=>show(if ks.length<ks.length then _ else _)=_;rw[if_neg (by omega)]
def aAS (ks:List Bool) (h:Nat):List Nat:=o7 ks h ks.length 0
def ChP (ks:List Bool) (h:Nat):Nat→List Nat→Prop
 |p,[]=>p=ks.length
 |p,q::r=>aiK ks h p q∧ChP ks h q r
theorem aj5:∀{f p:Nat},ks.length≤p+f→p≤ks.length→0≤eT ks h p→ChP ks h p (o7 ks h f p)
 |0,p,h1,h2,_=>by show p=ks.length;omega
 |f+1,p,h1,h2,h3=>by
  show ChP ks h p (if p<ks.length then _ else _);split
  ·rename_i hp
   obtain⟨k1,k2⟩:=aao hp h3;exact⟨k1,aj5 (by have:=k1.1;omega) k1.2.1 k2⟩
  ·show p=ks.length
   omega
theorem axl (h0:0≤eT ks h 0):ChP ks h 0 (aAS ks h):=aj5 (by omega) (by omega) h0
theorem xZ:∀{p:Nat} {l:List Nat},ChP ks h p l→l.length+p≤ks.length
 |p,[],hc=>by have:p=ks.length:=hc;simp;omega
 |p,q::r,hc=>by have:=xZ hc.2;have:=hc.1.1;simp only[List.length_cons];omega
def lY {α:Type} (l:List α):Nat→List Nat→List (List α)
 |_,[]=>[]
 |p,q::r=>(l.drop p).take (q-p)::lY l q r
theorem qj {α:Type} {l:List α}:∀{p:Nat} {r:List Nat},(lY l p r).length=r.length
 |_,[]=>rfl
 |p,q::r=>by show(lY l q r).length+1=_;rw[qj];rfl
theorem agh {α:Type} {l:List α} (hl:l.length=ks.length):∀{p:Nat} {r:List Nat},ChP ks h p r→(lY l p r).flatten=l.drop p
 |p,[],hc=>by have:p=ks.length:=hc;rw[this,←hl,List.drop_length];rfl
 |p,q::r,hc=>by show((l.drop p).take (q-p)::lY l q r).flatten=_;rw[List.flatten_cons,agh hl hc.2];have h1:=hc.1.1;rw[show l.drop q=(l.drop p).drop (q-p) by rw[List.drop_drop];congr 1;omega,List.take_append_drop]
theorem af7 {α:Type} {l:List α}:∀{p:Nat} {r:List Nat} {q:Nat},lY l p (r++[q])=lY l p r++[(l.drop ((r.getLast?).getD p)).take (q-(r.getLast?).getD p)]
 |p,[],q=>rfl
 |p,x::r,q=>by
  show(l.drop p).take (x-p)::lY l x (r++[q])=_;rw[af7];have:((x::r).getLast?).getD p=(r.getLast?).getD x:=by
   cases r with
   |nil=>rfl
   |cons y r=>simp[List.getLast?_cons]
  rw[this];rfl
end
def aa1 (n:Nat) (f:Nat→Int):List PV:=(List.range (n+1)).map fun x=>PV.val (.int .i64 (f x))
def ovr {α:Type} (f:Nat→α) (p:Nat) (v:α):Nat→α:=fun x=>if x=p then v else f x
theorem vM {n:Nat} {f:Nat→Int}:(aa1 n f).length=n+1:=by simp[aa1]
theorem aqR {n i:Nat} {f:Nat→Int} (h:i≤n):(aa1 n f)[i]?=some (.val (.int .i64 (f i))):=by unfold aa1;rw[List.getElem?_map,List.getElem?_range (by omega)];rfl
theorem ar1 {n i:Nat} {f:Nat→Int} {v:Int}:(aa1 n f).set i (.val (.int .i64 v))=aa1 n (ovr f i v):=by
 apply List.ext_getElem?;intro j;rw[List.getElem?_set,vM];by_cases hj:j<n+1
 ·unfold aa1 ovr
  by_cases h:i=j
  ·subst h
   rw[if_pos rfl,if_pos hj,List.getElem?_map,List.getElem?_range hj,Option.map_some,if_pos rfl]
  ·rw[if_neg h,List.getElem?_map,List.getElem?_map,List.getElem?_range hj,Option.map_some,Option.map_some,if_neg (fun e=>h e.symm)]
 ·rw[List.getElem?_eq_none (by rw[vM];omega),List.getElem?_eq_none (by rw[vM];omega)]
  split<;>(try split)<;>first|rfl|omega
theorem aaW {α:Type} {f:Nat→α} {p:Nat} {v v':α}:ovr (ovr f p v) p v'=ovr f p v':=by funext x;unfold ovr;split<;>rfl
theorem as9 {α:Type} {f:Nat→α} {p:Nat} {v:α}:ovr f p v p=v:=by simp[ovr]
theorem atQ {α:Type} {f:Nat→α} {p x:Nat} {v:α} (h:¬x=p):ovr f p v x=f x:=by simp[ovr,h]
theorem atx {α:Type} {f:Nat→α} {p:Nat}:ovr f p (f p)=f:=by
 funext x;unfold ovr;split
 ·rename_i e;rw[e]
 ·rfl
theorem auL {n:Nat}:List.replicate (n+1) (PV.val (.int .i64 0))=aa1 n (fun _=>0):=by unfold aa1;symm;rw[List.eq_replicate_iff];exact⟨by rw[List.length_map,List.length_range],fun b hb=>by obtain⟨x,-,rfl⟩:=List.mem_map.1 hb;rfl⟩
attribute[push_cast]
 vM aqR ar1 auL
def kp (n j:Nat):Bool:=(decide (j=0)&&decide (2≤n))||(decide (j+2=n)&&decide (3≤n))
theorem aBW {n j:Nat} (h:(j=0∧2≤n)∨(j+2=n∧3≤n)):kp n j=true:=by unfold kp;simpa using h
theorem aFl {n j:Nat} (h:¬((j=0∧2≤n)∨(j+2=n∧3≤n))):kp n j=false:=by
 cases e:kp n j with
 |false=>rfl
 |true=>unfold kp at e;exact absurd (by simpa using e) h
def kpN (n m:Nat):List Bool:=(List.range m).map (kp n)
def eO (c:List Nat):List Bool:=(c.map fun n=>kpN n n).flatten
theorem aan (n m:Nat):kpN n (m+1)=kpN n m++[kp n m]:=by simp[kpN,List.range_succ]
theorem kG (n:Nat):kpN n 0=[]:=rfl
theorem ou (n m:Nat):(kpN n m).length=m:=by simp[kpN]
theorem qQ (c:List Nat):(eO c).length=c.sum:=by unfold eO;rw[List.length_flatten,List.map_map];congr 1;rw[List.map_congr_left (g:=id) (fun n _=>by simp[ou]),List.map_id]
theorem tK {c:List Nat} {k:Nat} (h:k<c.length):eO (c.take (k+1))=eO (c.take k)++kpN (c[k]?.getD 0) (c[k]?.getD 0):=by unfold eO;rw[List.take_succ_eq_append_getElem h,List.map_append,List.flatten_append,List.getElem?_eq_getElem h,Option.getD_some];simp
theorem agR {c:List Nat} {k:Nat} (h:k<c.length):(c.take (k+1)).sum=(c.take k).sum+c[k]?.getD 0:=by rw[List.take_succ_eq_append_getElem h,List.sum_append,List.getElem?_eq_getElem h,Option.getD_some];simp
theorem xS (c:List Nat) (k:Nat):(c.take k).sum≤c.sum:=by
 conv=>rhs;rw[←List.take_append_drop k c,List.sum_append]
 omega
theorem aga {c:List Nat} {k i:Nat} (h:k<c.length) (hi:i<c[k]?.getD 0):ai0 (eO c) ((c.take k).sum+i)=kp (c[k]?.getD 0) i:=by
 have e:eO c=eO (c.take (k+1))++eO (c.drop (k+1)):=by unfold eO;rw[←List.flatten_append,←List.map_append,List.take_append_drop]
 unfold ai0;rw[e,tK h,List.append_assoc,List.getElem?_append_right (by rw[qQ];omega),qQ,Nat.add_sub_cancel_left,List.getElem?_append_left (by rw[ou];exact hi)];unfold kpN;rw[List.getElem?_map,List.getElem?_range hi];rfl
theorem aoW {c:List Nat} {h p q:Nat} (hm:aiK (eO c) h p q) (hq:q<(eO c).length) {k:Nat} (hk:k<c.length) (h2:1<c[k]?.getD 0):¬q=(c.take k).sum+1∧¬q+1=(c.take k).sum+c[k]?.getD 0:=by
 have hno:=hm.2.2.2;constructor
 ·rintro rfl
  refine hno ⟨hq,?_⟩;have:=aga hk (i:=0) (by omega);rw[Nat.add_sub_cancel];rw[Nat.add_zero]at this;rw[this];exact aBW (.inl ⟨rfl,by omega⟩)
 ·intro e
  refine hno ⟨hq,?_⟩;have h3:=aga hk (i:=c[k]?.getD 0-2) (by omega);rw[show q-1=(c.take k).sum+(c[k]?.getD 0-2) by omega,h3];refine aBW ?_;omega
def ab7 (ks:List Bool) (h:Nat):Bool:=decide (0≤eT ks h 0)
def kW (ks:List Bool) (h:Nat):List Nat:=if ab7 ks h=true then aAS ks h else []
theorem aaL {ks:List Bool} {h:Nat}:ab7 ks h=true↔0≤eT ks h 0:=by simp[ab7]
theorem zJ {ks:List Bool} {h:Nat} (hb:ab7 ks h=true):ChP ks h 0 (kW ks h):=by unfold kW;rw[if_pos hb];exact axl (aaL.1 hb)
theorem anb {α:Type} {ks:List Bool} {h:Nat} {l:List α} (hl:l.length=ks.length):∀{p:Nat} {r:List Nat},ChP ks h p r→∀x∈lY l p r,1≤x.length∧x.length≤h
 |p,[],_,x,hx=>by cases hx
 |p,q::r,hc,x,hx=>by
  rcases List.mem_cons.1 hx with rfl|hx
  ·obtain⟨h1,h2,h3,_⟩:=hc.1
   rw[List.length_take,List.length_drop];omega
  ·exact anb hl hc.2 x hx
theorem aku {α:Type} {ks:List Bool} {h:Nat} {l:List α} (hl:l.length=ks.length):∀{p:Nat} {r:List Nat},ChP ks h p r→∀k,k<r.length→p+(((lY l p r).take (k+1)).flatten).length=r[k]?.getD 0
 |p,[],_,k,hk=>by simp at hk
 |p,q::r,hc,k,hk=>by
  obtain⟨h1,h2,h3,_⟩:=hc.1;show p+((((l.drop p).take (q-p)::lY l q r).take (k+1)).flatten).length=_;rw[List.take_succ_cons,List.flatten_cons,List.length_append,List.length_take,List.length_drop];cases k with
  |zero=>simp;omega
  |succ k=>have:=aku hl hc.2 k (by simpa using hk);rw[List.getElem?_cons_succ,←this];omega
theorem atC:∀{ks:List Bool} {h p:Nat} {r:List Nat},ChP ks h p r→∀k,k<r.length→∃p',aiK ks h p' (r[k]?.getD 0)
 |ks,h,p,[],_,k,hk=>by simp at hk
 |ks,h,p,q::r,hc,0,_=>⟨p,hc.1⟩
 |ks,h,p,q::r,hc,k+1,hk=>by have:=atC hc.2 k (by simpa using hk);simpa using this
theorem akN:∀{ks:List Bool} {h p:Nat} {r:List Nat},ChP ks h p r→∀k,k+1<r.length→r[k]?.getD 0<ks.length
 |ks,h,p,[],_,k,hk=>by simp at hk
 |ks,h,p,[q],_,k,hk=>by simp at hk
 |ks,h,p,q::q2::r,hc,0,_=>by have h1:=hc.2.1.1;have h2:=hc.2.1.2.1;show q<_;omega
 |ks,h,p,q::q2::r,hc,k+1,hk=>by have:=akN hc.2 k (by simpa using hk);simpa using this
end
end Go.Proofs.YtmmafcjjlbgnkaaGreatDoor
