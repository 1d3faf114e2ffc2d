/- What the proof rests on, part 13: contracts of functions. No condition beyond what each states. -/
import Derived.Test.YtmmafcjjlbgnkaaGreatDoorZBi12
namespace Go.Proofs.YtmmafcjjlbgnkaaGreatDoor
open Go.RowKit
open Nat renaming reduceEqDiff→Rq,reduceBEq→Rb,reduceAdd→Ra,reduceSub→Rs
open Int renaming reduceToNat→Rt
set_option linter.all false
set_option maxHeartbeats 32000000
noncomputable section
abbrev aEk (s:ByteArray):PV:=.val (.string s)
theorem afF:∃Φ:d9,bQ Tryz.prog 90 Φ∧ahj 83 Φ 700000000 15 aEk (fun n=>0≤n∧n≤1000) (fun _ s=>s.size≤21):=by
 refine tq mixed aub Tryz.func90 rfl 39 rfl [.tmp 4] rfl (by kernel_rfl) (by simp) _ _ _ _ _ _ fun code p n hok hp hn=>?_;have hp0:=hok.pos
 repeat' (first|(first|(with_reducible first|apply gu|apply bI|apply dJ|apply dF|apply gG|apply nJ|apply fU|apply fV|apply mY|apply gB|apply gK|apply nK|apply gM|apply fT|apply fZ)|((with_reducible apply bf);(simp only[List.map_cons,List.map_nil]<;>exact rfl))|((with_reducible apply dD);(simp only[List.map_cons,List.map_nil]<;>exact rfl);decide+kernel)|((with_reducible apply gL);rfl)|((first|((with_reducible apply i_V);rfl;rfl;rfl)|((first|((with_reducible apply i_E);rfl)|((with_reducible apply i_S);rfl));first|rfl|(simp only[push_cast,↓reduceIte]))|((with_reducible apply nR);rfl;rfl)|((with_reducible apply nD);rfl;rfl;rfl)|(with_reducible first|apply om|apply dH));(simp(disch:=(first|omega|(simp only[push_cast];first|done|omega))) only[push_cast,↓reduceIte,Rq,Rb,Ra,Rs,Rt, *]<;>with_reducible exact rfl);all_goals try(first|(with_reducible first|refine hyT ?_|refine hyF ?_|exact hyA|exact hyB)|(intro hX;first|(cases hX;done)|((try simp only[decide_eq_true_eq,decide_eq_false_iff_not,Bool.not_eq_true',Bool.not_eq_false']at hX);(try have hXb:=av.1 hX))))))|((with_reducible apply bY eZ (fun _ _=>rfl));rfl;(simp(disch:=(first|omega|(simp only[push_cast];first|done|omega))) only[push_cast,↓reduceIte,Rq,Rb,Ra,Rs,Rt, *]<;>with_reducible exact rfl);(simp(disch:=(first|omega|(simp only[push_cast];first|done|omega))) only[push_cast,↓reduceIte,Rq,Rb,Ra,Rs,Rt, *]<;>with_reducible exact rfl);(simp(disch:=(first|omega|(simp only[push_cast];first|done|omega))) only[push_cast,↓reduceIte,Rq,Rb,Ra,Rs,Rt, *]<;>with_reducible exact rfl);assumption;omega;(focus(first|trivial|omega));(focus(first|rfl|(simp only[push_cast,↓reduceIte])));intro v pp hv hok hpp1 hpp2)|((with_reducible apply bY jQ (fun _ _=>rfl));rfl;(simp(disch:=(first|omega|(simp only[push_cast];first|done|omega))) only[push_cast,↓reduceIte,Rq,Rb,Ra,Rs,Rt, *]<;>with_reducible exact rfl);(simp(disch:=(first|omega|(simp only[push_cast];first|done|omega))) only[push_cast,↓reduceIte,Rq,Rb,Ra,Rs,Rt, *]<;>with_reducible exact rfl);(simp(disch:=(first|omega|(simp only[push_cast];first|done|omega))) only[push_cast,↓reduceIte,Rq,Rb,Ra,Rs,Rt, *]<;>with_reducible exact rfl);assumption;omega;(focus(first|trivial|omega));(focus(first|rfl|(simp only[push_cast,↓reduceIte])));intro v pp hv hok hpp1 hpp2))
 all_goals try((with_reducible apply iB (by first|exact .inl rfl|exact .inr rfl));(focus(simp(disch:=(first|omega|(simp only[push_cast];first|done|omega))) only[push_cast,↓reduceIte,Rq,Rb,Ra,Rs,Rt,aW,aX,bR,aY,aV, *]<;>with_reducible exact rfl));(focus(simp(disch:=(first|omega|(simp only[push_cast];first|done|omega))) only[push_cast,↓reduceIte,Rq,Rb,Ra,Rs,Rt,aW,aX,bR,aY,aV, *]<;>with_reducible exact rfl)))
 all_goals try(first|omega|assumption|exact gU (p:=fun a:ByteArray=>a.size≤21) (by decide) (by simp only[List.length_cons,List.length_nil];omega))
 refine aD (α:=ByteArray×Int×Int×Nat) mixed (fun s=>[(0,.own 0 2 0 0),(5,.val (.string s.1)),(6,iv s.2.1)])
  (fun s=>[(0,rdC 83 code s.2.2.1)]) (fun s=>s.2.2.2)
  (fun s=>rY code s.2.2.1∧p≤s.2.2.1∧s.2.2.1+s.2.1≤p+14∧s.1.size+s.2.1≤10∧0≤s.2.1∧0<s.2.2.2) (fun s=>s.2.1.toNat) (by kernel_rfl) (⟨#[]⟩,1+v,pp,1) ⟨hok,?_⟩ ?_ ?_ rfl ?_
 ·have h0:((⟨#[]⟩:ByteArray)).size=0:=rfl
  dsimp only;omega
 ·exact agr
 ·exact agr
 rintro⟨s,k,q,y⟩ ⟨okq,i1,i2,i3,i4,i5⟩;dsimp only at okq i1 i2 i3 i4 i5
 repeat' (first|(first|(with_reducible first|apply gu|apply bI|apply dJ|apply dF|apply gG|apply nJ|apply fU|apply fV|apply mY|apply gB|apply gK|apply nK|apply gM|apply fT|apply fZ)|((with_reducible apply bf);(simp only[List.map_cons,List.map_nil]<;>exact rfl))|((with_reducible apply dD);(simp only[List.map_cons,List.map_nil]<;>exact rfl);decide+kernel)|((with_reducible apply gL);rfl)|((first|((with_reducible apply i_V);rfl;rfl;rfl)|((first|((with_reducible apply i_E);rfl)|((with_reducible apply i_S);rfl));first|rfl|(simp only[push_cast,↓reduceIte]))|((with_reducible apply nR);rfl;rfl)|((with_reducible apply nD);rfl;rfl;rfl)|(with_reducible first|apply om|apply dH));(simp(disch:=(first|omega|(simp only[push_cast];first|done|omega))) only[push_cast,↓reduceIte,Rq,Rb,Ra,Rs,Rt, *]<;>with_reducible exact rfl);all_goals try(first|(with_reducible first|refine hyT ?_|refine hyF ?_|exact hyA|exact hyB)|(intro hX;first|(cases hX;done)|((try simp only[decide_eq_true_eq,decide_eq_false_iff_not,Bool.not_eq_true',Bool.not_eq_false']at hX);(try have hXb:=av.1 hX))))))|((with_reducible apply bY eZ (fun _ _=>rfl));rfl;(simp(disch:=(first|omega|(simp only[push_cast];first|done|omega))) only[push_cast,↓reduceIte,Rq,Rb,Ra,Rs,Rt, *]<;>with_reducible exact rfl);(simp(disch:=(first|omega|(simp only[push_cast];first|done|omega))) only[push_cast,↓reduceIte,Rq,Rb,Ra,Rs,Rt, *]<;>with_reducible exact rfl);(simp(disch:=(first|omega|(simp only[push_cast];first|done|omega))) only[push_cast,↓reduceIte,Rq,Rb,Ra,Rs,Rt, *]<;>with_reducible exact rfl);assumption;omega;(focus(first|trivial|omega));(focus(first|rfl|(simp only[push_cast,↓reduceIte])));intro v pp hv hok hpp1 hpp2))
 all_goals try((with_reducible apply iB (by first|exact .inl rfl|exact .inr rfl));(focus(simp(disch:=(first|omega|(simp only[push_cast];first|done|omega))) only[push_cast,↓reduceIte,Rq,Rb,Ra,Rs,Rt,aW,aX,bR,aY,aV, *]<;>with_reducible exact rfl));(focus(simp(disch:=(first|omega|(simp only[push_cast];first|done|omega))) only[push_cast,↓reduceIte,Rq,Rb,Ra,Rs,Rt,aW,aX,bR,aY,aV, *]<;>with_reducible exact rfl)))
 all_goals try(first|omega|assumption)
 refine⟨(s++bytesOf [IntKind.u8.wrap (97+v)],k-1,pp,y+1),⟨hok,?_⟩,?_,?_,?_,rfl⟩
 ·simp only[ByteArray.size_append,kH,List.length_cons,List.length_nil];omega
 ·dsimp only;omega
 ·exact agr
 ·exact agr
def aoy:d9:=Classical.choose afF
theorem aya:bQ Tryz.prog 90 aoy:=(Classical.choose_spec afF).1
theorem ag9:ahj 83 aoy 700000000 15 aEk (fun n=>0≤n∧n≤1000) (fun _ s=>s.size≤21):=(Classical.choose_spec afF).2
abbrev ESs (l:LS):PV:=.lst true 1 (l.map fun s=>PV.val (.string s))
def okT (n:Nat) (l:LS):Prop:=l.length≤n∧∀s∈l,s.size≤21
theorem eP {l:LS} {a:ByteArray} {m n:Nat} (h:l.length≤m) (hn:m<n) (h1:∀s∈l,s.size≤21) (h2:a.size≤21):okT n (l++[a]):=by
 refine⟨by simp;omega,fun x hx=>?_⟩;rcases List.mem_append.1 hx with hx|hx
 ·exact h1 x hx
 ·simp only[List.mem_singleton]at hx
  subst hx;exact h2
def GRw:Ctx:={fn:=aT [],io:=aT [(57,wM),(59,ais),(90,aoy)]}
theorem aBw:ak Tryz.prog GRw:=okΓ aj (fD Tryz.func57 yJ (fD Tryz.func59 ah0 (fD Tryz.func90 aya aj)))
theorem ab4:∃Φ:d9,bQ Tryz.prog 58 Φ∧ahj 83 Φ 600000000 200 ESs (fun n=>0≤n∧n≤1000) (fun _ l=>okT 13 l):=by
 refine tq mixed aBw Tryz.func58 rfl 37 rfl [.tmp 4] rfl (by kernel_rfl) (by simp) _ _ _ _ _ _ fun code p n hok hp hn=>?_;have hp0:=hok.pos
 repeat' (first|(first|(with_reducible first|apply gu|apply bI|apply dJ|apply dF|apply gG|apply nJ|apply fU|apply fV|apply mY|apply gB|apply gK|apply nK|apply gM|apply fT|apply fZ)|((with_reducible apply bf);(simp only[List.map_cons,List.map_nil]<;>exact rfl))|((with_reducible apply dD);(simp only[List.map_cons,List.map_nil]<;>exact rfl);decide+kernel)|((with_reducible apply gL);rfl)|((first|((with_reducible apply i_V);rfl;rfl;rfl)|((first|((with_reducible apply i_E);rfl)|((with_reducible apply i_S);rfl));first|rfl|(simp only[push_cast,↓reduceIte]))|((with_reducible apply nR);rfl;rfl)|((with_reducible apply nD);rfl;rfl;rfl)|(with_reducible first|apply om|apply dH));(simp(disch:=(first|omega|(simp only[push_cast];first|done|omega))) only[push_cast,↓reduceIte,Rq,Rb,Ra,Rs,Rt, *]<;>with_reducible exact rfl);all_goals try(first|(with_reducible first|refine hyT ?_|refine hyF ?_|exact hyA|exact hyB)|(intro hX;first|(cases hX;done)|((try simp only[decide_eq_true_eq,decide_eq_false_iff_not,Bool.not_eq_true',Bool.not_eq_false']at hX);(try have hXb:=av.1 hX))))))|((with_reducible apply bY eZ (fun _ _=>rfl));rfl;(simp(disch:=(first|omega|(simp only[push_cast];first|done|omega))) only[push_cast,↓reduceIte,Rq,Rb,Ra,Rs,Rt, *]<;>with_reducible exact rfl);(simp(disch:=(first|omega|(simp only[push_cast];first|done|omega))) only[push_cast,↓reduceIte,Rq,Rb,Ra,Rs,Rt, *]<;>with_reducible exact rfl);(simp(disch:=(first|omega|(simp only[push_cast];first|done|omega))) only[push_cast,↓reduceIte,Rq,Rb,Ra,Rs,Rt, *]<;>with_reducible exact rfl);assumption;omega;(focus(first|trivial|omega));(focus(first|rfl|(simp only[push_cast,↓reduceIte])));intro v pp hv hok hpp1 hpp2)|((with_reducible apply bY jQ (fun _ _=>rfl));rfl;(simp(disch:=(first|omega|(simp only[push_cast];first|done|omega))) only[push_cast,↓reduceIte,Rq,Rb,Ra,Rs,Rt, *]<;>with_reducible exact rfl);(simp(disch:=(first|omega|(simp only[push_cast];first|done|omega))) only[push_cast,↓reduceIte,Rq,Rb,Ra,Rs,Rt, *]<;>with_reducible exact rfl);(simp(disch:=(first|omega|(simp only[push_cast];first|done|omega))) only[push_cast,↓reduceIte,Rq,Rb,Ra,Rs,Rt, *]<;>with_reducible exact rfl);assumption;omega;(focus(first|trivial|omega));(focus(first|rfl|(simp only[push_cast,↓reduceIte])));intro v pp hv hok hpp1 hpp2)|((with_reducible apply bY ag9 (fun _ _=>by simp only[push_cast,↓reduceIte,Rq,Rb,Ra,Rs,Rt]));(focus rfl);(focus(simp(disch:=(first|omega|(simp only[push_cast];first|done|omega))) only[push_cast,↓reduceIte,Rq,Rb,Ra,Rs,Rt, *]<;>with_reducible exact rfl));(focus(simp(disch:=(first|omega|(simp only[push_cast];first|done|omega))) only[push_cast,↓reduceIte,Rq,Rb,Ra,Rs,Rt, *]<;>with_reducible exact rfl));(focus(simp(disch:=(first|omega|(simp only[push_cast];first|done|omega))) only[push_cast,↓reduceIte,Rq,Rb,Ra,Rs,Rt, *]<;>with_reducible exact rfl));(focus assumption);(focus omega);(focus(first|trivial|omega));(focus(first|rfl|(simp only[push_cast,↓reduceIte])));intro v pp hv hok hpp1 hpp2))
 rename_i h0;refine aD (α:=LS×Int×Int×Nat×Nat) mixed (fun s=>[(0,.own 0 2 0 0),(1,iv n),(5,.row s.2.2.2.1 1 0 s.1.length),(6,iv s.2.1)])
  (fun s=>[(0,rdC 83 code s.2.2.1),(s.2.2.2.1,9,1,s.1.map fun s=>PV.val (.string s))]) (fun s=>s.2.2.2.2)
  (fun s=>rY code s.2.2.1∧(∀x∈s.1,x.size≤21)∧p≤s.2.2.1∧s.2.2.1+15*s.2.1≤p+110∧s.1.length+s.2.1≤8∧0≤s.2.1∧0<s.2.2.2.1∧s.2.2.2.1<s.2.2.2.2) (fun s=>s.2.1.toNat) (by kernel_rfl) ([],v,pp,1,2) ⟨hok,by simp,?_⟩ ?_ ?_ rfl ?_
 ·dsimp only[List.length_nil];omega
 ·exact agr
 ·exact agr
 rintro⟨l,k,q,x,y⟩ ⟨okq,hl,i1,i2,i3,i4,i5,i6⟩;dsimp only at okq hl i1 i2 i3 i4 i5 i6;clear hok h0
 repeat' (first|(first|(with_reducible first|apply gu|apply bI|apply dJ|apply dF|apply gG|apply nJ|apply fU|apply fV|apply mY|apply gB|apply gK|apply nK|apply gM|apply fT|apply fZ)|((with_reducible apply bf);(simp only[List.map_cons,List.map_nil]<;>exact rfl))|((with_reducible apply dD);(simp only[List.map_cons,List.map_nil]<;>exact rfl);decide+kernel)|((with_reducible apply gL);rfl)|((first|((with_reducible apply i_V);rfl;rfl;rfl)|((first|((with_reducible apply i_E);rfl)|((with_reducible apply i_S);rfl));first|rfl|(simp only[push_cast,↓reduceIte]))|((with_reducible apply nR);rfl;rfl)|((with_reducible apply nD);rfl;rfl;rfl)|(with_reducible first|apply om|apply dH));(simp(disch:=(first|omega|(simp only[push_cast];first|done|omega))) only[push_cast,↓reduceIte,Rq,Rb,Ra,Rs,Rt, *]<;>with_reducible exact rfl);all_goals try(first|(with_reducible first|refine hyT ?_|refine hyF ?_|exact hyA|exact hyB)|(intro hX;first|(cases hX;done)|((try simp only[decide_eq_true_eq,decide_eq_false_iff_not,Bool.not_eq_true',Bool.not_eq_false']at hX);(try have hXb:=av.1 hX))))))|((with_reducible apply bY eZ (fun _ _=>rfl));rfl;(simp(disch:=(first|omega|(simp only[push_cast];first|done|omega))) only[push_cast,↓reduceIte,Rq,Rb,Ra,Rs,Rt, *]<;>with_reducible exact rfl);(simp(disch:=(first|omega|(simp only[push_cast];first|done|omega))) only[push_cast,↓reduceIte,Rq,Rb,Ra,Rs,Rt, *]<;>with_reducible exact rfl);(simp(disch:=(first|omega|(simp only[push_cast];first|done|omega))) only[push_cast,↓reduceIte,Rq,Rb,Ra,Rs,Rt, *]<;>with_reducible exact rfl);assumption;omega;(focus(first|trivial|omega));(focus(first|rfl|(simp only[push_cast,↓reduceIte])));intro v pp hv hok hpp1 hpp2)|((with_reducible apply bY jQ (fun _ _=>rfl));rfl;(simp(disch:=(first|omega|(simp only[push_cast];first|done|omega))) only[push_cast,↓reduceIte,Rq,Rb,Ra,Rs,Rt, *]<;>with_reducible exact rfl);(simp(disch:=(first|omega|(simp only[push_cast];first|done|omega))) only[push_cast,↓reduceIte,Rq,Rb,Ra,Rs,Rt, *]<;>with_reducible exact rfl);(simp(disch:=(first|omega|(simp only[push_cast];first|done|omega))) only[push_cast,↓reduceIte,Rq,Rb,Ra,Rs,Rt, *]<;>with_reducible exact rfl);assumption;omega;(focus(first|trivial|omega));(focus(first|rfl|(simp only[push_cast,↓reduceIte])));intro v pp hv hok hpp1 hpp2)|((with_reducible apply bY ag9 (fun _ _=>by simp only[push_cast,↓reduceIte,Rq,Rb,Ra,Rs,Rt]));(focus rfl);(focus(simp(disch:=(first|omega|(simp only[push_cast];first|done|omega))) only[push_cast,↓reduceIte,Rq,Rb,Ra,Rs,Rt, *]<;>with_reducible exact rfl));(focus(simp(disch:=(first|omega|(simp only[push_cast];first|done|omega))) only[push_cast,↓reduceIte,Rq,Rb,Ra,Rs,Rt, *]<;>with_reducible exact rfl));(focus(simp(disch:=(first|omega|(simp only[push_cast];first|done|omega))) only[push_cast,↓reduceIte,Rq,Rb,Ra,Rs,Rt, *]<;>with_reducible exact rfl));(focus assumption);(focus omega);(focus(first|trivial|omega));(focus(first|rfl|(simp only[push_cast,↓reduceIte])));intro v pp hv hok hpp1 hpp2))
 all_goals try((with_reducible apply iB (by first|exact .inl rfl|exact .inr rfl));(focus(simp(disch:=(first|omega|(simp only[push_cast];first|done|omega))) only[push_cast,↓reduceIte,Rq,Rb,Ra,Rs,Rt,aW,aX,bR,aY,aV, *]<;>with_reducible exact rfl));(focus(simp(disch:=(first|omega|(simp only[push_cast];first|done|omega))) only[push_cast,↓reduceIte,Rq,Rb,Ra,Rs,Rt,aW,aX,bR,aY,aV, *]<;>with_reducible exact rfl)))
 all_goals try(first|omega|assumption|exact⟨by omega,by assumption⟩|exact eP (m:=12) (by omega) (by omega) (by assumption) (by assumption))
 ·refine⟨(l++[v],k-1,pp,y+1,y+2),⟨hok,(eP (m:=8) (n:=9) (by omega) (by omega) hl (by assumption)).2,?_⟩,?_,?_,?_,rfl⟩
  ·simp only[List.length_append,List.length_cons,List.length_nil];omega
  ·dsimp only;omega
  all_goals exact agr
 refine aD (α:=LS×Nat×Nat) mixed (fun s=>[(0,.own 0 2 0 0),(5,.row s.2.1 1 0 s.1.length)])
  (fun s=>[(0,rdC 83 code pp),(s.2.1,9,1,s.1.map fun s=>PV.val (.string s))]) (fun s=>s.2.2)
  (fun s=>(∀x∈s.1,x.size≤21)∧s.1.length≤13∧0<s.2.1∧s.2.1<s.2.2) (fun s=>13-s.1.length) (by kernel_rfl) (l,x,y) ⟨hl,?_⟩ ?_ ?_ rfl ?_
 ·dsimp only;omega
 ·exact agr
 ·exact agr
 rintro⟨l2,x2,y2⟩ ⟨hl2,j1,j2,j3⟩;dsimp only at hl2 j1 j2 j3;clear hl
 repeat' (first|(first|(with_reducible first|apply gu|apply bI|apply dJ|apply dF|apply gG|apply nJ|apply fU|apply fV|apply mY|apply gB|apply gK|apply nK|apply gM|apply fT|apply fZ)|((with_reducible apply bf);(simp only[List.map_cons,List.map_nil]<;>exact rfl))|((with_reducible apply dD);(simp only[List.map_cons,List.map_nil]<;>exact rfl);decide+kernel)|((with_reducible apply gL);rfl)|((first|((with_reducible apply i_V);rfl;rfl;rfl)|((first|((with_reducible apply i_E);rfl)|((with_reducible apply i_S);rfl));first|rfl|(simp only[push_cast,↓reduceIte]))|((with_reducible apply nR);rfl;rfl)|((with_reducible apply nD);rfl;rfl;rfl)|(with_reducible first|apply om|apply dH));(simp(disch:=(first|omega|(simp only[push_cast];first|done|omega))) only[push_cast,↓reduceIte,Rq,Rb,Ra,Rs,Rt, *]<;>with_reducible exact rfl);all_goals try(first|(with_reducible first|refine hyT ?_|refine hyF ?_|exact hyA|exact hyB)|(intro hX;first|(cases hX;done)|((try simp only[decide_eq_true_eq,decide_eq_false_iff_not,Bool.not_eq_true',Bool.not_eq_false']at hX);(try have hXb:=av.1 hX))))))|((with_reducible apply bY eZ (fun _ _=>rfl));rfl;(simp(disch:=(first|omega|(simp only[push_cast];first|done|omega))) only[push_cast,↓reduceIte,Rq,Rb,Ra,Rs,Rt, *]<;>with_reducible exact rfl);(simp(disch:=(first|omega|(simp only[push_cast];first|done|omega))) only[push_cast,↓reduceIte,Rq,Rb,Ra,Rs,Rt, *]<;>with_reducible exact rfl);(simp(disch:=(first|omega|(simp only[push_cast];first|done|omega))) only[push_cast,↓reduceIte,Rq,Rb,Ra,Rs,Rt, *]<;>with_reducible exact rfl);assumption;omega;(focus(first|trivial|omega));(focus(first|rfl|(simp only[push_cast,↓reduceIte])));intro v pp hv hok hpp1 hpp2))
 all_goals try((with_reducible apply iB (by first|exact .inl rfl|exact .inr rfl));(focus(simp(disch:=(first|omega|(simp only[push_cast];first|done|omega))) only[push_cast,↓reduceIte,Rq,Rb,Ra,Rs,Rt,aW,aX,bR,aY,aV, *]<;>with_reducible exact rfl));(focus(simp(disch:=(first|omega|(simp only[push_cast];first|done|omega))) only[push_cast,↓reduceIte,Rq,Rb,Ra,Rs,Rt,aW,aX,bR,aY,aV, *]<;>with_reducible exact rfl)))
 all_goals try(first|omega|assumption|exact⟨by omega,by assumption⟩)
 refine⟨(l2++[⟨#[111,102]⟩],y2+1,y2+2),⟨(eP (m:=12) (n:=13) (by omega) (by omega) hl2 (by decide)).2,?_⟩,?_,?_,?_,rfl⟩
 ·simp only[List.length_append,List.length_cons,List.length_nil];omega
 ·simp only[List.length_append,List.length_cons,List.length_nil];omega
 all_goals exact agr
def afo:d9:=Classical.choose ab4
theorem apZ:bQ Tryz.prog 58 afo:=(Classical.choose_spec ab4).1
theorem nG:ahj 83 afo 600000000 200 ESs (fun n=>0≤n∧n≤1000) (fun _ l=>okT 13 l):=(Classical.choose_spec ab4).2
theorem tH:∃Φ:d9,bQ Tryz.prog 89 Φ∧ahj 83 Φ 700000000 15 aEk (fun n=>0≤n∧n≤1000) (fun _ s=>s.size≤21):=by
 refine tq mixed aub Tryz.func89 rfl 18 rfl [.tmp 4] rfl (by kernel_rfl) (by simp) _ _ _ _ _ _ fun code p n hok hp hn=>?_;have hp0:=hok.pos
 repeat' (first|(first|(with_reducible first|apply gu|apply bI|apply dJ|apply dF|apply gG|apply nJ|apply fU|apply fV|apply mY|apply gB|apply gK|apply nK|apply gM|apply fT|apply fZ)|((with_reducible apply bf);(simp only[List.map_cons,List.map_nil]<;>exact rfl))|((with_reducible apply dD);(simp only[List.map_cons,List.map_nil]<;>exact rfl);decide+kernel)|((with_reducible apply gL);rfl)|((first|((with_reducible apply i_V);rfl;rfl;rfl)|((first|((with_reducible apply i_E);rfl)|((with_reducible apply i_S);rfl));first|rfl|(simp only[push_cast,↓reduceIte]))|((with_reducible apply nR);rfl;rfl)|((with_reducible apply nD);rfl;rfl;rfl)|(with_reducible first|apply om|apply dH));(simp(disch:=(first|omega|(simp only[push_cast];first|done|omega))) only[push_cast,↓reduceIte,Rq,Rb,Ra,Rs,Rt, *]<;>with_reducible exact rfl);all_goals try(first|(with_reducible first|refine hyT ?_|refine hyF ?_|exact hyA|exact hyB)|(intro hX;first|(cases hX;done)|((try simp only[decide_eq_true_eq,decide_eq_false_iff_not,Bool.not_eq_true',Bool.not_eq_false']at hX);(try have hXb:=av.1 hX))))))|((with_reducible apply bY eZ (fun _ _=>rfl));rfl;(simp(disch:=(first|omega|(simp only[push_cast];first|done|omega))) only[push_cast,↓reduceIte,Rq,Rb,Ra,Rs,Rt, *]<;>with_reducible exact rfl);(simp(disch:=(first|omega|(simp only[push_cast];first|done|omega))) only[push_cast,↓reduceIte,Rq,Rb,Ra,Rs,Rt, *]<;>with_reducible exact rfl);(simp(disch:=(first|omega|(simp only[push_cast];first|done|omega))) only[push_cast,↓reduceIte,Rq,Rb,Ra,Rs,Rt, *]<;>with_reducible exact rfl);assumption;omega;(focus(first|trivial|omega));(focus(first|rfl|(simp only[push_cast,↓reduceIte])));intro v pp hv hok hpp1 hpp2)|((with_reducible apply bY jQ (fun _ _=>rfl));rfl;(simp(disch:=(first|omega|(simp only[push_cast];first|done|omega))) only[push_cast,↓reduceIte,Rq,Rb,Ra,Rs,Rt, *]<;>with_reducible exact rfl);(simp(disch:=(first|omega|(simp only[push_cast];first|done|omega))) only[push_cast,↓reduceIte,Rq,Rb,Ra,Rs,Rt, *]<;>with_reducible exact rfl);(simp(disch:=(first|omega|(simp only[push_cast];first|done|omega))) only[push_cast,↓reduceIte,Rq,Rb,Ra,Rs,Rt, *]<;>with_reducible exact rfl);assumption;omega;(focus(first|trivial|omega));(focus(first|rfl|(simp only[push_cast,↓reduceIte])));intro v pp hv hok hpp1 hpp2))
 all_goals try((with_reducible apply iB (by first|exact .inl rfl|exact .inr rfl));(focus(simp(disch:=(first|omega|(simp only[push_cast];first|done|omega))) only[push_cast,↓reduceIte,Rq,Rb,Ra,Rs,Rt,aW,aX,bR,aY,aV, *]<;>with_reducible exact rfl));(focus(simp(disch:=(first|omega|(simp only[push_cast];first|done|omega))) only[push_cast,↓reduceIte,Rq,Rb,Ra,Rs,Rt,aW,aX,bR,aY,aV, *]<;>with_reducible exact rfl)))
 all_goals try(first|omega|assumption|exact gU (p:=fun a:ByteArray=>a.size≤21) (by decide) (by simp only[List.length_cons,List.length_nil];omega))
def wz:d9:=Classical.choose tH
theorem ain:bQ Tryz.prog 89 wz:=(Classical.choose_spec tH).1
theorem yT:ahj 83 wz 700000000 15 aEk (fun n=>0≤n∧n≤1000) (fun _ s=>s.size≤21):=(Classical.choose_spec tH).2
abbrev adM (o:Nat) (l:LS):PV:=.row o 1 0 l.length
abbrev abB (l:LS):aL:=(9,1,l.map fun s=> .val (.string s))
attribute[push_cast]
 adM List.length_append
theorem qg:∀(o nx:Nat) (a:LS),eF (wJ [o] nx) fuel (adM 1 a)=some (adM nx a):=fun o nx a=>by simp only[oz,ahe,alE,Option.map_some]
theorem qy:∀(nm:Nat→Option Nat) (a:LS),(abB a).2.2.mapM (eF nm fuel)=some (abB a).2.2:=fun nm a=>by show(a.map fun s=>PV.val (.string s)).mapM (eF nm 8)=_;rw[acC]
def GRp:Ctx:={fn:=aT [],io:=aT [(57,wM),(59,ais),(89,wz)]}
theorem aDt:ak Tryz.prog GRp:=okΓ aj (fD Tryz.func57 yJ (fD Tryz.func59 ah0 (fD Tryz.func89 ain aj)))
theorem p9:∃Φ:d9,bQ Tryz.prog 56 Φ∧aqN 83 Φ 600000000 200 adM abB (fun n=>0≤n∧n≤1000) (fun _ l=>okT 21 l):=by
 refine ao1 mixed aDt Tryz.func56 rfl 37 rfl [.tmp 4] rfl (by kernel_rfl) (by simp) _ _ _ _ _ _ _ fun code p n hok hp hn=>?_;have hp0:=hok.pos
 repeat' (first|(first|(with_reducible first|apply gu|apply bI|apply dJ|apply dF|apply gG|apply nJ|apply fU|apply fV|apply mY|apply gB|apply gK|apply nK|apply gM|apply fT|apply fZ)|((with_reducible apply bf);(simp only[List.map_cons,List.map_nil]<;>exact rfl))|((with_reducible apply dD);(simp only[List.map_cons,List.map_nil]<;>exact rfl);decide+kernel)|((with_reducible apply gL);rfl)|((first|((with_reducible apply i_V);rfl;rfl;rfl)|((first|((with_reducible apply i_E);rfl)|((with_reducible apply i_S);rfl));first|rfl|(simp only[push_cast,↓reduceIte]))|((with_reducible apply nR);rfl;rfl)|((with_reducible apply nD);rfl;rfl;rfl)|(with_reducible first|apply om|apply dH));(simp(disch:=(first|omega|(simp only[push_cast];first|done|omega))) only[push_cast,↓reduceIte,Rq,Rb,Ra,Rs,Rt, *]<;>with_reducible exact rfl);all_goals try(first|(with_reducible first|refine hyT ?_|refine hyF ?_|exact hyA|exact hyB)|(intro hX;first|(cases hX;done)|((try simp only[decide_eq_true_eq,decide_eq_false_iff_not,Bool.not_eq_true',Bool.not_eq_false']at hX);(try have hXb:=av.1 hX))))))|((with_reducible apply bY eZ (fun _ _=>rfl));rfl;(simp(disch:=(first|omega|(simp only[push_cast];first|done|omega))) only[push_cast,↓reduceIte,Rq,Rb,Ra,Rs,Rt, *]<;>with_reducible exact rfl);(simp(disch:=(first|omega|(simp only[push_cast];first|done|omega))) only[push_cast,↓reduceIte,Rq,Rb,Ra,Rs,Rt, *]<;>with_reducible exact rfl);(simp(disch:=(first|omega|(simp only[push_cast];first|done|omega))) only[push_cast,↓reduceIte,Rq,Rb,Ra,Rs,Rt, *]<;>with_reducible exact rfl);assumption;omega;(focus(first|trivial|omega));(focus(first|rfl|(simp only[push_cast,↓reduceIte])));intro v pp hv hok hpp1 hpp2)|((with_reducible apply bY jQ (fun _ _=>rfl));rfl;(simp(disch:=(first|omega|(simp only[push_cast];first|done|omega))) only[push_cast,↓reduceIte,Rq,Rb,Ra,Rs,Rt, *]<;>with_reducible exact rfl);(simp(disch:=(first|omega|(simp only[push_cast];first|done|omega))) only[push_cast,↓reduceIte,Rq,Rb,Ra,Rs,Rt, *]<;>with_reducible exact rfl);(simp(disch:=(first|omega|(simp only[push_cast];first|done|omega))) only[push_cast,↓reduceIte,Rq,Rb,Ra,Rs,Rt, *]<;>with_reducible exact rfl);assumption;omega;(focus(first|trivial|omega));(focus(first|rfl|(simp only[push_cast,↓reduceIte])));intro v pp hv hok hpp1 hpp2)|((with_reducible apply bY yT (fun _ _=>by simp only[push_cast,↓reduceIte,Rq,Rb,Ra,Rs,Rt]));(focus rfl);(focus(simp(disch:=(first|omega|(simp only[push_cast];first|done|omega))) only[push_cast,↓reduceIte,Rq,Rb,Ra,Rs,Rt, *]<;>with_reducible exact rfl));(focus(simp(disch:=(first|omega|(simp only[push_cast];first|done|omega))) only[push_cast,↓reduceIte,Rq,Rb,Ra,Rs,Rt, *]<;>with_reducible exact rfl));(focus(simp(disch:=(first|omega|(simp only[push_cast];first|done|omega))) only[push_cast,↓reduceIte,Rq,Rb,Ra,Rs,Rt, *]<;>with_reducible exact rfl));(focus assumption);(focus omega);(focus(first|trivial|omega));(focus(first|rfl|(simp only[push_cast,↓reduceIte])));intro v pp hv hok hpp1 hpp2))
 rename_i h0;refine aD (α:=LS×Int×Int×Nat×Nat) mixed (fun s=>[(0,.own 0 2 0 0),(1,iv n),(5,.row s.2.2.2.1 1 0 s.1.length),(6,iv s.2.1)])
  (fun s=>[(0,rdC 83 code s.2.2.1),(s.2.2.2.1,9,1,s.1.map fun s=>PV.val (.string s))]) (fun s=>s.2.2.2.2)
  (fun s=>rY code s.2.2.1∧(∀x∈s.1,x.size≤21)∧p≤s.2.2.1∧s.2.2.1+15*s.2.1≤p+110∧s.1.length+s.2.1≤8∧0≤s.2.1∧0<s.2.2.2.1∧s.2.2.2.1<s.2.2.2.2) (fun s=>s.2.1.toNat) (by kernel_rfl) ([],v,pp,1,2) ⟨hok,by simp,?_⟩ ?_ ?_ rfl ?_
 ·dsimp only[List.length_nil];omega
 ·exact agr
 ·exact agr
 rintro⟨l,k,q,x,y⟩ ⟨okq,hl,i1,i2,i3,i4,i5,i6⟩;dsimp only at okq hl i1 i2 i3 i4 i5 i6;clear hok h0
 repeat' (first|(first|(with_reducible first|apply gu|apply bI|apply dJ|apply dF|apply gG|apply nJ|apply fU|apply fV|apply mY|apply gB|apply gK|apply nK|apply gM|apply fT|apply fZ)|((with_reducible apply bf);(simp only[List.map_cons,List.map_nil]<;>exact rfl))|((with_reducible apply dD);(simp only[List.map_cons,List.map_nil]<;>exact rfl);decide+kernel)|((with_reducible apply gL);rfl)|((first|((with_reducible apply i_V);rfl;rfl;rfl)|((first|((with_reducible apply i_E);rfl)|((with_reducible apply i_S);rfl));first|rfl|(simp only[push_cast,↓reduceIte]))|((with_reducible apply nR);rfl;rfl)|((with_reducible apply nD);rfl;rfl;rfl)|(with_reducible first|apply om|apply dH));(simp(disch:=(first|omega|(simp only[push_cast];first|done|omega))) only[push_cast,↓reduceIte,Rq,Rb,Ra,Rs,Rt, *]<;>with_reducible exact rfl);all_goals try(first|(with_reducible first|refine hyT ?_|refine hyF ?_|exact hyA|exact hyB)|(intro hX;first|(cases hX;done)|((try simp only[decide_eq_true_eq,decide_eq_false_iff_not,Bool.not_eq_true',Bool.not_eq_false']at hX);(try have hXb:=av.1 hX))))))|((with_reducible apply bY eZ (fun _ _=>rfl));rfl;(simp(disch:=(first|omega|(simp only[push_cast];first|done|omega))) only[push_cast,↓reduceIte,Rq,Rb,Ra,Rs,Rt, *]<;>with_reducible exact rfl);(simp(disch:=(first|omega|(simp only[push_cast];first|done|omega))) only[push_cast,↓reduceIte,Rq,Rb,Ra,Rs,Rt, *]<;>with_reducible exact rfl);(simp(disch:=(first|omega|(simp only[push_cast];first|done|omega))) only[push_cast,↓reduceIte,Rq,Rb,Ra,Rs,Rt, *]<;>with_reducible exact rfl);assumption;omega;(focus(first|trivial|omega));(focus(first|rfl|(simp only[push_cast,↓reduceIte])));intro v pp hv hok hpp1 hpp2)|((with_reducible apply bY jQ (fun _ _=>rfl));rfl;(simp(disch:=(first|omega|(simp only[push_cast];first|done|omega))) only[push_cast,↓reduceIte,Rq,Rb,Ra,Rs,Rt, *]<;>with_reducible exact rfl);(simp(disch:=(first|omega|(simp only[push_cast];first|done|omega))) only[push_cast,↓reduceIte,Rq,Rb,Ra,Rs,Rt, *]<;>with_reducible exact rfl);(simp(disch:=(first|omega|(simp only[push_cast];first|done|omega))) only[push_cast,↓reduceIte,Rq,Rb,Ra,Rs,Rt, *]<;>with_reducible exact rfl);assumption;omega;(focus(first|trivial|omega));(focus(first|rfl|(simp only[push_cast,↓reduceIte])));intro v pp hv hok hpp1 hpp2)|((with_reducible apply bY yT (fun _ _=>by simp only[push_cast,↓reduceIte,Rq,Rb,Ra,Rs,Rt]));(focus rfl);(focus(simp(disch:=(first|omega|(simp only[push_cast];first|done|omega))) only[push_cast,↓reduceIte,Rq,Rb,Ra,Rs,Rt, *]<;>with_reducible exact rfl));(focus(simp(disch:=(first|omega|(simp only[push_cast];first|done|omega))) only[push_cast,↓reduceIte,Rq,Rb,Ra,Rs,Rt, *]<;>with_reducible exact rfl));(focus(simp(disch:=(first|omega|(simp only[push_cast];first|done|omega))) only[push_cast,↓reduceIte,Rq,Rb,Ra,Rs,Rt, *]<;>with_reducible exact rfl));(focus assumption);(focus omega);(focus(first|trivial|omega));(focus(first|rfl|(simp only[push_cast,↓reduceIte])));intro v pp hv hok hpp1 hpp2))
 all_goals try(first|((with_reducible apply aed (E:=adM) (O:=abB) (x) (by omega) (by first|exact .inl rfl|exact .inr rfl));(focus(simp(disch:=(first|omega|(simp only[push_cast];first|done|omega))) only[push_cast,↓reduceIte,Rq,Rb,Ra,Rs,Rt,aW,aX,bR,aY,aV, *]<;>with_reducible exact rfl));(focus(simp(disch:=(first|omega|(simp only[push_cast];first|done|omega))) only[push_cast,↓reduceIte,Rq,Rb,Ra,Rs,Rt,aW,aX,bR,aY,aV, *]<;>with_reducible exact rfl));(focus(simp(disch:=(first|omega|(simp only[push_cast];first|done|omega))) only[push_cast,↓reduceIte,Rq,Rb,Ra,Rs,Rt,aW,aX,bR,aY,aV, *]<;>with_reducible exact rfl)))|((with_reducible apply aed (E:=adM) (O:=abB) (y+1) (by omega) (by first|exact .inl rfl|exact .inr rfl));(focus(simp(disch:=(first|omega|(simp only[push_cast];first|done|omega))) only[push_cast,↓reduceIte,Rq,Rb,Ra,Rs,Rt,aW,aX,bR,aY,aV, *]<;>with_reducible exact rfl));(focus(simp(disch:=(first|omega|(simp only[push_cast];first|done|omega))) only[push_cast,↓reduceIte,Rq,Rb,Ra,Rs,Rt,aW,aX,bR,aY,aV, *]<;>with_reducible exact rfl));(focus(simp(disch:=(first|omega|(simp only[push_cast];first|done|omega))) only[push_cast,↓reduceIte,Rq,Rb,Ra,Rs,Rt,aW,aX,bR,aY,aV, *]<;>with_reducible exact rfl))))
 all_goals try(first|omega|assumption|exact⟨by omega,by assumption⟩|exact eP (m:=20) (by omega) (by omega) (by assumption) (by assumption))
 ·refine⟨(l++[v],k-1,pp,y+1,y+2),⟨hok,(eP (m:=8) (n:=9) (by omega) (by omega) hl (by assumption)).2,?_⟩,?_,?_,?_,rfl⟩
  ·simp only[List.length_append,List.length_cons,List.length_nil];omega
  ·dsimp only;omega
  all_goals exact agr
 refine aD (α:=LS×Nat×Nat) mixed (fun s=>[(0,.own 0 2 0 0),(5,.row s.2.1 1 0 s.1.length)])
  (fun s=>[(0,rdC 83 code pp),(s.2.1,9,1,s.1.map fun s=>PV.val (.string s))]) (fun s=>s.2.2)
  (fun s=>(∀x∈s.1,x.size≤21)∧s.1.length≤21∧0<s.2.1∧s.2.1<s.2.2) (fun s=>21-s.1.length) (by kernel_rfl) (l,x,y) ⟨hl,?_⟩ ?_ ?_ rfl ?_
 ·dsimp only;omega
 ·exact agr
 ·exact agr
 rintro⟨l2,x2,y2⟩ ⟨hl2,j1,j2,j3⟩;dsimp only at hl2 j1 j2 j3;clear hl
 repeat' (first|(first|(with_reducible first|apply gu|apply bI|apply dJ|apply dF|apply gG|apply nJ|apply fU|apply fV|apply mY|apply gB|apply gK|apply nK|apply gM|apply fT|apply fZ)|((with_reducible apply bf);(simp only[List.map_cons,List.map_nil]<;>exact rfl))|((with_reducible apply dD);(simp only[List.map_cons,List.map_nil]<;>exact rfl);decide+kernel)|((with_reducible apply gL);rfl)|((first|((with_reducible apply i_V);rfl;rfl;rfl)|((first|((with_reducible apply i_E);rfl)|((with_reducible apply i_S);rfl));first|rfl|(simp only[push_cast,↓reduceIte]))|((with_reducible apply nR);rfl;rfl)|((with_reducible apply nD);rfl;rfl;rfl)|(with_reducible first|apply om|apply dH));(simp(disch:=(first|omega|(simp only[push_cast];first|done|omega))) only[push_cast,↓reduceIte,Rq,Rb,Ra,Rs,Rt, *]<;>with_reducible exact rfl);all_goals try(first|(with_reducible first|refine hyT ?_|refine hyF ?_|exact hyA|exact hyB)|(intro hX;first|(cases hX;done)|((try simp only[decide_eq_true_eq,decide_eq_false_iff_not,Bool.not_eq_true',Bool.not_eq_false']at hX);(try have hXb:=av.1 hX))))))|((with_reducible apply bY eZ (fun _ _=>rfl));rfl;(simp(disch:=(first|omega|(simp only[push_cast];first|done|omega))) only[push_cast,↓reduceIte,Rq,Rb,Ra,Rs,Rt, *]<;>with_reducible exact rfl);(simp(disch:=(first|omega|(simp only[push_cast];first|done|omega))) only[push_cast,↓reduceIte,Rq,Rb,Ra,Rs,Rt, *]<;>with_reducible exact rfl);(simp(disch:=(first|omega|(simp only[push_cast];first|done|omega))) only[push_cast,↓reduceIte,Rq,Rb,Ra,Rs,Rt, *]<;>with_reducible exact rfl);assumption;omega;(focus(first|trivial|omega));(focus(first|rfl|(simp only[push_cast,↓reduceIte])));intro v pp hv hok hpp1 hpp2))
 all_goals try(first|((with_reducible apply aed (E:=adM) (O:=abB) (x2) (by omega) (by first|exact .inl rfl|exact .inr rfl));(focus(simp(disch:=(first|omega|(simp only[push_cast];first|done|omega))) only[push_cast,↓reduceIte,Rq,Rb,Ra,Rs,Rt,aW,aX,bR,aY,aV, *]<;>with_reducible exact rfl));(focus(simp(disch:=(first|omega|(simp only[push_cast];first|done|omega))) only[push_cast,↓reduceIte,Rq,Rb,Ra,Rs,Rt,aW,aX,bR,aY,aV, *]<;>with_reducible exact rfl));(focus(simp(disch:=(first|omega|(simp only[push_cast];first|done|omega))) only[push_cast,↓reduceIte,Rq,Rb,Ra,Rs,Rt,aW,aX,bR,aY,aV, *]<;>with_reducible exact rfl))))
 all_goals try(first|omega|assumption|exact⟨by omega,by assumption⟩)
 refine⟨(l2++[⟨#[97,49]⟩],y2+1,y2+2),⟨(eP (m:=20) (n:=21) (by omega) (by omega) hl2 (by decide)).2,?_⟩,?_,?_,?_,rfl⟩
 ·simp only[List.length_append,List.length_cons,List.length_nil];omega
 ·simp only[List.length_append,List.length_cons,List.length_nil];omega
 all_goals exact agr
def sV:d9:=Classical.choose p9
theorem afs:bQ Tryz.prog 56 sV:=(Classical.choose_spec p9).1
theorem nH:aqN 83 sV 600000000 200 adM abB (fun n=>0≤n∧n≤1000) (fun _ l=>okT 21 l):=(Classical.choose_spec p9).2
def qo:List PV→List Nat
 |[]=>[]
 | .own o _ _ _::l=>o::qo l
 | .row o _ _ _::l=>o::qo l
 |_::l=>qo l
def aaR:PV→List Nat
 | .own o _ _ _=>[o]
 | .row o _ _ _=>[o]
 | .agg cs=>qo cs
 |_=>[]
def adk:List PV→List Nat
 |[]=>[]
 |p::ps=>aaR p++adk ps
theorem agb:∀cs:List PV,(cs.flatMap fun c=>match c with| .own o _ _ _=>[o]| .row o _ _ _=>[o]|_=>[])=qo cs
 |[]=>rfl
 |c::cs=>by rw[List.flatMap_cons,agb cs];cases c<;>rfl
theorem agu:∀ps:List PV,ps.flatMap refsOf=adk ps
 |[]=>rfl
 |p::ps=>by
  rw[List.flatMap_cons,agu ps];show _=aaR p++adk ps;congr 1;cases p with
  |agg cs=>exact agb cs
  |_=>rfl
section
variable {Φ:d9} {ob:bJ} {nx:Nat}
def aqS (Φ:d9) (ob:bJ) (nx a b:Nat) (qs:List PV):Option aL→Option aL→Option (PV×bJ×Nat)
 |some c,some d=>(c.2.2.mapM (eF (inn [a,b]) fuel)).bind fun es=>(d.2.2.mapM (eF (inn [a,b]) fuel)).bind fun fs=>ioR [a,b] ob nx (Φ qs [(c.1,c.2.1,es),(d.1,d.2.1,fs)])
 |_,_=>none
def ioX (Φ:d9) (ob:bJ) (nx:Nat) (ps:List PV):List Nat→Option (PV×bJ×Nat)
 |[]=>(ps.mapM (eF (inn []) fuel)).bind fun qs=>ioR [] ob nx (Φ qs [])
 |[o]=>(ps.mapM (eF (inn [o]) fuel)).bind fun qs=>adb Φ ob nx o qs (ob o)
 |[a,b]=>(ps.mapM (eF (inn [a,b]) fuel)).bind fun qs=>aqS Φ ob nx a b qs (ob a) (ob b)
 |_=>aeS Φ ob nx ps
theorem aCI (ps:List PV):aeS Φ ob nx ps=ioX Φ ob nx ps (dedup (adk ps)):=by
 generalize hos:dedup (adk ps)=os;rw[←agu]at hos
 match os with
 |[]=>
  show _=(ps.mapM (eF (inn []) fuel)).bind _;cases h2:ps.mapM (eF (inn []) fuel)with
  |some qs=>rw[yF ps [] hos,h2,mapM_nil'];rfl
  |none=>rw[yF ps [] hos,h2,mapM_nil'];rfl
 |[o]=>
  show _=(ps.mapM (eF (inn [o]) fuel)).bind _;cases h2:ps.mapM (eF (inn [o]) fuel)with
  |some qs=>rw[ahk hos h2];rfl
  |none=>rw[yF ps [o] hos,h2];cases [o].mapM ob<;>rfl
 |[a,b]=>
  show _=(ps.mapM (eF (inn [a,b]) fuel)).bind _;rw[yF ps [a,b] hos];simp only[mapM_cons',mapM_nil',afV];cases ps.mapM (eF (inn [a,b]) fuel)with
  |none=>cases ob a<;>cases ob b<;>rfl
  |some qs=>
   simp only[Option.bind_some];cases ob a with
   |none=>rfl
   |some c=>
    cases ob b with
    |none=>rfl
    |some d=>
     obtain⟨T,sz,es0⟩:=c;obtain⟨T2,sz2,fs0⟩:=d;simp only[Option.bind_some,Option.map_some,aqS,mapM_cons',mapM_nil',afV];cases es0.mapM (eF (inn [a,b]) fuel)with
     |none=>rfl
     |some es=>simp only[Option.bind_some,Option.map_some];cases fs0.mapM (eF (inn [a,b]) fuel)<;>rfl
 |_::_::_::_=>rfl
theorem auJ {ps:List PV}:ioX Φ ob nx ps []=(ps.mapM (eF (inn []) fuel)).bind fun qs=>ioR [] ob nx (Φ qs []):=rfl
theorem awD {ps:List PV} {o:Nat}:ioX Φ ob nx ps [o]=(ps.mapM (eF (inn [o]) fuel)).bind fun qs=>adb Φ ob nx o qs (ob o):=rfl
theorem ayG {ps:List PV} {a b:Nat}:ioX Φ ob nx ps [a,b]=(ps.mapM (eF (inn [a,b]) fuel)).bind fun qs=>aqS Φ ob nx a b qs (ob a) (ob b):=rfl
theorem ajV {a b T T2 sz sz2:Nat} {es es2 qs:List PV}:aqS Φ ob nx a b qs (some (T,sz,es)) (some (T2,sz2,es2))=(es.mapM (eF (inn [a,b]) fuel)).bind fun es=>(es2.mapM (eF (inn [a,b]) fuel)).bind fun fs=>ioR [a,b] ob nx (Φ qs [(T,sz,es),(T2,sz2,fs)]):=rfl
theorem aFD {a b:Nat}:inn [a,b] a=some 0:=by simp[inn]
theorem aFP {a b:Nat} (h:¬a=b):inn [a,b] b=some 1:=by
 have h2:(a==b)=false:=by simpa using h
 simp[inn,List.idxOf_cons,h2]
theorem arn {a b nx:Nat}:wJ [a,b] nx 0=some a:=rfl
theorem arF {a b nx:Nat}:wJ [a,b] nx 1=some b:=rfl
theorem aAC:dedup []=[]:=rfl
theorem azV {o:Nat}:dedup [o]=[o]:=rfl
theorem aAN:adk []=[]:=rfl
theorem ayv {p:PV} {ps:List PV}:adk (p::ps)=aaR p++adk ps:=rfl
theorem aCH {v:Value}:aaR (.val v)=[]:=rfl
theorem aBR {k:Bool} {sz:Nat} {es:List PV}:aaR (.lst k sz es)=[]:=rfl
theorem aAh {k:Bool} {e:PV} {o:Nat}:aaR (.ptr k e o)=[]:=rfl
theorem azJ {o a b c:Nat}:aaR (.own o a b c)=[o]:=rfl
theorem aAH {o a b c:Nat}:aaR (.row o a b c)=[o]:=rfl
theorem aCi {cs:List PV}:aaR (.agg cs)=qo cs:=rfl
theorem aCq:qo []=[]:=rfl
theorem az2 {v:Value} {l:List PV}:qo (.val v::l)=qo l:=rfl
theorem aAy {k:Bool} {sz:Nat} {es l:List PV}:qo (.lst k sz es::l)=qo l:=rfl
theorem aAZ {o a b c:Nat} {l:List PV}:qo (.own o a b c::l)=o::qo l:=rfl
theorem aDs {o a b c:Nat} {l:List PV}:qo (.row o a b c::l)=o::qo l:=rfl
end
attribute[push_cast low]
 aCI
attribute[push_cast]
 auJ awD ayG ajV aFD aFP arn arF aAC azV aAN ayv aCH aBR aAh azJ aAH aCi aCq az2 aAy aAZ aDs
theorem ads {l:List It} {tx:LS} {br:List Int} (h:∀k:Nat,(tx[k]?.getD ByteArray.empty).size≤20) (hl:l.length≤60) (hb:ath l br):∀k,k≤br.length→∀s∈mP l tx br k,s.size≤2000
 |0,_=>by simp[mP]
 |k+1,hk=>fun s hs=>by
  rw[mP]at hs;rcases List.mem_append.1 hs with hs|hs
  ·exact ads h hl hb k (by omega) s hs
  ·rw[List.mem_singleton.1 hs]
   obtain⟨b1,b2,b3,-⟩:=hb.at_ (k:=k) (by omega);have:=aa7 (l:=l) (tx:=tx) (a:=frB br k) h ((br[k]?.getD 0).toNat-frB br k);unfold lnR;split
   ·rw[ByteArray.size_append,show(⟨#[45]⟩:ByteArray).size=1 from rfl]
    omega
   ·omega
theorem aar (ws pats:LS) (wd most:Int):(mR ws pats wd most).length≤60∧∀s∈mR ws pats wd most,s.size≤2000:=by
 unfold mR;split
 ·rename_i h
  unfold mQ at h;rw[Bool.and_eq_true]at h;obtain⟨h1,h2⟩:=h;have hV:piV ws pats=piR ws pats:=if_pos h1;rw[hV]at h2;obtain⟨hB,-,-,hm,-⟩:=fF.1 h2;have hb:=acX (wd:=wd) hB hm.2;have hl:=bP hB;rw[qH];exact⟨by have:=hb.1;omega,ads afu hl hb _ (Nat.le_refl _)⟩
 ·simp
def aqM (s:ByteArray):Prop:=∀b∈s.data.toList,¬b=45
theorem agV {a b:ByteArray} (h:aqM a) (h2:aqM b):aqM (a++b):=fun x hx=>by
 rw[ByteArray.data_append,Array.toList_append]at hx;rcases List.mem_append.1 hx with hx|hx
 ·exact h x hx
 ·exact h2 x hx
theorem alz {s:ByteArray} (h:dn s=true):aqM s:=fun b hb e=>by
 obtain⟨i,hi,rfl⟩:=List.getElem_of_mem hb;have hi2:i<s.size:=by simpa using hi
 unfold dn at h;rw[Bool.and_eq_true,List.all_eq_true]at h;have h1:=av.1 (h.1 i (List.mem_range.2 hi2));have h2:at8 s i=(s.data.toList[i].toNat:Int):=by unfold at8;rw[getElem?_pos s i hi2];rfl
 rw[h2,e]at h1;exact absurd h1.1 (by decide)
theorem aks (ws pats:LS) (k:Nat):aqM ((txR ws pats)[k]?.getD .empty):=by
 by_cases h:k<(txR ws pats).length
 ·exact alz (ahJ h)
 ·rw[List.getElem?_eq_none (by omega)]
  intro b hb;simp at hb
theorem ahR {l:List It} {tx:LS} {a:Nat} (h:∀k:Nat,aqM (tx[k]?.getD .empty)):∀j,aqM (lnT l tx a j)
 |0=>fun b hb=>by simp[lnT]at hb
 |j+1=>by
  have ih:=ahR (l:=l) (a:=a) h j;rw[lnT];unfold o9;split
  ·exact agV ih (h _)
  ·split
   ·refine agV ih fun b hb=>?_
    rw[List.mem_singleton.1 hb];decide
   ·exact ih
def adQ (ws pats:LS):Bool:=bF ws&&(bE pats&&decide (0<ws.length))
def aqW:Fun:=F2 dSs dSs fun ws pats=>if rV ws∧rV pats then some (.tup [.lst true 7 ((if adQ ws pats=true then piR ws pats else []).map iG),.lst true 1 ((if adQ ws pats=true then txR ws pats else []).map fun s=> .val (.string s)),bv (tT ws pats)])else none
theorem aqQ {ws pats:LS} (h:rV ws∧rV pats):aqW [.lst false 1 (ws.map fun s=> .val (.string s)),.lst false 1 (pats.map fun s=> .val (.string s))]=some (.tup [.lst true 7 ((if adQ ws pats=true then piR ws pats else []).map iG),.lst true 1 ((if adQ ws pats=true then txR ws pats else []).map fun s=> .val (.string s)),.val (.bool (tT ws pats))]):=(jA (A:=dSs) (B:=dSs) ws pats).trans (if_pos h)
theorem wU {w:ByteArray} {pats:LS} (h1:dn w=true) (h2:bE pats=true):0<(bW w pats).length:=by unfold bW;rw[if_pos (kr.2 ⟨h1,h2⟩)];unfold acz;rw[amn];omega
theorem ame {ws pats:LS} (h1:bF ws=true) (h2:bE pats=true):∀k,k≤ws.length→0<k→0<(txK ws pats k).length
 |0,_,h=>by omega
 |k+1,hk,_=>by have:=wU (pats:=pats) (oD h1 (k:=k) (by omega)) h2;rw[txK,List.length_append];omega
theorem avZ {ws pats:LS} (h1:bF ws=true) (h2:bE pats=true) {k:Nat} (hk:k≤ws.length) (h:0<k):0<(piK ws pats k).length:=by have h3:=ame h1 h2 k hk h;rw[←asx]at h3;exact Nat.lt_of_lt_of_le h3 (List.length_filter_le _ _)
abbrev Sg:=Option (Nat×VL)
structure HyC (io:IoS) (w00 w0:World) (B:Nat) (ob:Option Nat):Prop where
 ne:∀i,io.wr i∨io.im i∨io.it i→some i≠ob
 lo:∀i,io.wr i∨io.it i→B≤i
 lt:∀i,io.wr i→i<w0.heap.size
 hb:∀b,ob=some b→b<w0.heap.size
 sz:B≤w0.heap.size
 fr:Fr (fun i=>some i=ob∨B≤i) w00 w0
 tk:∀t∈tks,t<B∧some t≠ob
def St (P:Program) (k:TypeId) (N B:Nat) (w00:World) (s:AS) (σ:Sg) (a:Act) (w:World):Prop:=
 (∃io w0 g,Rel io w0 N g s a w∧HyC io w00 w0 B (σ.map Prod.fst))∧∀b L,σ=some (b,L)→jK P k w b L
section
variable {P:Program} {k:TypeId} {N B:Nat} {w00:World}
theorem jK.same {w w':World} {b:Nat} {L:VL} (h:jK P k w b L) (e:w'.heap[b]?=w.heap[b]?):jK P k w' b L:=by obtain⟨es,clock,hb,H⟩:=h;exact⟨es,clock,e.trans hb,H⟩
theorem HyC.same {io:IoS} {w0:World} {ob:Option Nat} (h:HyC io w00 w0 B ob) {g:Gh} {s:AS} {a:Act} {w:World} (hr:Rel io w0 N g s a w) {b:Nat} (hb:ob=some b):w.heap[b]?=w0.heap[b]?:=
 hr.fr.block b (h.hb b hb) fun q=>h.ne b (.inl q) hb.symm
theorem apP {io:IoS} {w0:World} {σ:Sg} {g g':Gh} {s s':AS} {a a':Act} {w w':World} (hC:HyC io w00 w0 B (σ.map Prod.fst)) (h1:Rel io w0 N g s a w) (h2:Rel io w0 N g' s' a' w') (hM:∀b L,σ=some (b,L)→jK P k w b L):∀b L,σ=some (b,L)→jK P k w' b L:=fun b L e=>
 (hM b L e).same (by
   have hb:σ.map Prod.fst=some b:=by rw[e];rfl
   rw[hC.same h1 hb,hC.same h2 hb])
theorem HyC.pJ {io:IoS} {w0:World} {ob:Option Nat} (h:HyC io w00 w0 B ob) {g:Gh} {s:AS} {a:Act} {w:World} (hr:Rel io w0 N g s a w) {kk:Bool} {i:Nat} (hi:g.I kk i):i<w.heap.size∧some i≠ob:=by
 refine⟨hr.lt _ _ hi,?_⟩;cases kk with
 |false=>exact h.ne i (.inr (.inl (hr.old i hi)))
 |true=>
  rcases hr.new i hi with⟨h1,_⟩|h1
  ·exact fun e=>by have:=h.hb i e.symm;omega
  ·exact h.ne i (.inr (.inr h1))
theorem HyC.gJ {io:IoS} {w0:World} {ob:Option Nat} (h:HyC io w00 w0 B ob) {g:Gh} {s:AS} {a:Act} {w:World} (hr:Rel io w0 N g s a w) {o:Nat} {c:Nat×Nat×List PV} (ho:s.ob o=some c):g.β o<w.heap.size∧some (g.β o)≠ob∧B≤g.β o:=by
 obtain⟨h1,h2,h3,h4⟩:=hr.ob o c ho;obtain⟨arr,ha,_⟩:=h4.1;refine⟨lt_of_heap ha,?_,?_⟩
 ·rcases h2 with h2|h2
  ·exact fun e=>by have:=h.hb _ e.symm;omega
  ·exact h.ne _ (.inl h2)
 ·rcases h2 with h2|h2
  ·have:=h.sz;omega
  ·exact h.lo _ (.inl h2)
theorem Rel.lJ {io:IoS} {w0 w w':World} {ob ob':Option Nat} {g:Gh} {s:AS} {a:Act} (hr:Rel io w0 N g s a w) (hC:HyC io w00 w0 B ob) (hf:w.grownBy w' ob')
 (h1:∀i,i<w.heap.size→some i=ob'→some i=ob) (h2:∀i,some i=ob→some i=ob') (h3:∀b,ob'=some b→b<w'.heap.size):∃io',Rel io' w' N g s a w'∧HyC io' w00 w' B ob':=by
 have hI:∀kk i,g.I kk i→w'.heap[i]?=w.heap[i]?:=fun kk i hi=>by obtain⟨q1,q2⟩:=hC.pJ hr hi;exact hf.block i q1 fun e=>q2 (h1 i q1 e)
 have hsz:B≤w.heap.size:=Nat.le_trans hC.sz hr.fr.size;have htk:∀t∈tks,some t≠ob':=fun t ht e=>(hC.tk t ht).2 (h1 t (by have:=(hC.tk t ht).1;omega) e);refine⟨{wr:=fun i=>∃o,(s.ob o).isSome∧i=g.β o,im:=g.I false,m:=0,β0:=fun _=>0,κ0:=fun _=>0,it:=g.I true},⟨hr.nt,hr.df,fun t=>(hr.tm t).mono (Gh.le_refl g) hI,fun o c ho=>?_,hr.inj,hr.nx,fun kk i hi=>Nat.lt_of_lt_of_le (hr.lt kk i hi) hf.size,fun i hi=> .inr hi,Fr.refl _ _,fun i hi=>hi,⟨fun o ho=>(Nat.not_lt_zero o ho).elim,fun o ho=>(Nat.not_lt_zero o ho).elim⟩,fun o ho=>False.elim ho,?_⟩,⟨fun i hi=>?_,fun i hi=>?_,fun i hi=>?_,h3,Nat.le_trans hsz hf.size,?_,fun t ht=>⟨(hC.tk t ht).1,htk t ht⟩⟩⟩
 ·obtain⟨k1,k2,k3,k4⟩:=hr.ob o c ho
  obtain⟨q1,q2,q3⟩:=hC.gJ hr ho;exact⟨k1,.inr ⟨o,by simp[ho],rfl⟩,k3,k4.mono (Gh.le_refl g) k1 hI (hf.block _ q1 fun e=>q2 (h1 _ q1 e))⟩
 ·have t1:tZ w (fun i=>some i=ob'):=hr.tab.keep hr.fr fun t ht e=>htk t ht e
  refine t1.keep ⟨hf.os,hf.tape,hf.output,hf.size,fun i hi hn=>hf.block i hi hn⟩ ?_;rintro t ht ⟨o,ho,rfl⟩;obtain⟨c,hc⟩:=Option.isSome_iff_exists.1 ho;have:=(hC.gJ hr hc).2.2;have:=(hC.tk _ ht).1;omega
 ·rcases hi with⟨o,ho,rfl⟩|hi|hi
  ·obtain⟨c,hc⟩:=Option.isSome_iff_exists.1 ho
   obtain⟨q1,q2,q3⟩:=hC.gJ hr hc;exact fun e=>q2 (h1 _ q1 e)
  ·obtain⟨q1,q2⟩:=hC.pJ hr hi
   exact fun e=>q2 (h1 _ q1 e)
  ·obtain⟨q1,q2⟩:=hC.pJ hr hi
   exact fun e=>q2 (h1 _ q1 e)
 ·rcases hi with⟨o,ho,rfl⟩|hi
  ·obtain⟨c,hc⟩:=Option.isSome_iff_exists.1 ho
   exact(hC.gJ hr hc).2.2
  ·rcases hr.new i hi with⟨q,_⟩|q
   ·exact Nat.le_trans hC.sz q
   ·exact hC.lo i (.inr q)
 ·obtain⟨o,ho,rfl⟩:=hi
  obtain⟨c,hc⟩:=Option.isSome_iff_exists.1 ho;exact Nat.lt_of_lt_of_le (hC.gJ hr hc).1 hf.size
 ·have hf1:Fr (fun i=>some i=ob'∨B≤i) w0 w:=⟨hr.fr.os,hr.fr.tape,hr.fr.output,hr.fr.size,fun i hi hn=>hr.fr.block i hi fun q=>hn (.inr (hC.lo i (.inl q)))⟩
  refine⟨hf.os.trans (hf1.os.trans hC.fr.os),hf.tape.trans (hf1.tape.trans hC.fr.tape),hf.output.trans (hf1.output.trans hC.fr.output),Nat.le_trans hC.fr.size (Nat.le_trans hf1.size hf.size),fun i hi hn=>?_⟩;have g1:=hC.fr.block i hi fun q=>hn (q.imp (h2 i) id);have g2:=hf1.block i (Nat.lt_of_lt_of_le hi hC.fr.size) hn;have g3:=hf.block i (Nat.lt_of_lt_of_le hi (Nat.le_trans hC.fr.size hf1.size)) fun q=>hn (.inl q);exact g3.trans (g2.trans g1)
structure HY (P:Program) (k:TypeId) (N B:Nat) (w00:World) (c:Code) (K:X→AS→Sg→Prop) (s:AS) (σ:Sg):Prop where
 go:∀a w,St P k N B w00 s σ a w→∀Q:Exit→Act→World→Prop,(∀x s' σ' a' w',St P k N B w00 s' σ' a' w'→K x s' σ'→Q x.uM a' w')→CWp P c Q a w
variable {c c1 c2:Code} {K:X→AS→Sg→Prop} {s s':AS} {σ:Sg}
theorem HY.seq (h:HY P k N B w00 c1 (fun x s' σ'=>match x with| .normal=>HY P k N B w00 c2 K s' σ'| .exit id=>K (.exit id) s' σ'| .ret=>K .ret s' σ') s σ):HY P k N B w00 (.seq c1 c2) K s σ:=HY.mk fun a w hs Q hQ=>by
 refine wp_seq (CWp.wp (h.go a w hs _ fun x s' σ' a' w' hs' hk=>?_));cases x with
 |normal=>exact(hk.go a' w' hs' Q hQ).wp
 |exit id=>exact hQ _ s' σ' a' w' hs' hk
 |ret=>exact hQ _ s' σ' a' w' hs' hk
theorem HY.block {id:Nat} (h:HY P k N B w00 c (fun x s' σ'=>K (x.out id) s' σ') s σ):HY P k N B w00 (.block id c) K s σ:=HY.mk fun a w hs Q hQ=>by
 refine wp_block (CWp.wp (h.go a w hs _ fun x s' σ' a' w' hs' hk=>?_));have:=hQ _ s' σ' a' w' hs' hk;cases x with
 |normal=>exact this
 |ret=>exact this
 |exit id'=>
  simp only[X.uM,Exit.inBlock,X.out]at this⊢;split
  ·rename_i hid;simpa [hid]using this
  ·rename_i hid;simpa [hid]using this
theorem HY.cond {x:Operand} {b:Bool} (hc:look s.tm x=.val (.bool b)) (ht:b=true→HY P k N B w00 c1 K s σ) (hf:b=false→HY P k N B w00 c2 K s σ):HY P k N B w00 (.cond x c1 c2) K s σ:=HY.mk fun a w hs Q hQ=>by
 obtain⟨⟨io,w0,g,hr,hC⟩,hM⟩:=hs;have hx:=hr.look x;rw[hc]at hx;simp only[Rep]at hx;refine wp_cond hx ?_;cases b with
 |true=>exact((ht rfl).go a w ⟨⟨io,w0,g,hr,hC⟩,hM⟩ Q hQ).wp
 |false=>exact((hf rfl).go a w ⟨⟨io,w0,g,hr,hC⟩,hM⟩ Q hQ).wp
theorem HY.skip (h:K .normal s σ):HY P k N B w00 .skip K s σ:=HY.mk fun a w hs Q hQ=>wp_skip (hQ .normal s σ a w hs h)
theorem HY.ret (h:K .ret s σ):HY P k N B w00 .ret K s σ:=HY.mk fun a w hs Q hQ=>wp_ret (hQ .ret s σ a w hs h)
theorem St.forget {a:Act} {w:World} (h:St P k N B w00 s σ a w) (hf:s.forget s'):St P k N B w00 s' σ a w:=by obtain⟨⟨io,w0,g,hr,hC⟩,hM⟩:=h;exact⟨⟨io,w0,g,hr.forget hf,hC⟩,hM⟩
theorem HY.forget (hf:s.forget s') (h:HY P k N B w00 c K s' σ):HY P k N B w00 c K s σ:=HY.mk fun a w hs Q hQ=>h.go a w (hs.forget hf) Q hQ
theorem HY.loop {α:Type} (S:α→AS) (I:α→Sg→Prop) (μ:α→Nat) (i:α) (hi:I i σ) (hs:s.forget (S i))
 (h:∀i σ,I i σ→HY P k N B w00 c (fun x s' σ'=>match x with| .normal=>∃j,I j σ'∧μ j<μ i∧s'.forget (S j)| .exit id=>K (.exit id) s' σ'| .ret=>K .ret s' σ') (S i) σ):HY P k N B w00 (.loop c) K s σ:=by
 have key:∀n i σ,μ i=n→I i σ→∀a w,St P k N B w00 (S i) σ a w→∀Q:Exit→Act→World→Prop,(∀x s' σ' a' w',St P k N B w00 s' σ' a' w'→K x s' σ'→Q x.uM a' w')→kY P c Q a w:=by
  intro n
  induction n using Nat.strongRecOn with
  |_ n ih=>
   intro i σ hn hi a w hst Q hQ;refine kY.step (CWp.wp ((h i σ hi).go a w hst _ fun x s' σ' a' w' hst' hk=>?_));cases x with
   |normal=>obtain⟨j,hj,hlt,hf⟩:=hk;exact ih (μ j) (hn▸hlt) j σ' rfl hj a' w' (hst'.forget hf) Q hQ
   |exit id=>exact hQ _ s' σ' a' w' hst' hk
   |ret=>exact hQ _ s' σ' a' w' hst' hk
 exact HY.mk fun a w hst Q hQ=>key _ i σ rfl hi a w (hst.forget hs) Q hQ
theorem HY.eng {Γ:Ctx} (hm:P.follows .mixedOrders=true) (hΓ:ak P Γ) (hc:codeOk Γ true N c=true) (hp:pq P Γ N c (fun x s'=>K x s' σ) s.tm s.ob s.nx):HY P k N B w00 c K s σ:=HY.mk fun a w hs Q hQ=>by obtain⟨⟨io,w0,g,hr,hC⟩,hM⟩:=hs;obtain⟨x,s',h1,h2⟩:=abh (fun _=>hm) c _ _ hc hp;exact h1.cwp hΓ.w (fun b hb=>hC.lt b hb) g a w Q hr fun g' a' w' hr'=>hQ x s' σ a' w' ⟨⟨io,w0,g',hr',hC⟩,apP hC hr hr' hM⟩ h2
def Ctx.see (Γ:Ctx) (M:MpO):Ctx:={Γ with mp:=some M}
theorem HY.see {Γ:Ctx} {M:MpO} {L:VL} (hm:P.follows .mixedOrders=true) (hΓ:ak P Γ) (hσ:σ=some (M.b,L)) (hans:∀key c p,M.ans key c=some p→∀(w:World) (g:Gh),jK P k w M.b L→∃v,(Instr.lookup M.t (.map (some M.b)) key c).run P w=.ok v w∧Rep g w p v)
 (hc:codeOk (Γ.see M) true N c=true) (hp:pq P (Γ.see M) N c (fun x s'=>K x s' σ) s.tm s.ob s.nx):HY P k N B w00 c K s σ:=HY.mk fun a w hs Q hQ=>by
 obtain⟨⟨io,w0,g,hr,hC⟩,hM⟩:=hs;obtain⟨x,s',h1,h2⟩:=abh (fun _=>hm) c _ _ hc hp;have hb:σ.map Prod.fst=some M.b:=by rw[hσ];rfl
 have hW:gT P (Γ.see M) io.wr w0:=⟨hΓ.1,hΓ.2.1,fun M' hM'=>by cases hM';refine⟨hC.hb _ hb,fun q=>hC.ne _ (.inl q) hb.symm,fun key c p hp w1 g1 he=>hans key c p hp w1 g1 ((hM _ _ hσ).same ?_)⟩;rw[he,hC.same hr hb]⟩
 exact h1.cwp hW (fun b hb=>hC.lt b hb) g a w Q hr fun g' a' w' hr'=>hQ x s' σ a' w' ⟨⟨io,w0,g',hr',hC⟩,apP hC hr hr' hM⟩ h2
structure HO (P:Program) (k:TypeId) (N B:Nat) (w00:World) (ops:Array Oper) (j:Nat) (l:List Oper) (K:AS→Sg→Prop) (s:AS) (σ:Sg):Prop where
 go:ops.toList.drop j=l→∀a w,St P k N B w00 s σ a w→∀Q:Exit→Act→World→Prop,(∀s' σ' a' w',St P k N B w00 s' σ' a' w'→K s' σ'→Q .normal a' w')→wpOps P ops Q (List.range' j l.length) a w
variable {ops:Array Oper} {J:AS→Sg→Prop} {j:Nat} {o:Oper} {l l1 l2:List Oper}
theorem HY.each {id:Nat} {os:List Oper} (h:HO P k N B w00 os.toArray 0 os (K .normal) s σ):HY P k N B w00 (.region id os.toArray false) K s σ:=HY.mk fun a w hs Q hQ=>by refine wp_region ?_;have:=h.go (by simp) a w hs Q fun s' σ' a' w' hs' hk=>hQ .normal s' σ' a' w' hs' hk;rw[List.range_eq_range'];simpa using this
theorem HO.nil (h:J s σ):HO P k N B w00 ops j [] J s σ:=HO.mk fun _ a w hs Q hQ=>hQ s σ a w hs h
theorem atq {Γ:Ctx} {imm:Md} {io:IoS} {w0:World} {Q:Exit→Act→World→Prop} {s1:AS} (hΓ:gT P Γ io.wr w0) (hio:∀b,io b→b<w0.heap.size) (hd:∀o∈ops.toList,iO N o=true):∀(l1:List Oper) (j:Nat) {g:Gh} {s:AS} {a:Act} {w:World},ops.toList.drop j=l1++l2→Rel io w0 N g s a w→
 je P Γ imm ops l1 s=some s1→(∀g' a' w',Rel io w0 N g' s1 a' w'→wpOps P ops Q (List.range' (j+l1.length) l2.length) a' w')→wpOps P ops Q (List.range' j (l1++l2).length) a w
 |[],j,g,s,a,w,hl,h,he,hQ=>by simp only[je,Option.some.injEq]at he;subst he;exact hQ g a w h
 |o::l,j,g,s,a,w,hl,h,he,hQ=>by
  have hk:ops.toList[j]?=some o:=by have:=congrArg (·[0]?) hl;simpa using this
  have hk':ops[j]?=some o:=by simpa using hk
  have hl':ops.toList.drop (j+1)=l++l2:=by rw[←List.drop_drop,hl];rfl
  simp only[je]at he;split at he
  ·rename_i s2 h2
   simp only[List.cons_append,List.length_cons,List.range'_succ];rw[wpOps_cons];exact adp h hΓ hio (hd o (List.mem_of_getElem? hk)) h2 hk' fun g' a' w' hr=>atq hΓ hio hd l (j+1) hl' hr he fun g2 a2 w2 hr2=>by
    have:=hQ g2 a2 w2 hr2
    rwa[List.length_cons,show j+(l.length+1)=j+1+l.length by omega]at this
  ·cases he
theorem HO.pre {Γ:Ctx} {imm:Md} {os:List Oper} (n:Nat) (hΓ:ak P Γ) (hd:os.toArray.all (iO N)=true) (h1:l.take n=l1) (h2:l.drop n=l2) {gs:List (Option Nat)} (hg:os.map (·.dst)=gs) (hp:wq P Γ imm gs l1 (fun s1=>HO P k N B w00 os.toArray (j+l1.length) l2 J s1 σ) s.tm s.ob s.nx):HO P k N B w00 os.toArray j l J s σ:=HO.mk fun hl a w hs Q hQ=>by
 obtain⟨⟨io,w0,g,hr,hC⟩,hM⟩:=hs;have hl12:l=l1++l2:=by rw[←h1,←h2,List.take_append_drop]
 subst hg;rw[show os.map (·.dst)=os.toArray.toList.map (·.dst) by simp,←mK]at hp;obtain⟨s1,e1,e2⟩:=pF _ _ hp;rw[hl12]at hl⊢;refine atq hΓ.w (fun b hb=>hC.lt b hb) (fun o ho=>(Array.all_eq_true_iff_forall_mem.1 hd) o (by simpa using ho)) l1 j hl hr e1 fun g' a' w' hr'=>?_;refine e2.go ?_ a' w' ⟨⟨io,w0,g',hr',hC⟩,apP hC hr hr' hM⟩ Q hQ;rw[←List.drop_drop,hl];simp
theorem HO.one (hg:o.guard=none) (h:∀a w,St P k N B w00 s σ a w→∀(Kn:Act→World→Prop) (Q:Exit→Act→World→Prop),(∀s' σ' a' w',St P k N B w00 s' σ' a' w'→HO P k N B w00 ops (j+1) l J s' σ'→Kn a' w')→o.wp P a w Kn Q):HO P k N B w00 ops j (o::l) J s σ:=HO.mk fun hl a w hs Q hQ=>by
 have hk:ops.toList[j]?=some o:=by have:=congrArg (·[0]?) hl;simpa using this
 have hk':ops[j]?=some o:=by simpa using hk
 have hl':ops.toList.drop (j+1)=l:=by rw[←List.drop_drop,hl];rfl
 simp only[List.length_cons,List.range'_succ];rw[wpOps_cons];unfold wpOp;simp only[hk'];have hw:Region.wanted o (yielded ops a.tmps)=true:=by simp[Region.wanted,hg]
 rw[hw];simp only[if_true];left;exact h a w hs _ _ fun s' σ' a' w' hs' hh=>hh.go hl' a' w' hs' Q hQ
theorem St.put {a:Act} {w:World} (h:St P k N B w00 s σ a w) {d:Option Nat} (hd:∀x,d=some x→x<N) {p:PV} {v:Value} (hv:∀(g:Gh) (w:World),Rep g w p v):St P k N B w00 (s.put d p) σ (a.put d v) w:=by obtain⟨⟨io,w0,g,hr,hC⟩,hM⟩:=h;exact⟨⟨io,w0,g,hr.put hd (hv g w),hC⟩,hM⟩
theorem St.lJ {a:Act} {w w':World} {b:Nat} {L L':VL} (h:St P k N B w00 s (some (b,L)) a w) (hf:w.grownBy w' (some b)) (hM:jK P k w' b L'):St P k N B w00 s (some (b,L')) a w':=by obtain⟨⟨io,w0,g,hr,hC⟩,_⟩:=h;obtain⟨io',h1,h2⟩:=hr.lJ hC hf (fun i _ e=>e) (fun i e=>e) (fun b' e=>by cases e;exact hM.lt);exact⟨⟨io',w',g,h1,h2⟩,fun b' L2 e=>by cases e;exact hM⟩
theorem HO.make {t d:Nat} (ho:o.op=.makeMap t none) (hdst:o.dst=some d) (hd:d<N) (hg:o.guard=none) (h:∀b,B≤b→HO P k N B w00 ops (j+1) l J (s.put (some d) (.val (.map (some b)))) (some (b,[]))):HO P k N B w00 ops j (o::l) J s none:=by
 refine HO.one hg fun a w hs Kn Q hK=>?_;obtain⟨⟨io,w0,g,hr,hC⟩,hM⟩:=hs;have hrun:(execOp a.eval o).run P w=.ok (.value (.map (some w.heap.size))) (w.alloc (.map #[] 0)):=by simp[execOp,ho,run_makeMap]
 unfold Oper.wp;rw[hrun,Oper.upon_value,hdst];obtain⟨io',h1,h2⟩:=hr.lJ (ob':=some w.heap.size) hC (World.grownBy_alloc w _ _) (fun i hi e=>by cases e;omega) (fun i e=>(by cases e)) (fun b' e=>by cases e;simp);refine hK (s.put (some d) (.val (.map (some w.heap.size)))) (some (w.heap.size,[])) _ _ ?_ (h _ (Nat.le_trans hC.sz hr.fr.size));exact St.put ⟨⟨io',_,g,h1,h2⟩,fun b' L' e=>by cases e;exact jK.made w⟩ (fun x e=>by cases e;exact hd) fun g w=>by simp[Rep]
theorem HO.call {b f:Nat} {L:VL} {c:Call} {ps:List PV} {R:PV→VL→Prop} (ho:o.op=.call c) (hc:c.callee=.value (.func f)) (hf:Fnd P f) (hg:o.guard=none) (hd:∀x,o.dst=some x→x<N) (hps:(c.args.toList.map (look s.tm)).mapM (reify false 0 s.ob fuel)=some ps)
 (hcall:∀(w:World) (Jm:Nat→Prop) (args:Array Value),(∀i,Jm i→i<w.heap.size∧i≠b)→cZ (zT Jm) w ps args.toList→jK P k w b L→tZ w (fun i=>i=b)→Calls P f args w fun e w'=>∃p v L',e=.returned v∧(∀(g:Gh) (w:World),Rep g w p v)∧w.grownBy w' (some b)∧jK P k w' b L'∧R p L')
 (h:∀p L',R p L'→HO P k N B w00 ops (j+1) l J (s.put o.dst p) (some (b,L'))):HO P k N B w00 ops j (o::l) J s (some (b,L)):=by
 refine HO.one hg fun a w hs Kn Q hK=>?_;have hs0:=hs;obtain⟨⟨io,w0,g,hr,hC⟩,hM⟩:=hs;obtain⟨fn,hfn,hname,hbody⟩:=hf;have hrun:(execOp a.eval o).run P w=.ok (.enter f (c.args.map a.eval)) w:=by unfold execOp;simp only[ho,resolve,hc,Act.eval,Deferred.ofValue,Sem.run_bind,Sem.run_pure,Result.andThen_ok,invoke,callFunc,run_program,hfn];simp[hname,hbody]
 unfold Oper.wp;rw[hrun,Oper.upon_enter];have hseen:Seen false 0 g s (zT fun b=>(∃k,g.I k b)∨∃o,(s.ob o).isSome∧b=g.β o):=⟨fun _=>⟨fun k b hb=>⟨rfl,.inl ⟨k,hb⟩⟩,fun o ho=>⟨rfl,.inr ⟨o,ho,rfl⟩⟩⟩,fun hh=>by cases hh⟩;have hargs:cZ (zT fun b=>(∃k,g.I k b)∨∃o,(s.ob o).isSome∧b=g.β o) w ps (c.args.map a.eval).toList:=by rw[Array.toList_map];exact cZ.conv (Rep.seen (fun o c hoc=>(hr.ob o c hoc).2.2.2) hseen fuel) (hr.looks _) hps
 have hT:tZ w (fun i=>i=b):=hr.tab.keep hr.fr fun t ht e=>(hC.tk t ht).2 (by rw[e];rfl);refine(hcall w _ _ ?_ hargs (hM _ _ rfl) hT).mono ?_
 ·rintro i (⟨k',hi⟩|⟨o',ho',rfl⟩)
  ·obtain⟨q1,q2⟩:=hC.pJ hr hi
   exact⟨q1,fun e=>q2 (by rw[e];rfl)⟩
  ·obtain⟨c',hc'⟩:=Option.isSome_iff_exists.1 ho'
   obtain⟨q1,q2,_⟩:=hC.gJ hr hc';exact⟨q1,fun e=>q2 (by rw[e];rfl)⟩
 ·rintro e w' ⟨p,v,L',rfl,hv,hgr,hM',hR⟩
  exact hK _ _ _ _ ((hs0.lJ hgr hM').put hd hv) (h p L' hR)
end
end
end Go.Proofs.YtmmafcjjlbgnkaaGreatDoor
