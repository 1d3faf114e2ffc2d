/- What the proof rests on, part 14: contracts of functions. No condition beyond what each states. -/
import Derived.Test.YtmmafcjjlbgnkaaGreatZBg13
namespace Go.Proofs.YtmmafcjjlbgnkaaGreat
open Go.RowKit
set_option linter.all false
set_option maxHeartbeats 32000000
noncomputable section
def akZ (g:I4):Bool:=inB g.1 0 1000&&inB g.2.1 0 1000&&inB g.2.2.1 0 g.1&&inB g.2.2.2 0 1
def wO:Fun:=F1 dI4 fun g=>some (bv (akZ g))
theorem aeO {a b c d:Int}:wO [.agg [.val (.int .i64 a),.val (.int .i64 b),.val (.int .i64 c),.val (.int .i64 d)]]=some (.val (.bool (akZ (a,b,c,d)))):=iA (A:=dI4) (a,b,c,d)
def GGl:Ctx:={fn:=aY [(43,φIn)],io:=aY []}
theorem asH:ak Tryz.prog GGl:=okΓ (fC Tryz.func43 pO aj) aj
def aqP:=ah (Γ:=GGl) (f:=43) (φ:=φIn) rfl
theorem yD:Sound Tryz.prog 26 wO:=by
 refine au mixed asH Tryz.func26 rfl 23 rfl [.tmp 2] rfl (by kernel_rfl) fun ps r hr=>?_;obtain⟨⟨a,b,c,d⟩,rfl,hr⟩:=bR hr;cases hr;refine⟨by simp,?_⟩;simp only[dIs,dUs,dSs,dx,dA,dz,dF,aS,dD,aT,aU,aR,aV];have ggl_c43:=aqP;have ap:=bL;(refine wlkX6 ?_ ?_ ?_ ?_ ?_ ?_<;>intros<;>try with_reducible exact trivial);all_goals(refine fnG ?_;try with_reducible exact trivial)
 all_goals simp_all [akZ]
def GAl:Ctx:={fn:=aY [(26,wO)],io:=aY []}
theorem ati:ak Tryz.prog GAl:=okΓ (fC Tryz.func26 yD aj) aj
def as1:=ah (Γ:=GAl) (f:=26) (φ:=wO) rfl
def acQ:Fun:=F0 (some (bv true))
theorem ag3:acQ []=some (.val (.bool true)):=rfl
theorem ajF:Sound Tryz.prog 9 acQ:=by refine au mixed ati Tryz.func9 rfl 3 rfl [.tmp 0] rfl (by kernel_rfl) fun ps r hr=>?_;obtain⟨rfl,hr⟩:=anf hr;cases hr;refine⟨by simp,?_⟩;have gal_c26:=as1;have ap:=@aeO;have e:akZ (4,0,0,0)=true:=rfl;(refine wlkX ?_;intros);all_goals(exact fnF)
def GRd:Ctx:={fn:=aY [],io:=aY [(37,sS),(39,ad7)]}
theorem ala:ak Tryz.prog GRd:=okΓ aj (fD Tryz.func37 tu (fD Tryz.func39 acF aj))
abbrev auQ (s:ByteArray):PV:=.val (.string s)
theorem abu:∃Φ:dN,bK Tryz.prog 57 Φ∧ads 65 Φ 700000000 15 auQ (fun n=>0≤n∧n≤1000) (fun _ s=>s.size≤21):=by
 refine oK mixed ala Tryz.func57 rfl 39 rfl [.tmp 4] rfl (by kernel_rfl) (by simp) _ _ _ _ _ _ fun code p n hok hp hn=>?_;have hp0:=hok.pos
 repeat' (first|(first|(with_reducible first|apply fM|apply bD|apply cK|apply cZ|apply fJ|apply l6|apply fq|apply fI|apply l7|apply fH|apply fE|apply lY|apply fB|apply fu|apply fK)|((with_reducible apply bg);(simp only[List.map_cons,List.map_nil]<;>exact rfl))|((with_reducible apply dh);(simp only[List.map_cons,List.map_nil]<;>exact rfl);decide+kernel)|((with_reducible apply fA);rfl)|((first|((with_reducible apply i_V);rfl;rfl;rfl)|((first|((with_reducible apply i_E);rfl)|((with_reducible apply i_S);rfl));first|rfl|(simp only[push_cast,↓reduceIte]))|((with_reducible apply lW);rfl;rfl)|((with_reducible apply lX);rfl;rfl;rfl)|(with_reducible first|apply lZ|apply dn));(simp(disch:=(first|omega|(simp only[push_cast];first|done|omega))) only[push_cast,↓reduceIte,Nat.reduceEqDiff,Nat.reduceBEq,Nat.reduceAdd,Nat.reduceSub,Int.reduceToNat, *]<;>with_reducible exact rfl);all_goals try(first|(with_reducible first|refine hyT ?_|refine hyF ?_|exact hyA|exact hyB)|(intro hX;first|(cases hX;done)|((try simp only[decide_eq_true_eq,decide_eq_false_iff_not,Bool.not_eq_true',Bool.not_eq_false']at hX);(try have hXb:=av.1 hX))))))|((with_reducible apply bQ dZ (fun _ _=>rfl));rfl;(simp(disch:=(first|omega|(simp only[push_cast];first|done|omega))) only[push_cast,↓reduceIte,Nat.reduceEqDiff,Nat.reduceBEq,Nat.reduceAdd,Nat.reduceSub,Int.reduceToNat, *]<;>with_reducible exact rfl);(simp(disch:=(first|omega|(simp only[push_cast];first|done|omega))) only[push_cast,↓reduceIte,Nat.reduceEqDiff,Nat.reduceBEq,Nat.reduceAdd,Nat.reduceSub,Int.reduceToNat, *]<;>with_reducible exact rfl);(simp(disch:=(first|omega|(simp only[push_cast];first|done|omega))) only[push_cast,↓reduceIte,Nat.reduceEqDiff,Nat.reduceBEq,Nat.reduceAdd,Nat.reduceSub,Int.reduceToNat, *]<;>with_reducible exact rfl);assumption;omega;(focus(first|trivial|omega));(focus(first|rfl|(simp only[push_cast,↓reduceIte])));intro v pp hv hok hpp1 hpp2)|((with_reducible apply bQ iZ (fun _ _=>rfl));rfl;(simp(disch:=(first|omega|(simp only[push_cast];first|done|omega))) only[push_cast,↓reduceIte,Nat.reduceEqDiff,Nat.reduceBEq,Nat.reduceAdd,Nat.reduceSub,Int.reduceToNat, *]<;>with_reducible exact rfl);(simp(disch:=(first|omega|(simp only[push_cast];first|done|omega))) only[push_cast,↓reduceIte,Nat.reduceEqDiff,Nat.reduceBEq,Nat.reduceAdd,Nat.reduceSub,Int.reduceToNat, *]<;>with_reducible exact rfl);(simp(disch:=(first|omega|(simp only[push_cast];first|done|omega))) only[push_cast,↓reduceIte,Nat.reduceEqDiff,Nat.reduceBEq,Nat.reduceAdd,Nat.reduceSub,Int.reduceToNat, *]<;>with_reducible exact rfl);assumption;omega;(focus(first|trivial|omega));(focus(first|rfl|(simp only[push_cast,↓reduceIte])));intro v pp hv hok hpp1 hpp2))
 all_goals try((with_reducible apply fO (by first|exact .inl rfl|exact .inr rfl));(focus(simp(disch:=(first|omega|(simp only[push_cast];first|done|omega))) only[push_cast,↓reduceIte,Nat.reduceEqDiff,Nat.reduceBEq,Nat.reduceAdd,Nat.reduceSub,Int.reduceToNat,aO,aL,bH,aQ,aP, *]<;>with_reducible exact rfl));(focus(simp(disch:=(first|omega|(simp only[push_cast];first|done|omega))) only[push_cast,↓reduceIte,Nat.reduceEqDiff,Nat.reduceBEq,Nat.reduceAdd,Nat.reduceSub,Int.reduceToNat,aO,aL,bH,aQ,aP, *]<;>with_reducible exact rfl)))
 all_goals try(first|omega|assumption|exact fG (p:=fun a:ByteArray=>a.size≤21) (by decide) (by simp only[List.length_cons,List.length_nil];omega))
 refine aG (α:=ByteArray×Int×Int×Nat) mixed (fun s=>[(0,.own 0 2 0 0),(5,.val (.string s.1)),(6,iv s.2.1)])
  (fun s=>[(0,rdC 65 code s.2.2.1)]) (fun s=>s.2.2.2)
  (fun s=>oC code s.2.2.1∧p≤s.2.2.1∧s.2.2.1+s.2.1≤p+14∧s.1.size+s.2.1≤10∧0≤s.2.1∧0<s.2.2.2) (fun s=>s.2.1.toNat) (by kernel_rfl) (⟨#[]⟩,1+v,pp,1) ⟨hok,?_⟩ ?_ ?_ rfl ?_
 ·have h0:((⟨#[]⟩:ByteArray)).size=0:=rfl
  dsimp only;omega
 ·exact agr
 ·exact agr
 rintro⟨s,k,q,y⟩ ⟨okq,i1,i2,i3,i4,i5⟩;dsimp only at okq i1 i2 i3 i4 i5
 repeat' (first|(first|(with_reducible first|apply fM|apply bD|apply cK|apply cZ|apply fJ|apply l6|apply fq|apply fI|apply l7|apply fH|apply fE|apply lY|apply fB|apply fu|apply fK)|((with_reducible apply bg);(simp only[List.map_cons,List.map_nil]<;>exact rfl))|((with_reducible apply dh);(simp only[List.map_cons,List.map_nil]<;>exact rfl);decide+kernel)|((with_reducible apply fA);rfl)|((first|((with_reducible apply i_V);rfl;rfl;rfl)|((first|((with_reducible apply i_E);rfl)|((with_reducible apply i_S);rfl));first|rfl|(simp only[push_cast,↓reduceIte]))|((with_reducible apply lW);rfl;rfl)|((with_reducible apply lX);rfl;rfl;rfl)|(with_reducible first|apply lZ|apply dn));(simp(disch:=(first|omega|(simp only[push_cast];first|done|omega))) only[push_cast,↓reduceIte,Nat.reduceEqDiff,Nat.reduceBEq,Nat.reduceAdd,Nat.reduceSub,Int.reduceToNat, *]<;>with_reducible exact rfl);all_goals try(first|(with_reducible first|refine hyT ?_|refine hyF ?_|exact hyA|exact hyB)|(intro hX;first|(cases hX;done)|((try simp only[decide_eq_true_eq,decide_eq_false_iff_not,Bool.not_eq_true',Bool.not_eq_false']at hX);(try have hXb:=av.1 hX))))))|((with_reducible apply bQ dZ (fun _ _=>rfl));rfl;(simp(disch:=(first|omega|(simp only[push_cast];first|done|omega))) only[push_cast,↓reduceIte,Nat.reduceEqDiff,Nat.reduceBEq,Nat.reduceAdd,Nat.reduceSub,Int.reduceToNat, *]<;>with_reducible exact rfl);(simp(disch:=(first|omega|(simp only[push_cast];first|done|omega))) only[push_cast,↓reduceIte,Nat.reduceEqDiff,Nat.reduceBEq,Nat.reduceAdd,Nat.reduceSub,Int.reduceToNat, *]<;>with_reducible exact rfl);(simp(disch:=(first|omega|(simp only[push_cast];first|done|omega))) only[push_cast,↓reduceIte,Nat.reduceEqDiff,Nat.reduceBEq,Nat.reduceAdd,Nat.reduceSub,Int.reduceToNat, *]<;>with_reducible exact rfl);assumption;omega;(focus(first|trivial|omega));(focus(first|rfl|(simp only[push_cast,↓reduceIte])));intro v pp hv hok hpp1 hpp2))
 all_goals try((with_reducible apply fO (by first|exact .inl rfl|exact .inr rfl));(focus(simp(disch:=(first|omega|(simp only[push_cast];first|done|omega))) only[push_cast,↓reduceIte,Nat.reduceEqDiff,Nat.reduceBEq,Nat.reduceAdd,Nat.reduceSub,Int.reduceToNat,aO,aL,bH,aQ,aP, *]<;>with_reducible exact rfl));(focus(simp(disch:=(first|omega|(simp only[push_cast];first|done|omega))) only[push_cast,↓reduceIte,Nat.reduceEqDiff,Nat.reduceBEq,Nat.reduceAdd,Nat.reduceSub,Int.reduceToNat,aO,aL,bH,aQ,aP, *]<;>with_reducible exact rfl)))
 all_goals try(first|omega|assumption)
 refine⟨(s++bytesOf [IntKind.u8.wrap (97+v)],k-1,pp,y+1),⟨hok,?_⟩,?_,?_,?_,rfl⟩
 ·simp only[ByteArray.size_append,pV,List.length_cons,List.length_nil];omega
 ·dsimp only;omega
 ·exact agr
 ·exact agr
def ahZ:dN:=Classical.choose abu
theorem anj:bK Tryz.prog 57 ahZ:=(Classical.choose_spec abu).1
theorem ac7:ads 65 ahZ 700000000 15 auQ (fun n=>0≤n∧n≤1000) (fun _ s=>s.size≤21):=(Classical.choose_spec abu).2
abbrev ESs (l:LS):PV:=.lst true 1 (l.map fun s=>PV.val (.string s))
def okT (n:Nat) (l:LS):Prop:=l.length≤n∧∀s∈l,s.size≤21
theorem dR {l:LS} {a:ByteArray} {m n:Nat} (h:l.length≤m) (hn:m<n) (h1:∀s∈l,s.size≤21) (h2:a.size≤21):okT n (l++[a]):=by
 refine⟨by simp;omega,fun x hx=>?_⟩;rcases List.mem_append.1 hx with hx|hx
 ·exact h1 x hx
 ·simp only[List.mem_singleton]at hx
  subst hx;exact h2
def GRw:Ctx:={fn:=aY [],io:=aY [(37,sS),(39,ad7),(57,ahZ)]}
theorem asF:ak Tryz.prog GRw:=okΓ aj (fD Tryz.func37 tu (fD Tryz.func39 acF (fD Tryz.func57 anj aj)))
theorem wB:∃Φ:dN,bK Tryz.prog 38 Φ∧ads 65 Φ 600000000 200 ESs (fun n=>0≤n∧n≤1000) (fun _ l=>okT 13 l):=by
 refine oK mixed asF Tryz.func38 rfl 37 rfl [.tmp 4] rfl (by kernel_rfl) (by simp) _ _ _ _ _ _ fun code p n hok hp hn=>?_;have hp0:=hok.pos
 repeat' (first|(first|(with_reducible first|apply fM|apply bD|apply cK|apply cZ|apply fJ|apply l6|apply fq|apply fI|apply l7|apply fH|apply fE|apply lY|apply fB|apply fu|apply fK)|((with_reducible apply bg);(simp only[List.map_cons,List.map_nil]<;>exact rfl))|((with_reducible apply dh);(simp only[List.map_cons,List.map_nil]<;>exact rfl);decide+kernel)|((with_reducible apply fA);rfl)|((first|((with_reducible apply i_V);rfl;rfl;rfl)|((first|((with_reducible apply i_E);rfl)|((with_reducible apply i_S);rfl));first|rfl|(simp only[push_cast,↓reduceIte]))|((with_reducible apply lW);rfl;rfl)|((with_reducible apply lX);rfl;rfl;rfl)|(with_reducible first|apply lZ|apply dn));(simp(disch:=(first|omega|(simp only[push_cast];first|done|omega))) only[push_cast,↓reduceIte,Nat.reduceEqDiff,Nat.reduceBEq,Nat.reduceAdd,Nat.reduceSub,Int.reduceToNat, *]<;>with_reducible exact rfl);all_goals try(first|(with_reducible first|refine hyT ?_|refine hyF ?_|exact hyA|exact hyB)|(intro hX;first|(cases hX;done)|((try simp only[decide_eq_true_eq,decide_eq_false_iff_not,Bool.not_eq_true',Bool.not_eq_false']at hX);(try have hXb:=av.1 hX))))))|((with_reducible apply bQ dZ (fun _ _=>rfl));rfl;(simp(disch:=(first|omega|(simp only[push_cast];first|done|omega))) only[push_cast,↓reduceIte,Nat.reduceEqDiff,Nat.reduceBEq,Nat.reduceAdd,Nat.reduceSub,Int.reduceToNat, *]<;>with_reducible exact rfl);(simp(disch:=(first|omega|(simp only[push_cast];first|done|omega))) only[push_cast,↓reduceIte,Nat.reduceEqDiff,Nat.reduceBEq,Nat.reduceAdd,Nat.reduceSub,Int.reduceToNat, *]<;>with_reducible exact rfl);(simp(disch:=(first|omega|(simp only[push_cast];first|done|omega))) only[push_cast,↓reduceIte,Nat.reduceEqDiff,Nat.reduceBEq,Nat.reduceAdd,Nat.reduceSub,Int.reduceToNat, *]<;>with_reducible exact rfl);assumption;omega;(focus(first|trivial|omega));(focus(first|rfl|(simp only[push_cast,↓reduceIte])));intro v pp hv hok hpp1 hpp2)|((with_reducible apply bQ iZ (fun _ _=>rfl));rfl;(simp(disch:=(first|omega|(simp only[push_cast];first|done|omega))) only[push_cast,↓reduceIte,Nat.reduceEqDiff,Nat.reduceBEq,Nat.reduceAdd,Nat.reduceSub,Int.reduceToNat, *]<;>with_reducible exact rfl);(simp(disch:=(first|omega|(simp only[push_cast];first|done|omega))) only[push_cast,↓reduceIte,Nat.reduceEqDiff,Nat.reduceBEq,Nat.reduceAdd,Nat.reduceSub,Int.reduceToNat, *]<;>with_reducible exact rfl);(simp(disch:=(first|omega|(simp only[push_cast];first|done|omega))) only[push_cast,↓reduceIte,Nat.reduceEqDiff,Nat.reduceBEq,Nat.reduceAdd,Nat.reduceSub,Int.reduceToNat, *]<;>with_reducible exact rfl);assumption;omega;(focus(first|trivial|omega));(focus(first|rfl|(simp only[push_cast,↓reduceIte])));intro v pp hv hok hpp1 hpp2)|((with_reducible apply bQ ac7 (fun _ _=>by simp only[push_cast,↓reduceIte,Nat.reduceEqDiff,Nat.reduceBEq,Nat.reduceAdd,Nat.reduceSub,Int.reduceToNat]));(focus rfl);(focus(simp(disch:=(first|omega|(simp only[push_cast];first|done|omega))) only[push_cast,↓reduceIte,Nat.reduceEqDiff,Nat.reduceBEq,Nat.reduceAdd,Nat.reduceSub,Int.reduceToNat, *]<;>with_reducible exact rfl));(focus(simp(disch:=(first|omega|(simp only[push_cast];first|done|omega))) only[push_cast,↓reduceIte,Nat.reduceEqDiff,Nat.reduceBEq,Nat.reduceAdd,Nat.reduceSub,Int.reduceToNat, *]<;>with_reducible exact rfl));(focus(simp(disch:=(first|omega|(simp only[push_cast];first|done|omega))) only[push_cast,↓reduceIte,Nat.reduceEqDiff,Nat.reduceBEq,Nat.reduceAdd,Nat.reduceSub,Int.reduceToNat, *]<;>with_reducible exact rfl));(focus assumption);(focus omega);(focus(first|trivial|omega));(focus(first|rfl|(simp only[push_cast,↓reduceIte])));intro v pp hv hok hpp1 hpp2))
 rename_i h0;refine aG (α:=LS×Int×Int×Nat×Nat) mixed (fun s=>[(0,.own 0 2 0 0),(1,iv n),(5,.row s.2.2.2.1 1 0 s.1.length),(6,iv s.2.1)])
  (fun s=>[(0,rdC 65 code s.2.2.1),(s.2.2.2.1,9,1,s.1.map fun s=>PV.val (.string s))]) (fun s=>s.2.2.2.2)
  (fun s=>oC code s.2.2.1∧(∀x∈s.1,x.size≤21)∧p≤s.2.2.1∧s.2.2.1+15*s.2.1≤p+110∧s.1.length+s.2.1≤8∧0≤s.2.1∧0<s.2.2.2.1∧s.2.2.2.1<s.2.2.2.2) (fun s=>s.2.1.toNat) (by kernel_rfl) ([],v,pp,1,2) ⟨hok,by simp,?_⟩ ?_ ?_ rfl ?_
 ·dsimp only[List.length_nil];omega
 ·exact agr
 ·exact agr
 rintro⟨l,k,q,x,y⟩ ⟨okq,hl,i1,i2,i3,i4,i5,i6⟩;dsimp only at okq hl i1 i2 i3 i4 i5 i6;clear hok h0
 repeat' (first|(first|(with_reducible first|apply fM|apply bD|apply cK|apply cZ|apply fJ|apply l6|apply fq|apply fI|apply l7|apply fH|apply fE|apply lY|apply fB|apply fu|apply fK)|((with_reducible apply bg);(simp only[List.map_cons,List.map_nil]<;>exact rfl))|((with_reducible apply dh);(simp only[List.map_cons,List.map_nil]<;>exact rfl);decide+kernel)|((with_reducible apply fA);rfl)|((first|((with_reducible apply i_V);rfl;rfl;rfl)|((first|((with_reducible apply i_E);rfl)|((with_reducible apply i_S);rfl));first|rfl|(simp only[push_cast,↓reduceIte]))|((with_reducible apply lW);rfl;rfl)|((with_reducible apply lX);rfl;rfl;rfl)|(with_reducible first|apply lZ|apply dn));(simp(disch:=(first|omega|(simp only[push_cast];first|done|omega))) only[push_cast,↓reduceIte,Nat.reduceEqDiff,Nat.reduceBEq,Nat.reduceAdd,Nat.reduceSub,Int.reduceToNat, *]<;>with_reducible exact rfl);all_goals try(first|(with_reducible first|refine hyT ?_|refine hyF ?_|exact hyA|exact hyB)|(intro hX;first|(cases hX;done)|((try simp only[decide_eq_true_eq,decide_eq_false_iff_not,Bool.not_eq_true',Bool.not_eq_false']at hX);(try have hXb:=av.1 hX))))))|((with_reducible apply bQ dZ (fun _ _=>rfl));rfl;(simp(disch:=(first|omega|(simp only[push_cast];first|done|omega))) only[push_cast,↓reduceIte,Nat.reduceEqDiff,Nat.reduceBEq,Nat.reduceAdd,Nat.reduceSub,Int.reduceToNat, *]<;>with_reducible exact rfl);(simp(disch:=(first|omega|(simp only[push_cast];first|done|omega))) only[push_cast,↓reduceIte,Nat.reduceEqDiff,Nat.reduceBEq,Nat.reduceAdd,Nat.reduceSub,Int.reduceToNat, *]<;>with_reducible exact rfl);(simp(disch:=(first|omega|(simp only[push_cast];first|done|omega))) only[push_cast,↓reduceIte,Nat.reduceEqDiff,Nat.reduceBEq,Nat.reduceAdd,Nat.reduceSub,Int.reduceToNat, *]<;>with_reducible exact rfl);assumption;omega;(focus(first|trivial|omega));(focus(first|rfl|(simp only[push_cast,↓reduceIte])));intro v pp hv hok hpp1 hpp2)|((with_reducible apply bQ iZ (fun _ _=>rfl));rfl;(simp(disch:=(first|omega|(simp only[push_cast];first|done|omega))) only[push_cast,↓reduceIte,Nat.reduceEqDiff,Nat.reduceBEq,Nat.reduceAdd,Nat.reduceSub,Int.reduceToNat, *]<;>with_reducible exact rfl);(simp(disch:=(first|omega|(simp only[push_cast];first|done|omega))) only[push_cast,↓reduceIte,Nat.reduceEqDiff,Nat.reduceBEq,Nat.reduceAdd,Nat.reduceSub,Int.reduceToNat, *]<;>with_reducible exact rfl);(simp(disch:=(first|omega|(simp only[push_cast];first|done|omega))) only[push_cast,↓reduceIte,Nat.reduceEqDiff,Nat.reduceBEq,Nat.reduceAdd,Nat.reduceSub,Int.reduceToNat, *]<;>with_reducible exact rfl);assumption;omega;(focus(first|trivial|omega));(focus(first|rfl|(simp only[push_cast,↓reduceIte])));intro v pp hv hok hpp1 hpp2)|((with_reducible apply bQ ac7 (fun _ _=>by simp only[push_cast,↓reduceIte,Nat.reduceEqDiff,Nat.reduceBEq,Nat.reduceAdd,Nat.reduceSub,Int.reduceToNat]));(focus rfl);(focus(simp(disch:=(first|omega|(simp only[push_cast];first|done|omega))) only[push_cast,↓reduceIte,Nat.reduceEqDiff,Nat.reduceBEq,Nat.reduceAdd,Nat.reduceSub,Int.reduceToNat, *]<;>with_reducible exact rfl));(focus(simp(disch:=(first|omega|(simp only[push_cast];first|done|omega))) only[push_cast,↓reduceIte,Nat.reduceEqDiff,Nat.reduceBEq,Nat.reduceAdd,Nat.reduceSub,Int.reduceToNat, *]<;>with_reducible exact rfl));(focus(simp(disch:=(first|omega|(simp only[push_cast];first|done|omega))) only[push_cast,↓reduceIte,Nat.reduceEqDiff,Nat.reduceBEq,Nat.reduceAdd,Nat.reduceSub,Int.reduceToNat, *]<;>with_reducible exact rfl));(focus assumption);(focus omega);(focus(first|trivial|omega));(focus(first|rfl|(simp only[push_cast,↓reduceIte])));intro v pp hv hok hpp1 hpp2))
 all_goals try((with_reducible apply fO (by first|exact .inl rfl|exact .inr rfl));(focus(simp(disch:=(first|omega|(simp only[push_cast];first|done|omega))) only[push_cast,↓reduceIte,Nat.reduceEqDiff,Nat.reduceBEq,Nat.reduceAdd,Nat.reduceSub,Int.reduceToNat,aO,aL,bH,aQ,aP, *]<;>with_reducible exact rfl));(focus(simp(disch:=(first|omega|(simp only[push_cast];first|done|omega))) only[push_cast,↓reduceIte,Nat.reduceEqDiff,Nat.reduceBEq,Nat.reduceAdd,Nat.reduceSub,Int.reduceToNat,aO,aL,bH,aQ,aP, *]<;>with_reducible exact rfl)))
 all_goals try(first|omega|assumption|exact⟨by omega,by assumption⟩|exact dR (m:=12) (by omega) (by omega) (by assumption) (by assumption))
 ·refine⟨(l++[v],k-1,pp,y+1,y+2),⟨hok,(dR (m:=8) (n:=9) (by omega) (by omega) hl (by assumption)).2,?_⟩,?_,?_,?_,rfl⟩
  ·simp only[List.length_append,List.length_cons,List.length_nil];omega
  ·dsimp only;omega
  all_goals exact agr
 refine aG (α:=LS×Nat×Nat) mixed (fun s=>[(0,.own 0 2 0 0),(5,.row s.2.1 1 0 s.1.length)])
  (fun s=>[(0,rdC 65 code pp),(s.2.1,9,1,s.1.map fun s=>PV.val (.string s))]) (fun s=>s.2.2)
  (fun s=>(∀x∈s.1,x.size≤21)∧s.1.length≤13∧0<s.2.1∧s.2.1<s.2.2) (fun s=>13-s.1.length) (by kernel_rfl) (l,x,y) ⟨hl,?_⟩ ?_ ?_ rfl ?_
 ·dsimp only;omega
 ·exact agr
 ·exact agr
 rintro⟨l2,x2,y2⟩ ⟨hl2,j1,j2,j3⟩;dsimp only at hl2 j1 j2 j3;clear hl
 repeat' (first|(first|(with_reducible first|apply fM|apply bD|apply cK|apply cZ|apply fJ|apply l6|apply fq|apply fI|apply l7|apply fH|apply fE|apply lY|apply fB|apply fu|apply fK)|((with_reducible apply bg);(simp only[List.map_cons,List.map_nil]<;>exact rfl))|((with_reducible apply dh);(simp only[List.map_cons,List.map_nil]<;>exact rfl);decide+kernel)|((with_reducible apply fA);rfl)|((first|((with_reducible apply i_V);rfl;rfl;rfl)|((first|((with_reducible apply i_E);rfl)|((with_reducible apply i_S);rfl));first|rfl|(simp only[push_cast,↓reduceIte]))|((with_reducible apply lW);rfl;rfl)|((with_reducible apply lX);rfl;rfl;rfl)|(with_reducible first|apply lZ|apply dn));(simp(disch:=(first|omega|(simp only[push_cast];first|done|omega))) only[push_cast,↓reduceIte,Nat.reduceEqDiff,Nat.reduceBEq,Nat.reduceAdd,Nat.reduceSub,Int.reduceToNat, *]<;>with_reducible exact rfl);all_goals try(first|(with_reducible first|refine hyT ?_|refine hyF ?_|exact hyA|exact hyB)|(intro hX;first|(cases hX;done)|((try simp only[decide_eq_true_eq,decide_eq_false_iff_not,Bool.not_eq_true',Bool.not_eq_false']at hX);(try have hXb:=av.1 hX))))))|((with_reducible apply bQ dZ (fun _ _=>rfl));rfl;(simp(disch:=(first|omega|(simp only[push_cast];first|done|omega))) only[push_cast,↓reduceIte,Nat.reduceEqDiff,Nat.reduceBEq,Nat.reduceAdd,Nat.reduceSub,Int.reduceToNat, *]<;>with_reducible exact rfl);(simp(disch:=(first|omega|(simp only[push_cast];first|done|omega))) only[push_cast,↓reduceIte,Nat.reduceEqDiff,Nat.reduceBEq,Nat.reduceAdd,Nat.reduceSub,Int.reduceToNat, *]<;>with_reducible exact rfl);(simp(disch:=(first|omega|(simp only[push_cast];first|done|omega))) only[push_cast,↓reduceIte,Nat.reduceEqDiff,Nat.reduceBEq,Nat.reduceAdd,Nat.reduceSub,Int.reduceToNat, *]<;>with_reducible exact rfl);assumption;omega;(focus(first|trivial|omega));(focus(first|rfl|(simp only[push_cast,↓reduceIte])));intro v pp hv hok hpp1 hpp2))
 all_goals try((with_reducible apply fO (by first|exact .inl rfl|exact .inr rfl));(focus(simp(disch:=(first|omega|(simp only[push_cast];first|done|omega))) only[push_cast,↓reduceIte,Nat.reduceEqDiff,Nat.reduceBEq,Nat.reduceAdd,Nat.reduceSub,Int.reduceToNat,aO,aL,bH,aQ,aP, *]<;>with_reducible exact rfl));(focus(simp(disch:=(first|omega|(simp only[push_cast];first|done|omega))) only[push_cast,↓reduceIte,Nat.reduceEqDiff,Nat.reduceBEq,Nat.reduceAdd,Nat.reduceSub,Int.reduceToNat,aO,aL,bH,aQ,aP, *]<;>with_reducible exact rfl)))
 all_goals try(first|omega|assumption|exact⟨by omega,by assumption⟩)
 refine⟨(l2++[⟨#[111,102]⟩],y2+1,y2+2),⟨(dR (m:=12) (n:=13) (by omega) (by omega) hl2 (by decide)).2,?_⟩,?_,?_,?_,rfl⟩
 ·simp only[List.length_append,List.length_cons,List.length_nil];omega
 ·simp only[List.length_append,List.length_cons,List.length_nil];omega
 all_goals exact agr
def abO:dN:=Classical.choose wB
theorem aj3:bK Tryz.prog 38 abO:=(Classical.choose_spec wB).1
theorem kH:ads 65 abO 600000000 200 ESs (fun n=>0≤n∧n≤1000) (fun _ l=>okT 13 l):=(Classical.choose_spec wB).2
theorem oH:∃Φ:dN,bK Tryz.prog 56 Φ∧ads 65 Φ 700000000 15 auQ (fun n=>0≤n∧n≤1000) (fun _ s=>s.size≤21):=by
 refine oK mixed ala Tryz.func56 rfl 18 rfl [.tmp 4] rfl (by kernel_rfl) (by simp) _ _ _ _ _ _ fun code p n hok hp hn=>?_;have hp0:=hok.pos
 repeat' (first|(first|(with_reducible first|apply fM|apply bD|apply cK|apply cZ|apply fJ|apply l6|apply fq|apply fI|apply l7|apply fH|apply fE|apply lY|apply fB|apply fu|apply fK)|((with_reducible apply bg);(simp only[List.map_cons,List.map_nil]<;>exact rfl))|((with_reducible apply dh);(simp only[List.map_cons,List.map_nil]<;>exact rfl);decide+kernel)|((with_reducible apply fA);rfl)|((first|((with_reducible apply i_V);rfl;rfl;rfl)|((first|((with_reducible apply i_E);rfl)|((with_reducible apply i_S);rfl));first|rfl|(simp only[push_cast,↓reduceIte]))|((with_reducible apply lW);rfl;rfl)|((with_reducible apply lX);rfl;rfl;rfl)|(with_reducible first|apply lZ|apply dn));(simp(disch:=(first|omega|(simp only[push_cast];first|done|omega))) only[push_cast,↓reduceIte,Nat.reduceEqDiff,Nat.reduceBEq,Nat.reduceAdd,Nat.reduceSub,Int.reduceToNat, *]<;>with_reducible exact rfl);all_goals try(first|(with_reducible first|refine hyT ?_|refine hyF ?_|exact hyA|exact hyB)|(intro hX;first|(cases hX;done)|((try simp only[decide_eq_true_eq,decide_eq_false_iff_not,Bool.not_eq_true',Bool.not_eq_false']at hX);(try have hXb:=av.1 hX))))))|((with_reducible apply bQ dZ (fun _ _=>rfl));rfl;(simp(disch:=(first|omega|(simp only[push_cast];first|done|omega))) only[push_cast,↓reduceIte,Nat.reduceEqDiff,Nat.reduceBEq,Nat.reduceAdd,Nat.reduceSub,Int.reduceToNat, *]<;>with_reducible exact rfl);(simp(disch:=(first|omega|(simp only[push_cast];first|done|omega))) only[push_cast,↓reduceIte,Nat.reduceEqDiff,Nat.reduceBEq,Nat.reduceAdd,Nat.reduceSub,Int.reduceToNat, *]<;>with_reducible exact rfl);(simp(disch:=(first|omega|(simp only[push_cast];first|done|omega))) only[push_cast,↓reduceIte,Nat.reduceEqDiff,Nat.reduceBEq,Nat.reduceAdd,Nat.reduceSub,Int.reduceToNat, *]<;>with_reducible exact rfl);assumption;omega;(focus(first|trivial|omega));(focus(first|rfl|(simp only[push_cast,↓reduceIte])));intro v pp hv hok hpp1 hpp2)|((with_reducible apply bQ iZ (fun _ _=>rfl));rfl;(simp(disch:=(first|omega|(simp only[push_cast];first|done|omega))) only[push_cast,↓reduceIte,Nat.reduceEqDiff,Nat.reduceBEq,Nat.reduceAdd,Nat.reduceSub,Int.reduceToNat, *]<;>with_reducible exact rfl);(simp(disch:=(first|omega|(simp only[push_cast];first|done|omega))) only[push_cast,↓reduceIte,Nat.reduceEqDiff,Nat.reduceBEq,Nat.reduceAdd,Nat.reduceSub,Int.reduceToNat, *]<;>with_reducible exact rfl);(simp(disch:=(first|omega|(simp only[push_cast];first|done|omega))) only[push_cast,↓reduceIte,Nat.reduceEqDiff,Nat.reduceBEq,Nat.reduceAdd,Nat.reduceSub,Int.reduceToNat, *]<;>with_reducible exact rfl);assumption;omega;(focus(first|trivial|omega));(focus(first|rfl|(simp only[push_cast,↓reduceIte])));intro v pp hv hok hpp1 hpp2))
 all_goals try((with_reducible apply fO (by first|exact .inl rfl|exact .inr rfl));(focus(simp(disch:=(first|omega|(simp only[push_cast];first|done|omega))) only[push_cast,↓reduceIte,Nat.reduceEqDiff,Nat.reduceBEq,Nat.reduceAdd,Nat.reduceSub,Int.reduceToNat,aO,aL,bH,aQ,aP, *]<;>with_reducible exact rfl));(focus(simp(disch:=(first|omega|(simp only[push_cast];first|done|omega))) only[push_cast,↓reduceIte,Nat.reduceEqDiff,Nat.reduceBEq,Nat.reduceAdd,Nat.reduceSub,Int.reduceToNat,aO,aL,bH,aQ,aP, *]<;>with_reducible exact rfl)))
 all_goals try(first|omega|assumption|exact fG (p:=fun a:ByteArray=>a.size≤21) (by decide) (by simp only[List.length_cons,List.length_nil];omega))
def rZ:dN:=Classical.choose oH
theorem ae4:bK Tryz.prog 56 rZ:=(Classical.choose_spec oH).1
theorem qV:ads 65 rZ 700000000 15 auQ (fun n=>0≤n∧n≤1000) (fun _ s=>s.size≤21):=(Classical.choose_spec oH).2
abbrev zK (o:Nat) (l:LS):PV:=.row o 1 0 l.length
abbrev wJ (l:LS):aH:=(9,1,l.map fun s=> .val (.string s))
attribute[push_cast]
 zK List.length_append
theorem mX:∀(o nx:Nat) (a:LS),dY (ug [o] nx) fuel (zK 1 a)=some (zK nx a):=fun o nx a=>by simp only[kY,acJ,afs,Option.map_some]
theorem mF:∀(nm:Nat→Option Nat) (a:LS),(wJ a).2.2.mapM (dY nm fuel)=some (wJ a).2.2:=fun nm a=>by show(a.map fun s=>PV.val (.string s)).mapM (dY nm 8)=_;rw[zC]
def GRp:Ctx:={fn:=aY [],io:=aY [(37,sS),(39,ad7),(56,rZ)]}
theorem asZ:ak Tryz.prog GRp:=okΓ aj (fD Tryz.func37 tu (fD Tryz.func39 acF (fD Tryz.func56 ae4 aj)))
theorem mG:∃Φ:dN,bK Tryz.prog 36 Φ∧akH 65 Φ 600000000 200 zK wJ (fun n=>0≤n∧n≤1000) (fun _ l=>okT 21 l):=by
 refine ai7 mixed asZ Tryz.func36 rfl 37 rfl [.tmp 4] rfl (by kernel_rfl) (by simp) _ _ _ _ _ _ _ fun code p n hok hp hn=>?_;have hp0:=hok.pos
 repeat' (first|(first|(with_reducible first|apply fM|apply bD|apply cK|apply cZ|apply fJ|apply l6|apply fq|apply fI|apply l7|apply fH|apply fE|apply lY|apply fB|apply fu|apply fK)|((with_reducible apply bg);(simp only[List.map_cons,List.map_nil]<;>exact rfl))|((with_reducible apply dh);(simp only[List.map_cons,List.map_nil]<;>exact rfl);decide+kernel)|((with_reducible apply fA);rfl)|((first|((with_reducible apply i_V);rfl;rfl;rfl)|((first|((with_reducible apply i_E);rfl)|((with_reducible apply i_S);rfl));first|rfl|(simp only[push_cast,↓reduceIte]))|((with_reducible apply lW);rfl;rfl)|((with_reducible apply lX);rfl;rfl;rfl)|(with_reducible first|apply lZ|apply dn));(simp(disch:=(first|omega|(simp only[push_cast];first|done|omega))) only[push_cast,↓reduceIte,Nat.reduceEqDiff,Nat.reduceBEq,Nat.reduceAdd,Nat.reduceSub,Int.reduceToNat, *]<;>with_reducible exact rfl);all_goals try(first|(with_reducible first|refine hyT ?_|refine hyF ?_|exact hyA|exact hyB)|(intro hX;first|(cases hX;done)|((try simp only[decide_eq_true_eq,decide_eq_false_iff_not,Bool.not_eq_true',Bool.not_eq_false']at hX);(try have hXb:=av.1 hX))))))|((with_reducible apply bQ dZ (fun _ _=>rfl));rfl;(simp(disch:=(first|omega|(simp only[push_cast];first|done|omega))) only[push_cast,↓reduceIte,Nat.reduceEqDiff,Nat.reduceBEq,Nat.reduceAdd,Nat.reduceSub,Int.reduceToNat, *]<;>with_reducible exact rfl);(simp(disch:=(first|omega|(simp only[push_cast];first|done|omega))) only[push_cast,↓reduceIte,Nat.reduceEqDiff,Nat.reduceBEq,Nat.reduceAdd,Nat.reduceSub,Int.reduceToNat, *]<;>with_reducible exact rfl);(simp(disch:=(first|omega|(simp only[push_cast];first|done|omega))) only[push_cast,↓reduceIte,Nat.reduceEqDiff,Nat.reduceBEq,Nat.reduceAdd,Nat.reduceSub,Int.reduceToNat, *]<;>with_reducible exact rfl);assumption;omega;(focus(first|trivial|omega));(focus(first|rfl|(simp only[push_cast,↓reduceIte])));intro v pp hv hok hpp1 hpp2)|((with_reducible apply bQ iZ (fun _ _=>rfl));rfl;(simp(disch:=(first|omega|(simp only[push_cast];first|done|omega))) only[push_cast,↓reduceIte,Nat.reduceEqDiff,Nat.reduceBEq,Nat.reduceAdd,Nat.reduceSub,Int.reduceToNat, *]<;>with_reducible exact rfl);(simp(disch:=(first|omega|(simp only[push_cast];first|done|omega))) only[push_cast,↓reduceIte,Nat.reduceEqDiff,Nat.reduceBEq,Nat.reduceAdd,Nat.reduceSub,Int.reduceToNat, *]<;>with_reducible exact rfl);(simp(disch:=(first|omega|(simp only[push_cast];first|done|omega))) only[push_cast,↓reduceIte,Nat.reduceEqDiff,Nat.reduceBEq,Nat.reduceAdd,Nat.reduceSub,Int.reduceToNat, *]<;>with_reducible exact rfl);assumption;omega;(focus(first|trivial|omega));(focus(first|rfl|(simp only[push_cast,↓reduceIte])));intro v pp hv hok hpp1 hpp2)|((with_reducible apply bQ qV (fun _ _=>by simp only[push_cast,↓reduceIte,Nat.reduceEqDiff,Nat.reduceBEq,Nat.reduceAdd,Nat.reduceSub,Int.reduceToNat]));(focus rfl);(focus(simp(disch:=(first|omega|(simp only[push_cast];first|done|omega))) only[push_cast,↓reduceIte,Nat.reduceEqDiff,Nat.reduceBEq,Nat.reduceAdd,Nat.reduceSub,Int.reduceToNat, *]<;>with_reducible exact rfl));(focus(simp(disch:=(first|omega|(simp only[push_cast];first|done|omega))) only[push_cast,↓reduceIte,Nat.reduceEqDiff,Nat.reduceBEq,Nat.reduceAdd,Nat.reduceSub,Int.reduceToNat, *]<;>with_reducible exact rfl));(focus(simp(disch:=(first|omega|(simp only[push_cast];first|done|omega))) only[push_cast,↓reduceIte,Nat.reduceEqDiff,Nat.reduceBEq,Nat.reduceAdd,Nat.reduceSub,Int.reduceToNat, *]<;>with_reducible exact rfl));(focus assumption);(focus omega);(focus(first|trivial|omega));(focus(first|rfl|(simp only[push_cast,↓reduceIte])));intro v pp hv hok hpp1 hpp2))
 rename_i h0;refine aG (α:=LS×Int×Int×Nat×Nat) mixed (fun s=>[(0,.own 0 2 0 0),(1,iv n),(5,.row s.2.2.2.1 1 0 s.1.length),(6,iv s.2.1)])
  (fun s=>[(0,rdC 65 code s.2.2.1),(s.2.2.2.1,9,1,s.1.map fun s=>PV.val (.string s))]) (fun s=>s.2.2.2.2)
  (fun s=>oC code s.2.2.1∧(∀x∈s.1,x.size≤21)∧p≤s.2.2.1∧s.2.2.1+15*s.2.1≤p+110∧s.1.length+s.2.1≤8∧0≤s.2.1∧0<s.2.2.2.1∧s.2.2.2.1<s.2.2.2.2) (fun s=>s.2.1.toNat) (by kernel_rfl) ([],v,pp,1,2) ⟨hok,by simp,?_⟩ ?_ ?_ rfl ?_
 ·dsimp only[List.length_nil];omega
 ·exact agr
 ·exact agr
 rintro⟨l,k,q,x,y⟩ ⟨okq,hl,i1,i2,i3,i4,i5,i6⟩;dsimp only at okq hl i1 i2 i3 i4 i5 i6;clear hok h0
 repeat' (first|(first|(with_reducible first|apply fM|apply bD|apply cK|apply cZ|apply fJ|apply l6|apply fq|apply fI|apply l7|apply fH|apply fE|apply lY|apply fB|apply fu|apply fK)|((with_reducible apply bg);(simp only[List.map_cons,List.map_nil]<;>exact rfl))|((with_reducible apply dh);(simp only[List.map_cons,List.map_nil]<;>exact rfl);decide+kernel)|((with_reducible apply fA);rfl)|((first|((with_reducible apply i_V);rfl;rfl;rfl)|((first|((with_reducible apply i_E);rfl)|((with_reducible apply i_S);rfl));first|rfl|(simp only[push_cast,↓reduceIte]))|((with_reducible apply lW);rfl;rfl)|((with_reducible apply lX);rfl;rfl;rfl)|(with_reducible first|apply lZ|apply dn));(simp(disch:=(first|omega|(simp only[push_cast];first|done|omega))) only[push_cast,↓reduceIte,Nat.reduceEqDiff,Nat.reduceBEq,Nat.reduceAdd,Nat.reduceSub,Int.reduceToNat, *]<;>with_reducible exact rfl);all_goals try(first|(with_reducible first|refine hyT ?_|refine hyF ?_|exact hyA|exact hyB)|(intro hX;first|(cases hX;done)|((try simp only[decide_eq_true_eq,decide_eq_false_iff_not,Bool.not_eq_true',Bool.not_eq_false']at hX);(try have hXb:=av.1 hX))))))|((with_reducible apply bQ dZ (fun _ _=>rfl));rfl;(simp(disch:=(first|omega|(simp only[push_cast];first|done|omega))) only[push_cast,↓reduceIte,Nat.reduceEqDiff,Nat.reduceBEq,Nat.reduceAdd,Nat.reduceSub,Int.reduceToNat, *]<;>with_reducible exact rfl);(simp(disch:=(first|omega|(simp only[push_cast];first|done|omega))) only[push_cast,↓reduceIte,Nat.reduceEqDiff,Nat.reduceBEq,Nat.reduceAdd,Nat.reduceSub,Int.reduceToNat, *]<;>with_reducible exact rfl);(simp(disch:=(first|omega|(simp only[push_cast];first|done|omega))) only[push_cast,↓reduceIte,Nat.reduceEqDiff,Nat.reduceBEq,Nat.reduceAdd,Nat.reduceSub,Int.reduceToNat, *]<;>with_reducible exact rfl);assumption;omega;(focus(first|trivial|omega));(focus(first|rfl|(simp only[push_cast,↓reduceIte])));intro v pp hv hok hpp1 hpp2)|((with_reducible apply bQ iZ (fun _ _=>rfl));rfl;(simp(disch:=(first|omega|(simp only[push_cast];first|done|omega))) only[push_cast,↓reduceIte,Nat.reduceEqDiff,Nat.reduceBEq,Nat.reduceAdd,Nat.reduceSub,Int.reduceToNat, *]<;>with_reducible exact rfl);(simp(disch:=(first|omega|(simp only[push_cast];first|done|omega))) only[push_cast,↓reduceIte,Nat.reduceEqDiff,Nat.reduceBEq,Nat.reduceAdd,Nat.reduceSub,Int.reduceToNat, *]<;>with_reducible exact rfl);(simp(disch:=(first|omega|(simp only[push_cast];first|done|omega))) only[push_cast,↓reduceIte,Nat.reduceEqDiff,Nat.reduceBEq,Nat.reduceAdd,Nat.reduceSub,Int.reduceToNat, *]<;>with_reducible exact rfl);assumption;omega;(focus(first|trivial|omega));(focus(first|rfl|(simp only[push_cast,↓reduceIte])));intro v pp hv hok hpp1 hpp2)|((with_reducible apply bQ qV (fun _ _=>by simp only[push_cast,↓reduceIte,Nat.reduceEqDiff,Nat.reduceBEq,Nat.reduceAdd,Nat.reduceSub,Int.reduceToNat]));(focus rfl);(focus(simp(disch:=(first|omega|(simp only[push_cast];first|done|omega))) only[push_cast,↓reduceIte,Nat.reduceEqDiff,Nat.reduceBEq,Nat.reduceAdd,Nat.reduceSub,Int.reduceToNat, *]<;>with_reducible exact rfl));(focus(simp(disch:=(first|omega|(simp only[push_cast];first|done|omega))) only[push_cast,↓reduceIte,Nat.reduceEqDiff,Nat.reduceBEq,Nat.reduceAdd,Nat.reduceSub,Int.reduceToNat, *]<;>with_reducible exact rfl));(focus(simp(disch:=(first|omega|(simp only[push_cast];first|done|omega))) only[push_cast,↓reduceIte,Nat.reduceEqDiff,Nat.reduceBEq,Nat.reduceAdd,Nat.reduceSub,Int.reduceToNat, *]<;>with_reducible exact rfl));(focus assumption);(focus omega);(focus(first|trivial|omega));(focus(first|rfl|(simp only[push_cast,↓reduceIte])));intro v pp hv hok hpp1 hpp2))
 all_goals try(first|((with_reducible apply ab3 (E:=zK) (O:=wJ) (x) (by omega) (by first|exact .inl rfl|exact .inr rfl));(focus(simp(disch:=(first|omega|(simp only[push_cast];first|done|omega))) only[push_cast,↓reduceIte,Nat.reduceEqDiff,Nat.reduceBEq,Nat.reduceAdd,Nat.reduceSub,Int.reduceToNat,aO,aL,bH,aQ,aP, *]<;>with_reducible exact rfl));(focus(simp(disch:=(first|omega|(simp only[push_cast];first|done|omega))) only[push_cast,↓reduceIte,Nat.reduceEqDiff,Nat.reduceBEq,Nat.reduceAdd,Nat.reduceSub,Int.reduceToNat,aO,aL,bH,aQ,aP, *]<;>with_reducible exact rfl));(focus(simp(disch:=(first|omega|(simp only[push_cast];first|done|omega))) only[push_cast,↓reduceIte,Nat.reduceEqDiff,Nat.reduceBEq,Nat.reduceAdd,Nat.reduceSub,Int.reduceToNat,aO,aL,bH,aQ,aP, *]<;>with_reducible exact rfl)))|((with_reducible apply ab3 (E:=zK) (O:=wJ) (y+1) (by omega) (by first|exact .inl rfl|exact .inr rfl));(focus(simp(disch:=(first|omega|(simp only[push_cast];first|done|omega))) only[push_cast,↓reduceIte,Nat.reduceEqDiff,Nat.reduceBEq,Nat.reduceAdd,Nat.reduceSub,Int.reduceToNat,aO,aL,bH,aQ,aP, *]<;>with_reducible exact rfl));(focus(simp(disch:=(first|omega|(simp only[push_cast];first|done|omega))) only[push_cast,↓reduceIte,Nat.reduceEqDiff,Nat.reduceBEq,Nat.reduceAdd,Nat.reduceSub,Int.reduceToNat,aO,aL,bH,aQ,aP, *]<;>with_reducible exact rfl));(focus(simp(disch:=(first|omega|(simp only[push_cast];first|done|omega))) only[push_cast,↓reduceIte,Nat.reduceEqDiff,Nat.reduceBEq,Nat.reduceAdd,Nat.reduceSub,Int.reduceToNat,aO,aL,bH,aQ,aP, *]<;>with_reducible exact rfl))))
 all_goals try(first|omega|assumption|exact⟨by omega,by assumption⟩|exact dR (m:=20) (by omega) (by omega) (by assumption) (by assumption))
 ·refine⟨(l++[v],k-1,pp,y+1,y+2),⟨hok,(dR (m:=8) (n:=9) (by omega) (by omega) hl (by assumption)).2,?_⟩,?_,?_,?_,rfl⟩
  ·simp only[List.length_append,List.length_cons,List.length_nil];omega
  ·dsimp only;omega
  all_goals exact agr
 refine aG (α:=LS×Nat×Nat) mixed (fun s=>[(0,.own 0 2 0 0),(5,.row s.2.1 1 0 s.1.length)])
  (fun s=>[(0,rdC 65 code pp),(s.2.1,9,1,s.1.map fun s=>PV.val (.string s))]) (fun s=>s.2.2)
  (fun s=>(∀x∈s.1,x.size≤21)∧s.1.length≤21∧0<s.2.1∧s.2.1<s.2.2) (fun s=>21-s.1.length) (by kernel_rfl) (l,x,y) ⟨hl,?_⟩ ?_ ?_ rfl ?_
 ·dsimp only;omega
 ·exact agr
 ·exact agr
 rintro⟨l2,x2,y2⟩ ⟨hl2,j1,j2,j3⟩;dsimp only at hl2 j1 j2 j3;clear hl
 repeat' (first|(first|(with_reducible first|apply fM|apply bD|apply cK|apply cZ|apply fJ|apply l6|apply fq|apply fI|apply l7|apply fH|apply fE|apply lY|apply fB|apply fu|apply fK)|((with_reducible apply bg);(simp only[List.map_cons,List.map_nil]<;>exact rfl))|((with_reducible apply dh);(simp only[List.map_cons,List.map_nil]<;>exact rfl);decide+kernel)|((with_reducible apply fA);rfl)|((first|((with_reducible apply i_V);rfl;rfl;rfl)|((first|((with_reducible apply i_E);rfl)|((with_reducible apply i_S);rfl));first|rfl|(simp only[push_cast,↓reduceIte]))|((with_reducible apply lW);rfl;rfl)|((with_reducible apply lX);rfl;rfl;rfl)|(with_reducible first|apply lZ|apply dn));(simp(disch:=(first|omega|(simp only[push_cast];first|done|omega))) only[push_cast,↓reduceIte,Nat.reduceEqDiff,Nat.reduceBEq,Nat.reduceAdd,Nat.reduceSub,Int.reduceToNat, *]<;>with_reducible exact rfl);all_goals try(first|(with_reducible first|refine hyT ?_|refine hyF ?_|exact hyA|exact hyB)|(intro hX;first|(cases hX;done)|((try simp only[decide_eq_true_eq,decide_eq_false_iff_not,Bool.not_eq_true',Bool.not_eq_false']at hX);(try have hXb:=av.1 hX))))))|((with_reducible apply bQ dZ (fun _ _=>rfl));rfl;(simp(disch:=(first|omega|(simp only[push_cast];first|done|omega))) only[push_cast,↓reduceIte,Nat.reduceEqDiff,Nat.reduceBEq,Nat.reduceAdd,Nat.reduceSub,Int.reduceToNat, *]<;>with_reducible exact rfl);(simp(disch:=(first|omega|(simp only[push_cast];first|done|omega))) only[push_cast,↓reduceIte,Nat.reduceEqDiff,Nat.reduceBEq,Nat.reduceAdd,Nat.reduceSub,Int.reduceToNat, *]<;>with_reducible exact rfl);(simp(disch:=(first|omega|(simp only[push_cast];first|done|omega))) only[push_cast,↓reduceIte,Nat.reduceEqDiff,Nat.reduceBEq,Nat.reduceAdd,Nat.reduceSub,Int.reduceToNat, *]<;>with_reducible exact rfl);assumption;omega;(focus(first|trivial|omega));(focus(first|rfl|(simp only[push_cast,↓reduceIte])));intro v pp hv hok hpp1 hpp2))
 all_goals try(first|((with_reducible apply ab3 (E:=zK) (O:=wJ) (x2) (by omega) (by first|exact .inl rfl|exact .inr rfl));(focus(simp(disch:=(first|omega|(simp only[push_cast];first|done|omega))) only[push_cast,↓reduceIte,Nat.reduceEqDiff,Nat.reduceBEq,Nat.reduceAdd,Nat.reduceSub,Int.reduceToNat,aO,aL,bH,aQ,aP, *]<;>with_reducible exact rfl));(focus(simp(disch:=(first|omega|(simp only[push_cast];first|done|omega))) only[push_cast,↓reduceIte,Nat.reduceEqDiff,Nat.reduceBEq,Nat.reduceAdd,Nat.reduceSub,Int.reduceToNat,aO,aL,bH,aQ,aP, *]<;>with_reducible exact rfl));(focus(simp(disch:=(first|omega|(simp only[push_cast];first|done|omega))) only[push_cast,↓reduceIte,Nat.reduceEqDiff,Nat.reduceBEq,Nat.reduceAdd,Nat.reduceSub,Int.reduceToNat,aO,aL,bH,aQ,aP, *]<;>with_reducible exact rfl))))
 all_goals try(first|omega|assumption|exact⟨by omega,by assumption⟩)
 refine⟨(l2++[⟨#[97,49]⟩],y2+1,y2+2),⟨(dR (m:=20) (n:=21) (by omega) (by omega) hl2 (by decide)).2,?_⟩,?_,?_,?_,rfl⟩
 ·simp only[List.length_append,List.length_cons,List.length_nil];omega
 ·simp only[List.length_append,List.length_cons,List.length_nil];omega
 all_goals exact agr
def oW:dN:=Classical.choose mG
theorem aaD:bK Tryz.prog 36 oW:=(Classical.choose_spec mG).1
theorem kU:akH 65 oW 600000000 200 zK wJ (fun n=>0≤n∧n≤1000) (fun _ l=>okT 21 l):=(Classical.choose_spec mG).2
def mI:List PV→List Nat
 |[]=>[]
 | .own o _ _ _::l=>o::mI l
 | .row o _ _ _::l=>o::mI l
 |_::l=>mI l
def vK:PV→List Nat
 | .own o _ _ _=>[o]
 | .row o _ _ _=>[o]
 | .agg cs=>mI cs
 |_=>[]
def zP:List PV→List Nat
 |[]=>[]
 |p::ps=>vK p++zP ps
theorem adw:∀cs:List PV,(cs.flatMap fun c=>match c with| .own o _ _ _=>[o]| .row o _ _ _=>[o]|_=>[])=mI cs
 |[]=>rfl
 |c::cs=>by rw[List.flatMap_cons,adw cs];cases c<;>rfl
theorem acL:∀ps:List PV,ps.flatMap refsOf=zP ps
 |[]=>rfl
 |p::ps=>by
  rw[List.flatMap_cons,acL ps];show _=vK p++zP ps;congr 1;cases p with
  |agg cs=>exact adw cs
  |_=>rfl
section
variable {Φ:dN} {ob:bC} {nx:Nat}
def ajv (Φ:dN) (ob:bC) (nx a b:Nat) (qs:List PV):Option aH→Option aH→Option (PV×bC×Nat)
 |some c,some d=>(c.2.2.mapM (dY (inn [a,b]) fuel)).bind fun es=>(d.2.2.mapM (dY (inn [a,b]) fuel)).bind fun fs=>ioR [a,b] ob nx (Φ qs [(c.1,c.2.1,es),(d.1,d.2.1,fs)])
 |_,_=>none
def ioX (Φ:dN) (ob:bC) (nx:Nat) (ps:List PV):List Nat→Option (PV×bC×Nat)
 |[]=>(ps.mapM (dY (inn []) fuel)).bind fun qs=>ioR [] ob nx (Φ qs [])
 |[o]=>(ps.mapM (dY (inn [o]) fuel)).bind fun qs=>xZ Φ ob nx o qs (ob o)
 |[a,b]=>(ps.mapM (dY (inn [a,b]) fuel)).bind fun qs=>ajv Φ ob nx a b qs (ob a) (ob b)
 |_=>abb Φ ob nx ps
theorem auh (ps:List PV):abb Φ ob nx ps=ioX Φ ob nx ps (dedup (zP ps)):=by
 generalize hos:dedup (zP ps)=os;rw[←acL]at hos
 match os with
 |[]=>
  show _=(ps.mapM (dY (inn []) fuel)).bind _;cases h2:ps.mapM (dY (inn []) fuel)with
  |some qs=>rw[qN ps [] hos,h2,mapM_nil'];rfl
  |none=>rw[qN ps [] hos,h2,mapM_nil'];rfl
 |[o]=>
  show _=(ps.mapM (dY (inn [o]) fuel)).bind _;cases h2:ps.mapM (dY (inn [o]) fuel)with
  |some qs=>rw[adE hos h2];rfl
  |none=>rw[qN ps [o] hos,h2];cases [o].mapM ob<;>rfl
 |[a,b]=>
  show _=(ps.mapM (dY (inn [a,b]) fuel)).bind _;rw[qN ps [a,b] hos];simp only[mapM_cons',mapM_nil',acg];cases ps.mapM (dY (inn [a,b]) fuel)with
  |none=>cases ob a<;>cases ob b<;>rfl
  |some qs=>
   simp only[Option.bind_some];cases ob a with
   |none=>rfl
   |some c=>
    cases ob b with
    |none=>rfl
    |some d=>
     obtain⟨T,sz,es0⟩:=c;obtain⟨T2,sz2,fs0⟩:=d;simp only[Option.bind_some,Option.map_some,ajv,mapM_cons',mapM_nil',acg];cases es0.mapM (dY (inn [a,b]) fuel)with
     |none=>rfl
     |some es=>simp only[Option.bind_some,Option.map_some];cases fs0.mapM (dY (inn [a,b]) fuel)<;>rfl
 |_::_::_::_=>rfl
theorem apS {ps:List PV}:ioX Φ ob nx ps []=(ps.mapM (dY (inn []) fuel)).bind fun qs=>ioR [] ob nx (Φ qs []):=rfl
theorem ao8 {ps:List PV} {o:Nat}:ioX Φ ob nx ps [o]=(ps.mapM (dY (inn [o]) fuel)).bind fun qs=>xZ Φ ob nx o qs (ob o):=rfl
theorem apY {ps:List PV} {a b:Nat}:ioX Φ ob nx ps [a,b]=(ps.mapM (dY (inn [a,b]) fuel)).bind fun qs=>ajv Φ ob nx a b qs (ob a) (ob b):=rfl
theorem ae9 {a b T T2 sz sz2:Nat} {es es2 qs:List PV}:ajv Φ ob nx a b qs (some (T,sz,es)) (some (T2,sz2,es2))=(es.mapM (dY (inn [a,b]) fuel)).bind fun es=>(es2.mapM (dY (inn [a,b]) fuel)).bind fun fs=>ioR [a,b] ob nx (Φ qs [(T,sz,es),(T2,sz2,fs)]):=rfl
theorem av6 {a b:Nat}:inn [a,b] a=some 0:=by simp[inn]
theorem awN {a b:Nat} (h:¬a=b):inn [a,b] b=some 1:=by
 have h2:(a==b)=false:=by simpa using h
 simp[inn,List.idxOf_cons,h2]
theorem akN {a b nx:Nat}:ug [a,b] nx 0=some a:=rfl
theorem ajV {a b nx:Nat}:ug [a,b] nx 1=some b:=rfl
theorem aqI:dedup []=[]:=rfl
theorem asn {o:Nat}:dedup [o]=[o]:=rfl
theorem arf:zP []=[]:=rfl
theorem amv {p:PV} {ps:List PV}:zP (p::ps)=vK p++zP ps:=rfl
theorem aqL {v:Value}:vK (.val v)=[]:=rfl
theorem arw {k:Bool} {sz:Nat} {es:List PV}:vK (.lst k sz es)=[]:=rfl
theorem atG {k:Bool} {e:PV} {o:Nat}:vK (.ptr k e o)=[]:=rfl
theorem arE {o a b c:Nat}:vK (.own o a b c)=[o]:=rfl
theorem atm {o a b c:Nat}:vK (.row o a b c)=[o]:=rfl
theorem arb {cs:List PV}:vK (.agg cs)=mI cs:=rfl
theorem arO:mI []=[]:=rfl
theorem aqE {v:Value} {l:List PV}:mI (.val v::l)=mI l:=rfl
theorem arH {k:Bool} {sz:Nat} {es l:List PV}:mI (.lst k sz es::l)=mI l:=rfl
theorem asr {o a b c:Nat} {l:List PV}:mI (.own o a b c::l)=o::mI l:=rfl
theorem at1 {o a b c:Nat} {l:List PV}:mI (.row o a b c::l)=o::mI l:=rfl
end
attribute[push_cast low]
 auh
attribute[push_cast]
 apS ao8 apY ae9 av6 awN akN ajV aqI asn arf amv aqL arw atG arE atm arb arO aqE arH asr at1
theorem zO {l:List It} {tx:LS} {br:List Int} (h:∀k:Nat,(tx[k]?.getD ByteArray.empty).size≤20) (hl:l.length≤60) (hb:aqA l br):∀k,k≤br.length→∀s∈oG l tx br k,s.size≤2000
 |0,_=>by simp[oG]
 |k+1,hk=>fun s hs=>by
  rw[oG]at hs;rcases List.mem_append.1 hs with hs|hs
  ·exact zO h hl hb k (by omega) s hs
  ·rw[List.mem_singleton.1 hs]
   obtain⟨b1,b2,b3,-⟩:=hb.at_ (k:=k) (by omega);have:=wh (l:=l) (tx:=tx) (a:=frB br k) h ((br[k]?.getD 0).toNat-frB br k);unfold lnR;split
   ·rw[ByteArray.size_append,show(⟨#[45]⟩:ByteArray).size=1 from rfl]
    omega
   ·omega
theorem aaH (ws pats:LS) (wd most:Int):(mE ws pats wd most).length≤60∧∀s∈mE ws pats wd most,s.size≤2000:=by
 unfold mE;split
 ·rename_i h
  unfold mO at h;rw[Bool.and_eq_true]at h;obtain⟨h1,h2⟩:=h;have hV:piV ws pats=piR ws pats:=if_pos h1;rw[hV]at h2;obtain⟨hB,-,-,hm,-⟩:=gU.1 h2;have hb:=agV (wd:=wd) hB hm.2;have hl:=bG hB;rw[og];exact⟨by have:=hb.1;omega,zO abG hl hb _ (Nat.le_refl _)⟩
 ·simp
def blK (p:List LS) (q:LS) (x y:Int):Nat→LS
 |0=>[]
 |k+1=>blK p q x y k++mE (p[k]?.getD []) q x y
def bcK (p:List LS) (q:LS) (x y:Int):Nat→List Int
 |0=>[]
 |k+1=>bcK p q x y k++[((mE (p[k]?.getD []) q x y).length:Int)]
def blB (p:List LS) (q:LS) (x y z:Int):Bool:=iW p q x y z&&p.all fun w=>mO w q x y
def blL (p:List LS) (q:LS) (x y z:Int):LS:=if blB p q x y z=true then blK p q x y p.length else []
def blC (p:List LS) (q:LS) (x y z:Int):List Int:=if blB p q x y z=true then bcK p q x y p.length else []
theorem vQ (p:List LS) (q:LS) (x y:Int):∀k,(blK p q x y k).length≤60*k
 |0=>by simp[blK]
 |k+1=>by have:=vQ p q x y k;have h2:=(aaH (p[k]?.getD []) q x y).1;rw[blK,List.length_append];omega
theorem xg (p:List LS) (q:LS) (x y:Int):∀k,(bcK p q x y k).length=k
 |0=>rfl
 |k+1=>by rw[bcK,List.length_append,xg p q x y k];rfl
theorem aaq {ws pats:LS} {wd most:Int} (h:mO ws pats wd most=true):0<(mE ws pats wd most).length:=by unfold mE;rw[if_pos h,og];unfold mO at h;rw[Bool.and_eq_true]at h;obtain⟨h1,h2⟩:=h;have hV:piV ws pats=piR ws pats:=if_pos h1;rw[hV]at h2;exact ahW (gU.1 h2).2.1 (gU.1 h2).2.2.2.2
theorem aqh {ws pats:LS} {wd most:Int} (h:mO ws pats wd most=false):mE ws pats wd most=[]:=by unfold mE;rw[if_neg (by rw[h];decide)]
theorem afL {p:List LS} {q:LS} {x y:Int}:∀{k:Nat},(∀j,j<k→mO (p[j]?.getD []) q x y=true)→0<k→0<(blK p q x y k).length
 |0,_,h=>by omega
 |k+1,h,_=>by have:=aaq (h k (by omega));rw[blK,List.length_append];omega
def φBl:Fun:=F1 tq fun b=>if aeW b.1 b.2.1 then some (.tup [.lst true 1 ((blL b.1 b.2.1 b.2.2.1 b.2.2.2.1 b.2.2.2.2).map fun s=> .val (.string s)),.lst true 1 ((blC b.1 b.2.1 b.2.2.1 b.2.2.2.1 b.2.2.2.2).map fun n=> .val (.int .i64 n)),bv (blB b.1 b.2.1 b.2.2.1 b.2.2.2.1 b.2.2.2.2)])else none
theorem aoa {p:List LS} {q:LS} {x y z:Int} (h:aeW p q):φBl [.agg [.lst false 1 (p.map fun p=> .lst false 1 (p.map fun s=> .val (.string s))),.lst false 1 (q.map fun s=> .val (.string s)),.val (.int .i64 x),.val (.int .i64 y),.val (.int .i64 z)]]=some (.tup [.lst true 1 ((blL p q x y z).map fun s=> .val (.string s)),.lst true 1 ((blC p q x y z).map fun n=> .val (.int .i64 n)),.val (.bool (blB p q x y z))]):=
 (iA (A:=tq) (p,q,x,y,z)).trans (if_pos h)
def ahx:Fun:=abw arW
theorem aed:Sound Tryz.prog 28 ahx:=ak5.pure
theorem akD {ws pats:LS} {wd most:Int} (h:ow ws∧ow pats) (h0:0<(mE ws pats wd most).length):ahx [.lst false 1 (ws.map fun s=> .val (.string s)),.lst false 1 (pats.map fun s=> .val (.string s)),.val (.int .i64 wd),.val (.int .i64 most)]=some (.tup [.lst true 1 ((mE ws pats wd most).map fun s=> .val (.string s)),.val (.bool (mO ws pats wd most))]):=by
 have hp:0<((mE ws pats wd most).map fun s=>PV.val (.string s)).length:=by simpa using h0
 refine nI (r:=.tup [.row 0 1 0 (mE ws pats wd most).length,.val (.bool (mO ws pats wd most))]) (cs0:=[(9,1,(mE ws pats wd most).map fun s=> .val (.string s))]) ((aoO (A:=dSs) (B:=dSs) (C:=dI) (D:=dI) ws pats wd most).trans ((if_pos h).trans (by rw[aB hp,ald hp,List.length_map]))) ?_;rw[adz];(simp(disch:=(first|omega|(simp only[push_cast];first|done|omega))) only[push_cast,↓reduceIte,Nat.reduceEqDiff,Nat.reduceBEq,Nat.reduceAdd,Nat.reduceSub,Int.reduceToNat, *]<;>with_reducible exact rfl)
theorem ak1 {ws pats:LS} {wd most:Int} (h:ow ws∧ow pats) (h0:mO ws pats wd most=false):ahx [.lst false 1 (ws.map fun s=> .val (.string s)),.lst false 1 (pats.map fun s=> .val (.string s)),.val (.int .i64 wd),.val (.int .i64 most)]=some (.tup [.val (.slice none 0 0),.val (.bool false)]):=by refine nI (r:=.tup [.val (.slice none 0 0),.val (.bool false)]) (cs0:=[]) ((aoO (A:=dSs) (B:=dSs) (C:=dI) (D:=dI) ws pats wd most).trans ((if_pos h).trans (by rw[aqh h0,h0];rfl))) ?_;(simp(disch:=(first|omega|(simp only[push_cast];first|done|omega))) only[push_cast,↓reduceIte,Nat.reduceEqDiff,Nat.reduceBEq,Nat.reduceAdd,Nat.reduceSub,Int.reduceToNat, *]<;>with_reducible exact rfl)
abbrev lsP (p:List LS):PV:=.lst false 1 (p.map fun p=> .lst false 1 (p.map fun s=> .val (.string s)))
def awk:Ctx:={fn:=aY [(45,mZ),(46,akj)],io:=aY []}
theorem amn:ak Tryz.prog awk:=okΓ (fC Tryz.func45 qc (fC Tryz.func46 ad3 aj)) aj
def ahF:=ah (Γ:=awk) (f:=45) (φ:=mZ) rfl
def agd:=ah (Γ:=awk) (f:=46) (φ:=akj) rfl
theorem aij:Sound Tryz.prog 23 φBl:=by
 refine au mixed amn Tryz.func23 rfl 53 rfl [.tmp 2,.tmp 3,.tmp 4] rfl (by kernel_rfl) fun ps r hr=>?_;obtain⟨⟨p,q,x,y,z⟩,rfl,hpre,rfl⟩:=kQ hr;refine⟨by simp,?_⟩;simp only[dIs,dUs,dSs,dx,dA,dz,dF,aS,dD,aT,aU,aR,aV];(try dsimp only at hpre⊢);have apv:=uD (x:=x) (y:=y) (z:=z) hpre;obtain⟨hlen,hall,hoq⟩:=hpre;have api:=fun k:Nat=>akr (wd:=x) (most:=y) ⟨hall k,hoq⟩;have hp60:=fun k:Nat=>(aaH (p[k]?.getD []) q x y).1;have hbk:=vQ p q x y;have hck:=xg p q x y;unfold blL blC blB;cases hb:iW p q x y z with
 |false=>rw[hb]at apv;simp only[Bool.false_and,Bool.false_eq_true,if_false,List.map_nil];clear api hp60 hbk hck hall hoq hb;have gbls_c45:=ahF;have gbls_c46:=agd;exact wlkF
 |true=>
  rw[hb]at apv;have h6:p.length≤6:=by unfold iW at hb;simp only[Bool.and_eq_true,decide_eq_true_eq]at hb;exact hb.2.1
  simp only[Bool.true_and];clear hall hoq hb;have gbls_c45:=ahF;have gbls_c46:=agd;(refine wlk ?_;intros);refine aG (α:=Nat×Nat×Nat×Nat) mixed (fun i=>[(1,.own 0 5 0 0),(5,.row i.2.1 1 0 (blK p q x y i.1).length),(6,.row i.2.2.1 1 0 i.1),(7,iv i.1)])
   (fun i=>[(0,26,5,[.agg [lsP p,.lst false 1 (q.map fun s=> .val (.string s)),.val (.int .i64 x),.val (.int .i64 y),.val (.int .i64 z)]]),(i.2.1,9,1,(blK p q x y i.1).map fun s=> .val (.string s)),(i.2.2.1,3,1,(bcK p q x y i.1).map fun n=> .val (.int .i64 n))])
   (fun i=>i.2.2.2) (fun i=>i.1≤p.length∧(0<i.2.1∧0<i.2.2.1∧i.2.1≠i.2.2.1∧i.2.1<i.2.2.2∧i.2.2.1<i.2.2.2)∧∀j,j<i.1→mO (p[j]?.getD []) q x y=true) (fun i=>p.length-i.1) (by kernel_rfl) (0,1,2,3) ⟨Nat.zero_le _,by decide,fun j hj=>by dsimp only at hj;omega⟩ ?_ ?_ rfl ?_
  ·have h0:(blK p q x y 0).length=0:=rfl
   exact agi
  ·have h0:blK p q x y 0=[]:=rfl
   have h1:bcK p q x y 0=[]:=rfl;exact agr
  rintro⟨k,o1,o2,nx⟩ ⟨hk,⟨ho1,ho2,ho3,ho4,ho5⟩,hok⟩;dsimp only at hk ho1 ho2 ho3 ho4 ho5 hok;have ho6:¬o2=o1:=fun e=>ho3 e.symm;replace ho3:¬o1=o2:=ho3;have hok':=Lib.hid hok;clear hok;have hbl:=hbk k;have hcl:=hck k;by_cases hkl:k<p.length
  ·have ap:=api k
   have h60:=hp60 k;have hn1:blK p q x y (k+1)=blK p q x y k++mE (p[k]?.getD []) q x y:=rfl;have hn2:bcK p q x y (k+1)=bcK p q x y k++[((mE (p[k]?.getD []) q x y).length:Int)]:=rfl;have hno:mO (p[k]?.getD []) q x y=false→(p.all fun w=>mO w q x y)=false:=fun h=>jy (d:=[]) hkl h;have hys:mO (p[k]?.getD []) q x y=true→∀j,j<k+1→mO (p[j]?.getD []) q x y=true:=fun h j hj=>by
    rcases Nat.lt_or_ge j k with h1|h1
    ·exact hok'.out j h1
    ·obtain rfl:j=k:=by omega
     exact h
   replace hn1:=Lib.hid hn1;replace hn2:=Lib.hid hn2;replace hys:=Lib.hid hys;clear api hp60 hbk hck;generalize mE (p[k]?.getD []) q x y=L at*;generalize blK p q x y k=B at*;generalize bcK p q x y k=C at*;cases hB:mO (p[k]?.getD []) q x y with
   |false=>rw[hB]at ap;rw[hno hB];clear hno hys hB hn1 hn2;simp only[Bool.false_eq_true,if_false,List.map_nil];exact wlkF
   |true=>
    rw[hB]at ap;have hys2:=hys.out hB;replace hys2:=Lib.hid hys2;clear hno hys hB;(refine wlk ?_;intros);refine⟨(k+1,nx,nx+2,nx+3),⟨by dsimp only;omega,by refine⟨?_,?_,?_,?_,?_⟩<;>(dsimp only;omega),hys2.out⟩,by dsimp only;omega,?_,?_,rfl⟩
    ·dsimp only
     rw[hn1.out];exact agi
    ·dsimp only
     rw[hn1.out,hn2.out];exact agr
  ·obtain rfl:k=p.length:=by omega
   have hall2:(p.all fun w=>mO w q x y)=true:=fZ (d:=[]) fun j hj=>hok'.out j hj;rw[hall2];simp only[if_true];clear api hp60 hbk hck hall2;generalize blK p q x y p.length=B at*;generalize bcK p q x y p.length=C at*;exact wlkF
theorem anN {P:Program} {rs:List ResultVar} {tm:Nat→PV} {ob:bC} {nx:Nat} {x:X} {r:PV} {c' d':aH} (a b:Nat) (hab:¬a=b) (hx:x=.normal∨x=.ret) (h1:((fF P ⟨tm,ob,nx⟩ rs).bind fun qs=>bT [a,b] ob fuel (gH qs))=some r) (h2:j5 [a,b] ob fuel a=some c') (h3:j5 [a,b] ob fuel b=some d'):gL P rs 0 r [c',d'] x ⟨tm,ob,nx⟩:=
 ⟨hx,[a,b],by simp,by simp[hab],h1,by show [a,b].mapM (j5 [a,b] ob fuel)=some [c',d'];rw[mapM_cons',h2,Option.bind_some,mapM_cons',h3,Option.bind_some,mapM_nil'];rfl⟩
def ΨBl:ajm:=G1 tq fun b=>if aeW b.1 b.2.1 then some (if 0<(blL b.1 b.2.1 b.2.2.1 b.2.2.2.1 b.2.2.2.2).length then(.tup [.row 0 1 0 (blL b.1 b.2.1 b.2.2.1 b.2.2.2.1 b.2.2.2.2).length,.row 1 1 0 (blC b.1 b.2.1 b.2.2.1 b.2.2.2.1 b.2.2.2.2).length,bv (blB b.1 b.2.1 b.2.2.1 b.2.2.2.1 b.2.2.2.2)],[(9,1,(blL b.1 b.2.1 b.2.2.1 b.2.2.2.1 b.2.2.2.2).map fun s=> .val (.string s)),(3,1,(blC b.1 b.2.1 b.2.2.1 b.2.2.2.1 b.2.2.2.2).map fun n=> .val (.int .i64 n))])else(.tup [.val (.slice none 0 0),.val (.slice none 0 0),bv (blB b.1 b.2.1 b.2.2.1 b.2.2.2.1 b.2.2.2.2)],[]))else none
def awT:Ctx:={fn:=aY [(27,mZ),(28,ahx)],io:=aY []}
theorem ape:ak Tryz.prog awT:=okΓ (fC Tryz.func27 p8 (fC Tryz.func28 aed aj)) aj
def ah6:=ah (Γ:=awT) (f:=27) (φ:=mZ) rfl
def aix:=ah (Γ:=awT) (f:=28) (φ:=ahx) rfl
theorem aoW:tQ Tryz.prog 10 ΨBl:=by
 refine yC mixed ape Tryz.func10 rfl 45 rfl [.tmp 2,.tmp 3,.tmp 4] rfl (by kernel_rfl) fun ps r cs' hr=>?_;obtain⟨⟨p,q,x,y,z⟩,rfl,hq⟩:=amW hr;clear hr;split at hq
 case isFalse=>cases hq
 case isTrue hpre=>
 simp only[Option.some.injEq]at hq;refine⟨by simp,?_⟩;simp only[dIs,dUs,dSs,dx,dA,dz,dF,aS,dD,aT,aU,aR,aV];dsimp only at hpre hq⊢;have apv:=uD (x:=x) (y:=y) (z:=z) hpre;obtain⟨hlen,hall,hoq⟩:=hpre;have api:=fun(k:Nat) h=>akD (wd:=x) (most:=y) ⟨hall k,hoq⟩ h;have apn:=fun(k:Nat) h=>ak1 (wd:=x) (most:=y) ⟨hall k,hoq⟩ h;have hp60:=fun k:Nat=>(aaH (p[k]?.getD []) q x y).1;have hbk:=vQ p q x y;have hck:=xg p q x y;unfold blL blC blB at hq;cases hb:iW p q x y z with
 |false=>rw[hb]at apv hq;simp only[Bool.false_and,Bool.false_eq_true,if_false,List.length_nil,Nat.lt_irrefl,Prod.mk.injEq]at hq;obtain⟨rfl,rfl⟩:=hq;clear api apn hp60 hbk hck hall hoq hb;have gbli_c27:=ah6;have gbli_c28:=aix;(refine wlk ?_;intros);all_goals((with_reducible apply pJ (by first|exact .inl rfl|exact .inr rfl));(simp(disch:=(first|omega|(simp only[push_cast];first|done|omega))) only[push_cast,↓reduceIte,Nat.reduceEqDiff,Nat.reduceBEq,Nat.reduceAdd,Nat.reduceSub,Int.reduceToNat, *]<;>with_reducible exact rfl))
 |true=>
  rw[hb]at apv hq;have h6:p.length≤6:=by unfold iW at hb;simp only[Bool.and_eq_true,decide_eq_true_eq]at hb;exact hb.2.1
  simp only[Bool.true_and]at hq;replace hq:=Lib.hid hq;clear hall hoq hb;have gbli_c27:=ah6;have gbli_c28:=aix;(refine wlk ?_;intros);refine aG (α:=Nat×Nat×Nat×Nat) mixed (fun i=>[(1,.own 0 5 0 0),(5,nP 1 ((blK p q x y i.1).map fun s=> .val (.string s)) i.2.1),(6,nP 1 ((bcK p q x y i.1).map fun n=> .val (.int .i64 n)) i.2.2.1),(15,lsP p),(16,iv p.length),(17,iv i.1)])
   (fun i=>[(0,26,5,[.agg [lsP p,.lst false 1 (q.map fun s=> .val (.string s)),.val (.int .i64 x),.val (.int .i64 y),.val (.int .i64 z)]])]++(nO 9 1 ((blK p q x y i.1).map fun s=> .val (.string s)) i.2.1++nO 3 1 ((bcK p q x y i.1).map fun n=> .val (.int .i64 n)) i.2.2.1))
   (fun i=>i.2.2.2) (fun i=>i.1≤p.length∧0<i.2.2.2∧(0<i.1→0<i.2.1∧0<i.2.2.1∧i.2.1≠i.2.2.1∧i.2.1<i.2.2.2∧i.2.2.1<i.2.2.2)∧∀j,j<i.1→mO (p[j]?.getD []) q x y=true) (fun i=>p.length-i.1) (by kernel_rfl) (0,0,0,1) ⟨Nat.zero_le _,by decide,fun h=>absurd h (Nat.lt_irrefl 0),fun j hj=>by dsimp only at hj;omega⟩ ?_ ?_ rfl ?_
  ·dsimp only
   rw[show blK p q x y 0=[]from rfl,show bcK p q x y 0=[]from rfl,List.map_nil,List.map_nil,eZ];exact agi
  ·dsimp only
   rw[show blK p q x y 0=[]from rfl,show bcK p q x y 0=[]from rfl,List.map_nil,List.map_nil,eF,eF];simp(disch:=(first|omega|(simp only[push_cast];first|done|omega))) only[push_cast,↓reduceIte,Nat.reduceEqDiff,Nat.reduceBEq,Nat.reduceAdd,Nat.reduceSub,Int.reduceToNat,List.cons_append,List.nil_append,List.append_nil, *]
  rintro⟨k,o1,o2,nx⟩ ⟨hk,hnx,hoo,hok⟩;dsimp only at hk hnx hoo hok⊢;have hok':=Lib.hid hok;have hbp:=fun h=>afL (k:=k) hok h;clear hok;have hbl:=hbk k;have hcl:=hck k;by_cases hkl:k<p.length
  ·have ap:=api k
   have apk:=apn k;have h60:=hp60 k;have hn1:blK p q x y (k+1)=blK p q x y k++mE (p[k]?.getD []) q x y:=rfl;have hn2:bcK p q x y (k+1)=bcK p q x y k++[((mE (p[k]?.getD []) q x y).length:Int)]:=rfl;have hno:mO (p[k]?.getD []) q x y=false→(p.all fun w=>mO w q x y)=false:=fun h=>jy (d:=[]) hkl h;have hps:=fun h=>aaq (ws:=p[k]?.getD []) (pats:=q) (wd:=x) (most:=y) h;have hys:mO (p[k]?.getD []) q x y=true→∀j,j<k+1→mO (p[j]?.getD []) q x y=true:=fun h j hj=>by
    rcases Nat.lt_or_ge j k with h1|h1
    ·exact hok'.out j h1
    ·obtain rfl:j=k:=by omega
     exact h
   replace hn1:=Lib.hid hn1;replace hn2:=Lib.hid hn2;replace hys:=Lib.hid hys;clear api apn hp60 hbk hck;generalize mE (p[k]?.getD []) q x y=L at*;cases hB:mO (p[k]?.getD []) q x y with
   |false=>
    have ap2:=apk hB;have hq2:=hq.out;rw[hno hB]at hq2;simp only[Bool.false_eq_true,if_false,List.length_nil,Nat.lt_irrefl,Prod.mk.injEq]at hq2;obtain⟨rfl,rfl⟩:=hq2;clear ap apk hno hys hB hn1 hn2 hps hq;by_cases hk0:k=0
    ·subst hk0
     rw[show blK p q x y 0=[]from rfl,show bcK p q x y 0=[]from rfl,List.map_nil,List.map_nil,eZ,eF,eF];simp only[List.append_nil];(refine wlk ?_;intros);all_goals((with_reducible apply pJ (by first|exact .inl rfl|exact .inr rfl));(simp(disch:=(first|omega|(simp only[push_cast];first|done|omega))) only[push_cast,↓reduceIte,Nat.reduceEqDiff,Nat.reduceBEq,Nat.reduceAdd,Nat.reduceSub,Int.reduceToNat, *]<;>with_reducible exact rfl))
    ·obtain⟨ho1,ho2,ho3,ho4,ho5⟩:=hoo (by omega)
     have hb1:=hbp (by omega);have hb2:0<((blK p q x y k).map fun s=>PV.val (.string s)).length:=by rw[List.length_map];exact hb1
     have hb3:0<((bcK p q x y k).map fun n=>PV.val (.int .i64 n)).length:=by rw[List.length_map];omega
     rw[aB hb2,aB hb3,aF hb2,aF hb3];generalize blK p q x y k=B at*;generalize bcK p q x y k=C at*;simp only[List.cons_append,List.nil_append,List.length_map,hcl];(refine wlk ?_;intros);all_goals((with_reducible apply pJ (by first|exact .inl rfl|exact .inr rfl));(simp(disch:=(first|omega|(simp only[push_cast];first|done|omega))) only[push_cast,↓reduceIte,Nat.reduceEqDiff,Nat.reduceBEq,Nat.reduceAdd,Nat.reduceSub,Int.reduceToNat, *]<;>with_reducible exact rfl))
   |true=>
    have hL0:=hps hB;have ap2:=ap hL0;rw[hB]at ap2;have hys2:=hys.out hB;replace hys2:=Lib.hid hys2;clear ap apk hno hys hB hps;by_cases hk0:k=0
    ·subst hk0
     rw[show blK p q x y 0=[]from rfl,show bcK p q x y 0=[]from rfl,List.map_nil,List.map_nil,eZ,eF,eF];rw[show blK p q x y 0=[]from rfl,List.nil_append]at hn1;rw[show bcK p q x y 0=[]from rfl,List.nil_append]at hn2;have hLp:0<(L.map fun s=>PV.val (.string s)).length:=by rw[List.length_map];exact hL0
     simp only[List.append_nil];clear hbl hcl hbp;(refine wlk ?_;intros);refine⟨(0+1,nx,nx+2,nx+3),⟨by dsimp only;omega,by dsimp only;omega,fun _=>by refine⟨?_,?_,?_,?_,?_⟩<;>(dsimp only;omega),hys2.out⟩,by dsimp only;omega,?_,?_,rfl⟩
     ·dsimp only
      rw[hn1.out,hn2.out,aB hLp,aB (show 0<([((L.length:Nat):Int)].map fun n=>PV.val (.int .i64 n)).length from Nat.zero_lt_one)];exact agi
     ·dsimp only
      rw[hn1.out,hn2.out,aF hLp,aF (show 0<([((L.length:Nat):Int)].map fun n=>PV.val (.int .i64 n)).length from Nat.zero_lt_one)];simp(disch:=(first|omega|(simp only[push_cast];first|done|omega))) only[push_cast,↓reduceIte,Nat.reduceEqDiff,Nat.reduceBEq,Nat.reduceAdd,Nat.reduceSub,Int.reduceToNat,List.cons_append,List.nil_append,List.append_nil, *]
    ·obtain⟨ho1,ho2,ho3,ho4,ho5⟩:=hoo (by omega)
     have ho6:¬o2=o1:=fun e=>ho3 e.symm;replace ho3:¬o1=o2:=ho3;have hb1:=hbp (by omega);have hb2:0<((blK p q x y k).map fun s=>PV.val (.string s)).length:=by rw[List.length_map];exact hb1
     have hb3:0<((bcK p q x y k).map fun n=>PV.val (.int .i64 n)).length:=by rw[List.length_map];omega
     have hb4:0<((blK p q x y k++L).map fun s=>PV.val (.string s)).length:=by rw[List.length_map,List.length_append];omega
     rw[aB hb2,aB hb3,aF hb2,aF hb3];generalize blK p q x y k=B at*;generalize bcK p q x y k=C at*;simp only[List.cons_append,List.nil_append,List.length_map,hcl];clear hb2 hb3;(refine wlk ?_;intros);refine⟨(k+1,nx,nx+2,nx+3),⟨by dsimp only;omega,by dsimp only;omega,fun _=>by refine⟨?_,?_,?_,?_,?_⟩<;>(dsimp only;omega),hys2.out⟩,by dsimp only;omega,?_,?_,rfl⟩
     ·dsimp only
      rw[hn1.out,hn2.out,aB hb4,aB (show 0<((C++[((L.length:Nat):Int)]).map fun n=>PV.val (.int .i64 n)).length by simp)];exact agi
     ·dsimp only
      rw[hn1.out,hn2.out,aF hb4,aF (show 0<((C++[((L.length:Nat):Int)]).map fun n=>PV.val (.int .i64 n)).length by simp)];simp(disch:=(first|omega|(simp only[push_cast];first|done|omega))) only[push_cast,↓reduceIte,Nat.reduceEqDiff,Nat.reduceBEq,Nat.reduceAdd,Nat.reduceSub,Int.reduceToNat,List.cons_append,List.nil_append,List.append_nil, *]
  ·obtain rfl:k=p.length:=by omega
   have hall2:(p.all fun w=>mO w q x y)=true:=fZ (d:=[]) fun j hj=>hok'.out j hj;have hq2:=hq.out;rw[hall2]at hq2;simp only[if_true]at hq2;clear api apn hp60 hbk hck hall2 hq;by_cases hk0:p.length=0
   ·obtain rfl:=List.eq_nil_of_length_eq_zero hk0
    change(if 0<([]:LS).length then _ else _)=_ at hq2;show pq _ _ _ _ _ (lk [(1,.own 0 5 0 0),(5,nP 1 [] o1),(6,nP 1 [] o2),(15,lsP []),(16,iv ([]:List LS).length),(17,iv ([]:List LS).length)]) (lo ([(0,26,5,[.agg [lsP [],.lst false 1 (q.map fun s=> .val (.string s)),.val (.int .i64 x),.val (.int .i64 y),.val (.int .i64 z)]])]++(nO 9 1 [] o1++nO 3 1 [] o2))) _;rw[eZ,eZ,eF,eF];simp only[List.length_nil,Nat.lt_irrefl,if_false,Prod.mk.injEq]at hq2;obtain⟨rfl,rfl⟩:=hq2;simp only[List.append_nil];(refine wlk ?_;intros);all_goals((with_reducible apply pJ (by first|exact .inl rfl|exact .inr rfl));(simp(disch:=(first|omega|(simp only[push_cast];first|done|omega))) only[push_cast,↓reduceIte,Nat.reduceEqDiff,Nat.reduceBEq,Nat.reduceAdd,Nat.reduceSub,Int.reduceToNat, *]<;>with_reducible exact rfl))
   ·obtain⟨ho1,ho2,ho3,ho4,ho5⟩:=hoo (by omega)
    have ho6:¬o2=o1:=fun e=>ho3 e.symm;replace ho3:¬o1=o2:=ho3;have hb1:=hbp (by omega);have hb2:0<((blK p q x y p.length).map fun s=>PV.val (.string s)).length:=by rw[List.length_map];exact hb1
    have hb3:0<((bcK p q x y p.length).map fun n=>PV.val (.int .i64 n)).length:=by rw[List.length_map];omega
    rw[aB hb2,aB hb3,aF hb2,aF hb3];rw[if_pos hb1]at hq2;simp only[Prod.mk.injEq]at hq2;obtain⟨rfl,rfl⟩:=hq2;generalize blK p q x y p.length=B at*;generalize bcK p q x y p.length=C at*;simp only[List.cons_append,List.nil_append,List.length_map,hcl];(refine wlk ?_;intros);all_goals((with_reducible apply anN o1 o2 ho3 (by first|exact .inl rfl|exact .inr rfl));(focus(simp(disch:=(first|omega|(simp only[push_cast];first|done|omega))) only[push_cast,↓reduceIte,Nat.reduceEqDiff,Nat.reduceBEq,Nat.reduceAdd,Nat.reduceSub,Int.reduceToNat, *]<;>with_reducible exact rfl));(focus(simp(disch:=(first|omega|(simp only[push_cast];first|done|omega))) only[push_cast,↓reduceIte,Nat.reduceEqDiff,Nat.reduceBEq,Nat.reduceAdd,Nat.reduceSub,Int.reduceToNat, *]<;>with_reducible exact rfl));(focus(simp(disch:=(first|omega|(simp only[push_cast];first|done|omega))) only[push_cast,↓reduceIte,Nat.reduceEqDiff,Nat.reduceBEq,Nat.reduceAdd,Nat.reduceSub,Int.reduceToNat, *]<;>with_reducible exact rfl)))
end
end Go.Proofs.YtmmafcjjlbgnkaaGreat
