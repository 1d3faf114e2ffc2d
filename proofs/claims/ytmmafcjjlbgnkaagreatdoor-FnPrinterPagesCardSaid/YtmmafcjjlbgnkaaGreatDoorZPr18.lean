/- What the proof rests on, part 18: contracts of functions. No condition beyond what each states. -/
import Derived.Test.YtmmafcjjlbgnkaaGreatDoorZPr17
namespace Go.Proofs.YtmmafcjjlbgnkaaGreatDoor
open Go.RowKit
set_option linter.all false
set_option maxHeartbeats 32000000
noncomputable section
structure BpF (BL:LS) (z:Int) (V:List LS) (E C:List Nat):Prop where
 len:V.length=E.length
 e30:E.length≤30
 row:∀k,k<E.length→1≤(V[k]?.getD []).length∧((V[k]?.getD []).length:Int)≤z
 sum:∀k,k<E.length→((V.take (k+1)).flatten).length=E[k]?.getD 0
 flat:V.flatten=BL
 b30:BL.length≤30
 ee:∀k,k<E.length→E[k]?.getD 0≤30
 cs:∀j,(C.take j).sum≤30
 brk:∀k j,k+1<E.length→j<C.length→1<C[j]?.getD 0→¬E[k]?.getD 0=(C.take j).sum+1∧¬E[k]?.getD 0+1=(C.take j).sum+C[j]?.getD 0
theorem alC {p:List LS} {q:LS} {x y z:Int} (hb:bpB p q x y z=true):blB p q x y z=true∧blC p q x y z=zN (qj p q x y)∧BpF (blL p q x y z) z (bpV p q x y z) (jD (jC p q x y) z.toNat) (qj p q x y):=by
 have hV:bpV p q x y z=jV (blL p q x y z) 0 (jD (jC p q x y) z.toNat):=if_pos hb;unfold bpB at hb;rw[Bool.and_eq_true,Bool.and_eq_true]at hb;obtain⟨hB,h30,hG⟩:=hb;have h30:=of_decide_eq_true h30;obtain⟨k1,k2,k3,k4,k5⟩:=aei hB h30;have hc:=vX hG;have hl:=rU hc;rw[hV];refine⟨hB,k2,nI,by omega,fun k hk=>?_,fun k hk=>?_,?_,h30,fun k hk=>?_,fun j=>?_,fun k j hk hj h1=>?_⟩
 ·have hk2:k<(jV (blL p q x y z) 0 (jD (jC p q x y) z.toNat)).length:=by rw[nI];exact hk
  have hm:=ajv k3.symm hc _ (List.getElem_mem hk2);rw[List.getElem?_eq_getElem hk2,Option.getD_some];exact⟨hm.1,by have:=hm.2;omega⟩
 ·have:=agb k3.symm hc k hk
  omega
 ·exact(acR k3.symm hc).trans (List.drop_zero ..)
 ·have:=(aa9 hc hk).2
  omega
 ·have:=uy (qj p q x y) j
  have:=k1.2;omega
 ·obtain⟨p',hm⟩:=anH hc k (by omega)
  exact alr hm (aje hc k hk) hj h1
def ayl:Ctx:={fn:=aY [],io:=aY [(24,wC),(23,adx)]}
theorem ao1:ak Tryz.prog ayl:=okΓ aj (fD Tryz.func24 aro (fD Tryz.func23 anU aj))
theorem aqw:ayl.io 24=some wC:=rfl
theorem arx:ayl.io 23=some adx:=rfl
theorem sj:∃φ:Fun,Sound Tryz.prog 6 φ∧axT φ EBk akW:=by
 refine aqP mixed ao1 Tryz.func6 rfl 6 rfl [.cell 2 26] rfl (by kernel_rfl) (by simp) _ _ fun code hbyte hlen=>?_;have hok:=ajy hbyte;have apo:=@aha;have gdbp_c24:=aqw;have gdbp_c23:=arx
 repeat' (first|(first|(with_reducible first|apply fM|apply bF|apply cO|apply dn|apply fG|apply mJ|apply fK|apply fP|apply mH|apply fB|apply fE|apply mI|apply fO|apply fH|apply fJ)|((with_reducible apply bg);(simp only[List.map_cons,List.map_nil]<;>exact rfl))|((with_reducible apply dh);(simp only[List.map_cons,List.map_nil]<;>exact rfl);decide+kernel)|((with_reducible apply fI);rfl)|((first|((with_reducible apply i_V);rfl;rfl;rfl)|((first|((with_reducible apply i_E);rfl)|((with_reducible apply i_S);rfl));first|rfl|(simp only[push_cast,↓reduceIte]))|((with_reducible apply mM);rfl;rfl)|((with_reducible apply mE);rfl;rfl;rfl)|(with_reducible first|apply mG|apply cZ));(simp(disch:=(first|omega|(simp only[push_cast];first|done|omega))) only[push_cast,↓reduceIte,Nat.reduceEqDiff,Nat.reduceBEq,Nat.reduceAdd,Nat.reduceSub,Int.reduceToNat, *]<;>with_reducible exact rfl);all_goals try(first|(with_reducible first|refine hyT ?_|refine hyF ?_|exact hyA|exact hyB)|(intro hX;first|(cases hX;done)|((try simp only[decide_eq_true_eq,decide_eq_false_iff_not,Bool.not_eq_true',Bool.not_eq_false']at hX);(try have hXb:=av.1 hX))))))|((with_reducible apply bT yg (fun _ _=>by simp only[push_cast,↓reduceIte,Nat.reduceEqDiff,Nat.reduceBEq,Nat.reduceAdd,Nat.reduceSub,Int.reduceToNat]));(focus rfl);(focus(simp(disch:=(first|omega|(simp only[push_cast];first|done|omega))) only[push_cast,↓reduceIte,Nat.reduceEqDiff,Nat.reduceBEq,Nat.reduceAdd,Nat.reduceSub,Int.reduceToNat, *]<;>with_reducible exact rfl));(focus(simp(disch:=(first|omega|(simp only[push_cast];first|done|omega))) only[push_cast,↓reduceIte,Nat.reduceEqDiff,Nat.reduceBEq,Nat.reduceAdd,Nat.reduceSub,Int.reduceToNat, *]<;>with_reducible exact rfl));(focus(simp(disch:=(first|omega|(simp only[push_cast];first|done|omega))) only[push_cast,↓reduceIte,Nat.reduceEqDiff,Nat.reduceBEq,Nat.reduceAdd,Nat.reduceSub,Int.reduceToNat, *]<;>with_reducible exact rfl));(focus assumption);(focus omega);(focus(first|trivial|omega));(focus(first|rfl|(simp only[push_cast,↓reduceIte])));intro v pp hv hok hpp1 hpp2))
 obtain⟨L,ps,wd,mo,li⟩:=v;by_cases h0:L.length=0
 ·obtain rfl:L=[]:=List.eq_nil_of_length_eq_zero h0
  clear h0
  repeat' (first|(first|(with_reducible first|apply fM|apply bF|apply cO|apply dn|apply fG|apply mJ|apply fK|apply fP|apply mH|apply fB|apply fE|apply mI|apply fO|apply fH|apply fJ)|((with_reducible apply bg);(simp only[List.map_cons,List.map_nil]<;>exact rfl))|((with_reducible apply dh);(simp only[List.map_cons,List.map_nil]<;>exact rfl);decide+kernel)|((with_reducible apply fI);rfl)|((first|((with_reducible apply i_V);rfl;rfl;rfl)|((first|((with_reducible apply i_E);rfl)|((with_reducible apply i_S);rfl));first|rfl|(simp only[push_cast,↓reduceIte]))|((with_reducible apply mM);rfl;rfl)|((with_reducible apply mE);rfl;rfl;rfl)|(with_reducible first|apply mG|apply cZ));(simp(disch:=(first|omega|(simp only[push_cast];first|done|omega))) only[push_cast,↓reduceIte,Nat.reduceEqDiff,Nat.reduceBEq,Nat.reduceAdd,Nat.reduceSub,Int.reduceToNat, *]<;>with_reducible exact rfl);all_goals try(first|(with_reducible first|refine hyT ?_|refine hyF ?_|exact hyA|exact hyB)|(intro hX;first|(cases hX;done)|((try simp only[decide_eq_true_eq,decide_eq_false_iff_not,Bool.not_eq_true',Bool.not_eq_false']at hX);(try have hXb:=av.1 hX))))))|((with_reducible apply bT yg (fun _ _=>by simp only[push_cast,↓reduceIte,Nat.reduceEqDiff,Nat.reduceBEq,Nat.reduceAdd,Nat.reduceSub,Int.reduceToNat]));(focus rfl);(focus(simp(disch:=(first|omega|(simp only[push_cast];first|done|omega))) only[push_cast,↓reduceIte,Nat.reduceEqDiff,Nat.reduceBEq,Nat.reduceAdd,Nat.reduceSub,Int.reduceToNat, *]<;>with_reducible exact rfl));(focus(simp(disch:=(first|omega|(simp only[push_cast];first|done|omega))) only[push_cast,↓reduceIte,Nat.reduceEqDiff,Nat.reduceBEq,Nat.reduceAdd,Nat.reduceSub,Int.reduceToNat, *]<;>with_reducible exact rfl));(focus(simp(disch:=(first|omega|(simp only[push_cast];first|done|omega))) only[push_cast,↓reduceIte,Nat.reduceEqDiff,Nat.reduceBEq,Nat.reduceAdd,Nat.reduceSub,Int.reduceToNat, *]<;>with_reducible exact rfl));(focus assumption);(focus omega);(focus(first|trivial|omega));(focus(first|rfl|(simp only[push_cast,↓reduceIte])));intro v pp hv hok hpp1 hpp2))
  (with_reducible apply amD (a:=(([]:List LS),_,_,_,_)) (by first|exact .inl rfl|exact .inr rfl));(focus(simp(disch:=(first|omega|(simp only[push_cast];first|done|omega))) only[push_cast,↓reduceIte,Nat.reduceEqDiff,Nat.reduceBEq,Nat.reduceAdd,Nat.reduceSub,Int.reduceToNat,aQ,aP,bI,aO,aL, *]<;>with_reducible exact rfl));exact hv
 ·repeat' (first|(first|(with_reducible first|apply fM|apply bF|apply cO|apply dn|apply fG|apply mJ|apply fK|apply fP|apply mH|apply fB|apply fE|apply mI|apply fO|apply fH|apply fJ)|((with_reducible apply bg);(simp only[List.map_cons,List.map_nil]<;>exact rfl))|((with_reducible apply dh);(simp only[List.map_cons,List.map_nil]<;>exact rfl);decide+kernel)|((with_reducible apply fI);rfl)|((first|((with_reducible apply i_V);rfl;rfl;rfl)|((first|((with_reducible apply i_E);rfl)|((with_reducible apply i_S);rfl));first|rfl|(simp only[push_cast,↓reduceIte]))|((with_reducible apply mM);rfl;rfl)|((with_reducible apply mE);rfl;rfl;rfl)|(with_reducible first|apply mG|apply cZ));(simp(disch:=(first|omega|(simp only[push_cast];first|done|omega))) only[push_cast,↓reduceIte,Nat.reduceEqDiff,Nat.reduceBEq,Nat.reduceAdd,Nat.reduceSub,Int.reduceToNat, *]<;>with_reducible exact rfl);all_goals try(first|(with_reducible first|refine hyT ?_|refine hyF ?_|exact hyA|exact hyB)|(intro hX;first|(cases hX;done)|((try simp only[decide_eq_true_eq,decide_eq_false_iff_not,Bool.not_eq_true',Bool.not_eq_false']at hX);(try have hXb:=av.1 hX))))))|((with_reducible apply bT yg (fun _ _=>by simp only[push_cast,↓reduceIte,Nat.reduceEqDiff,Nat.reduceBEq,Nat.reduceAdd,Nat.reduceSub,Int.reduceToNat]));(focus rfl);(focus(simp(disch:=(first|omega|(simp only[push_cast];first|done|omega))) only[push_cast,↓reduceIte,Nat.reduceEqDiff,Nat.reduceBEq,Nat.reduceAdd,Nat.reduceSub,Int.reduceToNat, *]<;>with_reducible exact rfl));(focus(simp(disch:=(first|omega|(simp only[push_cast];first|done|omega))) only[push_cast,↓reduceIte,Nat.reduceEqDiff,Nat.reduceBEq,Nat.reduceAdd,Nat.reduceSub,Int.reduceToNat, *]<;>with_reducible exact rfl));(focus(simp(disch:=(first|omega|(simp only[push_cast];first|done|omega))) only[push_cast,↓reduceIte,Nat.reduceEqDiff,Nat.reduceBEq,Nat.reduceAdd,Nat.reduceSub,Int.reduceToNat, *]<;>with_reducible exact rfl));(focus assumption);(focus omega);(focus(first|trivial|omega));(focus(first|rfl|(simp only[push_cast,↓reduceIte])));intro v pp hv hok hpp1 hpp2))
  (with_reducible apply amD (a:=(L,_,_,_,_)) (by first|exact .inl rfl|exact .inr rfl));(focus(simp(disch:=(first|omega|(simp only[push_cast];first|done|omega))) only[push_cast,↓reduceIte,Nat.reduceEqDiff,Nat.reduceBEq,Nat.reduceAdd,Nat.reduceSub,Int.reduceToNat,aQ,aP,bI,aO,aL, *]<;>with_reducible exact rfl));exact hv
def ru:Fun:=Classical.choose sj
theorem agn:Sound Tryz.prog 6 ru:=(Classical.choose_spec sj).1
theorem aeZ:axT ru EBk akW:=(Classical.choose_spec sj).2
def gN (c:UInt8) (s:ByteArray):List ByteArray:=Lib.splitB ⟨#[c]⟩ 0 (Lib.countB s ⟨#[c]⟩) s
theorem rE (c:UInt8):(1:Nat)≤(⟨#[c]⟩:ByteArray).size:=by simp[ByteArray.size]
theorem sQ (c:UInt8) (s:ByteArray):(gN c s).length=Lib.countB s ⟨#[c]⟩+1:=Lib.splitB_all _ (rE c) 0 _ s rfl
theorem afF (c:UInt8) (s:ByteArray):(gN c s).length≤s.size+1:=by rw[sQ];have:=Lib.countB_le ⟨#[c]⟩ (rE c) s.size s (Nat.le_refl _);omega
theorem agj (c:UInt8) (s:ByteArray) (w:World) (hs:s.size<4294967281):Calls Tryz.prog 37 #[.string s,.string ⟨#[c]⟩] w fun e w'=>
 e=.returned (.slice (some ⟨w.heap.size,0,none⟩) (gN c s).length (gN c s).length)∧w'=w.alloc (.cells ((gN c s).map Value.string).toArray 9):=by
 have hle:=Lib.countB_le ⟨#[c]⟩ (rE c) s.size s (Nat.le_refl _);have hpl:=sQ c s;have hI:∀(x:ByteArray) (cs:Array Value),x.size≤s.size→Calls Tryz.prog 103 #[.string x,.string ⟨#[c]⟩] (w.alloc (.cells cs 9)) fun e w'=>e=.returned (.int .i64 (Lib.indexB x ⟨#[c]⟩))∧w'=w.alloc (.cells cs 9):=fun x cs _=>(YtmmafcjjlbgnkaaGreatDoor.strings_Index_one x c _).mono fun e w' ⟨he,hw⟩=>⟨by rw[he];exact congrArg (fun z=>Ending.returned (Value.int .i64 z)) (Lib.index_one x.data.toList c).symm,hw⟩
 have hC:Calls Tryz.prog 102 #[.string s,.string ⟨#[c]⟩] w fun e w'=>e=.returned (.int .i64 (Lib.countB s ⟨#[c]⟩))∧w'=w:=
  (YtmmafcjjlbgnkaaGreatDoor.strings_Count_one s c w).mono fun e w' ⟨he,hw⟩=>⟨by rw[he];exact congrArg (fun z:Nat=>Ending.returned (Value.int .i64 z)) (Lib.count_one c s.data.toList).symm,hw⟩
 have hg:=Any.strings_genSplit_core YtmmafcjjlbgnkaaGreatDoor.ap9 (by kernel_rfl) s ⟨#[c]⟩ 0 (-1) (Lib.countB s ⟨#[c]⟩+1) w hs (rE c) (Nat.zero_le _) hI hC (by decide) (by decide) (by rw[if_pos (by decide)];omega);have e1:Lib.splitB ⟨#[c]⟩ 0 (Lib.countB s ⟨#[c]⟩+1-1) s=gN c s:=rfl;have e2:Lib.cellsOf (gN c s) (Lib.countB s ⟨#[c]⟩+1)=((gN c s).map Value.string).toArray:=by rw[←hpl];exact Lib.cellsOf_full _
 rw[e1,e2,←hpl]at hg;clear hI hC hle hpl e1 e2;generalize gN c s=ps at*
 go_enter Tryz.func37,Tryz.ntmps37
 go_wp2_with (go_at_call 73;refine hg.mono ?_;rintro e w' ⟨rfl,hw⟩;rw[hw])
 go_ret
 exact⟨rfl,rfl⟩
theorem acw (w:World) (k:Nat) (os:Array Obj):Below w.heap.size w (Sort.grow (w.drewN k) os):=
 ⟨rfl,rfl,rfl,by simp[Sort.grow,World.drewN],fun b hb=>by simp[Sort.grow,World.drewN,Array.getElem?_append_left hb]⟩
def kP (n:Int):ByteArray:=⟨(Lib.itoa n).toArray⟩
theorem ak3 {w:World} {io:Nat→Prop} (hT:qF w io):Lib.TabIs Tryz.prog w "internal/strconv.uint64pow10" .u64 Lib.pow10Tab:=by obtain⟨T,k,h⟩:=hT.at_ _ (List.mem_cons_self ..);unfold Lib.TabIs World.var?;rw[show Tryz.prog.globalNamed "internal/strconv.uint64pow10" =some _ by kernel_rfl,Option.bind_some,h]
def vP:Fun:=F1 dI fun n=>if okI n then some (.val (.string (kP n)))else none
theorem zQ {n:Int} (h:okI n):vP [.val (.int .i64 n)]=some (.val (.string (kP n))):=(gu (A:=dI) n).trans (if_pos h)
theorem ai6:Sound Tryz.prog 39 vP:=by
 intro w J ps args r hr hJ hT hargs;obtain⟨n,rfl,hq⟩:=bQ hr;split at hq
 case isFalse=>cases hq
 case isTrue hok=>
 cases hq;have hargs:=hargs;simp only[bX]at hargs;obtain⟨v1,vs1,e1,h1,rfl⟩:=hargs;obtain rfl:args=#[v1]:=by obtain⟨a⟩:=args;simp only at e1;rw[e1]
 simp only[dI,Rep]at h1;subst h1;refine(YtmmafcjjlbgnkaaGreatDoor.strconv_Itoa n hok.1 hok.2 w (ak3 hT)).mono ?_;rintro e w' ⟨rfl,k,os,rfl⟩;exact⟨_,rfl,acw w k os,fun g' _=>by simp only[Rep];rfl⟩
def al0:Fun:=F2 dS dS fun s sep=>if sep=⟨#[32]⟩∧s.size≤1048576 then some (.lst true 1 ((gN 32 s).map fun s=> .val (.string s)))else none
theorem ael {s:ByteArray} (h:s.size≤1048576):al0 [.val (.string s),.val (.string ⟨#[32]⟩)]=some (.lst true 1 ((gN 32 s).map fun s=> .val (.string s))):=(jm (A:=dS) (B:=dS) s ⟨#[32]⟩).trans (if_pos ⟨rfl,h⟩)
theorem agl:Sound Tryz.prog 37 al0:=by
 intro w J ps args r hr hJ hT hargs;obtain⟨s,sep,rfl,⟨rfl,hs⟩,rfl⟩:=iB hr;simp only[bX]at hargs;obtain⟨v1,vs1,e1,h1,v2,vs2,rfl,h2,rfl⟩:=hargs;obtain rfl:args=#[v1,v2]:=by obtain⟨a⟩:=args;simp only at e1;rw[e1]
 simp only[dS,Rep]at h1 h2;subst h1;subst h2;refine(agj 32 s w (by omega)).mono ?_;rintro e w' ⟨rfl,rfl⟩;have hlen:=afF 32 s;generalize gN 32 s=L at*;refine⟨_,rfl,abQ (Below.refl _ _),fun g' hg=>?_⟩;simp only[Rep,List.length_map];refine⟨_,_,rfl,Nat.le_refl _,by omega,.inr ⟨w.heap.size,0,rfl,hg _ (Nat.le_refl _) (by simp),bM.of fun i e he=>?_⟩⟩;rw[List.getElem?_map,Option.map_eq_some_iff]at he;obtain⟨x,hx,rfl⟩:=he;refine⟨.string x,by simp[Rep],⟨by simp[Value.cells,Value.oneCell'],fun j hj=>?_⟩,rfl⟩;have hj0:j=0:=by have:j<1:=hj;omega
 subst hj0;simp only[World.cell?,heap_alloc_new,Nat.zero_add,Nat.mul_one,Nat.add_zero];simp[Value.cells,hx]
def ak0:Fun:=F1 dS fun s=>if s=⟨#[49]⟩then some (.tup [.val (.int .i64 1),.val .nilIface])else none
theorem akS:ak0 [.val (.string ⟨#[49]⟩)]=some (.tup [.val (.int .i64 1),.val .nilIface]):=(gu (A:=dS) ⟨#[49]⟩).trans (if_pos rfl)
theorem ak9:Sound Tryz.prog 75 ak0:=by
 intro w J ps args r hr hJ hT hargs;obtain⟨s,rfl,rfl,rfl⟩:=jQ hr;simp only[bX]at hargs;obtain⟨v1,vs1,e1,h1,rfl⟩:=hargs;obtain rfl:args=#[v1]:=by obtain⟨a⟩:=args;simp only at e1;rw[e1]
 simp only[dS,Rep]at h1;subst h1;refine(YtmmafcjjlbgnkaaGreatDoor.strconv_Atoi ⟨#[49]⟩ 1 (by decide) (by decide+kernel) w).mono ?_;rintro e w' ⟨rfl,t,rfl⟩;refine⟨_,rfl,Lib.bytesWorld_below _ _ _,fun g' hg=>?_⟩;simp[Rep,bX]
theorem anR {x:Operand} {v:Value}:lK Tryz.prog .eql 93 x (.const v) (some .nilIface) (some .nilIface)=some (.val (.bool true)):=by cases x<;>kernel_rfl
attribute[push_cast]
 anR
def adN:Fun:=F1 dS fun s=>if s=⟨#[49]⟩then some (.tup [.val (.int .i64 1),bv true])else none
theorem ahf:adN [.val (.string ⟨#[49]⟩)]=some (.tup [.val (.int .i64 1),bv true]):=(gu (A:=dS) ⟨#[49]⟩).trans (if_pos rfl)
theorem akz:kP 1=⟨#[49]⟩:=by decide+kernel
def axL:Ctx:={fn:=aY [(75,ak0),(39,vP)],io:=aY []}
theorem aqZ:ak Tryz.prog axL:=okΓ (fC Tryz.func75 ak9 (fC Tryz.func39 ai6 aj)) aj
def aoa:=ah (Γ:=axL) (f:=75) (φ:=ak0) rfl
def aoY:=ah (Γ:=axL) (f:=39) (φ:=vP) rfl
theorem aob:Sound Tryz.prog 41 adN:=by refine au mixed aqZ Tryz.func41 rfl 29 rfl [.tmp 2,.tmp 3] rfl (by kernel_rfl) fun ps r hr=>?_;obtain⟨s,rfl,hpre,rfl⟩:=jQ hr;refine⟨by simp,?_⟩;simp only[dIs,dUs,dSs,dz,dF,dx,dG,aR,dD,aU,aV,aS,aT];subst hpre;have ap:=akS;have ap2:=zQ (n:=1) (by decide);rw[akz]at ap2;have hs:(⟨#[49]⟩:ByteArray).size=1:=rfl;generalize(⟨#[49]⟩:ByteArray)=s at*;have gnum_c75:=aoa;have gnum_c39:=aoY;exact wlkS
theorem wD {p:List LS} {q:LS} {x y z:Int} (h:fA p q x y z=true):∀k,k<p.length→0<(p[k]?.getD []).length:=fun k hk=>by unfold fA at h;rw[Bool.and_eq_true]at h;have:=List.all_eq_true.1 h.1 p[k] (List.getElem_mem hk);unfold asi at this;simp only[Bool.and_eq_true,Bool.not_eq_true',decide_eq_false_iff_not]at this;rw[List.getElem?_eq_getElem hk,Option.getD_some];omega
theorem zk {p:List LS} {q:LS} {x y:Int}:∀k,∀s∈blK p q x y k,s.size≤2000
 |0,s,h=>by simp[blK]at h
 |k+1,s,h=>by
  rw[blK]at h;rcases List.mem_append.1 h with h|h
  ·exact zk k s h
  ·exact(yH _ _ _ _).2 s h
theorem ai4 {α:Type} {l:List α}:∀{e:List Nat} {p:Nat} {r:List α},r∈jV l p e→∀x∈r,x∈l
 |[],p,r,h=>by simp[jV]at h
 |k::e,p,r,h=>by
  rw[jV]at h;rcases List.mem_cons.1 h with rfl|h
  ·exact fun x hx=>List.mem_of_mem_drop (List.mem_of_mem_take hx)
  ·exact ai4 h
theorem adS {p:List LS} {q:LS} {x y z:Int} {r:LS} (h:r∈bpV p q x y z):∀s∈r,s.size≤2000:=fun s hs=>by
 unfold bpV at h;split at h
 ·have h2:=ai4 h s hs
  unfold blL at h2;split at h2
  ·exact zk _ s h2
  ·simp at h2
 ·simp at h
theorem ac5 {r:LS}:∀{V:List LS},r∈V→r.length≤V.flatten.length
 |[],h=>by simp at h
 |v::V,h=>by
  rw[List.flatten_cons,List.length_append];rcases List.mem_cons.1 h with rfl|h
  ·omega
  ·have:=ac5 h
   omega
theorem uS (p:List LS) (q:LS) (x y z:Int):(bpV p q x y z).length≤30∧∀r∈bpV p q x y z,r.length≤30:=by
 cases hb:bpB p q x y z with
 |false=>rw[acI hb];exact⟨by simp,fun r h=>by simp at h⟩
 |true=>obtain⟨_,_,hF⟩:=alC hb;refine⟨by rw[hF.len];exact hF.e30,fun r h=>?_⟩;have:=ac5 h;rw[hF.flat]at this;have:=hF.b30;omega
def uR (p:List LS) (q:LS) (x y z:Int):ByteArray:=if bpB p q x y z=true∧0<(bpV p q x y z).length then pW ((bpV p q x y z)[0]?.getD []) ⟨#[47]⟩else⟨#[110,111]⟩
def ac9 (p:List LS) (q:LS) (x y z:Int):ByteArray:=if bpB p q x y z=true then kP (bpV p q x y z).length else⟨#[110,111]⟩
def φPn:Fun:=F3 kD dS dI fun b s n=>if(wF b.1 b.2.1∧fA b.1 b.2.1 b.2.2.1 b.2.2.2.1 b.2.2.2.2=true)∧s=⟨#[112,97,103,101]⟩∧n=1 then some (.tup [bkT b.1 b.2.1 b.2.2.1 b.2.2.2.1 b.2.2.2.2,.val (.string (uR b.1 b.2.1 b.2.2.1 b.2.2.2.1 b.2.2.2.2))])else none
theorem anI {p:List LS} {q:LS} {x y z:Int} (h:wF p q) (h2:fA p q x y z=true):φPn [bkP p q x y z,.val (.string ⟨#[112,97,103,101]⟩),.val (.int .i64 1)]=some (.tup [bkT p q x y z,.val (.string (uR p q x y z))]):=
 (xD (A:=kD) (B:=dS) (C:=dI) (p,q,x,y,z) _ _).trans (if_pos ⟨⟨h,h2⟩,rfl,rfl⟩)
def GPn:Ctx:={fn:=aY [(38,φCl),(7,φBp),(64,φIn),(76,zT)],io:=aY []}
theorem avg:ak Tryz.prog GPn:=okΓ (fC Tryz.func38 adX (fC Tryz.func7 uo (fC Tryz.func64 oH (fC Tryz.func76 aoe aj)))) aj
def af3:=ah (Γ:=GPn) (f:=38) (φ:=φCl) rfl
def ar7:=ah (Γ:=GPn) (f:=7) (φ:=φBp) rfl
def agP:=ah (Γ:=GPn) (f:=64) (φ:=φIn) rfl
def af4:=ah (Γ:=GPn) (f:=76) (φ:=zT) rfl
theorem ayo:Sound Tryz.prog 42 φPn:=by
 refine au mixed avg Tryz.func42 rfl 53 rfl [.cell 6 26,.tmp 7] rfl (by kernel_rfl) fun ps r hr=>?_;obtain⟨⟨p,q,x,y,z⟩,s,n,rfl,hpre,rfl⟩:=vv hr;refine⟨by simp,?_⟩;simp only[dIs,dUs,dSs,dz,dF,dx,dG,aR,dD,aU,aV,aS,aT];(try dsimp only at hpre⊢);obtain⟨⟨hok,hB⟩,hs,rfl⟩:=hpre;have apc:=ahL (x:=x) (y:=y) (z:=z) (show aw1 p q from⟨hok,wD hB⟩);have apb:=aa1 (x:=x) (y:=y) (z:=z) hok;have api:=bK;have hbn:=acI (p:=p) (q:=q) (x:=x) (y:=y) (z:=z);have hsz:=fun r h=>adS (p:=p) (q:=q) (x:=x) (y:=y) (z:=z) (r:=r) h;obtain⟨hV1,hV2⟩:=uS p q x y z;have n1:decide (s=⟨#[119,105,100,116,104]⟩)=false:=by rw[hs];decide
 have n2:decide (s=⟨#[109,111,115,116]⟩)=false:=by rw[hs];decide
 have n3:decide (s=⟨#[108,105,110,101,115]⟩)=false:=by rw[hs];decide
 clear hs hok hB;unfold uR;generalize bpV p q x y z=V at*;cases hb:bpB p q x y z with
 |false=>rw[hb]at apb hbn;obtain rfl:=hbn rfl;rw[if_neg (by simp)];clear hb hbn hsz hV1 hV2;have gpn_c38:=af3;have gpn_c7:=ar7;have gpn_c64:=agP;have gpn_c76:=af4;exact wlkS
 |true=>
  rw[hb]at apb;clear hb hbn;by_cases h0:0<V.length
  ·rw[if_pos ⟨rfl,h0⟩]
   have hv:V[0]?.getD []∈V:=by rw[List.getElem?_eq_getElem h0,Option.getD_some];exact List.getElem_mem h0
   have hl:=hV2 _ hv;have apj:=agU (l:=V[0]?.getD []) (sep:=⟨#[47]⟩) (by omega) (by
    rw[aeN];have:=ar1 (l:=V[0]?.getD []) (c:=2000) fun i=>by
     by_cases hi:i<(V[0]?.getD []).length
     ·rw[List.getElem?_eq_getElem hi,Option.getD_some]
      exact hsz _ hv _ (List.getElem_mem hi)
     ·rw[List.getElem?_eq_none (by omega)]
      decide
    have h47:(⟨#[47]⟩:ByteArray).size=1:=rfl;rw[h47];have:(V[0]?.getD []).length*2000≤30*2000:=Nat.mul_le_mul_right _ (by omega);omega)
   have hin:inB 1 1 (V.length:Int)=true:=av.2 ⟨by omega,by omega⟩;have hz1:(1:Int)-1=0:=rfl;clear hsz hv hl hV2;have gpn_c38:=af3;have gpn_c7:=ar7;have gpn_c64:=agP;have gpn_c76:=af4;exact wlkS
  ·rw[if_neg (by omega)]
   obtain rfl:V=[]:=List.eq_nil_of_length_eq_zero (by omega);have hin:inB 1 1 0=false:=by decide
   clear hsz hV1 hV2 h0;have gpn_c38:=af3;have gpn_c7:=ar7;have gpn_c64:=agP;have gpn_c76:=af4;exact wlkS
open Classical in
noncomputable def amd:Fun:=F2 kD dS fun b s=>if(wF b.1 b.2.1∧fA b.1 b.2.1 b.2.2.1 b.2.2.2.1 b.2.2.2.2=true)∧(s=⟨#[112,97,103,101,115]⟩∨s=⟨#[112,97,103,101,32,49]⟩)then some (.tup [bkT b.1 b.2.1 b.2.2.1 b.2.2.2.1 b.2.2.2.2,.val (.string (if s=⟨#[112,97,103,101,115]⟩then ac9 b.1 b.2.1 b.2.2.1 b.2.2.2.1 b.2.2.2.2 else uR b.1 b.2.1 b.2.2.1 b.2.2.2.1 b.2.2.2.2))])else none
theorem aq4 {p:List LS} {q:LS} {x y z:Int} (h:wF p q) (h2:fA p q x y z=true):amd [bkP p q x y z,.val (.string ⟨#[112,97,103,101,115]⟩)]=some (.tup [bkT p q x y z,.val (.string (ac9 p q x y z))]):=
 (jm (A:=kD) (B:=dS) (p,q,x,y,z) _).trans ((if_pos ⟨⟨h,h2⟩,.inl rfl⟩).trans (by rw[if_pos rfl]))
theorem anX {p:List LS} {q:LS} {x y z:Int} (h:wF p q) (h2:fA p q x y z=true):amd [bkP p q x y z,.val (.string ⟨#[112,97,103,101,32,49]⟩)]=some (.tup [bkT p q x y z,.val (.string (uR p q x y z))]):=
 (jm (A:=kD) (B:=dS) (p,q,x,y,z) _).trans ((if_pos ⟨⟨h,h2⟩,.inr rfl⟩).trans (by rw[if_neg (by decide)]))
theorem abD:gN 32 ⟨#[112,97,103,101,32,49]⟩=[⟨#[112,97,103,101]⟩,⟨#[49]⟩]:=by decide+kernel
def ano:Ctx:={fn:=aY [(36,iY),(37,al0),(38,φCl),(7,φBp),(39,vP),(41,adN),(42,φPn)],io:=aY []}
theorem arw:ak Tryz.prog ano:=okΓ (fC Tryz.func36 kJ (fC Tryz.func37 agl (fC Tryz.func38 adX (fC Tryz.func7 uo (fC Tryz.func39 ai6 (fC Tryz.func41 aob (fC Tryz.func42 ayo aj))))))) aj
def abT:=ah (Γ:=ano) (f:=36) (φ:=iY) rfl
def abe:=ah (Γ:=ano) (f:=37) (φ:=al0) rfl
def aa8:=ah (Γ:=ano) (f:=38) (φ:=φCl) rfl
def ajo:=ah (Γ:=ano) (f:=7) (φ:=φBp) rfl
def abL:=ah (Γ:=ano) (f:=39) (φ:=vP) rfl
def acy:=ah (Γ:=ano) (f:=41) (φ:=adN) rfl
def abF:=ah (Γ:=ano) (f:=42) (φ:=φPn) rfl
open Classical in
set_option maxHeartbeats 16000000 in
theorem at1:Sound Tryz.prog 11 amd:=by
 refine au mixed arw Tryz.func11 rfl 128 rfl [.cell 4 26,.tmp 5] rfl (by kernel_rfl) fun ps r hr=>?_;obtain⟨⟨p,q,x,y,z⟩,s,rfl,hpre,rfl⟩:=iB hr;refine⟨by simp,?_⟩;simp only[dIs,dUs,dSs,dz,dF,dx,dG,aR,dD,aU,aV,aS,aT];(try dsimp only at hpre⊢);obtain⟨⟨hok,hB⟩,hs⟩:=hpre;have apv:iY [bkP p q x y z]=some (bv (fA p q x y z)):=(gu (A:=kD) (p,q,x,y,z)).trans (if_pos hok);rw[hB]at apv;have apc:=ahL (x:=x) (y:=y) (z:=z) (show aw1 p q from⟨hok,wD hB⟩);have apb:=aa1 (x:=x) (y:=y) (z:=z) hok;have app:=anI (x:=x) (y:=y) (z:=z) hok hB;obtain⟨hV1,hV2⟩:=uS p q x y z;have hbn:=acI (p:=p) (q:=q) (x:=x) (y:=y) (z:=z);clear hV2 hok hB;by_cases hs1:s=⟨#[112,97,103,101,115]⟩
 ·rw[if_pos hs1]
  have aps:=ael (s:=s) (by rw[hs1];decide);have a1:decide (s=⟨#[112,97,103,101,115]⟩)=true:=decide_eq_true hs1;clear hs hs1 app;generalize gN 32 s=P at*;unfold ac9;generalize bpV p q x y z=V at*;cases hb:bpB p q x y z with
  |false=>rw[hb]at apb hbn;obtain rfl:=hbn rfl;rw[if_neg (by simp)];clear hb hbn hV1;have gplr_c36:=abT;have gplr_c37:=abe;have gplr_c38:=aa8;have gplr_c7:=ajo;have gplr_c39:=abL;have gplr_c41:=acy;have gplr_c42:=abF;exact wlkS
  |true=>rw[hb]at apb;rw[if_pos rfl];have api:=zQ (n:=V.length) (by constructor<;>omega);clear hb hbn;have gplr_c36:=abT;have gplr_c37:=abe;have gplr_c38:=aa8;have gplr_c7:=ajo;have gplr_c39:=abL;have gplr_c41:=acy;have gplr_c42:=abF;exact wlkS
 ·rw[if_neg hs1]
  obtain rfl:s=⟨#[112,97,103,101,32,49]⟩:=hs.resolve_left hs1;have aps:=ael (s:=⟨#[112,97,103,101,32,49]⟩) (by decide);rw[abD]at aps;have a1:decide ((⟨#[112,97,103,101,32,49]⟩:ByteArray)=⟨#[112,97,103,101,115]⟩)=false:=by decide
  have b1:decide ((⟨#[112,97,103,101]⟩:ByteArray)=⟨#[116,101,120,116]⟩)=false:=by decide
  have b2:decide ((⟨#[112,97,103,101]⟩:ByteArray)=⟨#[104,121,112,104,101,110]⟩)=false:=by decide
  have b3:decide ((⟨#[112,97,103,101]⟩:ByteArray)=⟨#[119,105,100,116,104]⟩)=false:=by decide
  have b4:decide ((⟨#[112,97,103,101]⟩:ByteArray)=⟨#[109,111,115,116]⟩)=false:=by decide
  have b5:decide ((⟨#[112,97,103,101]⟩:ByteArray)=⟨#[108,105,110,101,115]⟩)=false:=by decide
  have b6:∀s:ByteArray,s=⟨#[112,97,103,101]⟩→decide (s=⟨#[112,97,103,101]⟩)=true:=fun s h=>decide_eq_true h;have b6:=b6 _ rfl;have apn:=ahf;clear hs hs1 hbn hV1;generalize(⟨#[112,97,103,101,32,49]⟩:ByteArray)=s at*;generalize hw:(⟨#[49]⟩:ByteArray)=w1 at*;generalize uR p q x y z=A at*;clear hw;have gplr_c36:=abT;have gplr_c37:=abe;have gplr_c38:=aa8;have gplr_c7:=ajo;have gplr_c39:=abL;have gplr_c41:=acy;have gplr_c42:=abF;exact wlkS
def fjB (l:LS):Nat→ByteArray
 |0=>⟨#[]⟩
 |k+1=>if 0<k then fjB l k++⟨#[47]⟩++l[k]?.getD ByteArray.empty else fjB l k++l[k]?.getD ByteArray.empty
theorem aiU {a b:ByteArray} (h:a.data.toList=b.data.toList):a=b:=by cases a;cases b;simp only at h;congr;exact Array.toList_inj.1 h
theorem ahZ {l:LS}:∀k,k+1≤l.length→(fjB l (k+1)).data.toList=(l[0]?.getD ByteArray.empty).data.toList++Lib.joinTail [47] (((l.drop 1).take k).map (·.data.toList))
 |0,h=>by rw[fjB,if_neg (show¬0<0 by omega),fjB];simp[Lib.joinTail]
 |k+1,h=>by
  have ih:=ahZ (l:=l) k (by omega);rw[fjB,if_pos (show 0<k+1 by omega)];have hk:k<(l.drop 1).length:=by rw[List.length_drop];omega
  rw[List.take_succ_eq_append_getElem hk,List.map_append];have e:(l.drop 1)[k]=l[k+1]?.getD ByteArray.empty:=by rw[List.getElem_drop,List.getElem?_eq_getElem (by omega),Option.getD_some];congr 1;omega
  have tail_app:∀a b:List (List UInt8),Lib.joinTail [47] (a++b)=Lib.joinTail [47] a++Lib.joinTail [47] b:=fun a b=>by
   induction a with
   |nil=>simp[Lib.joinTail]
   |cons x a ih=>simp only[Lib.joinTail,List.cons_append,List.flatMap_cons,List.append_assoc]at ih⊢;simp[ih]
  rw[tail_app,ByteArray.data_append,ByteArray.data_append,Array.toList_append,Array.toList_append,ih,e];simp[Lib.joinTail]
theorem aoq {l:LS} (h:0<l.length):fjB l l.length=pW l ⟨#[47]⟩:=by
 apply aiU;obtain⟨k,hk⟩:∃k,l.length=k+1:=⟨l.length-1,by omega⟩;rw[hk,ahZ k (by omega)];cases l with
 |nil=>simp at h
 |cons x l=>
  have hl:l.length=k:=by simpa using hk
  show _=(Lib.join ((x::l).map (·.data.toList)) [47]);rw[List.map_cons,Lib.join_cons];simp[←hl]
theorem agM {l:LS} {c:Nat} (h:∀s∈l,s.size≤c):∀k,(fjB l k).size≤k*(c+1)
 |0=>by simp[fjB,ByteArray.size]
 |k+1=>by
  have ih:=agM h k;have h1:(l[k]?.getD ByteArray.empty).size≤c:=by
   by_cases hk:k<l.length
   ·rw[List.getElem?_eq_getElem hk,Option.getD_some];exact h _ (List.getElem_mem hk)
   ·rw[List.getElem?_eq_none (by omega)];exact Nat.zero_le _
  rw[fjB,Nat.succ_mul];split
  ·rw[ByteArray.size_append,ByteArray.size_append,show(⟨#[47]⟩:ByteArray).size=1 from rfl];omega
  ·rw[ByteArray.size_append];omega
def dvB (s:ByteArray):Nat→Int
 |0=>0
 |k+1=>10*dvB s k+at8 s k-48
theorem avV:∀n:Fin 31,(kP (n.val:Int)).size≤2∧dvB (kP (n.val:Int)) (kP (n.val:Int)).size=(n.val:Int)∧dvB (kP (n.val:Int)) 1≤9∧0≤dvB (kP (n.val:Int)) 1∧∀k:Fin 2,0≤at8 (kP (n.val:Int)) k.val∧at8 (kP (n.val:Int)) k.val≤57:=by decide+kernel
def qA:Fun:=aj7 1 φBp
def kK:Fun:=aj7 1 amd
def aiP:Fun:=F1 dUs fun code=>if okL avK code then some (bv true)else none
def arB:Ctx:={fn:=aY [(6,ru),(7,qA),(8,qA),(9,mq),(11,kK),(10,adK)],io:=aY []}
theorem anK:ak Tryz.prog arB:=okΓ (fC Tryz.func6 agn (fC Tryz.func7 (uo.aj7 1) (fC Tryz.func8 (aiL.aj7 1) (fC Tryz.func9 (kI.aj7 1) (fC Tryz.func11 (at1.aj7 1) (fC Tryz.func10 amh aj)))))) aj
def qD:=ah (Γ:=arB) (f:=6) (φ:=ru) rfl
def qm:=ah (Γ:=arB) (f:=7) (φ:=qA) rfl
def qy:=ah (Γ:=arB) (f:=8) (φ:=qA) rfl
def qz:=ah (Γ:=arB) (f:=9) (φ:=mq) rfl
def lq:=ah (Γ:=arB) (f:=11) (φ:=kK) rfl
def kX:=ah (Γ:=arB) (f:=10) (φ:=adK) rfl
theorem lawPr_ok:Sound Tryz.prog 3 aiP:=by
 refine au mixed anK Tryz.func3 rfl 122 rfl [.tmp 2] rfl (by kernel_rfl) fun ps r hr=>?_;obtain⟨code,rfl,hpre,rfl⟩:=jQ hr;refine⟨by simp,?_⟩;simp only[dIs,dUs,dSs,dz,dF,dx,dG,aR,dD,aU,aV,aS,aT];have hbyte:=ajI hpre;by_cases hlen:code.length≤1048576
 ·obtain⟨⟨L,ps,wd,mo,li⟩,e,⟨hL,hL2⟩,hps,hwd,hmo,hli⟩:=aeZ code hbyte hlen
  have apt:=aiY;dsimp only at hL hL2 hps hwd hmo hli e;have hok:=aoU (L:=L) (ps:=ps) (by omega) hL2 hps;have ap1:qA [.agg [.lst false 1 (lsF L),.lst false 1 (ps.map fun s=> .val (.string s)),.val (.int .i64 wd),.val (.int .i64 mo),.val (.int .i64 li)]]=_:=aa1 hok;have ap2:=acE (x:=wd) (y:=mo) (z:=li) hok;have apl:=fun h=>aq4 (x:=wd) (y:=mo) (z:=li) hok h;have apm:=fun h=>anX (x:=wd) (y:=mo) (z:=li) hok h;obtain⟨hV1,hV2⟩:=uS L ps wd mo li;have hsz:=fun r h=>adS (p:=L) (q:=ps) (x:=wd) (y:=mo) (z:=li) (r:=r) h;have hno:=acI (p:=L) (q:=ps) (x:=wd) (y:=mo) (z:=li);have hbb:bpB L ps wd mo li=true→fA L ps wd mo li=true:=fun h=>by unfold bpB blB at h;simp only[Bool.and_eq_true]at h;exact h.1.1
  unfold ac9 at apl;unfold uR at apm;clear hpre hbyte hL2 hps hok;cases hB:fA L ps wd mo li with
  |false=>
   rw[hB]at ap2;have hb:bpB L ps wd mo li=false:=by
    cases hb:bpB L ps wd mo li with
    |false=>rfl
    |true=>rw[hbb hb]at hB;cases hB
   rw[hb,hno hb]at ap1;clear apl apm hV1 hV2 hsz hno hbb hb hB;by_cases hL0:L.length=0
   ·obtain rfl:L=[]:=List.eq_nil_of_length_eq_zero hL0
    have ap1':qA [.agg [.val (.slice none 0 0),.lst false 1 (ps.map fun s=> .val (.string s)),.val (.int .i64 wd),.val (.int .i64 mo),.val (.int .i64 li)]]=_:=ap1;have ap2':mq [.agg [.val (.slice none 0 0),.lst false 1 (ps.map fun s=> .val (.string s)),.val (.int .i64 wd),.val (.int .i64 mo),.val (.int .i64 li)]]=_:=ap2;clear ap1 ap2;have glpr_c6:=qD;have glpr_c7:=qm;have glpr_c8:=qy;have glpr_c9:=qz;have glpr_c11:=lq;have glpr_c10:=kX;exact wlkS
   ·have glpr_c6:=qD;have glpr_c7:=qm;have glpr_c8:=qy;have glpr_c9:=qz;have glpr_c11:=lq;have glpr_c10:=kX
    exact wlkS
  |true=>
   rw[hB]at ap2;replace apl:=apl hB;replace apm:=apm hB;cases hb:bpB L ps wd mo li with
   |false=>
    rw[hb,hno hb]at ap1;rw[hb,if_neg (by decide)]at apl;rw[hb,if_neg (by simp)]at apm;clear hV1 hV2 hsz hno hbb hb hB;generalize hN:(⟨#[110,111]⟩:ByteArray)=no at*;have hno:∀s:ByteArray,s=no→decide (s=no)=true:=fun s h=>decide_eq_true h;have hno1:=hno no rfl;clear hno hN;by_cases hL0:L.length=0
    ·obtain rfl:L=[]:=List.eq_nil_of_length_eq_zero hL0
     have ap1':qA [.agg [.val (.slice none 0 0),.lst false 1 (ps.map fun s=> .val (.string s)),.val (.int .i64 wd),.val (.int .i64 mo),.val (.int .i64 li)]]=_:=ap1;have ap2':mq [.agg [.val (.slice none 0 0),.lst false 1 (ps.map fun s=> .val (.string s)),.val (.int .i64 wd),.val (.int .i64 mo),.val (.int .i64 li)]]=_:=ap2;have apl':kK [.agg [.val (.slice none 0 0),.lst false 1 (ps.map fun s=> .val (.string s)),.val (.int .i64 wd),.val (.int .i64 mo),.val (.int .i64 li)],.val (.string ⟨#[112,97,103,101,115]⟩)]=_:=apl;have apm':kK [.agg [.val (.slice none 0 0),.lst false 1 (ps.map fun s=> .val (.string s)),.val (.int .i64 wd),.val (.int .i64 mo),.val (.int .i64 li)],.val (.string ⟨#[112,97,103,101,32,49]⟩)]=_:=apm;clear ap1 ap2 apl apm;have glpr_c6:=qD;have glpr_c7:=qm;have glpr_c8:=qy;have glpr_c9:=qz;have glpr_c11:=lq;have glpr_c10:=kX;exact wlkS
    ·have apl':kK [.agg [.lst false 1 (lsF L),.lst false 1 (ps.map fun s=> .val (.string s)),.val (.int .i64 wd),.val (.int .i64 mo),.val (.int .i64 li)],.val (.string ⟨#[112,97,103,101,115]⟩)]=_:=apl
     have apm':kK [.agg [.lst false 1 (lsF L),.lst false 1 (ps.map fun s=> .val (.string s)),.val (.int .i64 wd),.val (.int .i64 mo),.val (.int .i64 li)],.val (.string ⟨#[112,97,103,101,32,49]⟩)]=_:=apm;clear apl apm;have glpr_c6:=qD;have glpr_c7:=qm;have glpr_c8:=qy;have glpr_c9:=qz;have glpr_c11:=lq;have glpr_c10:=kX;exact wlkS
   |true=>
    rw[hb]at ap1 apl apm;rw[if_pos rfl]at apl;have hz0:L.length=0→(bpV L ps wd mo li).length=0:=fun h=>by obtain rfl:L=[]:=List.eq_nil_of_length_eq_zero h;rw[ahP (by unfold blL;split<;>rfl)];rfl
    clear hno hbb hb hB hL;generalize bpV L ps wd mo li=V at*;have hda:=avV ⟨V.length,by omega⟩;dsimp only at hda;obtain⟨ha2,hdn,hd9,hd0',hdk'⟩:=hda;have hdk:∀k,k<(kP (V.length:Int)).size→0≤at8 (kP (V.length:Int)) k∧at8 (kP (V.length:Int)) k≤57:=fun k hk=>hdk' ⟨k,by omega⟩;have hdv:∀k,k<(kP (V.length:Int)).size→0≤dvB (kP (V.length:Int)) k∧dvB (kP (V.length:Int)) k≤9:=fun k hk=>by
     have:k=0∨k=1:=by omega
     rcases this with rfl|rfl
     ·exact⟨Int.le_refl _,(show(0:Int)≤9 by decide)⟩
     ·exact⟨hd0',hd9⟩
    clear hd9 hd0' hdk';generalize kP (V.length:Int)=A at*;by_cases hV0:V.length=0
    ·rw[if_neg (by omega)]at apm
     obtain rfl:V=[]:=List.eq_nil_of_length_eq_zero hV0;replace hdn:dvB A A.size=0:=hdn;clear hV1 hV2 hsz hV0 hz0;generalize hN:(⟨#[110,111]⟩:ByteArray)=O at*;have hno:∀s:ByteArray,s=O→decide (s=O)=true:=fun s h=>decide_eq_true h;have hno1:=hno O rfl;clear hno hN;by_cases hL0:L.length=0
     ·obtain rfl:L=[]:=List.eq_nil_of_length_eq_zero hL0
      have ap1':qA [.agg [.val (.slice none 0 0),.lst false 1 (ps.map fun s=> .val (.string s)),.val (.int .i64 wd),.val (.int .i64 mo),.val (.int .i64 li)]]=_:=ap1;have ap2':mq [.agg [.val (.slice none 0 0),.lst false 1 (ps.map fun s=> .val (.string s)),.val (.int .i64 wd),.val (.int .i64 mo),.val (.int .i64 li)]]=_:=ap2;have apl':kK [.agg [.val (.slice none 0 0),.lst false 1 (ps.map fun s=> .val (.string s)),.val (.int .i64 wd),.val (.int .i64 mo),.val (.int .i64 li)],.val (.string ⟨#[112,97,103,101,115]⟩)]=_:=apl;have apm':kK [.agg [.val (.slice none 0 0),.lst false 1 (ps.map fun s=> .val (.string s)),.val (.int .i64 wd),.val (.int .i64 mo),.val (.int .i64 li)],.val (.string ⟨#[112,97,103,101,32,49]⟩)]=_:=apm;clear ap1 ap2 apl apm;have glpr_c6:=qD;have glpr_c7:=qm;have glpr_c8:=qy;have glpr_c9:=qz;have glpr_c11:=lq;have glpr_c10:=kX;(refine wlk ?_;intros);have hd0:dvB A 0=0:=rfl;refine aG (α:=Nat) mixed (fun i=>[(4,.lst true 1 []),(9,.val (.string A)),(11,.val (.string O)),(12,.val (.string ⟨#[]⟩)),(14,iv (dvB A i)),(15,iv i)]) (fun _=>[]) (fun _=>3) (fun i=>i≤A.size) (fun i=>A.size-i) (by kernel_rfl) 0 (Nat.zero_le _) ?_ trivial rfl ?_
      ·(try dsimp only)
       rw[hd0];exact agr;try rfl
      rintro k hk;clear hd0;by_cases hka:k<A.size
      ·have hd1:dvB A (k+1)=10*dvB A k+at8 A k-48:=rfl
       obtain⟨d1,d2⟩:=hdk k hka;obtain⟨d3,d4⟩:=hdv k hka;replace hd1:=Lib.hid hd1;clear hdk hdv hdn;generalize dvB A k=D at*;(refine wlk ?_;intros);all_goals try(exfalso;omega)
       refine⟨k+1,by omega,by dsimp only;omega,?_,trivial,rfl⟩;(try dsimp only);rw[hd1.out];exact agi
      ·obtain rfl:k=A.size:=by omega
       rw[hdn];clear hdk hdv hdn;exact wlkS
     ·have apl':kK [.agg [.lst false 1 (lsF L),.lst false 1 (ps.map fun s=> .val (.string s)),.val (.int .i64 wd),.val (.int .i64 mo),.val (.int .i64 li)],.val (.string ⟨#[112,97,103,101,115]⟩)]=_:=apl
      have apm':kK [.agg [.lst false 1 (lsF L),.lst false 1 (ps.map fun s=> .val (.string s)),.val (.int .i64 wd),.val (.int .i64 mo),.val (.int .i64 li)],.val (.string ⟨#[112,97,103,101,32,49]⟩)]=_:=apm;clear apl apm;have glpr_c6:=qD;have glpr_c7:=qm;have glpr_c8:=qy;have glpr_c9:=qz;have glpr_c11:=lq;have glpr_c10:=kX;(refine wlk ?_;intros);have hd0:dvB A 0=0:=rfl;refine aG (α:=Nat) mixed (fun i=>[(4,.lst true 1 []),(9,.val (.string A)),(11,.val (.string O)),(12,.val (.string ⟨#[]⟩)),(14,iv (dvB A i)),(15,iv i)]) (fun _=>[]) (fun _=>3) (fun i=>i≤A.size) (fun i=>A.size-i) (by kernel_rfl) 0 (Nat.zero_le _) ?_ trivial rfl ?_
      ·(try dsimp only)
       rw[hd0];exact agr;try rfl
      rintro k hk;clear hd0;by_cases hka:k<A.size
      ·have hd1:dvB A (k+1)=10*dvB A k+at8 A k-48:=rfl
       obtain⟨d1,d2⟩:=hdk k hka;obtain⟨d3,d4⟩:=hdv k hka;replace hd1:=Lib.hid hd1;clear hdk hdv hdn;generalize dvB A k=D at*;(refine wlk ?_;intros);all_goals try(exfalso;omega)
       refine⟨k+1,by omega,by dsimp only;omega,?_,trivial,rfl⟩;(try dsimp only);rw[hd1.out];exact agi
      ·obtain rfl:k=A.size:=by omega
       rw[hdn];clear hdk hdv hdn;exact wlkS
    ·have hL0:¬L.length=0:=fun h=>hV0 (hz0 h)
     have hVp:0<V.length:=by omega
     rw[if_pos ⟨rfl,hVp⟩]at apm;have hv:V[0]?.getD []∈V:=by rw[List.getElem?_eq_getElem hVp,Option.getD_some];exact List.getElem_mem hVp
     have hl:=hV2 _ hv;have hfs:=fun k=>agM (l:=V[0]?.getD []) (c:=2000) (hsz _ hv) k;have hxs:∀k:Nat,((V[0]?.getD [])[k]?.getD ByteArray.empty).size≤2000:=fun k=>by
      by_cases hi:k<(V[0]?.getD []).length
      ·rw[List.getElem?_eq_getElem hi,Option.getD_some]
       exact hsz _ hv _ (List.getElem_mem hi)
      ·rw[List.getElem?_eq_none (by omega)]
       decide
     have hfj:fjB (V[0]?.getD []) (V[0]?.getD []).length=pW (V[0]?.getD []) ⟨#[47]⟩:=by
      by_cases h0:0<(V[0]?.getD []).length
      ·exact aoq h0
      ·rw[List.eq_nil_of_length_eq_zero (show(V[0]?.getD []).length=0 by omega)]
       decide+kernel
     have apl':kK [.agg [.lst false 1 (lsF L),.lst false 1 (ps.map fun s=> .val (.string s)),.val (.int .i64 wd),.val (.int .i64 mo),.val (.int .i64 li)],.val (.string ⟨#[112,97,103,101,115]⟩)]=_:=apl;have apm':kK [.agg [.lst false 1 (lsF L),.lst false 1 (ps.map fun s=> .val (.string s)),.val (.int .i64 wd),.val (.int .i64 mo),.val (.int .i64 li)],.val (.string ⟨#[112,97,103,101,32,49]⟩)]=_:=apm;generalize hJ:pW (V[0]?.getD []) ⟨#[47]⟩=O at*;have hJ1:decide (O=O)=true:=decide_eq_true rfl;clear apl apm hV2 hsz hv hz0 hV0 hJ;replace hfs:=Lib.hid hfs;replace hxs:=Lib.hid hxs;replace hfj:=Lib.hid hfj;replace hdn:=Lib.hid hdn;replace hJ1:=Lib.hid hJ1;have glpr_c6:=qD;have glpr_c7:=qm;have glpr_c8:=qy;have glpr_c9:=qz;have glpr_c11:=lq;have glpr_c10:=kX;(refine wlk ?_;intros);refine aG (α:=Nat) mixed (fun i=>[(4,.lst true 1 (V.map dY)),(9,.val (.string A)),(11,.val (.string O)),(12,.val (.string (fjB (V[0]?.getD []) i))),(13,iv i)]) (fun _=>[]) (fun _=>3) (fun i=>i≤(V[0]?.getD []).length) (fun i=>(V[0]?.getD []).length-i) (by kernel_rfl) 0 (Nat.zero_le _) ?_ trivial rfl ?_
     ·have hf0:fjB (V[0]?.getD []) 0=⟨#[]⟩:=rfl
      (try dsimp only);rw[hf0];exact agr;try rfl
     rintro k hk;clear ap1 ap2 apl' apm' e;by_cases hkl:k<(V[0]?.getD []).length
     ·have hf1:fjB (V[0]?.getD []) (k+1)=if 0<k then fjB (V[0]?.getD []) k++⟨#[47]⟩++(V[0]?.getD [])[k]?.getD ByteArray.empty else fjB (V[0]?.getD []) k++(V[0]?.getD [])[k]?.getD ByteArray.empty:=rfl
      have hfk:=hfs.out k;have hxk:=hxs.out k;have hmk:k*2001≤30*2001:=Nat.mul_le_mul_right _ (by omega);have h47:(⟨#[47]⟩:ByteArray).size=1:=rfl;replace hf1:=Lib.hid hf1;clear hdk hdv;generalize fjB (V[0]?.getD []) k=F at*;by_cases hk0:0<k
      ·(refine wlk ?_;intros)
       all_goals try(exfalso;omega)
       refine⟨k+1,by omega,by dsimp only;omega,?_,trivial,rfl⟩;(try dsimp only);rw[hf1.out,if_pos hk0];exact agi
      ·(refine wlk ?_;intros)
       all_goals try(exfalso;omega)
       refine⟨k+1,by omega,by dsimp only;omega,?_,trivial,rfl⟩;(try dsimp only);rw[hf1.out,if_neg hk0];exact agi
     ·obtain rfl:k=(V[0]?.getD []).length:=by omega
      rw[hfj.out];clear hfs hxs hfj;have hJ1:=hJ1.out;have hdn:=hdn.out;(refine wlk ?_;intros);have hd0:dvB A 0=0:=rfl;refine aG (α:=Nat) mixed (fun i=>[(4,.lst true 1 (V.map dY)),(9,.val (.string A)),(11,.val (.string O)),(12,.val (.string O)),(14,iv (dvB A i)),(15,iv i)]) (fun _=>[]) (fun _=>3) (fun i=>i≤A.size) (fun i=>A.size-i) (by kernel_rfl) 0 (Nat.zero_le _) ?_ trivial rfl ?_
      ·(try dsimp only)
       rw[hd0];exact agr;try rfl
      rintro k hk;clear hd0;by_cases hka:k<A.size
      ·have hd1:dvB A (k+1)=10*dvB A k+at8 A k-48:=rfl
       obtain⟨d1,d2⟩:=hdk k hka;obtain⟨d3,d4⟩:=hdv k hka;replace hd1:=Lib.hid hd1;clear hdk hdv hdn;generalize dvB A k=D at*;(refine wlk ?_;intros);all_goals try(exfalso;omega)
       refine⟨k+1,by omega,by dsimp only;omega,?_,trivial,rfl⟩;(try dsimp only);rw[hd1.out];exact agi
      ·obtain rfl:k=A.size:=by omega
       rw[hdn];clear hdk hdv hdn;exact wlkS
 ·have glpr_c6:=qD;have glpr_c7:=qm;have glpr_c8:=qy;have glpr_c9:=qz;have glpr_c11:=lq;have glpr_c10:=kX
  exact wlkS
section
open Go.ChangeShapes Go.WideShapes Go.ChangeAt Go.RowKit
open Go.ChangeMaps (open_string shut_string)
theorem own:ownKnob Tryz.prog.godebug=none:=by kernel_rfl
theorem laidOut:laidOutB Tryz.prog=true:=by kernel_rfl
theorem wf_u8 {x:Int} (h:(Lit.int .u8 x).wf=true):0≤x∧x≤255:=by simpa [Lit.wf,IntKind.min,IntKind.max,IntKind.signed,IntKind.bits]using h
theorem addr_add (b off i:Nat):(⟨b,off,none⟩:Addr).add i=⟨b,off+i,none⟩:=by unfold Addr.add;by_cases h:i=0<;>simp[h]
theorem aqp {w:World} {a:Addr} {v:Value} (h:w.cell? a=some v):a.block<w.heap.size:=by
 unfold World.cell? at h;by_cases hb:a.block<w.heap.size
 ·exact hb
 ·rw[Array.getElem?_eq_none (by omega)]at h
  cases a.spot<;>simp at h
theorem ate {P:Program} {W:World} {name:String} {k:IntKind} {zs:List Int} {g:Nat} (hg:P.globalNamed name=some g) (h:Lib.TabIs P W name k zs):∃T k',W.heap[g]?=some (.cells ((zs.map fun z=>Value.int k z).toArray) T k'):=by
 unfold Lib.TabIs World.var? at h;rw[hg,Option.bind_some]at h;split at h
 ·rename_i cs T k' hc
  cases h;exact⟨_,_,hc⟩
 ·cases h
theorem zB {P:Program} {x:String×DataW Unit} {r:List (String×DataW Unit)} {w:World} (h:laidMet P (x::r) w):laidMet P r w:=by obtain⟨ps,hv,hnd,hc⟩:=h;obtain⟨g,t,cs,fuel,p,q,h1,h2,h3,h4,h5,rfl⟩:=hv;exact⟨q,h5,(List.nodup_append.1 hnd).2.1,fun b off hm=>hc b off (List.mem_append_right _ hm)⟩
abbrev gW (W:World):Gh:=aaN fun b=>b<W.heap.size
section
variable {H:Type} {enc:TypeId×Value→H} {P:Program} {W:World} {base:Nat} {α β γ δ ε:Type}
def OpC (enc:TypeId×Value→H) (P:Program) (W:World) (base:Nat) (t:TypeId) (A:Dec α) (ok:α→Prop):Prop:=
 ∀fuel cs x,DataW.trod enc P W base (fun _=>true) true fuel t cs=some x→∃a v,ok a∧Rep (gW W) W (A.e a) v∧v.cells.toList=cs∧v.cells.all (·.oneCell')=true
theorem opU {t:TypeId} (ht:P.underlying t=some (.int .u8)):OpC enc P W base t dU avK:=fun fuel cs x h=>by obtain⟨n,rfl,_,hw⟩:=DataW.trod_int ht h;exact⟨n,.int .u8 n,wf_u8 hw,rfl,rfl,by simp[Value.cells,Value.oneCell']⟩
theorem aoW {n:Nat} {p:Nat→α→Prop} (h:∀i,i<n→∃x,p i x):∃l:List α,l.length=n∧∀i a,l[i]?=some a→p i a:=by
 induction n with
 |zero=>exact⟨[],rfl,fun i a h=>by simp at h⟩
 |succ n ih=>
  obtain⟨l,hl,hp⟩:=ih fun i hi=>h i (by omega);obtain⟨x,hx⟩:=h n (by omega);refine⟨l++[x],by simp[hl],fun i a hi=>?_⟩;rw[List.getElem?_append]at hi;split at hi
  ·exact hp i a hi
  ·rename_i hlt
   have:i-l.length=0:=by
    by_cases h0:i-l.length=0
    ·exact h0
    ·rw[List.getElem?_eq_none (by simp;omega)]at hi
     cases hi
   rw[this]at hi;simp at hi;subst hi;have:i=n:=by omega
   subst this;exact hx
theorem opL {t e:TypeId} {A:Dec α} {ok:α→Prop} (sz:Nat) (ht:P.underlying t=some (.slice e)) (hs:P.cellsOf e=sz) (h0:0<sz) (hA:OpC enc P W base e A ok):OpC enc P W base t (dL sz A) (okL ok):=fun fuel cs x h=>by
 rcases Go.Deep.open_slice ht h with⟨rfl,_⟩|⟨x,len,cap,m,n,D,Pl,rfl,hb,hl,hm,hmm,_,hx⟩
 ·exact⟨[],.slice none 0 0,⟨by simp,by simp⟩,⟨none,0,rfl,by simp,by simp,.inl rfl⟩,rfl,by simp[Value.cells,Value.oneCell']⟩
 have hm2:m=cap:=by simpa using hmm
 have hcap:cap≤9223372036854775807:=hm;obtain⟨l,hlen,hp⟩:=aoW (n:=len) (p:=fun i a=>ok a∧∃v,Rep (gW W) W (A.e a) v∧v.cells.size=sz∧v.cells.all (·.oneCell')=true∧∀j,j<sz→W.cell? ((x.add (i*sz)).add j)=v.cells[j]?) (fun i hi=>by
  obtain⟨cs',h1,h2⟩:=hx i (by omega);obtain⟨a,v,h3,h4,h5,h6⟩:=hA _ _ _ h2;obtain⟨_,h7,h8⟩:=World.cells?_some h1;rw[hs]at h7 h8;refine⟨a,h3,v,h4,?_,h6,fun j hj=>?_⟩
  ·rw[←h7,←h5];simp
  ·rw[h8 j hj,←h5];simp)
 refine⟨l,.slice (some x) len cap,⟨by omega,fun a ha=>?_⟩,?_,rfl,by simp[Value.cells,Value.oneCell']⟩
 ·obtain⟨i,hi,rfl⟩:=List.getElem_of_mem ha
  exact(hp i _ (by simp[hi])).1
 ·refine⟨some x,cap,by simp[hlen],by simp[hlen];omega,hcap,?_⟩
  by_cases hn:l=[]
  ·exact .inl (by simp[hn])
  right;have hl0:0<l.length:=List.length_pos_iff.2 hn;obtain⟨_,v,h4,h5,h6,h7⟩:=hp 0 l[0] (by simp[hl0]);have h8:=h7 0 h0;have h9:v.cells[0]?=some v.cells[0]:=by simp
  rw[h9]at h8;have hspot:=World.cell?_spot h8;have hlt:=aqp h8;obtain⟨b,off,spot⟩:=x;simp only[Nat.zero_mul,Addr.add,if_true]at hspot hlt;subst hspot;refine⟨b,off,rfl,⟨rfl,hlt⟩,bM.of fun i p hi=>?_⟩;rw[List.getElem?_map,Option.map_eq_some_iff]at hi;obtain⟨a,ha,rfl⟩:=hi;obtain⟨_,v,h4,h5,h6,h7⟩:=hp i a ha;refine⟨v,h4,⟨h6,fun j hj=>?_⟩,h5⟩;have:=h7 j (by omega)
  rwa[addr_add,addr_add]at this
theorem opF {t:TypeId} {A:Dec α} {ok:α→Prop} {n:Nat} {cs:List Value} {y:DataW H×List MemPlace} (hA:OpC enc P W base t A ok) (h1:∀a,oI (A.e a)=true)
 (h:DataW.trod enc P W base (fun _=>true) true n t cs=some y):∃a v,ok a∧Rep (gW W) W (A.e a) v∧v.oneCell'=true∧cs=[v]:=by
 obtain⟨a,v,h3,h4,h5,h6⟩:=hA _ _ _ h;have:=xZ h4 (h1 a);exact⟨a,v,h3,h4,this,by rw[←h5,oD this]⟩
theorem op1 {t:TypeId} {A:Dec α} {ok:α→Prop} {v:Value} {d:DataW H} {p:List MemPlace} (hA:OpC enc P W base t A ok) (h1:∀a,oI (A.e a)=true) (hv:v.cells=#[v])
 (h:DataW.Trod enc P W base (fun _=>true) true t v d p):∃a,ok a∧Rep (gW W) W (A.e a) v:=by
 obtain⟨fuel,hf⟩:=h;obtain⟨a,u,h3,h4,h5,h6⟩:=opF hA h1 hf;rw[hv]at h6;have:v=u:=by simpa using h6
 subst this;exact⟨a,h3,h4⟩
theorem aoI {f:Nat} {φ:Fun} {ps:List PV} {args:Array Value} (h:Sound P f φ) (hT:qF W fun _=>False) (ha:φ ps=some (bv true)) (hr:bX (gW W) W ps args.toList):
 Calls P f args W fun e w'=>e=.returned (.bool true)∧Below W.heap.size W w':=by
 refine(h W (fun b=>b<W.heap.size) ps args _ ha (fun b hb=>hb) hT hr).mono ?_;rintro e w' ⟨v,rfl,hb,hv⟩;have:=hv {I:=fun _ _=>True,β:=fun _=>0,κ:=fun _=>0,nx:=0} fun b _ _=>trivial;have hv2:v=.bool true:=this;subst hv2;exact⟨rfl,hb⟩
end
end
end
end Go.Proofs.YtmmafcjjlbgnkaaGreatDoor
