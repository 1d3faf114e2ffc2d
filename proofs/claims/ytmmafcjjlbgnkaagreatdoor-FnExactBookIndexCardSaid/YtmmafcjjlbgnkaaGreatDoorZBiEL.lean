/- 'FnExactBookIndex': the program's BookIndex answers as the reference's. No condition. -/
import Derived.Test.YtmmafcjjlbgnkaaGreatDoorZBiE23
import Derived.Test.YtmmafcjjlbgnkaaGreatDoorRows
import Derived.Test.YtmmafcjjlbgnkaaGreatDoorCards
import Derived.Test.YtmmafcjjlbgnkaaGreatDoorTie
namespace Go.Proofs.YtmmafcjjlbgnkaaGreatDoor.lawExactBookIndex
open Go.ChangeShapes Go.WideShapes Go.ChangeAt Go.RowKit
open Go.ChangeMaps (open_string shut_string)
set_option linter.unusedVariables false
set_option linter.all false
theorem okSL_of {l:LS} (h:okL okS l):atY l:=⟨h.1,fun i=>by
 by_cases hi:i<l.length
 ·rw[List.getElem?_eq_getElem hi,Option.getD_some]
  exact h.2 _ (List.getElem_mem hi)
 ·rw[List.getElem?_eq_none (by omega)]
  simp⟩
theorem okSSL_of {l:List LS} (h:okL (okL okS) l):aeL l:=⟨h.1,fun i=>by
 by_cases hi:i<l.length
 ·rw[List.getElem?_eq_getElem hi,Option.getD_some]
  exact okSL_of (h.2 _ (List.getElem_mem hi))
 ·rw[List.getElem?_eq_none (by omega)]
  exact⟨Nat.zero_le _,fun i=>by simp⟩⟩
theorem law_ap {b:List LS×LS×Int×Int×Int} (h:okL (okL okS) b.1∧okL okS b.2.1∧okI b.2.2.1∧okI b.2.2.2.1∧okI b.2.2.2.2):ail [(dA5 (dL 1 dSs) dSs dI dI dI).e b]=some (bv true):=
 (dY (A:=iy) b).trans (if_pos ⟨okSSL_of h.1,okSL_of h.2.1⟩)
theorem walk {W:World} (hT:kr W fun _=>False) {a0} {v0:Value} (k0:(fun p=>okL (okL okS) p.1∧okL okS p.2.1∧okI p.2.2.1∧okI p.2.2.2.1∧okI p.2.2.2.2) a0) (r0:Rep (gW W) W ((dA5 (dL 1 dSs) dSs dI dI dI).e a0) v0):Calls Tryz.prog 5 #[v0] W fun e w'=>e=.returned (.bool true)∧Below W.heap.size W w':=
 axr (ps:=[(dA5 (dL 1 dSs) dSs dI dI dI).e a0]) lawBiE_ok hT (law_ap k0) ⟨v0,[],rfl,r0,rfl⟩
set_option maxRecDepth 100000 in
theorem lifted (os:Os) (started:os.Started) (H:Type) (enc:TypeId×Value→H):
 ReturnsInHanded {} Tryz.checked os 5 .any (fun w args=>(Rows.fnExactBookIndexSpec.pre enc Tryz.prog Tryz.f5 Rows.fnExactBookIndexRow.domain false w args∧laidMet Tryz.prog Rows.fnExactBookIndexRow.laid w)∧sizedMet enc Tryz.prog Tryz.f5 (OpenSpec.ofChange Rows.fnExactBookIndexSpec) false w args) (Rows.fnExactBookIndexSpec.post enc Tryz.prog Tryz.f5 false true false false):=by
 refine returnsInHanded_of_change_and (C:=Tryz.checked) (X:=fun w _=>laidMet Tryz.prog Rows.fnExactBookIndexRow.laid w) (fun _ _ _ hh h=>h.of_heap hh) own started (by kernel_rfl) Tryz.func5
  (ChangeSpec.witness_shaped (enc:=enc) (C:=Tryz.checked) (os:=os) (X:=fun w _=>laidMet Tryz.prog Rows.fnExactBookIndexRow.laid w) false (World.laidAll Tryz.prog os Rows.fnExactBookIndexRow.laid) #[.agg #[.slice none 0 0,.slice none 0 0,.int .i64 0,.int .i64 0,.int .i64 0]] 8 (World.laidAll_os _ _ _) (World.shaped_of_ZipB (by kernel_rfl) (by kernel_rfl)) (by kernel_rfl) (by kernel_rfl) (by kernel_rfl) (laidMet_laidAll _ (by kernel_rfl) (by kernel_rfl))) ?_
 intro W base args ds gs before hval0 hW hcnd _ hL _;have hval:∀(j:Nat) t v,(Tryz.f5).params[j]?=some t→args[j]?=some v→Value.okWide Tryz.prog W .any base t v:=hval0;have hW':=hW;obtain⟨p,q,hA0,hV,rfl,hfz,hnd⟩:=hW;have hA:DataW.TrodAll enc Tryz.prog W 0 (fun _=>true) true (Tryz.f5).params.toList args.toList ds p:=hA0;rw[Tryz.params5]at hA hval;obtain⟨v0,vs0,d0,ds0,p0,q0,hargs,rfl,rfl,h0,r0⟩:=trodAll_cons hA;obtain⟨rfl,rfl,rfl⟩:=trodAll_nil r0;obtain rfl:args=#[v0]:=by cases args;simp_all
 obtain⟨rfl,rfl⟩:=trodVars_none hV;have k0:=h0;have lt0:∀x∈p0,x.block<W.heap.size:=by obtain⟨m,hm⟩:=k0;exact DataW.trod_lt m _ _ _ hm
 obtain⟨cs0,rfl,-⟩:=okWide_struct Tryz.underlying38 (hval 0 38 v0 rfl rfl);obtain⟨a0,ok0,rep0⟩:=opT (aHl Tryz.underlying38 (by kernel_rfl) (by kernel_rfl) (opL 1 Tryz.underlying23 (by kernel_rfl) (by omega) (opL 1 Tryz.underlying24 (by kernel_rfl) (by omega) (opS Tryz.underlying9))) (fun _=>rfl) (opL 1 Tryz.underlying24 (by kernel_rfl) (by omega) (opS Tryz.underlying9)) (fun _=>rfl) (opI Tryz.underlying3) (fun _=>rfl) (opI Tryz.underlying3) (fun _=>rfl) (opI Tryz.underlying3) (fun _=>rfl)) (fun _=>⟨_,rfl⟩) h0;have hT0:=aAu (g:=1) (by kernel_rfl) (Lib.tabIs_of_head (P:=Tryz.prog) (name:= "internal/strconv.uint64pow10") (k:=.u64) (zs:=Lib.pow10Tab) (g:=1) (t:=202) (e:=165) (n:=20) (by kernel_rfl) (by kernel_rfl) (by kernel_rfl) (by kernel_rfl) (by kernel_rfl) (by kernel_rfl) (acW (acW (hL))));have hT:kr W fun _=>False:=⟨fun t ht=>by
  simp only[tabs,List.mem_cons,List.not_mem_nil,or_false]at ht;rcases ht with rfl
  ·exact hT0,fun t ht=>by simp only[gls,List.not_mem_nil]at ht,fun _ _ q=>q⟩
 clear hA0 hval0;refine(walk hT ok0 rep0).mono fun e W' ⟨he,bel⟩=>?_;subst he;exact⟨_,rfl,_,_,_,[],_,[],hW',trodAll_mk1 (shut_bool Tryz.underlying4 _),(trodAll_cons_mk (Below.trod laidOut (by kernel_rfl) (of_decide_eq_true (by kernel_rfl)) k0 bel lt0) trodAll_mk0),rfl,bel.frame _,fun h=>by cases h⟩
theorem over:Rows.fnExactBookIndexRow.holds Tryz.pinned (OpenSpec.ofChange Rows.fnExactBookIndexSpec):=
 OpenClaim.holds_of_wide 5 Tryz.f5 rfl rfl rfl rfl rfl rfl rfl ⟨rfl,rfl,rfl,rfl,rfl⟩ rfl rfl rfl rfl rfl (by kernel_rfl) Tryz.func5 (by kernel_rfl)
  (of_decide_eq_true (by kernel_rfl)) (by unfold Func.isWrapper;first|(rw[if_pos (by decide+kernel)];kernel_rfl)|(rw[if_neg (by decide+kernel)];exact⟨rfl,rfl⟩))
  (fun os started H enc _=>lifted os started H enc)
set_option maxRecDepth 100000 in
theorem proved:Rows.FnExactBookIndexCardSaid:=
 Claim7.holds_tied_plain_at .later [] [.data,.data,.data,.data,.pinned] true (true,"8fe5623b40306200c7da73bf6bb71d130675c6a60a4fd6876a5a0a8715345ac4") true over (fun _ h=>by cases h) (by kernel_rfl) (fun _ h=>by cases h) fnExactBookIndex_row_tie rfl ⟨rfl,rfl⟩ (by kernel_rfl) rfl
  (fun f fn hf hfn=>by
    obtain rfl:f=5:=(Option.some.inj ((show Tryz.prog.funcNamed "loop.example/pagebuilder/laws.FnExactBookIndex" =some 5 by kernel_rfl).symm.trans hf)).symm;obtain rfl:fn=Tryz.f5:=(Option.some.inj (Tryz.func5.symm.trans hfn)).symm;refine⟨by kernel_rfl,fun j t ht=>?_⟩;have hall:(Tryz.f5).params.toList.all (fun t=>Tryz.prog.wantsStandIn t=false)=true:=by kernel_rfl
    exact(show Tryz.prog.wantsStandIn t=false from by simpa using List.all_eq_true.1 hall t (List.mem_of_getElem? (by simpa using ht))))
  (by kernel_rfl)
end Go.Proofs.YtmmafcjjlbgnkaaGreatDoor.lawExactBookIndex
