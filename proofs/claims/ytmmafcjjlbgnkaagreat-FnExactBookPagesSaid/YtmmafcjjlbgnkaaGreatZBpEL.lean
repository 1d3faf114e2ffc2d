/- 'FnExactBookPages': the program's BookPages answers as the reference's. No condition. -/
import Derived.Test.YtmmafcjjlbgnkaaGreatZBpE18
import Derived.Test.YtmmafcjjlbgnkaaGreatRows
namespace Go.Proofs.YtmmafcjjlbgnkaaGreat.lawExactBookPages
open Go.ChangeShapes Go.WideShapes Go.ChangeAt Go.RowKit
open Go.ChangeMaps (open_string shut_string)
set_option linter.unusedVariables false
set_option linter.all false
theorem okSL_of {l:LS} (h:okL okS l):al4 l:=⟨h.1,fun i=>by
 by_cases hi:i<l.length
 ·rw[List.getElem?_eq_getElem hi,Option.getD_some]
  exact h.2 _ (List.getElem_mem hi)
 ·rw[List.getElem?_eq_none (by omega)]
  simp⟩
theorem okSSL_of {l:List LS} (h:okL (okL okS) l):abg l:=⟨h.1,fun i=>by
 by_cases hi:i<l.length
 ·rw[List.getElem?_eq_getElem hi,Option.getD_some]
  exact okSL_of (h.2 _ (List.getElem_mem hi))
 ·rw[List.getElem?_eq_none (by omega)]
  exact⟨Nat.zero_le _,fun i=>by simp⟩⟩
theorem law_ap {b:List LS×LS×Int×Int×Int} (h:okL (okL okS) b.1∧okL okS b.2.1∧okI b.2.2.1∧okI b.2.2.2.1∧okI b.2.2.2.2):adA [(dA5 (dL 1 dSs) dSs dI dI dI).e b]=some (bv true):=
 (fM (A:=iY) b).trans (if_pos ⟨okSSL_of h.1,okSL_of h.2.1⟩)
theorem walk {W:World} (hT:jv W fun _=>False) {a0} {v0:Value} (k0:(fun p=>okL (okL okS) p.1∧okL okS p.2.1∧okI p.2.2.1∧okI p.2.2.2.1∧okI p.2.2.2.2) a0) (r0:Rep (gW W) W ((dA5 (dL 1 dSs) dSs dI dI dI).e a0) v0):Calls Tryz.prog 4 #[v0] W fun e w'=>e=.returned (.bool true)∧Below W.heap.size W w':=
 aoo (ps:=[(dA5 (dL 1 dSs) dSs dI dI dI).e a0]) lawBpE_ok hT (law_ap k0) ⟨v0,[],rfl,r0,rfl⟩
set_option maxRecDepth 100000 in
theorem lifted (os:Os) (started:os.Started) (H:Type) (enc:TypeId×Value→H):
 ReturnsInHanded {} Tryz.checked os 4 .any (Rows.fnExactBookPagesSpec.pre6 enc Tryz.prog Tryz.f4 Rows.fnExactBookPagesRow.domain false) (Rows.fnExactBookPagesSpec.post enc Tryz.prog Tryz.f4 false true false false):=by
 refine returnsInHanded_of_change (C:=Tryz.checked) own started (by kernel_rfl) Tryz.func4
  (ChangeSpec.witness6 (enc:=enc) (C:=Tryz.checked) false ⟨#[],#[.agg #[.slice none 0 0,.slice none 0 0,.int .i64 0,.int .i64 0,.int .i64 0]],[]⟩ 8 (by kernel_rfl) (by kernel_rfl) (by kernel_rfl) (by kernel_rfl)) ?_
 intro W base args ds gs before hval0 hW hcnd _;have hval:∀(j:Nat) t v,(Tryz.f4).params[j]?=some t→args[j]?=some v→Value.okWide Tryz.prog W .any base t v:=hval0;have hW':=hW;obtain⟨p,q,hA0,hV,rfl,hfz,hnd⟩:=hW;have hA:DataW.TrodAll enc Tryz.prog W 0 (fun _=>true) true (Tryz.f4).params.toList args.toList ds p:=hA0;rw[Tryz.params4]at hA hval;obtain⟨v0,vs0,d0,ds0,p0,q0,hargs,rfl,rfl,h0,r0⟩:=trodAll_cons hA;obtain⟨rfl,rfl,rfl⟩:=trodAll_nil r0;obtain rfl:args=#[v0]:=by cases args;simp_all
 obtain⟨rfl,rfl⟩:=trodVars_none hV;have k0:=h0;have lt0:∀x∈p0,x.block<W.heap.size:=by obtain⟨m,hm⟩:=k0;exact DataW.trod_lt m _ _ _ hm
 obtain⟨cs0,rfl,-⟩:=okWide_struct Tryz.underlying36 (hval 0 36 v0 rfl rfl);obtain⟨a0,ok0,rep0⟩:=opT (aye Tryz.underlying36 (by kernel_rfl) (by kernel_rfl) (opL 1 Tryz.underlying23 (by kernel_rfl) (by omega) (opL 1 Tryz.underlying24 (by kernel_rfl) (by omega) (opS Tryz.underlying9))) (fun _=>rfl) (opL 1 Tryz.underlying24 (by kernel_rfl) (by omega) (opS Tryz.underlying9)) (fun _=>rfl) (opI Tryz.underlying3) (fun _=>rfl) (opI Tryz.underlying3) (fun _=>rfl) (opI Tryz.underlying3) (fun _=>rfl)) (fun _=>⟨_,rfl⟩) h0;have hT:jv W fun _=>False:=⟨fun t ht=>by simp only[tabs,List.not_mem_nil]at ht,fun t ht=>by simp only[gls,List.not_mem_nil]at ht,fun _ _ q=>q⟩;clear hA0 hval0;refine(walk hT ok0 rep0).mono fun e W' ⟨he,bel⟩=>?_;subst he;exact⟨_,rfl,_,_,_,[],_,[],hW',trodAll_mk1 (shut_bool Tryz.underlying4 _),(trodAll_cons_mk (Below.trod laidOut (by kernel_rfl) (of_decide_eq_true (by kernel_rfl)) k0 bel lt0) trodAll_mk0),rfl,bel.frame _,fun h=>by cases h⟩
theorem over:Rows.fnExactBookPagesRow.holds Tryz.pinned (OpenSpec.ofChange Rows.fnExactBookPagesSpec):=
 OpenClaim.holds_of_wide 4 Tryz.f4 rfl rfl rfl rfl rfl rfl rfl ⟨rfl,rfl,rfl,rfl,rfl⟩ rfl rfl rfl rfl rfl (by kernel_rfl) Tryz.func4 (by kernel_rfl)
  (of_decide_eq_true (by kernel_rfl)) (by unfold Func.isWrapper;first|(rw[if_pos (by decide+kernel)];kernel_rfl)|(rw[if_neg (by decide+kernel)];exact⟨rfl,rfl⟩))
  (fun os started H enc _=>lifted os started H enc)
theorem proved:Rows.FnExactBookPagesSaid:=over
end Go.Proofs.YtmmafcjjlbgnkaaGreat.lawExactBookPages
