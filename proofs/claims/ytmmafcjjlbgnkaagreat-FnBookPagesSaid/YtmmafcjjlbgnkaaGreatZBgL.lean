/- 'FnBookPages': both sides make the same pages of a book; each holds a line and not more than fit; behind one another they are the lines; no page ends behind the first line of a paragraph or before its last. No condition. -/
import Derived.Test.YtmmafcjjlbgnkaaGreatZBg17
import Derived.Test.YtmmafcjjlbgnkaaGreatRows
namespace Go.Proofs.YtmmafcjjlbgnkaaGreat.lawBookPages
open Go.ChangeShapes Go.WideShapes Go.ChangeAt Go.RowKit
open Go.ChangeMaps (open_string shut_string)
set_option linter.unusedVariables false
set_option linter.all false
theorem law_ap {l:List Int} (h:okL atS l):ac3 [(dUs).e l]=some (bv true):=(iA (A:=dUs) l).trans (if_pos h)
theorem walk {W:World} (hT:qF W fun _=>False) {a0} {v0:Value} (k0:(okL atS) a0) (r0:Rep (gW W) W (dUs.e a0) v0):Calls Tryz.prog 3 #[v0] W fun e w'=>e=.returned (.bool true)∧Below W.heap.size W w':=
 ami (ps:=[dUs.e a0]) lawBgs_ok hT (law_ap k0) ⟨v0,[],rfl,r0,rfl⟩
set_option maxRecDepth 100000 in
theorem lifted (os:Os) (started:os.Started) (H:Type) (enc:TypeId×Value→H):
 ReturnsInHanded {} Tryz.checked os 3 .any (Rows.fnBookPagesSpec.pre6 enc Tryz.prog Tryz.f3 Rows.fnBookPagesRow.domain false) (Rows.fnBookPagesSpec.post enc Tryz.prog Tryz.f3 false true false false):=by
 refine returnsInHanded_of_change (C:=Tryz.checked) own started (by kernel_rfl) Tryz.func3
  (ChangeSpec.witness6 (enc:=enc) (C:=Tryz.checked) false ⟨#[],#[.slice none 0 0],[]⟩ 8 (by kernel_rfl) (by kernel_rfl) (by kernel_rfl) (by kernel_rfl)) ?_
 intro W base args ds gs before hval0 hW hcnd _;have hval:∀(j:Nat) t v,(Tryz.f3).params[j]?=some t→args[j]?=some v→Value.okWide Tryz.prog W .any base t v:=hval0;have hW':=hW;obtain⟨p,q,hA0,hV,rfl,hfz,hnd⟩:=hW;have hA:DataW.TrodAll enc Tryz.prog W 0 (fun _=>true) true (Tryz.f3).params.toList args.toList ds p:=hA0;rw[Tryz.params3]at hA hval;obtain⟨v0,vs0,d0,ds0,p0,q0,hargs,rfl,rfl,h0,r0⟩:=trodAll_cons hA;obtain⟨rfl,rfl,rfl⟩:=trodAll_nil r0;obtain rfl:args=#[v0]:=by cases args;simp_all
 obtain⟨rfl,rfl⟩:=trodVars_none hV;have k0:=h0;have lt0:∀x∈p0,x.block<W.heap.size:=by obtain⟨m,hm⟩:=k0;exact DataW.trod_lt m _ _ _ hm
 obtain⟨ad0,len0,cap0,rfl⟩:=okWide_slice Tryz.underlying22 (hval 0 22 v0 rfl rfl);obtain⟨a0,ok0,rep0⟩:=op1 (opL 1 Tryz.underlying22 (by kernel_rfl) (by omega) (opU Tryz.underlying5)) (fun _=>rfl) rfl h0;have hT:qF W fun _=>False:=⟨fun t ht=>by simp only[tabs,List.not_mem_nil]at ht,fun t ht=>by simp only[gls,List.not_mem_nil]at ht,fun _ _ q=>q⟩;clear hA0 hval0;refine(walk hT ok0 rep0).mono fun e W' ⟨he,bel⟩=>?_;subst he;exact⟨_,rfl,_,_,_,[],_,[],hW',trodAll_mk1 (shut_bool Tryz.underlying4 _),(trodAll_cons_mk (Below.trod laidOut (by kernel_rfl) (of_decide_eq_true (by kernel_rfl)) k0 bel lt0) trodAll_mk0),rfl,bel.frame _,fun h=>by cases h⟩
theorem over:Rows.fnBookPagesRow.holds Tryz.pinned (OpenSpec.ofChange Rows.fnBookPagesSpec):=
 OpenClaim.holds_of_wide 3 Tryz.f3 rfl rfl rfl rfl rfl rfl rfl ⟨rfl,rfl,rfl,rfl,rfl⟩ rfl rfl rfl rfl rfl (by kernel_rfl) Tryz.func3 (by kernel_rfl)
  (of_decide_eq_true (by kernel_rfl)) (by unfold Func.isWrapper;first|(rw[if_pos (by decide+kernel)];kernel_rfl)|(rw[if_neg (by decide+kernel)];exact⟨rfl,rfl⟩))
  (fun os started H enc _=>lifted os started H enc)
theorem proved:Rows.FnBookPagesSaid:=over
end Go.Proofs.YtmmafcjjlbgnkaaGreat.lawBookPages
