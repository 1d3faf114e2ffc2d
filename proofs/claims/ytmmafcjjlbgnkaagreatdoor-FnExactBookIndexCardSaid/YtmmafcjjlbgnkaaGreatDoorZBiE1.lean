/- What the proof rests on, part 1: the engine and the types. No condition beyond what each states. -/
import Derived.Test.YtmmafcjjlbgnkaaGreatDoorProg
import Derived.WalkKit
import Derived.Deep.MidRow
import Derived.Lib.ItoaNum
import Derived.Laws.CopyRow
import Derived.Laws.Strings
import Derived.Laws.StructEq
import Derived.Shelf.Strings.Builder1
import Derived.Shelf.Strings.Builder2
import Derived.Shelf.Strings.OnBuilder
import Derived.Shelf.Small.Bits
import Derived.Shelf.Small.Strs
import Derived.Shelf.Small.Wraps
import Derived.Shelf.Strings.BuilderF
import Derived.Shelf.Utf8.RuneCount
import Derived.Shelf.Strconv.Atoi
import Derived.Shelf.Strconv.Itoa0
import Derived.Shelf.Strconv.Itoa1
import Derived.Shelf.LaysM
import Derived.Shelf.Strconv.Itoa2
import Derived.Shelf.Strconv.Itoa3
import Derived.Shelf.Strconv.AtoiErrFast
import Derived.Shelf.Strconv.ParseIntEmpty
import Derived.Shelf.Strconv.AtoiFail
import Derived.Shelf.Strconv.Clone
import Derived.Shelf.Strconv.SyntaxError
import Derived.Shelf.LaysC
import Derived.Shelf.Strconv.ToError
import Derived.Shelf.Strconv.Lower
import Derived.Shelf.Strconv.ParseUint10
import Derived.Shelf.Strconv.ParseUint10Empty
import Derived.Shelf.Strconv.ParseUint10Any
import Derived.Shelf.Strconv.ParseInt10
import Derived.Shelf.Strconv.AtoiLong
import Derived.Shelf.Strconv.AtoiInnerAll
import Derived.Shelf.Strconv.RangeError
import Derived.Shelf.Strconv.ToErrorRange
import Derived.Shelf.Strconv.AtoiAll
import Derived.Shelf.Strings.Search1
import Derived.Shelf.Strings.Search2
import Derived.Shelf.Strings.Search3
import Derived.Shelf.Strings.Count
import Derived.Shelf.Strings.Shaped
import Derived.Shelf.Strings.Prefix
import Derived.Shelf.Strings.Split
import Derived.Shelf.Strings.SplitShaped
import Derived.Shelf.Unicode.Decode
import Derived.Shelf.Strings.RuneCount
import Derived.Shelf.Strings.Explode
import Derived.Shelf.Unicode.DecodeSlow
import Derived.Shelf.Unicode.DecodeAny
import Derived.Ground.Names2Prog
import Derived.Shelf.Slices.CompactI
import Derived.Shelf.Slices.SearchI
import Derived.Shelf.Slices.Cells
import Derived.Ground.SlgnProg
import Derived.Shelf.SlicesE.Compact
import Derived.Ground.SlgmProg
import Derived.Shelf.SortM.Plain
import Derived.Shelf.SortM.SortNone
import Derived.Lib.Join
import Derived.WalkSpells
import Derived.WalkLawsBesides
import Derived.Deep.QuietTactic
import Derived.BigQuiet
import Derived.Deep.RegionWith
import Derived.Deep.DeepCutAuto
import Derived.Deep.RegionHeld3
import Derived.Lib.Hide
import Derived.Maps.Keyed
import Derived.Maps.RangeRun
import Derived.Maps.Own
import Derived.WideLaws
import Derived.DeepKeys4
import Derived.Lib.TrimByte
import Derived.Lib.SplitLaws
import Derived.Lib.IndexBytes
import Derived.Sort.Walk0
import Derived.Lib.AtoiAll
import Derived.Maps.AppendAt
import Derived.Lib.OwnBridge
import Derived.Lib.SlKeysI
import Derived.Lib.RowBridge
import Derived.Sort.OwnSorted
import Derived.ProofKit
import Derived.OpenShut
import Derived.ShutString
import Derived.ChangeOld
import Derived.Below
import Derived.Lib.SmallJoins
import Derived.Lib.LaidTab
import Derived.HandedShaped
import Derived.Shelf.Vars
import Derived.LaidLaws
import Derived.Lay
import Derived.LaidMore
import Derived.Stop.Joined
namespace Go.Proofs.YtmmafcjjlbgnkaaGreatDoor
open Go.RowKit
open Nat renaming reduceEqDiff→Rq,reduceBEq→Rb,reduceAdd→Ra,reduceSub→Rs
open Int renaming reduceToNat→Rt
set_option linter.all false
set_option maxHeartbeats 32000000
noncomputable section
theorem sr{G:Prop}(h:G:=by simp(disch:=(first|omega|(simp only[push_cast];first|done|omega))) only[push_cast,↓reduceIte,Rq,Rb,Ra,Rs,Rt, *]<;>with_reducible exact rfl):G:=h
structure Wk (p:Prop):Prop where
 out:p
theorem wlk {G H:Prop} (h:H) (hw:Wk H→G:=by
 intro hq9;(repeat' (first|(with_reducible first|apply rJ|apply gQ|apply jP|apply jQ|apply rP|apply ah9|apply rG|apply qP|apply ahE|apply qU|apply qV|apply ag7|apply qH|apply qj|apply rA)|((with_reducible apply eY);(simp only[List.map_cons,List.map_nil]<;>exact rfl))|((with_reducible apply jM);(simp only[List.map_cons,List.map_nil]<;>exact rfl);decide+kernel)|((with_reducible apply rE);rfl)|((first|((with_reducible apply i_V);rfl;rfl;rfl)|((first|((with_reducible apply i_E);rfl)|((with_reducible apply i_S);rfl));first|rfl|(simp only[push_cast,↓reduceIte]))|((with_reducible apply agG);rfl;rfl)|((with_reducible apply agc);rfl;rfl;rfl)|(with_reducible first|apply ahp|apply jR));(simp(disch:=(first|omega|(simp only[push_cast];first|done|omega))) only[push_cast,↓reduceIte,Rq,Rb,Ra,Rs,Rt, *]<;>with_reducible exact rfl);all_goals try(first|(with_reducible first|refine hyT ?_|refine hyF ?_|exact hyA|exact hyB)|(intro hX;first|(cases hX;done)|((try simp only[decide_eq_true_eq,decide_eq_false_iff_not,Bool.not_eq_true',Bool.not_eq_false']at hX);(try have hXb:=aD.1 hX)))))));all_goals try(exfalso;omega)
 (repeat first|revert hXb|revert hX);exact hq9.out):G:=hw ⟨h⟩
theorem wlkX {G H:Prop} (h:H) (hw:Wk H→G:=by
 intro hq9
 repeat' (first|(with_reducible first|apply rJ|apply gQ|apply jP|apply jQ|apply rP|apply ah9|apply rG|apply qP|apply ahE|apply qU|apply qV|apply ag7|apply qH|apply qj|apply rA)|((with_reducible apply eY);(simp only[List.map_cons,List.map_nil]<;>exact rfl))|((with_reducible apply jM);(simp only[List.map_cons,List.map_nil]<;>exact rfl);decide+kernel)|((with_reducible apply rE);rfl)|((first|((with_reducible apply i_V);rfl;rfl;rfl)|((first|((with_reducible apply i_E);rfl)|((with_reducible apply i_S);rfl));first|rfl|(simp only[push_cast,↓reduceIte]))|((with_reducible apply agG);rfl;rfl)|((with_reducible apply agc);rfl;rfl;rfl)|(with_reducible first|apply ahp|apply jR));(simp(disch:=(first|omega|(simp only[push_cast];first|done|omega))) only[push_cast,↓reduceIte,Rq,Rb,Ra,Rs,Rt, *]<;>with_reducible exact rfl);all_goals try(first|(with_reducible first|refine hyT ?_|refine hyF ?_|exact hyA|exact hyB)|(intro hX;first|(cases hX;done)|((try simp only[decide_eq_true_eq,decide_eq_false_iff_not,Bool.not_eq_true',Bool.not_eq_false']at hX);(try have hXb:=aD.1 hX))))))
 (repeat first|revert hXb|revert hX);exact hq9.out):G:=hw ⟨h⟩
theorem dm1 {G:Prop} (a:G) (_:True):G:=a
theorem dm6 {G:Prop} (a:G) (_:True) (_:True) (_:True) (_:True) (_:True) (_:True):G:=a
theorem wlk6 {G H1 H2 H3 H4 H5 H6:Prop} (h1:H1) (h2:H2) (h3:H3) (h4:H4) (h5:H5) (h6:H6) (hw:Wk H1→Wk H2→Wk H3→Wk H4→Wk H5→Wk H6→G:=by
 intro q1 q2 q3 q4 q5 q6;refine dm6 ?_ ?_ ?_ ?_ ?_ ?_ ?_;focus
  (repeat' (first|(with_reducible first|apply rJ|apply gQ|apply jP|apply jQ|apply rP|apply ah9|apply rG|apply qP|apply ahE|apply qU|apply qV|apply ag7|apply qH|apply qj|apply rA)|((with_reducible apply eY);(simp only[List.map_cons,List.map_nil]<;>exact rfl))|((with_reducible apply jM);(simp only[List.map_cons,List.map_nil]<;>exact rfl);decide+kernel)|((with_reducible apply rE);rfl)|((first|((with_reducible apply i_V);rfl;rfl;rfl)|((first|((with_reducible apply i_E);rfl)|((with_reducible apply i_S);rfl));first|rfl|(simp only[push_cast,↓reduceIte]))|((with_reducible apply agG);rfl;rfl)|((with_reducible apply agc);rfl;rfl;rfl)|(with_reducible first|apply ahp|apply jR));(simp(disch:=(first|omega|(simp only[push_cast];first|done|omega))) only[push_cast,↓reduceIte,Rq,Rb,Ra,Rs,Rt, *]<;>with_reducible exact rfl);all_goals try(first|(with_reducible first|refine hyT ?_|refine hyF ?_|exact hyA|exact hyB)|(intro hX;first|(cases hX;done)|((try simp only[decide_eq_true_eq,decide_eq_false_iff_not,Bool.not_eq_true',Bool.not_eq_false']at hX);(try have hXb:=aD.1 hX)))))));all_goals try(exfalso;omega)
  all_goals(repeat first|revert hXb|revert hX)
  all_goals first|(with_reducible exact q1.out)|(with_reducible exact q2.out)|(with_reducible exact q3.out)|(with_reducible exact q4.out)|(with_reducible exact q5.out)|(with_reducible exact q6.out)
 ·first|(with_reducible exact q1.out)|trivial
 ·first|(with_reducible exact q2.out)|trivial
 ·first|(with_reducible exact q3.out)|trivial
 ·first|(with_reducible exact q4.out)|trivial
 ·first|(with_reducible exact q5.out)|trivial
 ·first|(with_reducible exact q6.out)|trivial):G:=hw ⟨h1⟩ ⟨h2⟩ ⟨h3⟩ ⟨h4⟩ ⟨h5⟩ ⟨h6⟩
theorem wlkX6 {G H1 H2 H3 H4 H5 H6:Prop} (h1:H1) (h2:H2) (h3:H3) (h4:H4) (h5:H5) (h6:H6) (hw:Wk H1→Wk H2→Wk H3→Wk H4→Wk H5→Wk H6→G:=by
 intro q1 q2 q3 q4 q5 q6;refine dm6 ?_ ?_ ?_ ?_ ?_ ?_ ?_;focus
  repeat' (first|(with_reducible first|apply rJ|apply gQ|apply jP|apply jQ|apply rP|apply ah9|apply rG|apply qP|apply ahE|apply qU|apply qV|apply ag7|apply qH|apply qj|apply rA)|((with_reducible apply eY);(simp only[List.map_cons,List.map_nil]<;>exact rfl))|((with_reducible apply jM);(simp only[List.map_cons,List.map_nil]<;>exact rfl);decide+kernel)|((with_reducible apply rE);rfl)|((first|((with_reducible apply i_V);rfl;rfl;rfl)|((first|((with_reducible apply i_E);rfl)|((with_reducible apply i_S);rfl));first|rfl|(simp only[push_cast,↓reduceIte]))|((with_reducible apply agG);rfl;rfl)|((with_reducible apply agc);rfl;rfl;rfl)|(with_reducible first|apply ahp|apply jR));(simp(disch:=(first|omega|(simp only[push_cast];first|done|omega))) only[push_cast,↓reduceIte,Rq,Rb,Ra,Rs,Rt, *]<;>with_reducible exact rfl);all_goals try(first|(with_reducible first|refine hyT ?_|refine hyF ?_|exact hyA|exact hyB)|(intro hX;first|(cases hX;done)|((try simp only[decide_eq_true_eq,decide_eq_false_iff_not,Bool.not_eq_true',Bool.not_eq_false']at hX);(try have hXb:=aD.1 hX))))))
  all_goals(repeat first|revert hXb|revert hX)
  all_goals first|(with_reducible exact q1.out)|(with_reducible exact q2.out)|(with_reducible exact q3.out)|(with_reducible exact q4.out)|(with_reducible exact q5.out)|(with_reducible exact q6.out)
 ·first|(with_reducible exact q1.out)|trivial
 ·first|(with_reducible exact q2.out)|trivial
 ·first|(with_reducible exact q3.out)|trivial
 ·first|(with_reducible exact q4.out)|trivial
 ·first|(with_reducible exact q5.out)|trivial
 ·first|(with_reducible exact q6.out)|trivial):G:=hw ⟨h1⟩ ⟨h2⟩ ⟨h3⟩ ⟨h4⟩ ⟨h5⟩ ⟨h6⟩
theorem wlkF {G:Prop} (h:G:=by
 (repeat' (first|(with_reducible first|apply rJ|apply gQ|apply jP|apply jQ|apply rP|apply ah9|apply rG|apply qP|apply ahE|apply qU|apply qV|apply ag7|apply qH|apply qj|apply rA)|((with_reducible apply eY);(simp only[List.map_cons,List.map_nil]<;>exact rfl))|((with_reducible apply jM);(simp only[List.map_cons,List.map_nil]<;>exact rfl);decide+kernel)|((with_reducible apply rE);rfl)|((first|((with_reducible apply i_V);rfl;rfl;rfl)|((first|((with_reducible apply i_E);rfl)|((with_reducible apply i_S);rfl));first|rfl|(simp only[push_cast,↓reduceIte]))|((with_reducible apply agG);rfl;rfl)|((with_reducible apply agc);rfl;rfl;rfl)|(with_reducible first|apply ahp|apply jR));(simp(disch:=(first|omega|(simp only[push_cast];first|done|omega))) only[push_cast,↓reduceIte,Rq,Rb,Ra,Rs,Rt, *]<;>with_reducible exact rfl);all_goals try(first|(with_reducible first|refine hyT ?_|refine hyF ?_|exact hyA|exact hyB)|(intro hX;first|(cases hX;done)|((try simp only[decide_eq_true_eq,decide_eq_false_iff_not,Bool.not_eq_true',Bool.not_eq_false']at hX);(try have hXb:=aD.1 hX)))))));all_goals try(exfalso;omega)
 all_goals((first|apply ad8|apply zW);simp(disch:=(first|omega|(simp only[push_cast];first|done|omega))) only[push_cast,↓reduceIte,Rq,Rb,Ra,Rs,Rt, *])):G:=h
theorem wlkS {G:Prop} (h:G:=by
 (repeat' (first|(with_reducible first|apply rJ|apply gQ|apply jP|apply jQ|apply rP|apply ah9|apply rG|apply qP|apply ahE|apply qU|apply qV|apply ag7|apply qH|apply qj|apply rA)|((with_reducible apply eY);(simp only[List.map_cons,List.map_nil]<;>exact rfl))|((with_reducible apply jM);(simp only[List.map_cons,List.map_nil]<;>exact rfl);decide+kernel)|((with_reducible apply rE);rfl)|((first|((with_reducible apply i_V);rfl;rfl;rfl)|((first|((with_reducible apply i_E);rfl)|((with_reducible apply i_S);rfl));first|rfl|(simp only[push_cast,↓reduceIte]))|((with_reducible apply agG);rfl;rfl)|((with_reducible apply agc);rfl;rfl;rfl)|(with_reducible first|apply ahp|apply jR));(simp(disch:=(first|omega|(simp only[push_cast];first|done|omega))) only[push_cast,↓reduceIte,Rq,Rb,Ra,Rs,Rt, *]<;>with_reducible exact rfl);all_goals try(first|(with_reducible first|refine hyT ?_|refine hyF ?_|exact hyA|exact hyB)|(intro hX;first|(cases hX;done)|((try simp only[decide_eq_true_eq,decide_eq_false_iff_not,Bool.not_eq_true',Bool.not_eq_false']at hX);(try have hXb:=aD.1 hX)))))));all_goals try(exfalso;omega)
 all_goals(first|(exfalso;omega)|((first|apply ad8|apply zW);simp(disch:=(first|omega|(simp only[push_cast];first|done|omega))) only[push_cast,↓reduceIte,Rq,Rb,Ra,Rs,Rt, *])|skip)):G:=h
theorem fnF {G:Prop} (h:G:=by((first|apply ad8|apply zW);simp(disch:=(first|omega|(simp only[push_cast];first|done|omega))) only[push_cast,↓reduceIte,Rq,Rb,Ra,Rs,Rt, *])):G:=h
theorem fnG {G H:Prop} (h:H) (hw:Wk H→G:=by
 intro hq9;refine dm1 ?_ ?_;focus
  ((first|apply ad8|apply zW);simp(disch:=(first|omega|(simp only[push_cast];first|done|omega))) only[push_cast,↓reduceIte,Rq,Rb,Ra,Rs,Rt, *]);all_goals exact hq9.out
 ·first|(with_reducible exact hq9.out)|trivial):G:=hw ⟨h⟩
theorem agi {G:Prop} (h:G:=by (simp(disch:=(first|omega|(simp only[push_cast];first|done|omega))) only[push_cast,↓reduceIte,Rq,Rb,Ra,Rs,Rt,List.length_append, *];try exact congrArg (fun z=>PV.val (Value.int IntKind.i64 z)) (by omega))):G:=h
theorem agr {G:Prop} (h:G:=by simp(disch:=(first|omega|(simp only[push_cast];first|done|omega))) only[push_cast,↓reduceIte,Rq,Rb,Ra,Rs,Rt,List.length_append, *]):G:=h
section
inductive PV where
 |val (v:Value)
 |dead
 |lst (k:Bool) (sz:Nat) (es:List PV)
 |ptr (k:Bool) (e:PV) (o:Nat)
 |own (o sz i f:Nat)
 |row (o sz i n:Nat)
 |agg (cs:List PV)
 |tup (vs:List PV)
 deriving Inhabited
structure Gh where
 I:Bool→Nat→Prop
 β:Nat→Nat
 κ:Nat→Nat
 nx:Nat
 hole:Nat→Prop:=fun _=>False
def Gh.D (g:Gh) (o:Nat):Prop:=o<g.nx∧¬g.hole o
def lI (w:World) (b off:Nat) (u:Value):Prop:=
 u.cells.all (·.oneCell')=true∧∀j,j<u.cells.size→w.cell? ⟨b,off+j,none⟩=u.cells[j]?
mutual
def Rep (g:Gh) (w:World):PV→Value→Prop
 | .val u,v=>v=u
 | .dead,_=>True
 | .lst k sz es,v=>∃a cap,v=.slice a es.length cap∧es.length≤cap∧cap≤9223372036854775807∧(es=[]∨∃b off,a=some ⟨b,off,none⟩∧g.I k b∧bB g w sz es b off)
 | .ptr k e o,v=>∃b off,v=.pointer (some ⟨b,off+o,none⟩)∧g.I k b∧∃u,Rep g w e u∧lI w b off u
 | .own o sz i f,v=>v=.pointer (some ⟨g.β o,i*sz+f,none⟩)∧g.D o
 | .row o sz i n,v=>∃c,v=.slice (some ⟨g.β o,i*sz,none⟩) n c∧n≤c∧c≤9223372036854775807∧(i+c)*sz≤g.κ o∧g.D o
 | .agg cs,v=>∃vs,v=.agg vs∧bL g w cs vs.toList
 | .tup cs,v=>∃vs,v=.tuple vs∧bL g w cs vs.toList
def bB (g:Gh) (w:World) (sz:Nat):List PV→Nat→Nat→Prop
 |[],_,_=>True
 |e::es,b,off=>(∃u,Rep g w e u∧lI w b off u∧u.cells.size=sz)∧bB g w sz es b (off+sz)
def bL (g:Gh) (w:World):List PV→List Value→Prop
 |[],vs=>vs=[]
 |c::cs,vs=>∃v vs',vs=v::vs'∧Rep g w c v∧bL g w cs vs'
end
structure Gh.le (g g':Gh):Prop where
 I:∀k b,g.I k b→g'.I k b
 D:∀o,g.D o→g'.D o
 β:∀o,g.D o→g'.β o=g.β o
 κ:∀o,g.D o→g'.κ o=g.κ o
theorem lI.same {w w':World} {b off:Nat} {u:Value} (h:lI w b off u) (hb:w'.heap[b]?=w.heap[b]?):lI w' b off u:=
 ⟨h.1,fun j hj=>by rw[World.cell?_of_block (w:=w) (a:=⟨b,off+j,none⟩) hb];exact h.2 j hj⟩
mutual
theorem Rep.mono {g g':Gh} {w w':World} (hg:g.le g') (hw:∀k b,g.I k b→w'.heap[b]?=w.heap[b]?):∀(p:PV) (v:Value),Rep g w p v→Rep g' w' p v
 | .val u,v,h=>by simpa [Rep]using h
 | .dead,v,h=>by simp[Rep]
 | .lst k sz es,v,h=>by simp only[Rep]at h⊢;obtain⟨a,cap,h1,h2,h3,h4⟩:=h;refine⟨a,cap,h1,h2,h3,h4.imp id ?_⟩;rintro⟨b,off,h5,h6,h7⟩;exact⟨b,off,h5,hg.I _ _ h6,bB.mono hg hw sz es b off (hw _ _ h6) h7⟩
 | .ptr k e o,v,h=>by simp only[Rep]at h⊢;obtain⟨b,off,h1,h2,u,h3,h4⟩:=h;exact⟨b,off,h1,hg.I _ _ h2,u,Rep.mono hg hw e u h3,h4.same (hw _ _ h2)⟩
 | .own o sz i f,v,h=>by simp only[Rep]at h⊢;rw[hg.β o h.2];exact⟨h.1,hg.D o h.2⟩
 | .row o sz i n,v,h=>by simp only[Rep]at h⊢;obtain⟨c,h1,h2,h3,h4,h5⟩:=h;exact⟨c,by rw[hg.β o h5];exact h1,h2,h3,by rw[hg.κ o h5];exact h4,hg.D o h5⟩
 | .agg cs,v,h=>by simp only[Rep]at h⊢;obtain⟨vs,h1,h2⟩:=h;exact⟨vs,h1,bL.mono hg hw cs _ h2⟩
 | .tup cs,v,h=>by simp only[Rep]at h⊢;obtain⟨vs,h1,h2⟩:=h;exact⟨vs,h1,bL.mono hg hw cs _ h2⟩
theorem bB.mono {g g':Gh} {w w':World} (hg:g.le g') (hw:∀k b,g.I k b→w'.heap[b]?=w.heap[b]?) (sz:Nat):∀(es:List PV) (b off:Nat),w'.heap[b]?=w.heap[b]?→bB g w sz es b off→bB g' w' sz es b off
 |[],b,off,hb,h=>by simp[bB]
 |e::es,b,off,hb,h=>by simp only[bB]at h⊢;obtain⟨⟨u,h1,h2,h3⟩,h4⟩:=h;exact⟨⟨u,Rep.mono hg hw e u h1,h2.same hb,h3⟩,bB.mono hg hw sz es b (off+sz) hb h4⟩
theorem bL.mono {g g':Gh} {w w':World} (hg:g.le g') (hw:∀k b,g.I k b→w'.heap[b]?=w.heap[b]?):∀(cs:List PV) (vs:List Value),bL g w cs vs→bL g' w' cs vs
 |[],vs,h=>by simpa [bL]using h
 |c::cs,vs,h=>by simp only[bL]at h⊢;obtain⟨v,vs',h1,h2,h3⟩:=h;exact⟨v,vs',h1,Rep.mono hg hw c v h2,bL.mono hg hw cs vs' h3⟩
end
theorem bB.get {g:Gh} {w:World} {sz:Nat}:∀{es:List PV} {b off i:Nat} {e:PV},bB g w sz es b off→es[i]?=some e→∃u,Rep g w e u∧lI w b (off+i*sz) u∧u.cells.size=sz
 |[],b,off,i,e,h,he=>by simp at he
 |x::es,b,off,0,e,h,he=>by simp only[bB]at h;simp only[List.getElem?_cons_zero,Option.some.injEq]at he;subst he;simpa using h.1
 |x::es,b,off,i+1,e,h,he=>by simp only[bB]at h;simp only[List.getElem?_cons_succ]at he;obtain⟨u,h1,h2,h3⟩:=bB.get h.2 he;exact⟨u,h1,by rw[show off+(i+1)*sz=off+sz+i*sz by rw[Nat.add_mul];omega];exact h2,h3⟩
theorem bB.of {g:Gh} {w:World} {sz:Nat}:∀{es:List PV} {b off:Nat},(∀i e,es[i]?=some e→∃u,Rep g w e u∧lI w b (off+i*sz) u∧u.cells.size=sz)→bB g w sz es b off
 |[],b,off,h=>by simp[bB]
 |x::es,b,off,h=>by simp only[bB];refine⟨by simpa using h 0 x (by simp),bB.of fun i e he=>?_⟩;obtain⟨u,h1,h2,h3⟩:=h (i+1) e (by simpa using he);exact⟨u,h1,by rw[show off+sz+i*sz=off+(i+1)*sz by rw[Nat.add_mul];omega];exact h2,h3⟩
theorem bB.drop {g:Gh} {w:World} {sz:Nat} {es:List PV} {b off:Nat} (h:bB g w sz es b off) (k:Nat):bB g w sz (es.drop k) b (off+k*sz):=
 bB.of fun i e he=>by obtain⟨u,h1,h2,h3⟩:=h.get (i:=k+i) (by simpa using he);exact⟨u,h1,by rw[show off+k*sz+i*sz=off+(k+i)*sz by rw[Nat.add_mul];omega];exact h2,h3⟩
theorem bB.take {g:Gh} {w:World} {sz:Nat} {es:List PV} {b off:Nat} (h:bB g w sz es b off) (k:Nat):bB g w sz (es.take k) b off:=
 bB.of fun i e he=>h.get (by
  rw[List.getElem?_take]at he;split at he
  ·exact he
  ·cases he)
theorem bL.get {g:Gh} {w:World}:∀{cs:List PV} {vs:List Value},bL g w cs vs→vs.length=cs.length∧∀(i:Nat) c,cs[i]?=some c→∃v,vs[i]?=some v∧Rep g w c v
 |[],vs,h=>by simp only[bL]at h;subst h;simp
 |c::cs,vs,h=>by
  simp only[bL]at h;obtain⟨v,vs',rfl,h1,h2⟩:=h;have ih:=h2.get;refine⟨by simpa using ih.1,fun i c' hc=>?_⟩;cases i with
  |zero=>simp only[List.getElem?_cons_zero,Option.some.injEq]at hc;subst hc;exact⟨v,by simp,h1⟩
  |succ i=>simpa using ih.2 i c' (by simpa using hc)
theorem bL.of {g:Gh} {w:World}:∀{cs:List PV} {vs:List Value},vs.length=cs.length→(∀(i:Nat) c,cs[i]?=some c→∃v,vs[i]?=some v∧Rep g w c v)→bL g w cs vs
 |[],vs,h,_=>by simpa [bL]using h
 |c::cs,vs,h,hi=>by
  cases vs with
  |nil=>simp at h
  |cons v vs'=>simp only[bL];refine⟨v,vs',rfl,?_,bL.of (by simpa using h) fun i c' hc=>by simpa using hi (i+1) c' (by simpa using hc)⟩;obtain⟨v',h1,h2⟩:=hi 0 c (by simp);simp only[List.getElem?_cons_zero,Option.some.injEq]at h1;subst h1;exact h2
structure AS where
 tm:Nat→PV
 ob:Nat→Option (Nat×Nat×List PV)
 nx:Nat
def upd {α:Type} (f:Nat→α) (d:Nat) (v:α):Nat→α:=fun t=>if t=d then v else f t
theorem upd_same {α:Type} (f:Nat→α) (d:Nat) (v:α):upd f d v d=v:=by simp[upd]
theorem upd_ne {α:Type} (f:Nat→α) (d:Nat) (v:α) {t:Nat} (h:t≠d):upd f d v t=f t:=by simp[upd,h]
def AS.put (s:AS) (d:Option Nat) (v:PV):AS:=
 match d with
 |some d=>{s with tm:=upd s.tm d v}
 |none=>s
structure Fr (io:Nat→Prop) (w0 w:World):Prop where
 os:w.os=w0.os
 tape:w.tape=w0.tape
 output:w.output=w0.output
 size:w0.heap.size≤w.heap.size
 block:∀b,b<w0.heap.size→¬io b→w.heap[b]?=w0.heap[b]?
theorem Fr.refl (io:Nat→Prop) (w:World):Fr io w w:=⟨rfl,rfl,rfl,Nat.le_refl _,fun _ _ _=>rfl⟩
theorem Fr.below {io:Nat→Prop} {w0 w w':World} (h:Fr io w0 w) (k:Below w.heap.size w w'):Fr io w0 w':=
 ⟨k.os.trans h.os,k.tape.trans h.tape,k.output.trans h.output,Nat.le_trans h.size k.size,fun b hb hi=>(k.block b (Nat.lt_of_lt_of_le hb h.size)).trans (h.block b hb hi)⟩
def tabs:List (Nat×Array Value):=[(1,(Lib.pow10Tab.map fun z=>Value.int .u64 z).toArray)]
def gls:List (Nat×Bool):=[]
def tks:List Nat:=tabs.map (·.1)++gls.map (·.1)
structure kr (w:World) (io:Nat→Prop):Prop where
 at_:∀t∈tabs,∃T k,w.heap[t.1]?=some (.cells t.2 T k)
 vars:∀g∈gls,∃v,w.cell? ⟨g.1,0,none⟩=some v∧(g.2=true→∃m,v=.int .i64 m)∧(g.2=false→∃t u,v=.iface t u)
 apart:∀b∈tks,¬io b
theorem kr.lt {w:World} {io:Nat→Prop} (h:kr w io) (b:Nat) (hb:b∈tks):b<w.heap.size:=by
 rcases List.mem_append.1 hb with hb|hb
 ·obtain⟨t,ht,rfl⟩:=List.mem_map.1 hb
  obtain⟨T,k,h1⟩:=h.at_ t ht;exact(Array.getElem?_eq_some_iff.1 h1).1
 ·obtain⟨g,hg,rfl⟩:=List.mem_map.1 hb
  obtain⟨v,h1,_⟩:=h.vars g hg;exact World.block_lt_of_cell? w _ h1
theorem kr.keep {w0 w:World} {io io':Nat→Prop} (h:kr w0 io) (hf:Fr io w0 w) (h':∀b∈tks,¬io' b):kr w io':=
 ⟨fun t ht=>by
   have hb:t.1∈tks:=List.mem_append.2 (.inl (List.mem_map.2 ⟨t,ht,rfl⟩));rw[hf.block _ (h.lt _ hb) (h.apart _ hb)];exact h.at_ t ht,fun g hg=>by
   have hb:g.1∈tks:=List.mem_append.2 (.inr (List.mem_map.2 ⟨g,hg,rfl⟩));obtain⟨v,h1,h2⟩:=h.vars g hg;refine⟨v,?_,h2⟩;rw[World.cell?_of_block (w:=w0) (a:=⟨g.1,0,none⟩) (hf.block _ (h.lt _ hb) (h.apart _ hb))];exact h1,h'⟩
theorem kr.io {w:World} {io io':Nat→Prop} (h:kr w io) (h':∀b∈tks,¬io' b):kr w io':=⟨h.at_,h.vars,h'⟩
def pX (g:Gh) (w:World) (o:Nat) (c:Nat×Nat×List PV):Prop:=
 (∃arr,w.heap[g.β o]?=some (.cells arr c.1 (0,0))∧arr.size=g.κ o)∧c.2.2.length*c.2.1≤g.κ o∧bB g w c.2.1 c.2.2 (g.β o) 0
structure IoS where
 wr:Nat→Prop
 im:Nat→Prop
 m:Nat
 β0:Nat→Nat
 κ0:Nat→Nat
 it:Nat→Prop:=fun _=>False
 hole:Nat→Prop:=fun _=>False
instance:CoeFun IoS (fun _=>Nat→Prop):=⟨IoS.wr⟩
structure Rel (io:IoS) (w0:World) (N:Nat) (g:Gh) (s:AS) (a:Act) (w:World):Prop where
 nt:a.tmps.size=N
 df:a.defers=[]
 tm:∀t,Rep g w (s.tm t) (a.tmps.getD t undef)
 ob:∀o c,s.ob o=some c→g.D o∧(w0.heap.size≤g.β o∨io (g.β o))∧(∀k,¬g.I k (g.β o))∧pX g w o c
 inj:∀o o',(s.ob o).isSome→(s.ob o').isSome→g.β o=g.β o'→o=o'
 nx:g.nx=s.nx
 lt:∀k b,g.I k b→b<w.heap.size
 new:∀b,g.I true b→(w0.heap.size≤b∧¬io b)∨io.it b
 fr:Fr io.wr w0 w
 old:∀b,g.I false b→io.im b
 fix:(∀o,o<io.m→g.D o)∧∀o,o<io.m→g.β o=io.β0 o∧g.κ o=io.κ0 o
 hl:∀o,io.hole o→g.hole o∧o<g.nx
 tab:kr w0 io.wr
theorem lt_of_heap {w:World} {b:Nat} {o:Obj} (h:w.heap[b]?=some o):b<w.heap.size:=(Array.getElem?_eq_some_iff.1 h).1
def Gh.more (g:Gh) (n n':Nat):Gh:={g with I:=fun k b=>g.I k b∨(k=true∧n≤b∧b<n')}
theorem Gh.afo (g:Gh) (n n':Nat):g.le (g.more n n'):=⟨fun _ _ h=> .inl h,fun _ h=>h,fun _ _=>rfl,fun _ _=>rfl⟩
variable {io:IoS} {w0:World} {N:Nat} {g:Gh} {s:AS} {a:Act} {w w':World}
theorem pX.mono {g g':Gh} {w w':World} {o:Nat} {c:Nat×Nat×List PV} (h:pX g w o c) (hg:g.le g') (ho:g.D o) (hw:∀k b,g.I k b→w'.heap[b]?=w.heap[b]?) (hb:w'.heap[g.β o]?=w.heap[g.β o]?):pX g' w' o c:=by obtain⟨⟨arr,h1,h2⟩,h3,h4⟩:=h;refine⟨⟨arr,by rw[hg.β o ho,hb];exact h1,by rw[hg.κ o ho];exact h2⟩,by rw[hg.κ o ho];exact h3,?_⟩;rw[hg.β o ho];exact bB.mono hg hw _ _ _ _ hb h4
theorem Rel.grow (h:Rel io w0 N g s a w) (hb:Below w.heap.size w w') (hio:∀b,io b→b<w0.heap.size):Rel io w0 N (g.more w.heap.size w'.heap.size) s a w':=by
 have hw:∀k b,g.I k b→w'.heap[b]?=w.heap[b]?:=fun k b hi=>hb.block b (h.lt k b hi);have hle:=Gh.afo g w.heap.size w'.heap.size;refine⟨h.nt,h.df,fun t=>(h.tm t).mono hle hw,fun o c ho=>?_,h.inj,h.nx,?_,?_,h.fr.below hb,fun b hi=>h.old b (hi.resolve_right fun e=>by cases e.1),h.fix,h.hl,h.tab⟩
 ·obtain⟨h1,h2,h3,h4⟩:=h.ob o c ho
  obtain⟨arr,ha,_⟩:=h4.1;have hlt:=lt_of_heap ha;refine⟨h1,h2,?_,h4.mono hle h1 hw (hb.block _ hlt)⟩;rintro k (hk|⟨_,hk,_⟩)
  ·exact h3 k hk
  ·change w.heap.size≤g.β o at hk
   omega
 ·rintro k b (hi|⟨_,_,hi⟩)
  ·exact Nat.lt_of_lt_of_le (h.lt k b hi) hb.size
  ·exact hi
 ·rintro b (hi|⟨_,hi,_⟩)
  ·exact h.new b hi
  ·exact .inl ⟨Nat.le_trans h.fr.size hi,fun hb=>by have:=hio b hb;have:=h.fr.size;omega⟩
theorem arG {ts:Array Value} {d t:Nat} {v:Value} (hd:d<ts.size):(ts.setIfInBounds d v).getD t undef=if t=d then v else ts.getD t undef:=by
 by_cases h:t=d
 ·subst h
  simp[hd]
 ·have h':¬d=t:=fun e=>h e.symm
  simp[h,h']
theorem Rel.put (h:Rel io w0 N g s a w) {d:Option Nat} (hd:∀x,d=some x→x<N) {p:PV} {v:Value} (hv:Rep g w p v):Rel io w0 N g (s.put d p) (a.put d v) w:=by
 cases d with
 |none=>exact h
 |some d=>
  have hd':d<a.tmps.size:=h.nt▸hd d rfl;refine⟨by simpa [Act.put]using h.nt,h.df,fun t=>?_,h.ob,h.inj,h.nx,h.lt,h.new,h.fr,h.old,h.fix,h.hl,h.tab⟩;simp only[Act.put,AS.put,upd,arG hd'];split
  ·exact hv
  ·exact h.tm t
end
def aA {α:Type} (P:Program):Sem α→Option α
 | .pure a=>some a
 | .program k=>aA P (k P)
 |_=>none
theorem dW {α:Type} {P:Program} {m:Sem α} {x:α} (h:aA P m=some x) (w:World):m.run P w=.ok x w:=by
 induction m with
 |pure a=>simp only[aA,Option.some.injEq]at h;subst h;rfl
 |program k ih=>simp only[aA]at h;exact ih P h
 |_=>simp[aA]at h
def aY (P:Program) (t:Nat):Option Nat:=(P.info? t).map (·.size)
def jH (P:Program) (t:Nat):Option Bool:=(P.underlying t).map TypeDesc.isRow
def cZ (P:Program) (t:Nat):Option Nat:=match P.underlying t with|some (.slice e)=>some e|_=>none
def nX:PV→Bool
 | .val v=>v.oneCell'
 | .lst .. | .ptr .. | .own .. | .row .. =>true
 |_=>false
def bJ:PV→Option (List PV)
 | .agg cs=>if cs.all nX then some cs else none
 |p=>if nX p then some [p]else none
def iB:List PV→Option (List Value)
 |[]=>some []
 | .val v::cs=>(iB cs).map (v:: ·)
 |_::_=>none
def toVal:PV→Option Value
 | .val v=>some v
 | .agg cs=>(iB cs).map fun vs=> .agg vs.toArray
 |_=>none
def adT (P:Program) (t f:Nat) (e:PV):Option PV:=
 match bJ e,jH P t,aY P t with
 |some cs,some true,some k=>if f+k≤cs.length then some (.agg ((cs.drop f).take k))else none
 |some cs,some false,_=>cs[f]?
 |_,_,_=>none
section
variable {g:Gh} {w:World}
theorem abu:∀{p:PV} {v:Value},Rep g w p v→nX p=true→v.oneCell'=true
 | .val u,v,h,ho=>by simp only[Rep]at h;subst h;exact ho
 | .lst ..,v,h,ho=>by simp only[Rep]at h;obtain⟨a,cap,rfl,_⟩:=h;rfl
 | .ptr ..,v,h,ho=>by simp only[Rep]at h;obtain⟨b,off,rfl,_⟩:=h;rfl
 | .own ..,v,h,ho=>by simp only[Rep]at h;rw[h.1];rfl
 | .row ..,v,h,ho=>by simp only[Rep]at h;obtain⟨c,rfl,_⟩:=h;rfl
 | .dead,v,h,ho=>by simp[nX]at ho
 | .agg _,v,h,ho=>by simp[nX]at ho
 | .tup _,v,h,ho=>by simp[nX]at ho
theorem rz {v:Value} (h:v.oneCell'=true):v.cells=#[v]:=by cases v<;>first|rfl|(simp[Value.oneCell']at h)
theorem iE {p:PV} {v:Value} {cs:List PV} (h:Rep g w p v) (hc:bJ p=some cs):v.cells.all (·.oneCell')=true∧v.cells.size=cs.length∧bL g w cs v.cells.toList:=by
 by_cases ho:nX p=true
 ·have hv:=abu h ho
  have hcs:cs=[p]:=by cases p<;>simp_all [bJ,nX]
  subst hcs;rw[rz hv];exact⟨by simp[hv],rfl,by simp only[bL];exact⟨v,[],rfl,h,rfl⟩⟩
 ·cases p with
  |agg cs'=>
   simp only[bJ]at hc;split at hc
   case isFalse=>cases hc
   case isTrue hall=>
    cases hc;simp only[Rep]at h;obtain⟨vs,rfl,hl⟩:=h;have hg:=hl.get;refine⟨?_,by simpa [Value.cells]using hg.1,hl⟩;simp only[Value.cells,Array.all_eq_true_iff_forall_mem];intro x hx;obtain⟨i,hi,rfl⟩:=List.getElem_of_mem (Array.mem_toList_iff.2 hx);have hi':i<cs.length:=by rw[←hg.1];exact hi
    obtain⟨v,hv1,hv2⟩:=hg.2 i cs[i] (List.getElem?_eq_getElem hi');rw[List.getElem?_eq_getElem hi]at hv1;cases hv1;exact abu hv2 (by rw[List.all_eq_true]at hall;exact hall _ (List.getElem_mem hi'))
  |_=>simp_all [bJ,nX]
theorem zy:∀{cs:List PV} {vs us:List Value},bL g w cs vs→iB cs=some us→vs=us
 |[],vs,us,h,ht=>by simp only[bL]at h;simp only[iB,Option.some.injEq]at ht;rw[h,ht]
 | .val v::cs,vs,us,h,ht=>by simp only[bL,Rep]at h;obtain⟨_,vs',rfl,rfl,h2⟩:=h;simp only[iB,Option.map_eq_some_iff]at ht;obtain⟨us',h3,rfl⟩:=ht;rw[zy h2 h3]
 | .dead::cs,vs,us,h,ht=>by simp[iB]at ht
 | .lst .. ::cs,vs,us,h,ht=>by simp[iB]at ht
 | .ptr .. ::cs,vs,us,h,ht=>by simp[iB]at ht
 | .own .. ::cs,vs,us,h,ht=>by simp[iB]at ht
 | .row .. ::cs,vs,us,h,ht=>by simp[iB]at ht
 | .agg .. ::cs,vs,us,h,ht=>by simp[iB]at ht
 | .tup .. ::cs,vs,us,h,ht=>by simp[iB]at ht
theorem eu {p:PV} {v u:Value} (h:Rep g w p v) (ht:toVal p=some u):v=u:=by
 cases p with
 |val u'=>simp only[Rep]at h;simp only[toVal,Option.some.injEq]at ht;rw[h,ht]
 |agg cs=>simp only[Rep]at h;obtain⟨vs,rfl,h2⟩:=h;simp only[toVal,Option.map_eq_some_iff]at ht;obtain⟨us,h3,rfl⟩:=ht;rw[←zy h2 h3]
 |_=>simp[toVal]at ht
theorem bL.slice {cs:List PV} {vs:List Value} (h:bL g w cs vs) (f k:Nat):bL g w ((cs.drop f).take k) ((vs.drop f).take k):=by
 have hg:=h.get;refine bL.of (by simp[hg.1]) fun i c hc=>?_;rw[List.getElem?_take]at hc⊢;split at hc
 case isFalse=>cases hc
 case isTrue hi=>rw[if_pos hi];rw[List.getElem?_drop]at hc⊢;exact hg.2 _ _ hc
theorem iO {P:Program} {e p:PV} {u:Value} {b c f t:Nat} (hr:Rep g w e u) (hc:lI w b c u) (hs:adT P t f e=some p):
 ∃v,(Instr.loadAt t (.pointer (some ⟨b,c+f,none⟩))).run P w=.ok v w∧Rep g w p v:=by
 unfold adT at hs;split at hs
 ·rename_i cs k h1 h2 h3
  split at hs
  case isFalse=>cases hs
  case isTrue hle=>
   cases hs;obtain⟨h4,h5,h6⟩:=iE hr h1;unfold jH at h2;cases hu:P.underlying t with
   |none=>simp[hu]at h2
   |some d=>
    simp only[hu,Option.map_some,Option.some.injEq]at h2;have hlen:((u.cells.toList.drop f).take k).length=k:=by simp;omega
    refine⟨_,run_loadAt_mid w b (c+f) t ((u.cells.toList.drop f).take k) d ?_ hu h2 (by rw[hlen];exact h3),?_⟩
    ·intro j v hv
     rw[List.getElem?_take]at hv;split at hv
     case isFalse=>cases hv
     case isTrue hj=>rw[List.getElem?_drop]at hv;have:=hc.2 (f+j) (by omega);rw[Nat.add_assoc,this];simpa using hv
    ·simp only[Rep]
     exact⟨_,rfl,by simpa using h6.slice f k⟩
 ·rename_i cs h1 h2
  obtain⟨h4,h5,h6⟩:=iE hr h1;have hg:=h6.get;obtain⟨v,hv1,hv2⟩:=hg.2 f p hs;have hf:f<u.cells.size:=by have:=(List.getElem?_eq_some_iff.1 hs).1;omega
  have hcell:=hc.2 f hf;have hv1':u.cells[f]?=some v:=by simpa using hv1
  rw[hv1']at hcell;refine⟨v,?_,hv2⟩;unfold jH at h2;cases hu:P.underlying t with
  |none=>simp[hu]at h2
  |some d=>
   simp only[hu,Option.map_some,Option.some.injEq]at h2;have hagg:(isAgg t).run P w=.ok false w:=by unfold isAgg;rw[Sem.run_bind,run_underlying hu w];cases d<;>simp_all
   simp[Instr.loadAt,Instr.sureAddr,loadVar,Sem.run_bind,hagg,hcell]
 ·cases hs
end
def aV (P:Program) (t f:Nat):Option Nat:=
 match P.underlying t with
 |some (.struct fs)=>match fs[f]? with
  |some fd=>match aY P fd.type with
   |some (_+1)=>some fd.offset
   |_=>none
  |none=>none
 |_=>none
theorem wu {P:Program} {t f k:Nat} (h:aV P t f=some k) (b c:Nat) (w:World):
 (Instr.fieldAt t (.pointer (some ⟨b,c,none⟩)) f).run P w=.ok (.pointer (some ⟨b,c+k,none⟩)) w:=by
 unfold aV at h;split at h
 ·rename_i fs hu
  split at h
  ·rename_i fd hf
   split at h
   ·rename_i n hn
    cases h;unfold aY at hn;cases hi:P.info? fd.type with
    |none=>simp[hi]at hn
    |some i=>simp only[hi,Option.map_some,Option.some.injEq]at hn;have ha:(⟨b,c,none⟩:Addr).add fd.offset=⟨b,c+fd.offset,none⟩:=Addr.add_mid b c _;simp[Instr.fieldAt,Instr.sureAddr,Sem.run_bind,run_underlying hu w,hf,fieldPlace,sizeOf,typeInfo,hi,hn,ha]
   ·cases h
  ·cases h
 ·cases h
theorem mQ (off:Nat):∀(l:List Value) (k:Nat) (cs:Array Value),off+k+l.length≤cs.size→
 ((l.zipIdx k).foldl (fun(cs:Array Value) (p:Value×Nat)=>cs.setIfInBounds (off+p.2) p.1) cs).toList=cs.toList.take (off+k)++l++cs.toList.drop (off+k+l.length)
 |[],k,cs,h=>by simp
 |x::l,k,cs,h=>by
  simp only[List.length_cons]at h;simp only[List.zipIdx_cons,List.foldl_cons];rw[mQ off l (k+1) _ (by simp;omega)];apply List.ext_getElem?;intro i;simp only[Array.toList_setIfInBounds,List.append_assoc,List.cons_append,List.length_cons];have hlen:(cs.toList.take (off+k)).length=off+k:=by simp;omega
  have hlen2:((cs.toList.set (off+k) x).take (off+(k+1))).length=off+k+1:=by simp;omega
  by_cases h1:i<off+k
  ·rw[List.getElem?_append_left (by omega),List.getElem?_append_left (by omega)]
   simp[show i<off+(k+1) by omega,h1,show¬off+k=i by omega]
  ·by_cases h2:i=off+k
   ·subst h2
    rw[List.getElem?_append_left (by omega),List.getElem?_append_right (by omega),hlen];simp[List.getElem?_set,show off+k<cs.size by omega]
   ·have e1:∀(A B:List Value),A.length≤i→(A++B)[i]?=B[i-A.length]?:=fun A B hA=>List.getElem?_append_right hA
    rw[e1 _ _ (by rw[hlen2];omega),e1 (cs.toList.take (off+k)) _ (by rw[hlen];omega),hlen,hlen2];rw[show i-(off+k)=(i-(off+k+1))+1 by omega,List.getElem?_cons_succ];by_cases h3:i-(off+k+1)<l.length
    ·rw[List.getElem?_append_left h3,List.getElem?_append_left h3]
    ·rw[List.getElem?_append_right (by omega),List.getElem?_append_right (by omega)]
     simp only[List.getElem?_drop,List.getElem?_set];rw[if_neg (by omega)];congr 1;omega
def fM {α:Type} (l:List α) (off:Nat) (new:List α):List α:=l.take off++new++l.drop (off+new.length)
def kG (place:Nat→Option (Nat×Nat)) (cells:List PV):List (Nat×PV)→Option (List PV)
 |[]=>some cells
 |(i,v)::rest=>
  match place i,bJ v with
  |some (off,size),some cs=>if cs.length=size∧off+cs.length≤cells.length then kG place (fM cells off cs) rest else none
  |_,_=>none
section
variable {g:Gh} {w:World}
theorem bL.append {cs cs':List PV} {vs vs':List Value} (h:bL g w cs vs) (h':bL g w cs' vs'):bL g w (cs++cs') (vs++vs'):=by
 have a:=h.get;have b:=h'.get;refine bL.of (by simp[a.1,b.1]) fun i c hc=>?_;by_cases hi:i<cs.length
 ·rw[List.getElem?_append_left hi]at hc
  rw[List.getElem?_append_left (by omega)];exact a.2 i c hc
 ·rw[List.getElem?_append_right (by omega)]at hc
  rw[List.getElem?_append_right (by omega),a.1];exact b.2 _ c hc
theorem bL.drop {cs:List PV} {vs:List Value} (h:bL g w cs vs) (k:Nat):bL g w (cs.drop k) (vs.drop k):=by have a:=h.get;refine bL.of (by simp[a.1]) fun i c hc=>?_;rw[List.getElem?_drop]at hc⊢;exact a.2 _ c hc
theorem bL.take {cs:List PV} {vs:List Value} (h:bL g w cs vs) (k:Nat):bL g w (cs.take k) (vs.take k):=by have:=h.slice 0 k;simpa using this
theorem bL.fM {cs new:List PV} {vs nv:List Value} (h:bL g w cs vs) (hn:bL g w new nv) (off:Nat):bL g w (fM cs off new) (Proofs.YtmmafcjjlbgnkaaGreatDoor.fM vs off nv):=by unfold Proofs.YtmmafcjjlbgnkaaGreatDoor.fM;rw[hn.get.1];exact((h.take off).append hn).append (h.drop _)
def uT (g:Gh) (w:World):List (Nat×PV)→List (Nat×Value)→Prop
 |[],vs=>vs=[]
 |p::ps,vs=>∃v vs',vs=(p.1,v)::vs'∧Rep g w p.2 v∧uT g w ps vs'
theorem aa6 (place:Nat→Option (Nat×Nat)):∀{ps:List (Nat×PV)} {vs:List (Nat×Value)} {cells out:List PV} {us:Array Value},
 uT g w ps vs→bL g w cells us.toList→kG place cells ps=some out→∃us',Instr.fill place us vs=some us'∧bL g w out us'.toList
 |[],vs,cells,out,us,hp,hc,hf=>by simp only[uT]at hp;subst hp;simp only[kG,Option.some.injEq]at hf;subst hf;exact⟨us,by simp[Instr.fill],hc⟩
 |(i,p)::ps,vs,cells,out,us,hp,hc,hf=>by
  simp only[uT]at hp;obtain⟨v,vs',rfl,h1,h2⟩:=hp;simp only[kG]at hf;split at hf
  ·rename_i off size cs h3 h4
   split at hf
   case isFalse=>cases hf
   case isTrue hle=>
    obtain⟨h5,h6,h7⟩:=iE h1 h4;have hl:=hc.get.1;simp only[Array.length_toList]at hl;have hfold:=mQ off v.cells.toList 0 us (by simp;omega);have hst:(v.cells.zipIdx.foldl (fun cs (x:Value×Nat)=>cs.setIfInBounds (off+x.2) x.1) us).toList=Proofs.YtmmafcjjlbgnkaaGreatDoor.fM us.toList off v.cells.toList:=by rw[←Array.foldl_toList,Array.toList_zipIdx];simpa [Proofs.YtmmafcjjlbgnkaaGreatDoor.fM]using hfold
    obtain⟨us',h8,h9⟩:=aa6 place h2 (us:=v.cells.zipIdx.foldl (fun cs (x:Value×Nat)=>cs.setIfInBounds (off+x.2) x.1) us) (by rw[hst];exact hc.fM h7 off) hf;refine⟨us',?_,h9⟩;simp only[Instr.fill,h3];rw[if_neg (by simp;omega)];exact h8
  ·cases hf
end
def bZ (P:Program) (t:Nat):Option (Array (Nat×Nat)):=
 match P.underlying t with
 |some (.struct fs)=>aA P (fs.mapM fun f=>do pure (f.offset,←sizeOf f.type))
 |_=>none
def zeroOf (P:Program) (t:Nat):Option Value:=(P.info? t).bind (·.zero)
def yF (P:Program) (t:Nat):Option (Array (Nat×Nat)):=
 match P.underlying t with
 |some (.array n e)=>(aY P e).map fun s=>(Array.range n).map fun i=>(i*s,s)
 |_=>none
def dZ (P:Program) (t:Nat) (ps:List (Nat×PV)):Option PV:=
 match zeroOf P t,bZ P t with
 |some z,some pl=>(kG (pl[·]?) (z.cells.toList.map PV.val) ps).map .agg
 |some z,none=>match yF P t with
  |some pl=>(kG (pl[·]?) (z.cells.toList.map PV.val) ps).map .agg
  |none=>none
 |_,_=>none
theorem adD {pl pl':Nat→Option (Nat×Nat)} (h:∀i x,pl i=some x→pl' i=some x):∀(l:List (Nat×Value)) (cs us:Array Value),Instr.fill pl cs l=some us→Instr.fill pl' cs l=some us
 |[],cs,us,hf=>hf
 |(i,v)::l,cs,us,hf=>by
  unfold Instr.fill at hf⊢;cases hp:pl i with
  |none=>rw[hp]at hf;cases hf
  |some x=>
   obtain⟨off,size⟩:=x;rw[hp]at hf;rw[h i _ hp];dsimp only at hf⊢;split at hf
   ·cases hf
   ·rename_i hc
    rw[if_neg hc];exact adD h l _ _ hf
theorem bL.vals {g:Gh} {w:World}:∀(vs:List Value),bL g w (vs.map PV.val) vs
 |[]=>by simp[bL]
 |v::vs=>by simp only[List.map_cons,bL,Rep];exact⟨v,vs,rfl,rfl,bL.vals vs⟩
theorem l7 {P:Program} {t:Nat} {z:Value} (h:zeroOf P t=some z) (w:World):(zeroValue t).run P w=.ok z w:=by
 unfold zeroOf at h;cases hi:P.info? t with
 |none=>simp[hi]at h
 |some i=>simp only[hi,Option.bind_some]at h;simp[zeroValue,typeInfo,hi,h]
theorem dF {P:Program} {t k:Nat} (h:aY P t=some k) (w:World):(sizeOf t).run P w=.ok k w:=by
 unfold aY at h;cases hi:P.info? t with
 |none=>simp[hi]at h
 |some i=>simp only[hi,Option.map_some,Option.some.injEq]at h;simp[sizeOf,typeInfo,hi,h]
theorem run_build {P:Program} {g:Gh} {w:World} {t:Nat} {ps:List (Nat×PV)} {vs:Array (Nat×Value)} {p:PV} (hp:uT g w ps vs.toList) (h:dZ P t ps=some p):
 ∃v,(Instr.build t vs).run P w=.ok v w∧Rep g w p v:=by
 unfold dZ at h;split at h
 ·rename_i z pl h1 h2
  simp only[Option.map_eq_some_iff]at h;obtain⟨out,h3,rfl⟩:=h;obtain⟨us',h4,h5⟩:=aa6 _ hp (us:=z.cells) (bL.vals _) h3;unfold bZ at h2;split at h2
  ·rename_i fs hu
   refine⟨.agg us',?_,by simp only[Rep];exact⟨us',rfl,h5⟩⟩;simp only[Instr.build,Sem.run_bind,l7 h1,Result.andThen_ok,run_underlying hu w,dW h2 w,h4];rfl
  ·cases h2
 ·rename_i z h1 h2
  split at h
  ·rename_i pl h6
   simp only[Option.map_eq_some_iff]at h;obtain⟨out,h3,rfl⟩:=h;obtain⟨us',h4,h5⟩:=aa6 _ hp (us:=z.cells) (bL.vals _) h3;unfold yF at h6;split at h6
   ·rename_i n e hu
    rw[Option.map_eq_some_iff]at h6;obtain⟨s,hs,rfl⟩:=h6;have h7:=adD (pl':=fun i=>some (i*s,s)) (fun i x hx=>by simp only[Array.getElem?_map,Option.map_eq_some_iff]at hx;obtain⟨j,hj,rfl⟩:=hx;have:=Array.getElem?_eq_some_iff.1 hj;obtain⟨hlt,rfl⟩:=this;simp) _ _ _ h4
    refine⟨.agg us',?_,by simp only[Rep];exact⟨us',rfl,h5⟩⟩;simp only[Instr.build,Sem.run_bind,l7 h1,Result.andThen_ok,run_underlying hu w,dF hs w,h7];rfl
   ·cases h6
  ·cases h
 ·cases h
def asI:PV→Option Int
 | .val (.int _ i)=>some i
 |_=>none
def aI (P:Program) (t:Nat) (x:PV) (i:Int):Option PV:=
 match P.underlying t with
 |some (.slice e)=>match x,aY P e with
  | .lst k sz es,some s=>if s=sz∧0≤i then(es[i.toNat]?).map fun e=> .ptr k e 0 else none
  | .row o sz j n,some s=>if s=sz∧0≤i∧i<n then some (.own o sz (j+i.toNat) 0)else none
  |_,_=>none
 |some (.array n e)=>match x,aY P e with
  | .ptr k e f,some s=>if 0≤i∧i<n then some (.ptr k e (f+i.toNat*s))else none
  | .own o sz j f,some s=>if 0≤i∧i<n then some (.own o sz j (f+i.toNat*s))else none
  |_,_=>none
 |_=>none
theorem aaU {P:Program} {g:Gh} {w:World} {t:Nat} {x p:PV} {v:Value} {k:IntKind} {i:Int} (hx:Rep g w x v) (h:aI P t x i=some p):
 ∃u,(Instr.indexAt t v (.int k i)).run P w=.ok u w∧Rep g w p u:=by
 unfold aI at h;split at h
 ·rename_i e hu
  split at h
  ·rename_i kk sz es s h1
   split at h
   case isFalse=>cases h
   case isTrue hc=>
    obtain⟨rfl,h0⟩:=hc;simp only[Option.map_eq_some_iff]at h;obtain⟨el,h2,rfl⟩:=h;simp only[Rep]at hx;obtain⟨a,cap,rfl,h3,h4,h5⟩:=hx;have hlt:=(List.getElem?_eq_some_iff.1 h2).1;have hilt:i<(es.length:Int):=by omega
    rcases h5 with rfl|⟨b,off,rfl,h6,h7⟩
    ·simp at hlt
    ·obtain⟨u,h8,h9,h10⟩:=h7.get h2
     refine⟨.pointer (some ⟨b,off+i.toNat*s,none⟩),?_,?_⟩
     ·have ha:(⟨b,off,none⟩:Addr).add (i.toNat*s)=⟨b,off+i.toNat*s,none⟩:=Addr.add_mid b off _
      simp[Instr.indexAt,asIntOf,Sem.run_bind,run_underlying hu w,h0,hilt,dF h1 w,ha]
     ·simp only[Rep]
      exact⟨b,off+i.toNat*s,by simp,h6,u,h8,h9⟩
  ·rename_i o sz j n s h1
   split at h
   case isFalse=>cases h
   case isTrue hc=>
    obtain⟨rfl,h0,hn⟩:=hc;simp only[Option.some.injEq]at h;subst h;simp only[Rep]at hx;obtain⟨c,rfl,h2,h3,h4,h5⟩:=hx;refine⟨.pointer (some ⟨g.β o,j*s+i.toNat*s,none⟩),?_,?_⟩
    ·have ha:(⟨g.β o,j*s,none⟩:Addr).add (i.toNat*s)=⟨g.β o,j*s+i.toNat*s,none⟩:=Addr.add_mid _ _ _
     simp[Instr.indexAt,asIntOf,Sem.run_bind,run_underlying hu w,h0,hn,dF h1 w,ha]
    ·simp only[Rep]
     exact⟨by rw[Nat.add_mul];rfl,h5⟩
  ·cases h
 ·rename_i n e hu
  split at h
  ·rename_i kk el f s h1
   split at h
   case isFalse=>cases h
   case isTrue hc=>
    obtain⟨h0,hn⟩:=hc;simp only[Option.some.injEq]at h;subst h;simp only[Rep]at hx;obtain⟨b,off,rfl,h2,h3⟩:=hx;refine⟨.pointer (some ⟨b,off+f+i.toNat*s,none⟩),?_,?_⟩
    ·have ha:(⟨b,off+f,none⟩:Addr).add (i.toNat*s)=⟨b,off+f+i.toNat*s,none⟩:=Addr.add_mid _ _ _
     simp[Instr.indexAt,Instr.sureAddr,asIntOf,Sem.run_bind,run_underlying hu w,h0,hn,dF h1 w,ha]
    ·simp only[Rep]
     exact⟨b,off,by rw[Nat.add_assoc],h2,h3⟩
  ·rename_i o sz j f s h1
   split at h
   case isFalse=>cases h
   case isTrue hc=>
    obtain⟨h0,hn⟩:=hc;simp only[Option.some.injEq]at h;subst h;simp only[Rep]at hx;obtain⟨rfl,h2⟩:=hx;refine⟨.pointer (some ⟨g.β o,j*sz+f+i.toNat*s,none⟩),?_,?_⟩
    ·have ha:(⟨g.β o,j*sz+f,none⟩:Addr).add (i.toNat*s)=⟨g.β o,j*sz+f+i.toNat*s,none⟩:=Addr.add_mid _ _ _
     simp[Instr.indexAt,Instr.sureAddr,asIntOf,Sem.run_bind,run_underlying hu w,h0,hn,dF h1 w,ha]
    ·simp only[Rep]
     exact⟨by rw[Nat.add_assoc],h2⟩
  ·cases h
 ·cases h
def isNil:PV→Bool
 | .val (.slice none 0 0)=>true
 |_=>false
def j6 (P:Program) (t:Nat) (x:PV) (lo hi:Option Int):Option PV:=
 match P.underlying t with
 |some (.slice e)=>match x,aY P e with
  | .lst k sz es,some s=>
    let l:=lo.getD 0
    let h:=hi.getD es.length
    if s=sz∧0≤l∧l≤h∧h≤es.length then some (.lst k sz ((es.drop l.toNat).take (h.toNat-l.toNat)))else none
  | .row o sz i n,some s=>
    let l:=lo.getD 0
    let h:=hi.getD n
    if s=sz∧0≤l∧l≤h∧h≤n then(if l=h then some (.lst true sz [])else some (.row o sz (i+l.toNat) (h.toNat-l.toNat)))else none
  |x,some s=>if isNil x∧lo.getD 0=0∧hi.getD 0=0 then some x else none
  |_,_=>none
 |_=>none
theorem jo {P:Program} {w:World} (len cap:Nat) (lo hi:Option Int) (kl kh:IntKind) (h1:0≤lo.getD 0) (h2:lo.getD 0≤hi.getD len) (h3:hi.getD len≤len) (h4:len≤cap):
 (Instr.sliceBounds true len cap (lo.map (Value.int kl)) (hi.map (Value.int kh)) none).run P w=.ok ((lo.getD 0).toNat,(hi.getD len).toNat,cap) w:=by
 cases hi with
 |none=>
  cases lo with
  |none=>simp[Instr.sliceBounds,Sem.run_bind]
  |some l=>simp only[Option.getD_some,Option.getD_none]at*;simp[Instr.sliceBounds,Instr.sliceBound,asIntOf,Sem.run_bind,h1,h2]
 |some h=>
  simp only[Option.getD_some]at*;have h0:0≤h:=by omega
  have hc:h≤(cap:Int):=by omega
  cases lo with
  |none=>simp[Instr.sliceBounds,Instr.sliceBound,asIntOf,Sem.run_bind,h0,hc]
  |some l=>
   simp only[Option.getD_some]at*;have hl:¬max h 0<l:=by omega
   simp[Instr.sliceBounds,Instr.sliceBound,asIntOf,Sem.run_bind,h0,hc,h1,hl]
theorem akn {P:Program} {g:Gh} {w:World} {t:Nat} {x p:PV} {v:Value} {kl kh:IntKind} {lo hi:Option Int} (hx:Rep g w x v) (h:j6 P t x lo hi=some p):
 ∃u,(Instr.sliceAt t v (lo.map (Value.int kl)) (hi.map (Value.int kh)) none).run P w=.ok u w∧Rep g w p u:=by
 unfold j6 at h;split at h
 ·rename_i e hu
  split at h
  ·rename_i kk sz es s h1
   dsimp only at h;split at h
   case isFalse=>cases h
   case isTrue hc=>
    obtain⟨rfl,c1,c2,c3⟩:=hc;simp only[Option.some.injEq]at h;subst h;simp only[Rep]at hx;obtain⟨a,cap,rfl,h3,h4,h5⟩:=hx;have hb:=jo (P:=P) (w:=w) es.length cap lo hi kl kh c1 c2 c3 h3;refine⟨_,by simp[Instr.sliceAt,Instr.slice,Sem.run_bind,run_underlying hu w,hb,dF h1 w];rfl,?_⟩;simp only[Rep];have hlen:((es.drop (lo.getD 0).toNat).take ((hi.getD es.length).toNat-(lo.getD 0).toNat)).length=(hi.getD es.length).toNat-(lo.getD 0).toNat:=by simp;omega
    refine⟨_,_,by rw[hlen],by rw[hlen];omega,by omega,?_⟩;by_cases hz:(hi.getD es.length).toNat-(lo.getD 0).toNat=0
    ·left;rw[hz];rfl
    ·right
     rcases h5 with rfl|⟨b,off,rfl,h6,h7⟩
     ·simp at c3 hz;omega
     ·refine⟨b,off+(lo.getD 0).toNat*s,?_,h6,(h7.drop _).take _⟩
      rw[if_neg (by omega)];simp only[Option.map_some,Addr.add_mid]
  ·rename_i o sz i n s h1
   dsimp only at h;split at h
   case isFalse=>cases h
   case isTrue hc=>
    obtain⟨rfl,c1,c2,c3⟩:=hc;simp only[Rep]at hx;obtain⟨c,rfl,h2,h3,h4,h5⟩:=hx;have hb:=jo (P:=P) (w:=w) n c lo hi kl kh c1 c2 c3 h2;refine⟨_,by simp[Instr.sliceAt,Instr.slice,Sem.run_bind,run_underlying hu w,hb,dF h1 w];rfl,?_⟩;split at h
    ·rename_i heq
     simp only[Option.some.injEq]at h;subst h;simp only[Rep];refine⟨_,_,by rw[show(hi.getD (n:Int)).toNat-(lo.getD 0).toNat=0 by omega];rfl,by simp,by omega,.inl trivial⟩
    ·rename_i hne
     simp only[Option.some.injEq]at h;subst h;simp only[Rep];refine⟨c-(lo.getD 0).toNat,?_,by omega,by omega,by rw[show i+(lo.getD 0).toNat+(c-(lo.getD 0).toNat)=i+c by omega];exact h4,h5⟩;rw[if_neg (by omega)];simp only[Option.map_some,Addr.add_mid,Nat.add_mul]
  ·rename_i s h1 h2
   split at h
   case isFalse=>cases h
   case isTrue hc=>
    obtain⟨c1,c2,c3⟩:=hc;simp only[Option.some.injEq]at h;subst h;unfold isNil at c1;split at c1
    ·simp only[Rep]at hx
     subst hx;have hb:=jo (P:=P) (w:=w) 0 0 lo hi kl kh (by omega) (by have:hi.getD ((0:Nat):Int)=0:=c3;omega) (by have:hi.getD ((0:Nat):Int)=0:=c3;omega) (Nat.le_refl _);refine⟨_,by simp[Instr.sliceAt,Instr.slice,Sem.run_bind,run_underlying hu w,hb,dF h2 w];rfl,?_⟩;have e1:hi.getD ((0:Nat):Int)=0:=c3;simp only[Rep];simp[c2];have e2:hi.getD 0=0:=c3;simp[e2]
    ·cases c1
  ·cases h
 ·cases h
abbrev bG:=Nat→Option (Nat×Nat×List PV)
def bF (ob:bG) (sz:Nat):PV→Option (List PV)
 | .lst _ sz' es=>if sz=sz' then some es else none
 | .row o sz' i n=>match ob o with
   |some (_,sz'',es)=>if sz=sz'∧sz=sz''∧i+n≤es.length then some ((es.drop i).take n)else none
   |none=>none
 | .val (.slice none 0 0)=>some []
 |_=>none
def jO:List PV→Option (List Int)
 |[]=>some []
 | .val (.int .u8 n)::es=>(jO es).map (n:: ·)
 |_::_=>none
def bytesOf (ns:List Int):ByteArray:=ns.foldl (fun r n=>r.push (UInt8.ofNat n.toNat)) ByteArray.empty
def reify (fr:Bool) (n:Nat) (ob:bG):Nat→PV→Option PV
 |0,_=>none
 |f+1,p=>match p with
  | .val v=>some (.val v)
  | .dead=>some .dead
  | .lst k sz es=>if fr=true∧k=false∧es≠[]then none else(es.mapM (reify fr n ob f)).map (.lst fr sz)
  | .ptr k e o=>if fr=true∧k=false then none else(reify fr n ob f e).map (.ptr fr · o)
  | .own o sz i c=>if fr=true∧o<n then none else match ob o with
    |some (_,sz',es)=>if sz=sz' then(es[i]?).bind fun e=>(reify fr n ob f e).map (.ptr fr · c)else none
    |none=>none
  | .row o sz i m=>if fr=true∧o<n then none else match ob o with
    |some (_,sz',es)=>if sz=sz'∧i+m≤es.length then(((es.drop i).take m).mapM (reify fr n ob f)).map (.lst fr sz)else none
    |none=>none
  | .agg cs=>(cs.mapM (reify fr n ob f)).map .agg
  | .tup cs=>(cs.mapM (reify fr n ob f)).map .tup
section
variable {io:IoS} {w0:World} {N:Nat} {g:Gh} {s:AS} {a:Act} {w:World}
theorem bg {α β:Type} {f:α→Option β}:∀{l:List α} {l':List β},l.mapM f=some l'→l'.length=l.length∧∀(i:Nat) x,l[i]?=some x→∃y,l'[i]?=some y∧f x=some y
 |[],l',h=>by simp only[List.mapM_nil,Option.pure_def,Option.some.injEq]at h;subst h;simp
 |x::l,l',h=>by
  simp only[List.mapM_cons,Option.bind_eq_bind,Option.bind_eq_some_iff,Option.pure_def,Option.some.injEq]at h;obtain⟨y,h1,ys,h2,rfl⟩:=h;have ih:=bg h2;refine⟨by simp[ih.1],fun i z hz=>?_⟩;cases i with
  |zero=>simp only[List.getElem?_cons_zero,Option.some.injEq]at hz;subst hz;exact⟨y,by simp,h1⟩
  |succ i=>simpa using ih.2 i z (by simpa using hz)
structure Seen (fr:Bool) (n:Nat) (g:Gh) (s:AS) (g':Gh):Prop where
 F:fr=false→(∀k b,g.I k b→g'.I false b)∧∀o,(s.ob o).isSome→g'.I false (g.β o)
 T:fr=true→(∀b,g.I true b→g'.I true b)∧∀o,(s.ob o).isSome→n≤o→g'.I true (g.β o)
theorem bB.conv {F:PV→Option PV} {g':Gh} (ih:∀p q v,Rep g w p v→F p=some q→Rep g' w q v) {sz:Nat} {es es':List PV} {b off:Nat} (h:bB g w sz es b off) (hm:es.mapM F=some es'):bB g' w sz es' b off:=by
 have hg:=bg hm;refine bB.of fun i e he=>?_;have hi:i<es.length:=by rw[←hg.1];exact(List.getElem?_eq_some_iff.1 he).1
 obtain⟨y,hy,hf⟩:=hg.2 i es[i] (List.getElem?_eq_getElem hi);rw[hy]at he;cases he;obtain⟨u,h1,h2,h3⟩:=h.get (List.getElem?_eq_getElem hi);exact⟨u,ih es[i] e u h1 hf,h2,h3⟩
theorem bL.conv {F:PV→Option PV} {g':Gh} (ih:∀p q v,Rep g w p v→F p=some q→Rep g' w q v) {cs cs':List PV} {vs:List Value} (h:bL g w cs vs) (hm:cs.mapM F=some cs'):bL g' w cs' vs:=by
 have hg:=bg hm;have hh:=h.get;refine bL.of (by rw[hh.1,hg.1]) fun i c hc=>?_;have hi:i<cs.length:=by rw[←hg.1];exact(List.getElem?_eq_some_iff.1 hc).1
 obtain⟨y,hy,hf⟩:=hg.2 i cs[i] (List.getElem?_eq_getElem hi);rw[hy]at hc;cases hc;obtain⟨v,h1,h2⟩:=hh.2 i cs[i] (List.getElem?_eq_getElem hi);exact⟨v,h1,ih cs[i] c v h2 hf⟩
theorem Rep.seen {fr:Bool} {n:Nat} {g':Gh} (hob:∀o c,s.ob o=some c→pX g w o c) (hs:Seen fr n g s g'):∀(f:Nat) (p q:PV) (v:Value),Rep g w p v→reify fr n s.ob f p=some q→Rep g' w q v
 |0,p,q,v,h,hr=>by simp[reify]at hr
 |f+1,p,q,v,h,hr=>by
  cases p with
  |val u=>simp only[reify,Option.some.injEq]at hr;subst hr;simpa [Rep]using h
  |dead=>simp only[reify,Option.some.injEq]at hr;subst hr;simp[Rep]
  |lst k sz es=>
   simp only[reify]at hr;split at hr
   ·cases hr
   ·rename_i hk
    simp only[Option.map_eq_some_iff]at hr;obtain⟨es',h1,rfl⟩:=hr;have hl:=(bg h1).1;simp only[Rep]at h⊢;obtain⟨a,cap,rfl,h2,h3,h4⟩:=h;refine⟨a,cap,by rw[hl],by omega,h3,?_⟩;rcases h4 with rfl|⟨b,off,rfl,h5,h6⟩
    ·left;exact List.eq_nil_of_length_eq_zero (by simpa using hl)
    ·by_cases hnil:es=[]
     ·left;subst hnil;exact List.eq_nil_of_length_eq_zero (by simpa using hl)
     ·right
      refine⟨b,off,rfl,?_,bB.conv (Rep.seen hob hs f) h6 h1⟩;cases fr with
      |false=>exact(hs.F rfl).1 _ _ h5
      |true=>
       cases k with
       |true=>exact(hs.T rfl).1 _ h5
       |false=>simp[hnil]at hk
  |ptr k e o=>
   simp only[reify]at hr;split at hr
   ·cases hr
   ·rename_i hk
    simp only[Option.map_eq_some_iff]at hr;obtain⟨e',h1,rfl⟩:=hr;simp only[Rep]at h⊢;obtain⟨b,off,rfl,h2,u,h3,h4⟩:=h;refine⟨b,off,rfl,?_,u,Rep.seen hob hs f e e' u h3 h1,h4⟩;cases fr with
    |false=>exact(hs.F rfl).1 _ _ h2
    |true=>
     cases k with
     |true=>exact(hs.T rfl).1 _ h2
     |false=>simp at hk
  |own o sz i c=>
   simp only[reify]at hr;split at hr
   ·cases hr
   ·rename_i hk
    split at hr
    ·rename_i T sz' es ho
     split at hr
     case isFalse=>cases hr
     case isTrue hsz=>
      subst hsz;simp only[Option.bind_eq_some_iff,Option.map_eq_some_iff]at hr;obtain⟨e,he,e',h1,rfl⟩:=hr;simp only[Rep]at h⊢;obtain⟨rfl,hlt⟩:=h;obtain⟨u,h2,h3,h4⟩:=(hob o _ ho).2.2.get he;refine⟨g.β o,i*sz,by rw[Nat.zero_add]at*,?_,u,Rep.seen hob hs f e e' u h2 h1,by simpa using h3⟩;cases fr with
      |false=>exact(hs.F rfl).2 o (by simp[ho])
      |true=>exact(hs.T rfl).2 o (by simp[ho]) (by simp at hk;omega)
    ·cases hr
  |row o sz i m=>
   simp only[reify]at hr;split at hr
   ·cases hr
   ·rename_i hk
    split at hr
    ·rename_i T sz' es ho
     split at hr
     case isFalse=>cases hr
     case isTrue hsz=>
      obtain⟨rfl,hle⟩:=hsz;simp only[Option.map_eq_some_iff]at hr;obtain⟨es',h1,rfl⟩:=hr;have hl:=(bg h1).1;have hl2:es'.length=m:=by rw[hl];simp;omega
      simp only[Rep]at h⊢;obtain⟨c,rfl,h2,h3,h4,h5⟩:=h;refine⟨_,c,by rw[hl2],by omega,h3,.inr ⟨g.β o,i*sz,rfl,?_,?_⟩⟩
      ·cases fr with
       |false=>exact(hs.F rfl).2 o (by simp[ho])
       |true=>exact(hs.T rfl).2 o (by simp[ho]) (by simp at hk;omega)
      ·have:=((hob o _ ho).2.2.drop i).take m
       exact bB.conv (Rep.seen hob hs f) (by simpa using this) h1
    ·cases hr
  |agg cs=>simp only[reify,Option.map_eq_some_iff]at hr;obtain⟨cs',h1,rfl⟩:=hr;simp only[Rep]at h⊢;obtain⟨vs,rfl,h2⟩:=h;exact⟨vs,rfl,bL.conv (Rep.seen hob hs f) h2 h1⟩
  |tup cs=>simp only[reify,Option.map_eq_some_iff]at hr;obtain⟨cs',h1,rfl⟩:=hr;simp only[Rep]at h⊢;obtain⟨vs,rfl,h2⟩:=h;exact⟨vs,rfl,bL.conv (Rep.seen hob hs f) h2 h1⟩
end
abbrev Fun:=List PV→Option PV
def lG (J:Nat→Prop):Gh:={I:=fun k b=>k=false∧J b,β:=fun _=>0,κ:=fun _=>0,nx:=0}
def Sound (P:Program) (f:Nat) (φ:Fun):Prop:=
 ∀(w:World) (J:Nat→Prop) (ps:List PV) (args:Array Value) (r:PV),φ ps=some r→(∀b,J b→b<w.heap.size)→kr w (fun _=>False)→bL (lG J) w ps args.toList→
  Calls P f args w fun e w'=>∃v,e=.returned v∧Below w.heap.size w w'∧∀g':Gh,(∀b,w.heap.size≤b→b<w'.heap.size→g'.I true b)→Rep g' w' r v
abbrev aS:=Nat×Nat×List PV
abbrev jh:=List PV→List aS→Option (PV×List aS)
def addN (J:Bool→Nat→Prop) (M:Nat→Prop):Bool→Nat→Prop:=fun k b=>J k b∨(k=true∧M b)
def dH (J:Bool→Nat→Prop) (β κ:Nat→Nat) (m:Nat):Gh:={I:=J,β:=β,κ:=κ,nx:=m}
structure uG (J:Bool→Nat→Prop) (w:World) (β κ:Nat→Nat) (cs:List aS):Prop where
 lt:∀o,o<cs.length→β o<w.heap.size∧∀k,¬J k (β o)
 inj:∀o o',o<cs.length→o'<cs.length→β o=β o'→o=o'
 at_:∀o c,cs[o]?=some c→pX (dH J β κ cs.length) w o c
def eT (P:Program) (f:Nat) (Φ:jh):Prop:=
 ∀(w:World) (J:Bool→Nat→Prop) (β κ:Nat→Nat) (ps:List PV) (cs:List aS) (args:Array Value) (r:PV) (cs':List aS),
  Φ ps cs=some (r,cs')→(∀k b,J k b→b<w.heap.size)→uG J w β κ cs→kr w (fun b=>∃o,o<cs.length∧b=β o)→bL (dH J β κ cs.length) w ps args.toList→
  Calls P f args w fun e w'=>∃v β' κ' M,e=.returned v∧Fr (fun b=>∃o,o<cs.length∧b=β o) w w'∧cs.length≤cs'.length∧
   (∀o,o<cs.length→β' o=β o∧κ' o=κ o)∧(∀o,cs.length≤o→o<cs'.length→w.heap.size≤β' o)∧(∀b,M b→w.heap.size≤b∧b<w'.heap.size)∧
   uG (addN J M) w' β' κ' cs'∧Rep (dH (addN J M) β' κ' cs'.length) w' r v
structure MpO where
 t:Nat
 b:Nat
 ans:Value→Bool→Option PV
structure Ctx where
 fn:Nat→Option Fun
 io:Nat→Option jh
 mp:Option MpO:=none
instance:CoeFun Ctx (fun _=>Nat→Option Fun):=⟨Ctx.fn⟩
def fq (nm:Nat→Option Nat):Nat→PV→Option PV
 |0,_=>none
 |n+1,p=>match p with
  | .val v=>some (.val v)
  | .dead=>some .dead
  | .lst k sz es=>(es.mapM (fq nm n)).map (.lst k sz)
  | .ptr k e o=>(fq nm n e).map (.ptr k · o)
  | .own o sz i f=>(nm o).map fun o'=> .own o' sz i f
  | .row o sz i m=>(nm o).map fun o'=> .row o' sz i m
  | .agg cs=>(cs.mapM (fq nm n)).map .agg
  | .tup cs=>(cs.mapM (fq nm n)).map .tup
theorem Rep.ren {nm:Nat→Option Nat} {g g':Gh} {w:World} (hI:∀k b,g.I k b→g'.I k b) (ho:∀o o',g.D o→nm o=some o'→g'.β o'=g.β o∧g'.κ o'=g.κ o∧g'.D o'):
 ∀(f:Nat) (p q:PV) (v:Value),Rep g w p v→fq nm f p=some q→Rep g' w q v
 |0,p,q,v,h,hr=>by simp[fq]at hr
 |f+1,p,q,v,h,hr=>by
  cases p with
  |val u=>simp only[fq,Option.some.injEq]at hr;subst hr;simpa [Rep]using h
  |dead=>simp only[fq,Option.some.injEq]at hr;subst hr;simp[Rep]
  |lst k sz es=>
   simp only[fq,Option.map_eq_some_iff]at hr;obtain⟨es',h1,rfl⟩:=hr;have hl:=(bg h1).1;simp only[Rep]at h⊢;obtain⟨a,cap,rfl,h2,h3,h4⟩:=h;refine⟨a,cap,by rw[hl],by omega,h3,?_⟩;rcases h4 with rfl|⟨b,off,rfl,h5,h6⟩
   ·left;exact List.eq_nil_of_length_eq_zero (by simpa using hl)
   ·right
    exact⟨b,off,rfl,hI _ _ h5,bB.conv (Rep.ren hI ho f) h6 h1⟩
  |ptr k e o=>simp only[fq,Option.map_eq_some_iff]at hr;obtain⟨e',h1,rfl⟩:=hr;simp only[Rep]at h⊢;obtain⟨b,off,rfl,h2,u,h3,h4⟩:=h;exact⟨b,off,rfl,hI _ _ h2,u,Rep.ren hI ho f e e' u h3 h1,h4⟩
  |own o sz i c=>simp only[fq,Option.map_eq_some_iff]at hr;obtain⟨o',hm,rfl⟩:=hr;simp only[Rep]at h⊢;obtain⟨e1,_,e3⟩:=ho o o' h.2 hm;exact⟨by rw[e1];exact h.1,e3⟩
  |row o sz i m=>simp only[fq,Option.map_eq_some_iff]at hr;obtain⟨o',hm,rfl⟩:=hr;simp only[Rep]at h⊢;obtain⟨c,h1,h2,h3,h4,h5⟩:=h;obtain⟨e1,e2,e3⟩:=ho o o' h5 hm;exact⟨c,by rw[e1];exact h1,h2,h3,by rw[e2];exact h4,e3⟩
  |agg cs=>simp only[fq,Option.map_eq_some_iff]at hr;obtain⟨cs',h1,rfl⟩:=hr;simp only[Rep]at h⊢;obtain⟨vs,rfl,h2⟩:=h;exact⟨vs,rfl,bL.conv (Rep.ren hI ho f) h2 h1⟩
  |tup cs=>simp only[fq,Option.map_eq_some_iff]at hr;obtain⟨cs',h1,rfl⟩:=hr;simp only[Rep]at h⊢;obtain⟨vs,rfl,h2⟩:=h;exact⟨vs,rfl,bL.conv (Rep.ren hI ho f) h2 h1⟩
def agq (nm:Nat→Option Nat) (f:Nat) (c:aS):Option aS:=(c.2.2.mapM (fq nm f)).map fun es=>(c.1,c.2.1,es)
def refsOf:PV→List Nat
 | .own o _ _ _=>[o]
 | .row o _ _ _=>[o]
 | .agg cs=>cs.flatMap fun c=>match c with
   | .own o _ _ _=>[o]
   | .row o _ _ _=>[o]
   |_=>[]
 |_=>[]
def dedup:List Nat→List Nat
 |[]=>[]
 |o::l=>o::(dedup l).filter (fun x=> !(x==o))
theorem yG:∀(l:List Nat),(dedup l).Nodup
 |[]=>by simp[dedup]
 |o::l=>by simp only[dedup,List.nodup_cons];exact⟨by simp,(yG l).filter _⟩
def inn (os:List Nat) (o:Nat):Option Nat:=if o∈os then some (os.idxOf o)else none
def p9 (os:List Nat) (nx i:Nat):Nat:=if i<os.length then os.getD i 0 else nx+(i-os.length)
def kM (ob:bG):List (Nat×aS)→bG
 |[]=>ob
 |p::l=>kM (upd ob p.1 (some p.2)) l
def fA (P:Program) (t:Nat):Bool:=
 match P.underlying t with
 |some (.slice e)=>match P.underlying e with
  |some (.int .u8)=>true
  |_=>false
 |_=>false
def isStr (P:Program) (t:Nat):Bool:=match P.underlying t with|some .string=>true|_=>false
def aoY:Option PV→Option (Option Int)
 |none=>some none
 |some (.val (.int .i64 i))=>some (some i)
 |_=>none
def okP (sz:Nat) (p:PV):Bool:=match bJ p with|some cs=>cs.length==sz|none=>false
def iL (P:Program) (t len:Nat) (ps:List (Nat×PV)):Option (Nat×Nat×List PV):=
 match cZ P t with
 |some e=>match aY P e,zeroOf P e with
  |some sz,some _=>if len*sz≤16777216∧len≤9223372036854775807∧ps.map (·.1)=List.range len∧(ps.map (·.2)).all (okP sz)then some (e,sz,ps.map (·.2))else none
  |_,_=>none
 |none=>none
def partsOf (ρ:Operand→PV) (ps:Array (Nat×Operand)):List (Nat×PV):=ps.toList.map fun p=>(p.1,ρ p.2)
def azf:PV→Option Nat
 | .val (.func (.func f) first captured)=>if first.size=0∧captured.size=0 then some f else none
 |_=>none
def lS:List PV→Option (List Value)
 |[]=>some []
 |p::ps=>match toVal p,lS ps with
  |some v,some vs=>some (v::vs)
  |_,_=>none
def ady (P:Program) (t:Nat):PV→Option PV
 | .lst _ _ es=>if(cZ P t).isSome then some (.val (.int .i64 es.length))else none
 | .row _ _ _ n=>if(cZ P t).isSome then some (.val (.int .i64 n))else none
 |_=>none
def fuel:Nat:=8
def lkP (m:Option MpO) (t:Nat) (p:PV) (k:Option Value) (c:Bool):Option PV:=match m,p,k with
 |some M,.val (.map (some b)),some v=>if t=M.t∧b=M.b then M.ans v c else none
 |_,_,_=>none
def aZ (P:Program) (Γ:Ctx) (ob:bG) (ρ:Operand→PV) (ty:Nat):Op→Option PV
 | .move x=>some (ρ x)
 | .assign x=>some (ρ x)
 | .pick c x y=>match ρ c with
   | .val (.bool b)=>some (if b then ρ x else ρ y)
   |_=>none
 | .build t ps=>dZ P t (partsOf ρ ps)
 | .buildSlice t n ps=>match iL P t n (partsOf ρ ps)with
   |some (_,sz,es)=>some (.lst true sz es)
   |none=>none
 | .load t x=>match ρ x with
   | .own o sz i f=>match ob o with
     |some (_,sz',es)=>if sz=sz' then(es[i]?).bind (adT P t f)else none
     |none=>none
   | .ptr _ e f=>adT P t f e
   |_=>none
 | .nilCheck x=>match ρ x with
   | .own o sz i f=>some (.own o sz i f)
   | .ptr k e f=>some (.ptr k e f)
   |_=>none
 | .binOp b t x y _=>match toVal (ρ x),toVal (ρ y)with
   |some u,some v=>(aA P (do eqGuard b t x y u v;binOp b t u v)).map .val
   |_,_=>none
 | .unOp u _ x=>match toVal (ρ x)with
   |some v=>(aA P (Op.unary u v)).map .val
   |none=>none
 | .convert src dst x=>
   if fA P src∧isStr P dst then((bF ob 1 (ρ x)).bind jO).map fun ns=> .val (.string (bytesOf ns))
   else match toVal (ρ x)with
    |some v=>(aA P (convert src dst v)).map .val
    |none=>none
 | .slice t x lo hi none=>match ρ x with
   | .val (.string s)=>match aoY (lo.map ρ),aoY (hi.map ρ)with
     |some l,some h=>(aA P (Instr.sliceAt t (.string s) (l.map (Value.int .i64)) (h.map (Value.int .i64)) none)).map .val
     |_,_=>none
   |p=>match aoY (lo.map ρ),aoY (hi.map ρ)with
    |some l,some h=>j6 P t p l h
    |_,_=>none
 | .fieldAddr t x f=>match ρ x,aV P t f with
   | .own o sz i c,some k=>some (.own o sz i (c+k))
   | .ptr b e c,some k=>some (.ptr b e (c+k))
   |_,_=>none
 | .indexAddr t x i=>match asI (ρ i)with
   |some n=>aI P t (ρ x) n
   |none=>none
 | .index t x i=>match toVal (ρ x),toVal (ρ i)with
   |some u,some v=>(aA P (Instr.index t u v)).map .val
   |_,_=>none
 | .extract x i=>match ρ x with
   | .tup vs=>vs[i]?
   |_=>none
 | .lookup t x y c=>lkP Γ.mp t (ρ x) (toVal (ρ y)) c
 | .call c=>match c.callee with
   | .value x=>match azf (ρ x)with
     |some f=>match Γ f,(c.args.toList.map ρ).mapM (reify false 0 ob fuel)with
      |some φ,some ps=>φ ps
      |_,_=>none
     |none=>none
   | .builtin .len=>match c.args.toList,c.argTypes.toList with
     |[x],[t]=>match ady P t (ρ x)with
      |some p=>some p
      |none=>match toVal (ρ x)with
       |some v=>((aA P (Builtin.len_ #[t] ty #[v]))).map .val
       |none=>none
     |_,_=>none
   | .builtin .max=>match lS (c.args.toList.map ρ)with
     |some vs=>(aA P (Builtin.max_ c.argTypes ty vs.toArray)).map .val
     |none=>none
   | .builtin .min=>match lS (c.args.toList.map ρ)with
     |some vs=>(aA P (Builtin.min_ c.argTypes ty vs.toArray)).map .val
     |none=>none
   |_=>none
 |_=>none
def Fnd (P:Program) (f:Nat):Prop:=∃fn,P.funcs[f]?=some fn∧(fn.name== "runtime.NumGoroutine")=false∧fn.body.isNone=false
def au (P:Program) (Γ:Ctx):Prop:=(∀f φ,Γ.fn f=some φ→Fnd P f∧Sound P f φ)∧(∀f Φ,Γ.io f=some Φ→Fnd P f∧eT P f Φ)∧Γ.mp=none
def aHe (P:Program) (Γ:Ctx) (wr:Nat→Prop) (w0:World):Prop:=∀M,Γ.mp=some M→M.b<w0.heap.size∧¬wr M.b∧∀key c p,M.ans key c=some p→∀(w:World) (g:Gh),w.heap[M.b]?=w0.heap[M.b]?→∃v,(Instr.lookup M.t (.map (some M.b)) key c).run P w=.ok v w∧Rep g w p v
def fJ (P:Program) (Γ:Ctx) (wr:Nat→Prop) (w0:World):Prop:=(∀f φ,Γ.fn f=some φ→Fnd P f∧Sound P f φ)∧(∀f Φ,Γ.io f=some Φ→Fnd P f∧eT P f Φ)∧aHe P Γ wr w0
theorem au.w {P:Program} {Γ:Ctx} {wr:Nat→Prop} {w0:World} (h:au P Γ):fJ P Γ wr w0:=⟨h.1,h.2.1,fun M hM=>by rw[h.2.2]at hM;cases hM⟩
def look (tm:Nat→PV):Operand→PV
 | .tmp t=>tm t
 | .const v=> .val v
 | .global b=> .val (.pointer (some ⟨b,0,none⟩))
 | .func f=> .val (.func (.func f) #[] #[])
section
variable {P:Program} {Γ:Ctx} {io:IoS} {w0:World} {N:Nat} {g:Gh} {s:AS} {a:Act} {w:World} {o:Oper} {p:PV}
theorem Rel.look (h:Rel io w0 N g s a w) (x:Operand):Rep g w (look s.tm x) (a.eval x):=by
 cases x with
 |tmp t=>exact h.tm t
 |const v=>simp[Proofs.YtmmafcjjlbgnkaaGreatDoor.look,Act.eval,Rep]
 |global b=>simp[Proofs.YtmmafcjjlbgnkaaGreatDoor.look,Act.eval,Rep]
 |func f=>simp[Proofs.YtmmafcjjlbgnkaaGreatDoor.look,Act.eval,Rep]
def Yld (P:Program) (o:Oper) (a:Act) (w:World) (g:Gh) (p:PV):Prop:=
 ∀(K:Act→World→Prop) (Q:Exit→Act→World→Prop),(∀v w',Below w.heap.size w w'→Rep (g.more w.heap.size w'.heap.size) w' p v→K (a.put o.dst v) w')→o.wp P a w K Q
theorem Yld.run {v:Value} (h:(execOp a.eval o).run P w=.ok (.value v) w) (hr:Rep g w p v):Yld P o a w g p:=fun K Q hk=>by unfold Oper.wp;rw[h,Oper.upon_value];exact hk v w (Below.refl _ _) (hr.mono (Gh.afo _ _ _) (fun _ _ _=>rfl))
theorem pW:∀{ps:List PV} {vs us:List Value},bL g w ps vs→lS ps=some us→vs=us
 |[],vs,us,h,ht=>by simp only[bL]at h;simp only[lS,Option.some.injEq]at ht;rw[h,ht]
 |p::ps,vs,us,h,ht=>by
  simp only[bL]at h;obtain⟨v,vs',rfl,h1,h2⟩:=h;simp only[lS]at ht;split at ht
  ·rename_i u us' h3 h4
   cases ht;rw[eu h1 h3,pW h2 h4]
  ·cases ht
theorem Rel.looks (h:Rel io w0 N g s a w):∀(xs:List Operand),bL g w (xs.map (Proofs.YtmmafcjjlbgnkaaGreatDoor.look s.tm)) (xs.map a.eval)
 |[]=>by simp[bL]
 |x::xs=>by simp only[List.map_cons,bL];exact⟨_,_,rfl,h.look x,h.looks xs⟩
theorem Rel.parts (h:Rel io w0 N g s a w) (ps:Array (Nat×Operand)):uT g w (partsOf (Proofs.YtmmafcjjlbgnkaaGreatDoor.look s.tm) ps) (ps.map fun(i,x)=>(i,a.eval x)).toList:=by
 unfold partsOf;rw[Array.toList_map]
 induction ps.toList with
 |nil=>simp[uT]
 |cons q qs ih=>simp only[List.map_cons,uT];exact⟨_,_,rfl,h.look q.2,ih⟩
theorem ag8 {sz:Nat}:∀(es:List PV) (m:Nat) (ps:List (Nat×PV)) (vs:List (Nat×Value)) (cells:Array Value),
 ps.map (·.2)=es→ps.map (·.1)=(List.range' m es.length)→uT g w ps vs→(∀e∈es,∃cs,bJ e=some cs∧cs.length=sz)→(m+es.length)*sz≤cells.size→
 ∃cells',Instr.fill (fun i=>some (i*sz,sz)) cells vs=some cells'∧cells'.size=cells.size∧(∀i,i<m*sz→cells'[i]?=cells[i]?)∧
  ∀(i:Nat) e,es[i]?=some e→∃u,Rep g w e u∧u.cells.all (·.oneCell')=true∧u.cells.size=sz∧∀j,j<sz→cells'[(m+i)*sz+j]?=u.cells[j]?
 |[],m,ps,vs,cells,h1,h2,h3,h4,h5=>by
  have:ps=[]:=by simpa using h1
  subst this;simp only[uT]at h3;subst h3;exact⟨cells,by simp[Instr.fill],rfl,fun _ _=>rfl,fun i e he=>by simp at he⟩
 |e::es,m,[],vs,cells,h1,h2,h3,h4,h5=>by simp at h1
 |e::es,m,q::ps,vs,cells,h1,h2,h3,h4,h5=>by
  simp only[List.map_cons,List.cons.injEq]at h1;obtain⟨hq2,h1⟩:=h1;simp only[List.map_cons,List.length_cons,List.range'_succ,List.cons.injEq]at h2;obtain⟨hq1,h2⟩:=h2;simp only[uT]at h3;obtain⟨v,vs',rfl,hv,h3⟩:=h3;obtain⟨cs,hc1,hc2⟩:=h4 e (by simp);rw[hq2]at hv;obtain⟨hv1,hv2,hv3⟩:=iE hv hc1;simp only[List.length_cons]at h5;have hmul:(m+(es.length+1))*sz=m*sz+sz+es.length*sz:=by simp only[Nat.add_mul,Nat.one_mul];omega
  have hfold:=mQ (m*sz) v.cells.toList 0 cells (by simp;omega);have hst:(v.cells.zipIdx.foldl (fun cs (x:Value×Nat)=>cs.setIfInBounds (m*sz+x.2) x.1) cells).toList=fM cells.toList (m*sz) v.cells.toList:=by rw[←Array.foldl_toList,Array.toList_zipIdx];simpa [fM]using hfold
  generalize hC:v.cells.zipIdx.foldl (fun cs (x:Value×Nat)=>cs.setIfInBounds (m*sz+x.2) x.1) cells=C at hst;have hsz:C.size=cells.size:=by have:=congrArg List.length hst;simp only[fM,Array.length_toList,List.length_append,List.length_take,List.length_drop]at this;omega
  have hCget:∀i,C[i]?=if m*sz≤i∧i<m*sz+sz then v.cells[i-m*sz]? else cells[i]?:=by
   intro i;have e0:C[i]?=C.toList[i]?:=by simp
   rw[e0,hst];unfold fM;have hl1:(cells.toList.take (m*sz)).length=m*sz:=by simp;omega
   by_cases c1:i<m*sz
   ·rw[if_neg (by omega),List.append_assoc,List.getElem?_append_left (by omega)]
    simp[c1]
   ·by_cases c2:i<m*sz+sz
    ·rw[if_pos (by omega),List.append_assoc,List.getElem?_append_right (by omega),hl1,List.getElem?_append_left (by simp;omega)]
     simp
    ·rw[if_neg (by omega),List.getElem?_append_right (by simp;omega)]
     simp only[List.length_append,hl1,Array.length_toList,List.getElem?_drop];rw[show m*sz+v.cells.size+(i-(m*sz+v.cells.size))=i by omega];simp
  obtain⟨cells',g1,g2,g3,g4⟩:=ag8 es (m+1) ps vs' C h1 h2 h3 (fun x hx=>h4 x (by simp[hx])) (by rw[hsz,Nat.add_mul,Nat.add_mul];omega);refine⟨cells',?_,by rw[g2,hsz],?_,?_⟩
  ·simp only[Instr.fill,hq1]
   rw[if_neg (by simp;omega),hC];exact g1
  ·intro i hi
   rw[g3 i (by rw[Nat.add_mul];omega),hCget,if_neg (by omega)]
  ·intro i x hx
   cases i with
   |zero=>simp only[List.getElem?_cons_zero,Option.some.injEq]at hx;subst hx;refine⟨v,hv,hv1,by omega,fun j hj=>?_⟩;rw[Nat.add_zero,g3 _ (by rw[Nat.add_mul];omega),hCget,if_pos (by omega)];congr 1;omega
   |succ i=>simp only[List.getElem?_cons_succ]at hx;obtain⟨u,k1,k2,k3,k4⟩:=g4 i x hx;exact⟨u,k1,k2,k3,fun j hj=>by rw[show(m+(i+1))=(m+1+i) by omega];exact k4 j hj⟩
theorem anj {es:List PV} {arr:Array Value} {T sz:Nat} {g':Gh} (hle:g.le g')
 (h:∀(i:Nat) e,es[i]?=some e→∃u,Rep g w e u∧u.cells.all (·.oneCell')=true∧u.cells.size=sz∧∀j,j<sz→arr[i*sz+j]?=u.cells[j]?)
 (hlt:∀k b,g.I k b→b<w.heap.size):bB g' (w.alloc (.cells arr T)) sz es w.heap.size 0:=by
 refine bB.of fun i e he=>?_;obtain⟨u,h1,h2,h3,h4⟩:=h i e he;refine⟨u,h1.mono hle (fun k b hb=>Below.heap_alloc _ _ _ (hlt k b hb)),⟨h2,fun j hj=>?_⟩,h3⟩;have:=heap_alloc_new w (.cells arr T);simp only[World.cell?,this,Nat.zero_add];simpa using h4 j (by omega)
theorem ac8 {t n e sz:Nat} {es:List PV} {ps:List (Nat×PV)} (h:iL P t n ps=some (e,sz,es)):n≤9223372036854775807:=by
 unfold iL at h;split at h
 ·split at h
  ·split at h
   ·rename_i hc;exact hc.2.1
   ·cases h
  ·cases h
 ·cases h
theorem run_buildSlice {t n e sz:Nat} {es:List PV} {ps:List (Nat×PV)} {vs:Array (Nat×Value)} (h:iL P t n ps=some (e,sz,es)) (hp:uT g w ps vs.toList):
 es.length=n∧∃arr:Array Value,arr.size=n*sz∧(Instr.buildSlice t n vs).run P w=.ok (.slice (some ⟨w.heap.size,0,none⟩) n n) (w.alloc (.cells arr e))∧
   ∀(i:Nat) x,es[i]?=some x→∃u,Rep g w x u∧u.cells.all (·.oneCell')=true∧u.cells.size=sz∧∀j,j<sz→arr[i*sz+j]?=u.cells[j]?:=by
 unfold iL at h;split at h
 ·rename_i e' he
  split at h
  ·rename_i sz' z hs hz
   split at h
   case isFalse=>cases h
   case isTrue hc=>
    obtain⟨c1,c0,c2,c3⟩:=hc;cases h;have hlen:(ps.map (·.2)).length=n:=by have:=congrArg List.length c2;simpa using this
    refine⟨hlen,?_⟩;obtain⟨cells',g1,g2,g3,g4⟩:=ag8 (g:=g) (w:=w) (ps.map (·.2)) 0 ps vs.toList ((Array.range (n*sz)).map ((if n*sz=0 then(#[]:Array Value)else z.cells)[· % (if n*sz=0 then(#[]:Array Value)else z.cells).size]!)) rfl
     (by rw[c2,hlen,List.range_eq_range']) hp
     (fun x hx=>by
       rw[List.all_eq_true]at c3;have:=c3 x hx;unfold okP at this;split at this
       ·rename_i cs hcs
        exact⟨cs,hcs,by simpa using this⟩
       ·cases this)
     (by rw[hlen];simp)
    refine⟨cells',by rw[g2];simp,?_,fun i x hx=>by simpa using g4 i x hx⟩;unfold cZ at he;split at he
    ·rename_i e'' hu
     cases he;by_cases h0:n*sz=0
     ·simp only[h0,if_true]at g1
      simp[Instr.buildSlice,Sem.run_bind,run_underlying hu w,dF hs w,h0,newRow]at g1⊢;simp[g1]
     ·simp only[h0,if_false]at g1
      have hnl:¬16777216<n*sz:=by omega
      simp[Instr.buildSlice,Sem.run_bind,run_underlying hu w,dF hs w,l7 hz w,h0,hnl,newRow];simp[g1]
    ·cases he
  ·cases h
 ·cases h
end
end
end Go.Proofs.YtmmafcjjlbgnkaaGreatDoor
