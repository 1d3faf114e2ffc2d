/- What the proof rests on, part 2: contracts of functions. No condition beyond what each states. -/
import Derived.Test.YtmmafcjjlbgnkaaGreatDoorZBiE1
namespace Go.Proofs.YtmmafcjjlbgnkaaGreatDoor
open Go.RowKit
set_option linter.all false
set_option maxHeartbeats 32000000
noncomputable section
section
variable {P:Program} {Γ:Ctx} {io:IoS} {w0:World} {N:Nat} {g:Gh} {s:AS} {a:Act} {w:World} {o:Oper} {p:PV}
theorem jB (h:Rel io w0 N g s a w) {sz:Nat} {x:PV} {es:List PV} {v:Value} (hx:Rep g w x v) (he:bF s.ob sz x=some es):
 ∃ad cap,v=.slice ad es.length cap∧es.length≤cap∧(es=[]∨∃b off,ad=some ⟨b,off,none⟩∧bB g w sz es b off):=by
 unfold bF at he;split at he
 ·split at he
  case isFalse=>cases he
  case isTrue hs=>cases he;subst hs;simp only[Rep]at hx;obtain⟨ad,cap,h1,h2,h3,h4⟩:=hx;refine⟨ad,cap,h1,h2,h4.imp id ?_⟩;rintro⟨b,off,h5,h6,h7⟩;exact⟨b,off,h5,h7⟩
 ·rename_i ob sz' i n
  split at he
  ·rename_i T sz'' es0 ho
   split at he
   case isFalse=>cases he
   case isTrue hs=>
    obtain⟨rfl,rfl,hle⟩:=hs;cases he;simp only[Rep]at hx;obtain⟨c,rfl,h2,h3,h4,h5⟩:=hx;have hl:((es0.drop i).take n).length=n:=by simp;omega
    refine⟨_,c,by rw[hl],by omega,.inr ⟨_,_,rfl,?_⟩⟩;have:=((h.ob ob _ ho).2.2.2.2.2.drop i).take n;simpa using this
  ·cases he
 ·simp only[Option.some.injEq]at he
  subst he;simp only[Rep]at hx;subst hx;exact⟨none,0,rfl,Nat.le_refl _,.inl rfl⟩
 ·cases he
theorem aag:∀{es:List PV} {ns:List Int} {b off:Nat},bB g w 1 es b off→jO es=some ns→es.length=ns.length∧∀(j:Nat) v,(ns.map (Value.int .u8))[j]?=some v→w.cell? ⟨b,off+j,none⟩=some v
 |[],ns,b,off,h,hn=>by simp only[jO,Option.some.injEq]at hn;subst hn;simp
 |e::es,ns,b,off,h,hn=>by
  simp only[bB]at h;obtain⟨⟨u,h1,h2,h3⟩,h4⟩:=h;have key:∃n ns',ns=n::ns'∧e=.val (.int .u8 n)∧jO es=some ns':=by
   cases e with
   |val v=>
    cases v with
    |int k n=>
     cases k<;>first
      |(simp[jO]at hn;done)
      |(simp only[jO,Option.map_eq_some_iff]at hn;obtain⟨a,ha,rfl⟩:=hn;exact⟨n,a,rfl,rfl,ha⟩)
    |_=>simp[jO]at hn
   |_=>simp[jO]at hn
  obtain⟨n,ns',rfl,rfl,h5⟩:=key;have ih:=aag h4 h5;simp only[Rep]at h1;subst h1;refine⟨by simp[ih.1],fun j v hv=>?_⟩;cases j with
  |zero=>have:=h2.2 0 (by simp[Value.cells]);simp only[List.map_cons,List.getElem?_cons_zero,Option.some.injEq]at hv;subst hv;simpa [Value.cells]using this
  |succ j=>simp only[List.map_cons,List.getElem?_cons_succ]at hv;have:=ih.2 j v hv;rw[show off+(j+1)=off+1+j by omega];exact this
theorem adh {src dst:Nat} (h:Rel io w0 N g s a w) {x:PV} {v:Value} {ns:List Int} {es:List PV} (hx:Rep g w x v) (h1:fA P src=true) (h2:isStr P dst=true)
 (he:bF s.ob 1 x=some es) (hn:jO es=some ns):(convert src dst v).run P w=.ok (.string (bytesOf ns)) w:=by
 obtain⟨ad,cap,rfl,h3,h4⟩:=jB h hx he;unfold fA at h1;split at h1
 ·rename_i e hu
  split at h1
  ·rename_i hue
   unfold isStr at h2;split at h2
   ·rename_i hd
    rw[run_convert_bytes_string w src dst e ad _ cap hu hue hd];rcases h4 with rfl|⟨b,off,rfl,h5⟩
    ·simp only[jO,Option.some.injEq]at hn
     subst hn;cases ad with
     |none=>simp[Conv.bytesToString,bytesOf]
     |some ad=>have:=run_bytesToString (P:=P) w ad 0 cap [] (by simp[loadCells,loadCellsFrom]);simpa [bytesOf]using this
    ·have hb:=aag h5 hn
     have hl:=run_loadCells_list (P:=P) w ⟨b,off,none⟩ (ns.map (Value.int .u8)) (fun j v hv=>by rw[Addr.add_mid];exact hb.2 j v hv);rw[List.length_map,←hb.1]at hl;exact run_bytesToString w _ _ cap ns hl
   ·cases h2
  ·cases h1
 ·cases h1
theorem Yld.call (h:Rel io w0 N g s a w) (hΓ:fJ P Γ io.wr w0) {c:Call} {x:Operand} (ho:o.op=.call c) (hc:c.callee=.value x) {f:Nat} (hf:azf (look s.tm x)=some f) {φ:Fun} (hφ:Γ f=some φ)
 {ps:List PV} (hps:(c.args.toList.map (look s.tm)).mapM (reify false 0 s.ob fuel)=some ps) (hr:φ ps=some p):Yld P o a w g p:=fun K Q hk=>by
 have hx:=h.look x;obtain⟨⟨fn,hfn,hname,hbody⟩,hsound⟩:=hΓ.1 f φ hφ;have hv:a.eval x=.func (.func f) #[] #[]:=by
  unfold azf at hf;split at hf
  ·rename_i f' first captured hl
   split at hf
   case isFalse=>cases hf
   case isTrue hz=>cases hf;rw[hl]at hx;simp only[Rep]at hx;rw[hx,Array.eq_empty_of_size_eq_zero hz.1,Array.eq_empty_of_size_eq_zero hz.2]
  ·cases hf
 have hrun:(execOp a.eval o).run P w=.ok (.enter f (c.args.map a.eval)) w:=by unfold execOp;simp only[ho,resolve,hc,hv,Deferred.ofValue,Sem.run_bind,Sem.run_pure,Result.andThen_ok,invoke,callFunc,run_program,hfn];simp[hname,hbody]
 unfold Oper.wp;rw[hrun,Oper.upon_enter]
 let J:Nat→Prop:=fun b=>(∃k,g.I k b)∨∃o,(s.ob o).isSome∧b=g.β o
 have hseen:Seen false 0 g s (lG J):=⟨fun _=>⟨fun k b hb=>⟨rfl,.inl ⟨k,hb⟩⟩,fun o ho=>⟨rfl,.inr ⟨o,ho,rfl⟩⟩⟩,fun hh=>by cases hh⟩;have hargs:bL (lG J) w ps (c.args.map a.eval).toList:=by rw[Array.toList_map];exact bL.conv (Rep.seen (fun o c hoc=>(h.ob o c hoc).2.2.2) hseen fuel) (h.looks _) hps
 refine(hsound w J ps _ p hr ?_ (h.tab.keep h.fr fun _ _ q=>q) hargs).mono ?_
 ·rintro b (⟨k',hb⟩|⟨o',ho',rfl⟩)
  ·exact h.lt k' b hb
  ·obtain⟨c',hc'⟩:=Option.isSome_iff_exists.1 ho'
   obtain⟨arr,harr,_⟩:=(h.ob o' c' hc').2.2.2.1;exact lt_of_heap harr
 ·rintro e w' ⟨v,rfl,hb,hrep⟩
  exact hk v w' hb (hrep _ fun b h1 h2=> .inr ⟨rfl,h1,h2⟩)
theorem asD (h:Rel io w0 N g s a w) (hΓ:fJ P Γ io.wr w0) (hv:aZ P Γ s.ob (look s.tm) o.type o.op=some p):Yld P o a w g p:=by
 cases ho:o.op with
 |move x=>simp only[ho,aZ,Option.some.injEq]at hv;subst hv;exact Yld.run (v:=a.eval x) (by simp[execOp,ho]) (h.look x)
 |assign x=>simp only[ho,aZ,Option.some.injEq]at hv;subst hv;exact Yld.run (v:=a.eval x) (by simp[execOp,ho]) (h.look x)
 |pick c x y=>
  simp only[ho,aZ]at hv;split at hv
  ·rename_i b hb
   simp only[Option.some.injEq]at hv;subst hv;have hc:=h.look c;rw[hb]at hc;simp only[Rep]at hc;refine Yld.run (v:=if b then a.eval x else a.eval y) (by simp[execOp,ho,hc,asBool]) ?_;cases b
   ·exact h.look y
   ·exact h.look x
  ·cases hv
 |build t ps=>simp only[ho,aZ]at hv;obtain⟨v,h1,h2⟩:=run_build (w:=w) (h.parts ps) hv;exact Yld.run (v:=v) (by simp[execOp,ho,h1]) h2
 |buildSlice t n ps=>
  simp only[ho,aZ]at hv;split at hv
  ·rename_i e sz es h1
   simp only[Option.some.injEq]at hv;subst hv;obtain⟨hl,arr,h2,h3,h4⟩:=run_buildSlice (w:=w) h1 (h.parts ps);have hsz:=ac8 h1;intro K Q hk;unfold Oper.wp;have hrun:(execOp a.eval o).run P w=.ok (.value (.slice (some ⟨w.heap.size,0,none⟩) n n)) (w.alloc (.cells arr e)):=by simp[execOp,ho,h3]
   rw[hrun,Oper.upon_value];refine hk _ _ ((Below.refl _ _).alloc (Nat.le_refl _) _) ?_;simp only[Rep];refine⟨_,n,by rw[hl],by omega,hsz,.inr ⟨w.heap.size,0,rfl,.inr ⟨rfl,Nat.le_refl _,by simp⟩,?_⟩⟩;exact anj (Gh.afo _ _ _) h4 h.lt
  ·cases hv
 |load t x=>
  simp only[ho,aZ]at hv;have hx:=h.look x;split at hv
  ·rename_i ob sz i f hl
   rw[hl]at hx;split at hv
   ·rename_i T sz' es hob
    split at hv
    case isFalse=>cases hv
    case isTrue hs=>subst hs;simp only[Option.bind_eq_some_iff]at hv;obtain⟨e,he,hsub⟩:=hv;simp only[Rep]at hx;obtain⟨hx,_⟩:=hx;obtain⟨u,h1,h2,h3⟩:=(h.ob ob _ hob).2.2.2.2.2.get he;obtain⟨v,h4,h5⟩:=iO h1 h2 hsub;rw[Nat.zero_add]at h4;exact Yld.run (v:=v) (by simp[execOp,ho,hx,h4]) h5
   ·cases hv
  ·rename_i k e f hl
   rw[hl]at hx;simp only[Rep]at hx;obtain⟨b,off,hx,_,u,h1,h2⟩:=hx;obtain⟨v,h4,h5⟩:=iO h1 h2 hv;exact Yld.run (v:=v) (by simp[execOp,ho,hx,h4]) h5
  ·cases hv
 |nilCheck x=>
  simp only[ho,aZ]at hv;have hx:=h.look x;split at hv
  ·rename_i ob sz i f hl
   simp only[Option.some.injEq]at hv;subst hv;rw[hl]at hx;have hx':=hx;simp only[Rep]at hx';exact Yld.run (v:=a.eval x) (by simp[execOp,ho,hx'.1]) hx
  ·rename_i k e f hl
   simp only[Option.some.injEq]at hv;subst hv;rw[hl]at hx;have hx':=hx;simp only[Rep]at hx';obtain⟨b,off,hx',_⟩:=hx';exact Yld.run (v:=a.eval x) (by simp[execOp,ho,hx']) hx
  ·cases hv
 |binOp b t x y t'=>
  simp only[ho,aZ]at hv;split at hv
  ·rename_i u v h1 h2
   simp only[Option.map_eq_some_iff]at hv;obtain⟨z,h3,rfl⟩:=hv;have e1:=eu (h.look x) h1;have e2:=eu (h.look y) h2;have h4:=dW h3 w;have h5:execOp a.eval o=((do eqGuard b t x y u v;binOp b t u v)>>=fun z=>pure (.value z)):=by simp only[execOp,ho,e1,e2]
   exact Yld.run (v:=z) (by rw[h5,Sem.run_bind,h4];rfl) (by simp[Rep])
  ·cases hv
 |unOp u t x=>
  simp only[ho,aZ]at hv;split at hv
  ·rename_i v h1
   simp only[Option.map_eq_some_iff]at hv;obtain⟨z,h3,rfl⟩:=hv;have e1:=eu (h.look x) h1;exact Yld.run (v:=z) (by simp[execOp,ho,e1,dW h3 w]) (by simp[Rep])
  ·cases hv
 |convert src dst x=>
  simp only[ho,aZ]at hv;split at hv
  ·rename_i hc
   simp only[Option.map_eq_some_iff,Option.bind_eq_some_iff]at hv;obtain⟨ns,⟨es,h1,h2⟩,rfl⟩:=hv;exact Yld.run (v:=.string (bytesOf ns)) (by simp[execOp,ho,adh h (h.look x) hc.1 hc.2 h1 h2]) (by simp[Rep])
  ·split at hv
   ·rename_i v h1
    simp only[Option.map_eq_some_iff]at hv;obtain⟨z,h3,rfl⟩:=hv;have e1:=eu (h.look x) h1;exact Yld.run (v:=z) (by simp[execOp,ho,e1,dW h3 w]) (by simp[Rep])
   ·cases hv
 |slice t x lo hi mx=>
  cases mx with
  |some m=>simp[ho,aZ]at hv
  |none=>
   have hopt:∀(q:Option Operand) (i:Option Int),aoY (q.map (look s.tm))=some i→q.map a.eval=i.map (Value.int .i64):=by
    intro q i hq;cases q with
    |none=>simp only[aoY,Option.map_none,Option.some.injEq]at hq;subst hq;rfl
    |some y=>
     have hy:=h.look y;simp only[Option.map_some]at hq⊢;unfold aoY at hq;split at hq
     ·rename_i heq;cases heq
     ·rename_i n heq
      cases hq;simp only[Option.some.injEq]at heq;rw[heq]at hy;simp only[Rep]at hy;simp[hy]
     ·cases hq
   simp only[ho,aZ]at hv;split at hv
   ·rename_i st hl
    split at hv
    ·rename_i l hh h1 h2
     have e1:=hopt _ _ h1;have e2:=hopt _ _ h2;have hx:=h.look x;rw[hl]at hx;simp only[Rep]at hx;simp only[Option.map_eq_some_iff]at hv;obtain⟨z,h4,rfl⟩:=hv;exact Yld.run (v:=z) (by simp only[execOp,ho,e1,e2,hx,Option.map_none];rw[Sem.run_bind,dW h4 w];rfl) (by simp[Rep])
    ·cases hv
   ·split at hv
    ·rename_i l hh h1 h2
     have e1:=hopt _ _ h1;have e2:=hopt _ _ h2;obtain⟨u,h3,h4⟩:=akn (P:=P) (kl:=.i64) (kh:=.i64) (h.look x) hv;exact Yld.run (v:=u) (by simp only[execOp,ho,e1,e2,Option.map_none];simp[h3]) h4
    ·cases hv
 |fieldAddr t x f=>
  simp only[ho,aZ]at hv;have hx:=h.look x;split at hv
  ·rename_i ob sz i c k hl hk
   simp only[Option.some.injEq]at hv;subst hv;rw[hl]at hx;simp only[Rep]at hx;have:=wu hk (g.β ob) (i*sz+c) w;refine Yld.run (v:=.pointer (some ⟨g.β ob,i*sz+c+k,none⟩)) (by simp[execOp,ho,hx.1,this]) ?_;simp only[Rep];exact⟨by rw[Nat.add_assoc],hx.2⟩
  ·rename_i b e c k hl hk
   simp only[Option.some.injEq]at hv;subst hv;rw[hl]at hx;simp only[Rep]at hx;obtain⟨bb,off,hx,h1,h2⟩:=hx;have:=wu hk bb (off+c) w;refine Yld.run (v:=.pointer (some ⟨bb,off+c+k,none⟩)) (by simp[execOp,ho,hx,this]) ?_;simp only[Rep];exact⟨bb,off,by rw[Nat.add_assoc],h1,h2⟩
  ·cases hv
 |indexAddr t x i=>
  simp only[ho,aZ]at hv;split at hv
  ·rename_i n hn
   have hi:=h.look i;unfold asI at hn;split at hn
   ·rename_i k n' hl
    cases hn;rw[hl]at hi;simp only[Rep]at hi;obtain⟨u,h1,h2⟩:=aaU (k:=k) (h.look x) hv;exact Yld.run (v:=u) (by simp[execOp,ho,hi,h1]) h2
   ·cases hn
  ·cases hv
 |index t x i=>
  simp only[ho,aZ]at hv;split at hv
  ·rename_i u v h1 h2
   simp only[Option.map_eq_some_iff]at hv;obtain⟨z,h3,rfl⟩:=hv;have e1:=eu (h.look x) h1;have e2:=eu (h.look i) h2;exact Yld.run (v:=z) (by simp[execOp,ho,e1,e2,dW h3 w]) (by simp[Rep])
  ·cases hv
 |lookup t x y c=>
  simp only[ho,aZ,lkP]at hv;split at hv
  ·rename_i M b v hM hx hy
   split at hv
   ·rename_i hc
    obtain⟨rfl,rfl⟩:=hc;obtain⟨h1,h2,h3⟩:=hΓ.2.2 M hM;obtain⟨u,h4,h5⟩:=h3 v c p hv w g (h.fr.block _ h1 h2);have ex:=h.look x;rw[hx]at ex;simp only[Rep]at ex;have ey:=eu (h.look y) hy;exact Yld.run (v:=u) (by simp[execOp,ho,ex,ey,h4]) h5
   ·cases hv
  ·cases hv
 |extract x i=>
  simp only[ho,aZ]at hv;split at hv
  ·rename_i vs hl
   have hx:=h.look x;rw[hl]at hx;simp only[Rep]at hx;obtain⟨us,hx,h1⟩:=hx;obtain⟨v,h2,h3⟩:=h1.get.2 i p hv;have h2':us[i]?=some v:=by simpa using h2
   exact Yld.run (v:=v) (by simp[execOp,ho,hx,Instr.extract,h2']) h3
  ·cases hv
 |call c=>
  simp only[ho,aZ]at hv;split at hv
  ·rename_i x hc
   split at hv
   ·rename_i f hf
    split at hv
    ·rename_i φ ps h1 h2
     exact Yld.call h hΓ ho hc hf h1 h2 hv
    ·cases hv
   ·cases hv
  ·rename_i hc
   split at hv
   ·rename_i x t h1 h2
    have ha:c.args=#[x]:=by rw[←Array.toArray_toList (xs:=c.args),h1]
    have ht:c.argTypes=#[t]:=by rw[←Array.toArray_toList (xs:=c.argTypes),h2]
    have hx:=h.look x;have key:∀z,(Builtin.len_ #[t] o.type #[a.eval x]).run P w=.ok z w→(execOp a.eval o).run P w=.ok (.value z) w:=by intro z hz;simp[execOp,ho,resolve,hc,ha,ht,invoke,builtin,hz]
    split at hv
    ·rename_i q hq
     cases hv;unfold ady at hq;split at hq
     ·rename_i k sz es hl
      split at hq
      case isFalse=>cases hq
      case isTrue hs=>
       cases hq;rw[hl]at hx;simp only[Rep]at hx;obtain⟨ad,cap,hx,_⟩:=hx;unfold cZ at hs;split at hs
       ·rename_i e hu
        exact Yld.run (v:=.int .i64 es.length) (key _ (by simp[Builtin.len_,run_underlying hu w,hx,goInt])) (by simp[Rep])
       ·cases hs
     ·rename_i ob sz i n hl
      split at hq
      case isFalse=>cases hq
      case isTrue hs=>
       cases hq;rw[hl]at hx;simp only[Rep]at hx;obtain⟨cap,hx,_⟩:=hx;unfold cZ at hs;split at hs
       ·rename_i e hu
        exact Yld.run (v:=.int .i64 n) (key _ (by simp[Builtin.len_,run_underlying hu w,hx,goInt])) (by simp[Rep])
       ·cases hs
     ·cases hq
    ·split at hv
     ·rename_i v h3
      simp only[Option.map_eq_some_iff]at hv;obtain⟨z,h4,rfl⟩:=hv;have e1:=eu hx h3;exact Yld.run (v:=z) (key _ (by rw[e1];exact dW h4 w)) (by simp[Rep])
     ·cases hv
   ·cases hv
  ·rename_i hc
   split at hv
   ·rename_i vs h1
    simp only[Option.map_eq_some_iff]at hv;obtain⟨z,h4,rfl⟩:=hv;have e1:=pW (h.looks c.args.toList) h1;have e2:c.args.map a.eval=vs.toArray:=by apply Array.ext';simp[←e1]
    exact Yld.run (v:=z) (by simp[execOp,ho,resolve,hc,invoke,builtin,e2,dW h4 w]) (by simp[Rep])
   ·cases hv
  ·rename_i hc
   split at hv
   ·rename_i vs h1
    simp only[Option.map_eq_some_iff]at hv;obtain⟨z,h4,rfl⟩:=hv;have e1:=pW (h.looks c.args.toList) h1;have e2:c.args.map a.eval=vs.toArray:=by apply Array.ext';simp[←e1]
    exact Yld.run (v:=z) (by simp[execOp,ho,resolve,hc,invoke,builtin,e2,dW h4 w]) (by simp[Rep])
   ·cases hv
  ·cases hv
 |_=>simp[ho,aZ]at hv
end
def Lays (g:Gh) (w:World) (arr:Array Value) (sz:Nat) (es:List PV):Prop:=
 ∀(i:Nat) e,es[i]?=some e→∃u,Rep g w e u∧u.cells.all (·.oneCell')=true∧u.cells.size=sz∧∀j,j<sz→arr[i*sz+j]?=u.cells[j]?
def Gh.add (g:Gh) (b k:Nat):Gh:={g with β:=upd g.β g.nx b,κ:=upd g.κ g.nx k,nx:=g.nx+1,hole:=fun o=>g.hole o∧o≠g.nx}
theorem Gh.asa {g:Gh} {b k:Nat}:(g.add b k).D g.nx:=⟨Nat.lt_succ_self _,fun h=>h.2 rfl⟩
theorem Gh.atJ (g:Gh) (b k:Nat):g.le (g.add b k):=
 ⟨fun _ _ h=>h,fun o h=>⟨Nat.lt_succ_of_lt h.1,fun q=>h.2 q.1⟩,fun o ho=>upd_ne _ _ _ (by have:=ho.1;omega),fun o ho=>upd_ne _ _ _ (by have:=ho.1;omega)⟩
theorem Gh.le_refl (g:Gh):g.le g:=⟨fun _ _ h=>h,fun _ h=>h,fun _ _=>rfl,fun _ _=>rfl⟩
section
variable {P:Program} {Γ:Ctx} {io:IoS} {w0:World} {N:Nat} {g:Gh} {s:AS} {a:Act} {w w':World} {o:Oper} {p:PV}
theorem Lays.aen {arr:Array Value} {sz T b:Nat} {es:List PV} {g':Gh} (h:Lays g w arr sz es) (hg:g.le g') (hw:∀k b,g.I k b→w'.heap[b]?=w.heap[b]?) (hb:w'.heap[b]?=some (.cells arr T (0,0))):bB g' w' sz es b 0:=
 bB.of fun i e he=>by obtain⟨u,h1,h2,h3,h4⟩:=h i e he;refine⟨u,h1.mono hg hw,⟨h2,fun j hj=>?_⟩,h3⟩;simp only[World.cell?,hb,Nat.zero_add];simpa using h4 j (by omega)
theorem Rel.add (h:Rel io w0 N g s a w) (hio:∀b,io b→b<w0.heap.size) {arr:Array Value} {T sz:Nat} {es:List PV} (hb:Below w.heap.size w w') (hn:w'.heap[w.heap.size]?=some (.cells arr T (0,0)))
 (hes:Lays g w arr sz es) (hlen:es.length*sz≤arr.size):
 Rel io w0 N (g.add w.heap.size arr.size) {s with ob:=upd s.ob s.nx (some (T,sz,es)),nx:=s.nx+1} a w':=by
 have hw:∀k b,g.I k b→w'.heap[b]?=w.heap[b]?:=fun k b hi=>hb.block b (h.lt k b hi);have hle:=Gh.atJ g w.heap.size arr.size;have hdead:∀o,g.nx≤o→s.ob o=none:=fun o ho=>by
  cases hq:s.ob o with
  |none=>rfl
  |some c=>have:=(h.ob o c hq).1.1;omega
 have hβn:(g.add w.heap.size arr.size).β g.nx=w.heap.size:=upd_same _ _ _;have hκn:(g.add w.heap.size arr.size).κ g.nx=arr.size:=upd_same _ _ _;have hold:∀o c,s.ob o=some c→g.D o∧g.β o<w.heap.size:=fun o c ho=>by obtain⟨h1,_,_,h4⟩:=h.ob o c ho;obtain⟨arr',ha,_⟩:=h4.1;exact⟨h1,lt_of_heap ha⟩
 refine⟨h.nt,h.df,fun t=>(h.tm t).mono hle hw,fun o c ho=>?_,fun o o' ho ho' he=>?_,by simp[Gh.add,h.nx],fun k b hi=>Nat.lt_of_lt_of_le (h.lt k b hi) hb.size,h.new,h.fr.below hb,h.old,⟨fun o ho=>hle.D o (h.fix.1 o ho),fun o ho=>by have hk:=h.fix.1 o ho;rw[hle.β o hk,hle.κ o hk];exact h.fix.2 o ho⟩,fun o ho=>⟨⟨(h.hl o ho).1,by have:=(h.hl o ho).2;omega⟩,Nat.lt_succ_of_lt (h.hl o ho).2⟩,h.tab⟩
 ·dsimp only at ho
  rw[←h.nx]at ho;unfold upd at ho;split at ho
  ·rename_i heq
   subst heq;cases ho;refine⟨Gh.asa,.inl (by rw[hβn];exact h.fr.size),fun k hk=>?_,⟨arr,by rw[hβn];exact hn,hκn.symm⟩,by rw[hκn];exact hlen,?_⟩
   ·rw[hβn]at hk
    have:=h.lt k _ hk;omega
   ·rw[hβn]
    exact hes.aen hle hw hn
  ·obtain⟨h1,h2,h3,h4⟩:=h.ob o c ho
   have hlt:=(hold o c ho).2;have hβ:=hle.β o h1;refine⟨hle.D o h1,by rw[hβ];exact h2,by rw[hβ];exact h3,h4.mono hle h1 hw (hb.block _ hlt)⟩
 ·dsimp only at ho ho'
  rw[←h.nx]at ho ho';have key:∀o,(upd s.ob g.nx (some (T,sz,es)) o).isSome→o=g.nx∨(s.ob o).isSome∧g.D o∧g.β o<w.heap.size:=fun o ho=>by
   unfold upd at ho;split at ho
   ·left;assumption
   ·obtain⟨c,hc⟩:=Option.isSome_iff_exists.1 ho
    exact .inr ⟨ho,hold o c hc⟩
  rcases key o ho with rfl|⟨k1,k2,k3⟩
  ·rcases key o' ho' with rfl|⟨k1',k2',k3'⟩
   ·rfl
   ·rw[hβn,hle.β o' k2']at he
    omega
  ·rcases key o' ho' with rfl|⟨k1',k2',k3'⟩
   ·rw[hβn,hle.β o k2]at he
    omega
   ·rw[hle.β o k2,hle.β o' k2']at he
    exact h.inj o o' k1 k1' he
theorem Rel.set (h:Rel io w0 N g s a w) {ob T sz:Nat} {es es':List PV} (hob:s.ob ob=some (T,sz,es)) {arr:Array Value}
 (hos:w'.os=w.os∧w'.tape=w.tape∧w'.output=w.output∧w'.heap.size=w.heap.size) (hbl:∀b,b≠g.β ob→w'.heap[b]?=w.heap[b]?) (hn:w'.heap[g.β ob]?=some (.cells arr T (0,0))) (hsz:arr.size=g.κ ob)
 (hes:Lays g w arr sz es') (hlen:es'.length*sz≤g.κ ob):Rel io w0 N g {s with ob:=upd s.ob ob (some (T,sz,es'))} a w':=by
 obtain⟨h1,h2,h3,h4⟩:=h.ob ob _ hob;have hw:∀k b,g.I k b→w'.heap[b]?=w.heap[b]?:=fun k b hi=>hbl b (fun e=>h3 k (e▸hi));refine⟨h.nt,h.df,fun t=>(h.tm t).mono (Gh.le_refl g) hw,fun o c ho=>?_,fun o o' ho ho' he=>?_,h.nx,fun k b hi=>by rw[hos.2.2.2];exact h.lt k b hi,h.new,?_,h.old,h.fix,h.hl,h.tab⟩
 ·dsimp only at ho
  unfold upd at ho;split at ho
  ·rename_i heq
   subst heq;cases ho;exact⟨h1,h2,h3,⟨arr,hn,hsz⟩,hlen,hes.aen (Gh.le_refl g) hw hn⟩
  ·rename_i hne
   obtain⟨k1,k2,k3,k4⟩:=h.ob o c ho;refine⟨k1,k2,k3,k4.mono (Gh.le_refl g) k1 hw (hbl _ (fun e=>hne (h.inj o ob (by simp[ho]) (by simp[hob]) e)))⟩
 ·have key:∀o,(upd s.ob ob (some (T,sz,es')) o).isSome→(s.ob o).isSome:=fun o ho=>by
   unfold upd at ho;split at ho
   ·rename_i heq;subst heq;simp[hob]
   ·exact ho
  exact h.inj o o' (key o ho) (key o' ho') he
 ·refine⟨hos.1.trans h.fr.os,hos.2.1.trans h.fr.tape,hos.2.2.1.trans h.fr.output,by rw[hos.2.2.2];exact h.fr.size,fun b hb hi=>?_⟩
  rw[hbl b (fun e=>?_)]
  ·exact h.fr.block b hb hi
  ·subst e
   rcases h2 with h2|h2
   ·omega
   ·exact hi h2
theorem Rel.del (h:Rel io w0 N g s a w) (ob:Nat):Rel io w0 N g {s with ob:=upd s.ob ob none} a w:=by
 have key:∀o c,upd s.ob ob none o=some c→s.ob o=some c:=fun o c ho=>by
  unfold upd at ho;split at ho
  ·cases ho
  ·exact ho
 refine⟨h.nt,h.df,h.tm,fun o c ho=>h.ob o c (key o c ho),fun o o' ho ho' he=>?_,h.nx,h.lt,h.new,h.fr,h.old,h.fix,h.hl,h.tab⟩;obtain⟨c,hc⟩:=Option.isSome_iff_exists.1 ho;obtain⟨c',hc'⟩:=Option.isSome_iff_exists.1 ho';exact h.inj o o' (by simp[key o c hc]) (by simp[key o' c' hc']) he
theorem afP {α:Type} (f:Nat→α) (d:Nat) (v v':α):upd (upd f d v) d v'=upd f d v':=by funext t;unfold upd;split<;>rfl
theorem Rel.rename (h:Rel io w0 N g s a w) {ob:Nat} {c:Nat×Nat×List PV} (hob:s.ob ob=some c):
 Rel io w0 N (g.add (g.β ob) (g.κ ob)) {s with ob:=upd (upd s.ob ob none) s.nx (some c),nx:=s.nx+1} a w:=by
 have hle:=Gh.atJ g (g.β ob) (g.κ ob);have hw:∀k b,g.I k b→w.heap[b]?=w.heap[b]?:=fun _ _ _=>rfl;obtain⟨h1,h2,h3,h4⟩:=h.ob ob _ hob;have hβn:(g.add (g.β ob) (g.κ ob)).β g.nx=g.β ob:=upd_same _ _ _;have hκn:(g.add (g.β ob) (g.κ ob)).κ g.nx=g.κ ob:=upd_same _ _ _;have key:∀o c',upd (upd s.ob ob none) g.nx (some c) o=some c'→(o=g.nx∧c'=c)∨(o≠ob∧g.D o∧s.ob o=some c'):=fun o c' ho=>by
  unfold upd at ho;split at ho
  ·rename_i heq;cases ho;exact .inl ⟨heq,rfl⟩
  ·split at ho
   ·cases ho
   ·rename_i hne;exact .inr ⟨hne,(h.ob o c' ho).1,ho⟩
 refine⟨h.nt,h.df,fun t=>(h.tm t).mono hle hw,fun o c' ho=>?_,fun o o' ho ho' he=>?_,by simp[Gh.add,h.nx],h.lt,h.new,h.fr,h.old,⟨fun o ho=>hle.D o (h.fix.1 o ho),fun o ho=>by have hk:=h.fix.1 o ho;rw[hle.β o hk,hle.κ o hk];exact h.fix.2 o ho⟩,fun o ho=>⟨⟨(h.hl o ho).1,by have:=(h.hl o ho).2;omega⟩,Nat.lt_succ_of_lt (h.hl o ho).2⟩,h.tab⟩
 ·dsimp only at ho
  rw[←h.nx]at ho;rcases key o c' ho with⟨rfl,rfl⟩|⟨k1,k2,k3⟩
  ·refine⟨Gh.asa,by rw[hβn];exact h2,by rw[hβn];exact h3,?_⟩
   obtain⟨⟨arr,m1,m2⟩,m3,m4⟩:=h4;exact⟨⟨arr,by rw[hβn];exact m1,by rw[hκn];exact m2⟩,by rw[hκn];exact m3,by rw[hβn];exact bB.mono hle hw _ _ _ _ rfl m4⟩
  ·obtain⟨l1,l2,l3,l4⟩:=h.ob o c' k3
   have hβ:=hle.β o l1;exact⟨hle.D o l1,by rw[hβ];exact l2,by rw[hβ];exact l3,l4.mono hle l1 hw rfl⟩
 ·dsimp only at ho ho'
  rw[←h.nx]at ho ho';obtain⟨c1,hc1⟩:=Option.isSome_iff_exists.1 ho;obtain⟨c2,hc2⟩:=Option.isSome_iff_exists.1 ho';rcases key o c1 hc1 with⟨rfl,_⟩|⟨k1,k2,k3⟩
  ·rcases key o' c2 hc2 with⟨rfl,_⟩|⟨k1',k2',k3'⟩
   ·rfl
   ·rw[hβn,hle.β o' k2']at he
    exact absurd (h.inj ob o' (by simp[hob]) (by simp[k3']) he).symm k1'
  ·rcases key o' c2 hc2 with⟨rfl,_⟩|⟨k1',k2',k3'⟩
   ·rw[hβn,hle.β o k2]at he
    exact absurd (h.inj o ob (by simp[k3]) (by simp[hob]) he) k1
   ·rw[hle.β o k2,hle.β o' k2']at he
    exact h.inj o o' (by simp[k3]) (by simp[k3']) he
end
def bn:Value→PV
 | .agg cs=> .agg (cs.toList.map .val)
 |v=> .val v
theorem yH (g:Gh) (w:World) (v:Value):Rep g w (bn v) v:=by
 cases v with
 |agg cs=>simp only[bn,Rep];exact⟨cs,rfl,bL.vals _⟩
 |_=>simp[bn,Rep]
def dO (P:Program) (t:Nat):Option Nat:=(P.info? t).map (·.bytes)
def axX (sz:Nat) (e:PV) (f:Nat) (y:PV) (cs:List PV):Option PV:=
 match e with
 | .agg ecs=>if f+cs.length≤ecs.length then some (.agg (fM ecs f cs))else none
 |_=>if sz=1∧f=0∧nX y=true then some y else none
def akf (Φ:jh) (ob:bG) (nx:Nat) (ps:List PV):Option (PV×bG×Nat):=
 let os:=dedup (ps.flatMap refsOf)
 match os.mapM ob,ps.mapM (fq (inn os) fuel)with
 |some cs,some qs=>match cs.mapM (agq (inn os) fuel)with
  |some cs1=>match Φ qs cs1 with
   |some (r,cs')=>match fq (fun i=>some (p9 os nx i)) fuel r,cs'.mapM (agq (fun i=>some (p9 os nx i)) fuel)with
    |some r',some cs2=>some (r',kM ob (((List.range cs2.length).map (p9 os nx)).zip cs2),nx+(cs'.length-os.length))
    |_,_=>none
   |none=>none
  |none=>none
 |_,_=>none
def vN (Γ:Ctx) (c:Call):Option jh:=
 match c.callee with
 | .value (.func f)=>Γ.io f
 |_=>none
def acz (ob:bG) (sz:Nat):PV→Option (List PV)
 | .val (.string b)=>if sz=1 then some (b.data.toList.map fun x=> .val (.int .u8 x.toNat))else none
 |p=>bF ob sz p
def atg (P:Program) (ob:bG) (nx:Nat) (t:Nat) (x y:PV):Option (PV×bG×Nat):=
 match cZ P t with
 |some e=>match aY P e with
  |some sz=>match acz ob sz y,x with
   |some es2,.row o sz' i n=>match ob o with
    |some (T,sz'',es)=>if sz'=sz∧sz''=sz∧i+n≤es.length then
      some (.val (.int .i64 (min es2.length n:Nat)),upd ob o (some (T,sz,es.take i++es2.take (min es2.length n)++es.drop (i+min es2.length n))),nx)else none
    |none=>none
   |some _,.lst _ _ []=>some (.val (.int .i64 0),ob,nx)
   |_,_=>none
  |none=>none
 |none=>none
def bf (P:Program) (Γ:Ctx) (s:AS) (ρ:Operand→PV):Op→Option (PV×bG×Nat)
 | .alloc t=>match zeroOf P t with
   |some z=>if z.cells.all (·.oneCell')=true then some (.own s.nx z.cells.size 0 0,upd s.ob s.nx (some (t,z.cells.size,[bn z])),s.nx+1)else none
   |none=>none
 | .box t x=>match bJ (ρ x)with
   |some cs=>some (.own s.nx cs.length 0 0,upd s.ob s.nx (some (t,cs.length,[ρ x])),s.nx+1)
   |none=>none
 | .buildSlice t n ps=>match iL P t n (partsOf ρ ps)with
   |some (e,sz,es)=>some (.row s.nx sz 0 n,upd s.ob s.nx (some (e,sz,es)),s.nx+1)
   |none=>none
 | .makeSlice t l c=>match cZ P t with
   |some e=>match zeroOf P e,aY P e,dO P e,ρ l,ρ c with
    |some z,some sz,some by_,.val (.int kl l),.val (.int kc c)=>
     if z.cells.all (·.oneCell')=true∧z.cells.size=sz∧0≤l∧l≤c∧(by_:Int)*c≤281474976710656∧c≤9223372036854775807 then
      some (.row s.nx sz 0 l.toNat,upd s.ob s.nx (some (e,sz,List.replicate l.toNat (bn z))),s.nx+1)else none
    |_,_,_,_,_=>none
   |none=>none
 | .store t x y=>match ρ x with
   | .own o sz i f=>match s.ob o with
     |some (T,sz',es)=>match es[i]?,bJ (ρ y)with
      |some e,some cs=>if sz=sz'∧aY P t=some cs.length then(axX sz e f (ρ y) cs).map fun e'=>(.val undef,upd s.ob o (some (T,sz,es.set i e')),s.nx)else none
      |_,_=>none
     |none=>none
   |_=>none
 | .call c=>match c.callee with
   | .value x=>match vN Γ c with
     |some Φ=>akf Φ s.ob s.nx (c.args.toList.map ρ)
     |none=>none
   | .builtin .copy=>match c.args.toList,c.argTypes.toList with
     |[x,y],[t,_]=>atg P s.ob s.nx t (ρ x) (ρ y)
     |_,_=>none
   | .builtin .append=>match c.args.toList,c.argTypes.toList with
     |[x,y],[t,t']=>match cZ P t with
      |some e=>match zeroOf P e,aY P e,dO P e with
       |some z,some sz,some by_=>match bF s.ob sz (ρ y)with
        |some es2=>
         if t=t'∧0<sz∧z.cells.size=sz then
          match ρ x with
          | .row o sz' i n=>match s.ob o with
            |some (T,sz'',es)=>if i=0∧T=e∧sz'=sz∧sz''=sz∧es.length=n∧n+es2.length≤9223372036854775807∧(n+es2.length)*by_≤140737488355328 then
              some (.row s.nx sz 0 (n+es2.length),upd (upd s.ob o none) s.nx (some (e,sz,es++es2)),s.nx+1)else none
            |none=>none
          |p=>if isNil p=true∧es2.length≤9223372036854775807∧es2.length*by_≤140737488355328 then
            (if es2.length=0 then some (p,s.ob,s.nx)else some (.row s.nx sz 0 es2.length,upd s.ob s.nx (some (e,sz,es2)),s.nx+1))else none
         else none
        |none=>none
       |_,_,_=>none
      |none=>none
     |_,_=>none
   |_=>none
 |_=>none
section
variable {P:Program} {Γ:Ctx} {io:IoS} {w0:World} {N:Nat} {g:Gh} {s:AS} {a:Act} {w w':World} {o:Oper} {p:PV}
theorem Lays.one {u:Value} {e:PV} (h:Rep g w e u) (h1:u.cells.all (·.oneCell')=true):Lays g w u.cells u.cells.size [e]:=fun i x hx=>by
 cases i with
 |zero=>simp only[List.getElem?_cons_zero,Option.some.injEq]at hx;subst hx;exact⟨u,h,h1,rfl,fun j hj=>by simp⟩
 |succ i=>simp at hx
theorem Lays.made {z:Value} {sz n m:Nat} (hz:z.cells.all (·.oneCell')=true) (hs:z.cells.size=sz) (hn:n≤m):Lays g w (madeCells z.cells (m*sz)) sz (List.replicate n (bn z)):=fun i e he=>by
 rw[List.getElem?_replicate]at he;split at he
 case isFalse=>cases he
 case isTrue hi=>
  cases he;refine⟨z,yH g w z,hz,hs,fun j hj=>?_⟩;have h1:i*sz+j<m*sz:=Nat.lt_of_lt_of_le (by rw[Nat.add_one_mul];omega:i*sz+j<(i+1)*sz) (Nat.mul_le_mul_right _ (by omega));have h2:(i*sz+j) % z.cells.size=j:=by rw[hs,Nat.mul_comm,Nat.mul_add_mod,Nat.mod_eq_of_lt hj]
  unfold madeCells;rw[Array.getElem?_map,Array.getElem?_range];simp only[h1,if_true,Option.map_some,h2];rw[getElem!_pos z.cells j (by omega),Array.getElem?_eq_getElem (by omega)]
theorem bB.lays {arr:Array Value} {sz T b:Nat} {es:List PV} (h:bB g w sz es b 0) (hb:w.heap[b]?=some (.cells arr T (0,0))):Lays g w arr sz es:=fun i e he=>by obtain⟨u,h1,h2,h3⟩:=h.get he;refine⟨u,h1,h2.1,h3,fun j hj=>?_⟩;have:=h2.2 j (by omega);simp only[World.cell?,hb,Nat.zero_add]at this;simpa using this
theorem bB.news {sz:Nat}:∀{es:List PV} {b off:Nat},bB g w sz es b off→∃news:List Value,news.length=es.length*sz∧(∀(j:Nat) u,news[j]?=some u→w.cell? ⟨b,off+j,none⟩=some u)∧(∀u∈news,u.oneCell'=true)∧
 ∀(i:Nat) e,es[i]?=some e→∃u,Rep g w e u∧u.cells.all (·.oneCell')=true∧u.cells.size=sz∧∀j,j<sz→news[i*sz+j]?=u.cells[j]?
 |[],b,off,h=>⟨[],by simp,by simp,by simp,by simp⟩
 |x::es,b,off,h=>by
  simp only[bB]at h;obtain⟨⟨u,h1,h2,h3⟩,h4⟩:=h;obtain⟨news,k1,k2,k3,k4⟩:=h4.news;have hl:u.cells.toList.length=sz:=by simpa using h3
  refine⟨u.cells.toList++news,by simp[h3,k1,Nat.add_mul];omega,fun j v hv=>?_,fun v hv=>?_,fun i e he=>?_⟩
  ·by_cases hj:j<sz
   ·rw[List.getElem?_append_left (by omega)]at hv
    rw[h2.2 j (by omega)];simpa using hv
   ·rw[List.getElem?_append_right (by omega),hl]at hv
    have:=k2 _ v hv;rw[show off+sz+(j-sz)=off+j by omega]at this;exact this
  ·rw[List.mem_append]at hv
   rcases hv with hv|hv
   ·exact(Array.all_eq_true_iff_forall_mem.1 h2.1) v (by simpa using hv)
   ·exact k3 v hv
  ·cases i with
   |zero=>simp only[List.getElem?_cons_zero,Option.some.injEq]at he;subst he;refine⟨u,h1,h2.1,h3,fun j hj=>?_⟩;rw[Nat.zero_mul,Nat.zero_add,List.getElem?_append_left (by omega)];simp
   |succ i=>simp only[List.getElem?_cons_succ]at he;obtain⟨v,m1,m2,m3,m4⟩:=k4 i e he;refine⟨v,m1,m2,m3,fun j hj=>?_⟩;rw[List.getElem?_append_right (by rw[hl,Nat.add_one_mul];omega),hl,show(i+1)*sz+j-sz=i*sz+j by rw[Nat.add_one_mul];omega];exact m4 j hj
theorem wT {sz n:Nat} {es es2:List PV} {news:List Value} {arr arr':Array Value} (hn:es.length=n) (h1:Lays g w arr sz es)
 (h2:∀(i:Nat) e,es2[i]?=some e→∃u,Rep g w e u∧u.cells.all (·.oneCell')=true∧u.cells.size=sz∧∀j,j<sz→news[i*sz+j]?=u.cells[j]?)
 (ha:∀j,j<n*sz→arr'[j]?=arr[j]?) (hb:∀j,j<news.length→arr'[n*sz+j]?=news[j]?) (hl:news.length=es2.length*sz):Lays g w arr' sz (es++es2):=fun i e he=>by
 by_cases hi:i<n
 ·rw[List.getElem?_append_left (by omega)]at he
  obtain⟨u,k1,k2,k3,k4⟩:=h1 i e he;refine⟨u,k1,k2,k3,fun j hj=>?_⟩;rw[ha _ (Nat.lt_of_lt_of_le (by rw[Nat.add_one_mul];omega:i*sz+j<(i+1)*sz) (Nat.mul_le_mul_right _ (by omega)))];exact k4 j hj
 ·rw[List.getElem?_append_right (by omega),hn]at he
  obtain⟨u,k1,k2,k3,k4⟩:=h2 _ e he;refine⟨u,k1,k2,k3,fun j hj=>?_⟩;have hlt:i-n<es2.length:=(List.getElem?_eq_some_iff.1 he).1;have e1:i*sz+j=n*sz+((i-n)*sz+j):=by rw[←Nat.add_assoc,←Nat.add_mul];congr 2;omega
  rw[e1,hb _ (by rw[hl];exact Nat.lt_of_lt_of_le (by rw[Nat.add_one_mul];omega:(i-n)*sz+j<(i-n+1)*sz) (Nat.mul_le_mul_right _ (by omega)))];exact k4 j hj
def Turns (P:Program) (o:Oper) (io:IoS) (w0:World) (N:Nat) (s:AS) (a:Act) (w:World) (r:PV×bG×Nat):Prop:=
 ∀(K:Act→World→Prop) (Q:Exit→Act→World→Prop),(∀v w' g',Rel io w0 N g' {s with ob:=r.2.1,nx:=r.2.2} a w'→Rep g' w' r.1 v→K (a.put o.dst v) w')→o.wp P a w K Q
theorem Turns.run {v:Value} {g':Gh} {r:PV×bG×Nat} (h:(execOp a.eval o).run P w=.ok (.value v) w') (hr:Rel io w0 N g' {s with ob:=r.2.1,nx:=r.2.2} a w') (hp:Rep g' w' r.1 v):Turns P o io w0 N s a w r:=fun K Q hk=>by unfold Oper.wp;rw[h,Oper.upon_value];exact hk v w' g' hr hp
theorem Turns.skip {g':Gh} {r:PV×bG×Nat} (h:(execOp a.eval o).run P w=.ok .skip w') (hr:Rel io w0 N g' {s with ob:=r.2.1,nx:=r.2.2} a w') (hp:r.1=.val undef):Turns P o io w0 N s a w r:=fun K Q hk=>by unfold Oper.wp;rw[h,Oper.upon_skip];exact hk undef w' g' hr (by rw[hp];simp[Rep])
theorem yD {b k sz:Nat}:Rep (g.add b k) w (.own g.nx sz 0 0) (.pointer (some ⟨b,0,none⟩)):=by simp only[Rep,Gh.add,upd_same];exact⟨by simp,Gh.asa⟩
theorem iI {b k sz n c:Nat} (h1:n≤c) (h2:c≤9223372036854775807) (h3:c*sz≤k):Rep (g.add b k) w (.row g.nx sz 0 n) (.slice (some ⟨b,0,none⟩) n c):=by simp only[Rep,Gh.add,upd_same];exact⟨c,by simp,h1,h2,by simpa using h3,Gh.asa⟩
theorem Turns.new (h:Rel io w0 N g s a w) (hio:∀b,io b→b<w0.heap.size) {v:Value} {p:PV} {arr:Array Value} {T sz:Nat} {es:List PV}
 (hr:(execOp a.eval o).run P w=.ok (.value v) w') (hb:Below w.heap.size w w') (hn:w'.heap[w.heap.size]?=some (.cells arr T (0,0)))
 (hes:Lays g w arr sz es) (hlen:es.length*sz≤arr.size) (hp:Rep (g.add w.heap.size arr.size) w' p v):Turns P o io w0 N s a w (p,upd s.ob s.nx (some (T,sz,es)),s.nx+1):=
 Turns.run hr (h.add hio hb hn hes hlen) hp
end
section
variable {P:Program} {Γ:Ctx} {io:IoS} {w0:World} {N:Nat} {g:Gh} {s:AS} {a:Act} {w w':World} {o:Oper} {p:PV}
theorem qJ {t k:Nat} (h:dO P t=some k):∃i,P.info? t=some i∧i.bytes=k:=by
 unfold dO at h;cases hi:P.info? t with
 |none=>simp[hi]at h
 |some i=>exact⟨i,rfl,by simpa [hi]using h⟩
theorem qd {t k:Nat} {i:TypeInfo} (hi:P.info? t=some i) (h:aY P t=some k):i.size=k:=by unfold aY at h;simpa [hi]using h
theorem ql {t:Nat} {z:Value} {i:TypeInfo} (hi:P.info? t=some i) (h:zeroOf P t=some z):i.zero=some z:=by unfold zeroOf at h;simpa [hi]using h
theorem kR {t e:Nat} (h:cZ P t=some e):P.underlying t=some (.slice e):=by
 unfold cZ at h;split at h
 ·rename_i e' hu;cases h;exact hu
 ·cases h
theorem mH (w:World) (o:Obj):Below w.heap.size w (w.alloc o):=(Below.refl _ _).alloc (Nat.le_refl _) _
theorem anz (h:Rel io w0 N g s a w) (hio:∀b,io b→b<w0.heap.size) {t:Nat} (ho:o.op=.alloc t) {z:Value} (hz:zeroOf P t=some z) (h1:z.cells.all (·.oneCell')=true):
 Turns P o io w0 N s a w (.own s.nx z.cells.size 0 0,upd s.ob s.nx (some (t,z.cells.size,[bn z])),s.nx+1):=by
 have hr:(execOp a.eval o).run P w=.ok (.value (.pointer (some ⟨w.heap.size,0,none⟩))) (w.alloc (.cells z.cells t)):=by simp[execOp,ho,Instr.alloc,Sem.run_bind,l7 hz w,newVar,newRow]
 refine Turns.new h hio hr (mH _ _) (heap_alloc_new _ _) (Lays.one (yH g w z) h1) (by simp) ?_;rw[←h.nx];exact yD
theorem avn (h:Rel io w0 N g s a w) (hio:∀b,io b→b<w0.heap.size) {t:Nat} {x:Operand} (ho:o.op=.box t x) {cs:List PV} (hc:bJ (look s.tm x)=some cs):
 Turns P o io w0 N s a w (.own s.nx cs.length 0 0,upd s.ob s.nx (some (t,cs.length,[look s.tm x])),s.nx+1):=by
 obtain⟨h1,h2,h3⟩:=iE (h.look x) hc;have hr:(execOp a.eval o).run P w=.ok (.value (.pointer (some ⟨w.heap.size,0,none⟩))) (w.alloc (.cells (a.eval x).cells t)):=by simp[execOp,ho,Instr.box,Sem.run_bind,newVar,newRow]
 rw[←h2];refine Turns.new h hio hr (mH _ _) (heap_alloc_new _ _) (Lays.one (h.look x) h1) (by simp) ?_;rw[←h.nx];exact yD
theorem za (h:Rel io w0 N g s a w) (hio:∀b,io b→b<w0.heap.size) {t n e sz:Nat} {ps:Array (Nat×Operand)} {es:List PV} (ho:o.op=.buildSlice t n ps) (hc:iL P t n (partsOf (look s.tm) ps)=some (e,sz,es)):
 Turns P o io w0 N s a w (.row s.nx sz 0 n,upd s.ob s.nx (some (e,sz,es)),s.nx+1):=by
 obtain⟨hl,arr,h2,h3,h4⟩:=run_buildSlice (w:=w) hc (h.parts ps);have hsz:=ac8 hc;have hr:(execOp a.eval o).run P w=.ok (.value (.slice (some ⟨w.heap.size,0,none⟩) n n)) (w.alloc (.cells arr e)):=by simp[execOp,ho,h3]
 refine Turns.new h hio hr (mH _ _) (heap_alloc_new _ _) h4 (by rw[hl,h2];exact Nat.le_refl _) ?_;rw[←h.nx];exact iI (Nat.le_refl _) hsz (Nat.le_of_eq h2.symm)
theorem abk (h:Rel io w0 N g s a w) (hio:∀b,io b→b<w0.heap.size) {t e sz by_:Nat} {x y:Operand} {z:Value} (ho:o.op=.makeSlice t x y) (he:cZ P t=some e) (hz:zeroOf P e=some z) (hs:aY P e=some sz) (hb:dO P e=some by_)
 {kl kc:IntKind} {l c:Int} (hl:look s.tm x=.val (.int kl l)) (hc:look s.tm y=.val (.int kc c)) (h1:z.cells.all (·.oneCell')=true) (h2:z.cells.size=sz) (h3:0≤l) (h4:l≤c) (h5:(by_:Int)*c≤281474976710656) (h6:c≤9223372036854775807):
 Turns P o io w0 N s a w (.row s.nx sz 0 l.toNat,upd s.ob s.nx (some (e,sz,List.replicate l.toNat (bn z))),s.nx+1):=by
 obtain⟨i,hi,hby⟩:=qJ hb;have hx:=h.look x;have hy:=h.look y;rw[hl]at hx;rw[hc]at hy;simp only[Rep]at hx hy;have hm:=run_make (P:=P) w t e i z (kR he) hi (ql hi hz) kl kc l c h3 h4 (by rw[hby];exact h5) h6;rw[qd hi hs]at hm;have hr:(execOp a.eval o).run P w=.ok (.value (.slice (some ⟨w.heap.size,0,none⟩) l.toNat c.toNat)) (w.alloc (.cells (madeCells z.cells (c.toNat*sz)) e)):=by simp only[execOp,ho,hx,hy];rw[Sem.run_bind,hm];rfl
 refine Turns.new h hio hr (mH _ _) (heap_alloc_new _ _) (Lays.made h1 h2 (by omega)) (by rw[size_madeCells,List.length_replicate];exact Nat.mul_le_mul_right _ (by omega)) ?_;rw[←h.nx];exact iI (by omega) (by omega) (by rw[size_madeCells];exact Nat.le_refl _)
theorem lV {α:Type} (l new:List α) (off:Nat) (h:off+new.length≤l.length):(fM l off new).length=l.length:=by unfold fM;simp;omega
theorem qG {α:Type} (l new:List α) (off:Nat) (h:off+new.length≤l.length) (i:Nat):(fM l off new)[i]?=if off≤i∧i<off+new.length then new[i-off]? else l[i]?:=by
 unfold fM;have hl1:(l.take off).length=off:=by simp;omega
 by_cases c1:i<off
 ·rw[if_neg (by omega),List.append_assoc,List.getElem?_append_left (by omega)]
  simp[c1]
 ·by_cases c2:i<off+new.length
  ·rw[if_pos (by omega),List.append_assoc,List.getElem?_append_right (by omega),hl1,List.getElem?_append_left (by omega)]
  ·rw[if_neg (by omega),List.getElem?_append_right (by simp;omega)]
   simp only[List.length_append,hl1,List.getElem?_drop];congr 1;omega
theorem aiX {p:PV} {cs:List PV} (h:nX p=true) (hc:bJ p=some cs):cs=[p]:=by cases p<;>simp_all [bJ,nX]
theorem aqF {sz f:Nat} {e e' y:PV} {u v:Value} {cs:List PV} (he:Rep g w e u) (hu:u.cells.all (·.oneCell')=true) (hsz:u.cells.size=sz) (hy:Rep g w y v) (hc:bJ y=some cs) (h:axX sz e f y cs=some e'):
 f+cs.length≤sz∧∃u',Rep g w e' u'∧u'.cells.all (·.oneCell')=true∧u'.cells.size=sz∧u'.cells.toList=fM u.cells.toList f v.cells.toList:=by
 obtain⟨h1,h2,h3⟩:=iE hy hc;unfold axX at h;split at h
 ·rename_i ecs
  split at h
  case isFalse=>cases h
  case isTrue hle=>
   cases h;simp only[Rep]at he;obtain⟨us,rfl,hl⟩:=he;have hl1:=hl.get.1;generalize v.cells=vc at h1 h2 h3⊢;simp only[Value.cells,Array.length_toList]at hsz hl1 hu;refine⟨by omega,.agg (fM us.toList f vc.toList).toArray,?_,?_,?_,?_⟩
   ·simp only[Rep]
    exact⟨_,rfl,by simpa using hl.fM h3 f⟩
   ·simp only[Value.cells,Array.all_eq_true_iff_forall_mem]
    intro x hx;rw[List.mem_toArray]at hx;unfold fM at hx;rw[List.mem_append,List.mem_append]at hx;rcases hx with(hx|hx)|hx
    ·exact(Array.all_eq_true_iff_forall_mem.1 hu) x (by simpa using List.mem_of_mem_take hx)
    ·exact(Array.all_eq_true_iff_forall_mem.1 h1) x (by simpa using hx)
    ·exact(Array.all_eq_true_iff_forall_mem.1 hu) x (by simpa using List.mem_of_mem_drop hx)
   ·simp only[Value.cells,List.size_toArray]
    rw[lV _ _ _ (by simp;omega)];simpa using hsz
   ·simp[Value.cells]
 ·split at h
  case isFalse=>cases h
  case isTrue hh=>
   obtain⟨rfl,rfl,hone⟩:=hh;cases h;have hcs:=aiX hone hc;subst hcs;simp only[List.length_singleton]at h2;refine⟨by simp,v,hy,h1,h2,?_⟩;unfold fM;have e1:u.cells.toList.length=1:=by simpa using hsz
   have e2:v.cells.toList.length=1:=by simpa using h2
   rw[List.take_zero,List.nil_append,Nat.zero_add,e2,List.drop_eq_nil_of_le (by omega),List.append_nil]
theorem amK (h:Rel io w0 N g s a w) {t:Nat} {x y:Operand} (ho:o.op=.store t x y) {ob sz i f T:Nat} {es:List PV} {e e':PV} {cs:List PV} (hx:look s.tm x=.own ob sz i f) (hob:s.ob ob=some (T,sz,es)) (he:es[i]?=some e)
 (hc:bJ (look s.tm y)=some cs) (hsz:aY P t=some cs.length) (hp:axX sz e f (look s.tm y) cs=some e'):
 Turns P o io w0 N s a w (.val undef,upd s.ob ob (some (T,sz,es.set i e')),s.nx):=by
 have hX:=h.look x;have hY:=h.look y;rw[hx]at hX;simp only[Rep]at hX;obtain⟨hX,hlt⟩:=hX;obtain⟨k1,k2,k3,⟨arr,k4,k5⟩,k6,k7⟩:=h.ob ob _ hob;dsimp only at k4 k6 k7;obtain⟨u,m1,m2,m3⟩:=k7.get he;obtain⟨q1,u',q2,q3,q4,q5⟩:=aqF m1 m2.1 m3 hY hc hp;obtain⟨c1,c2,c3⟩:=iE hY hc;have hlays:=k7.lays k4;have hilt:i<es.length:=(List.getElem?_eq_some_iff.1 he).1;have hfit:i*sz+f+cs.length≤arr.size:=by have:(i+1)*sz≤es.length*sz:=Nat.mul_le_mul_right _ (by omega);rw[Nat.add_one_mul]at this;omega
 have hst:=run_storeCells_at P (g.β ob) (i*sz+f) T (a.eval y).cells.toList 0 arr w k4 (by simp;omega) (fun v hv=>(Array.all_eq_true_iff_forall_mem.1 c1) v (by simpa using hv));have hsv:(storeVar t ⟨g.β ob,i*sz+f,none⟩ (a.eval y)).run P w=.ok () (w.setRow (g.β ob) (fM arr.toList (i*sz+f) (a.eval y).cells.toList).toArray):=by unfold storeVar;rw[Sem.run_bind,dF hsz w];simp only[Result.andThen_ok,c2,ne_eq,not_true_eq_false,if_false,fM];simpa using hst
 have hr:(execOp a.eval o).run P w=.ok .skip (w.setRow (g.β ob) (fM arr.toList (i*sz+f) (a.eval y).cells.toList).toArray):=by simp only[execOp,ho,hX,Instr.storeAt,Instr.sureAddr,Sem.run_bind,Sem.run_pure,Result.andThen_ok,hsv]
 have hw:∀k b,g.I k b→(w.setRow (g.β ob) (fM arr.toList (i*sz+f) (a.eval y).cells.toList).toArray).heap[b]?=w.heap[b]?:=fun k b hb=>setRow_other _ _ _ _ (fun e=>k3 k (e▸hb));refine Turns.skip (g':=g) hr (h.set hob (arr:=(fM arr.toList (i*sz+f) (a.eval y).cells.toList).toArray) ⟨rfl,rfl,rfl,by simp[World.setRow]⟩ (fun b hb=>setRow_other _ _ _ _ hb) (setRow_heap _ _ _ _ _ _ k4) (by rw[List.size_toArray,lV _ _ _ (by simp;omega)];simpa using k5) ?_ (by simpa using k6)) rfl;intro i' e1 he1;rw[List.getElem?_set]at he1;have hget:∀j,((fM arr.toList (i*sz+f) (a.eval y).cells.toList).toArray)[j]?=if i*sz+f≤j∧j<i*sz+f+(a.eval y).cells.toList.length then(a.eval y).cells.toList[j-(i*sz+f)]? else arr[j]?:=by intro j;rw[List.getElem?_toArray,qG _ _ _ (by simp;omega)];simp
 by_cases hii:i=i'
 ·subst hii
  rw[if_pos rfl,if_pos hilt]at he1;cases he1;refine⟨u',q2,q3,q4,fun j hj=>?_⟩;have e2:u'.cells[j]?=u'.cells.toList[j]?:=by simp
  rw[e2,q5,qG _ _ _ (by simp;omega),hget];obtain⟨v1,v2,v3,v4,v5⟩:=hlays i e he;by_cases hin:f≤j∧j<f+(a.eval y).cells.toList.length
  ·rw[if_pos hin,if_pos (by omega)]
   congr 1;omega
  ·rw[if_neg hin,if_neg (by omega)]
   have m4:=m2.2 j (by omega);simp only[World.cell?,k4,Nat.zero_add]at m4;simpa using m4
 ·rw[if_neg hii]at he1
  obtain⟨v1,v2,v3,v4,v5⟩:=hlays i' e1 he1;refine⟨v1,v2,v3,v4,fun j hj=>?_⟩;rw[hget,if_neg,v5 j hj];have hne:i'<i∨i<i':=by omega
  simp only[Array.length_toList];rcases hne with hne|hne
  ·have:(i'+1)*sz≤i*sz:=Nat.mul_le_mul_right _ (by omega)
   rw[Nat.add_one_mul]at this;omega
  ·have:(i+1)*sz≤i'*sz:=Nat.mul_le_mul_right _ (by omega)
   rw[Nat.add_one_mul]at this;omega
end
theorem aad:∀(l:List (Nat×aS)) (ob:bG) (o:Nat) (c:aS),(l.map (·.1)).Nodup→kM ob l o=some c→(o,c)∈l∨(o∉l.map (·.1)∧ob o=some c)
 |[],ob,o,c,_,h=> .inr ⟨by simp,h⟩
 |p::l,ob,o,c,hn,h=>by
  simp only[List.map_cons,List.nodup_cons]at hn;rcases aad l _ o c hn.2 h with h1|⟨h1,h2⟩
  ·exact .inl (by simp[h1])
  ·unfold upd at h2
   split at h2
   ·rename_i he
    cases h2;left;subst he;simp
   ·rename_i he
    exact .inr ⟨by simp[he];simpa using h1,h2⟩
section
variable {P:Program} {Γ:Ctx} {io:IoS} {w0:World} {N:Nat} {g:Gh} {s:AS} {a:Act} {w w':World} {o:Oper} {p:PV}
theorem mapM_at {α β:Type} {f:α→Option β} {l:List α} {l':List β} (h:l.mapM f=some l') {i:Nat} {y:β} (hy:l'[i]?=some y):∃x,l[i]?=some x∧f x=some y:=by
 have hg:=bg h;have hi:i<l.length:=by rw[←hg.1];exact(List.getElem?_eq_some_iff.1 hy).1
 obtain⟨y',h1,h2⟩:=hg.2 i l[i] (List.getElem?_eq_getElem hi);rw[hy]at h1;cases h1;exact⟨_,List.getElem?_eq_getElem hi,h2⟩
theorem aAQ (h:Rel io w0 N g s a w) (hio:∀b,io b→b<w0.heap.size) {c:Call} (ho:o.op=.call c) {f:Nat} (hc:c.callee=.value (.func f)) (hf:Fnd P f) {Φ:jh} (hs:eT P f Φ) {r:PV×bG×Nat}
 (hv:akf Φ s.ob s.nx (c.args.toList.map (look s.tm))=some r):Turns P o io w0 N s a w r:=by
 obtain⟨fn,hfn,hname,hbody⟩:=hf;unfold akf at hv;dsimp only at hv;generalize hos:dedup ((c.args.toList.map (look s.tm)).flatMap refsOf)=os at hv;have hnd:os.Nodup:=hos▸yG _;split at hv
 case h_2=>cases hv
 case h_1 cs qs hcs hqs=>
 split at hv
 case h_2=>cases hv
 case h_1 cs1 hcs1=>
 split at hv
 case h_2=>cases hv
 case h_1 r0 cs' hΦ=>
 split at hv
 case h_2=>cases hv
 case h_1 r' cs2 hr' hcs2=>
 simp only[Option.some.injEq]at hv;subst hv;have hl1:=(bg hcs).1;have hl2:=(bg hcs1).1;have hl3:=(bg hcs2).1;have hob:∀i c1,cs1[i]?=some c1→∃c0,i<os.length∧s.ob (os.getD i 0)=some c0∧agq (inn os) fuel c0=some c1:=fun i c1 hi=>by obtain⟨c0,h1,h2⟩:=mapM_at hcs1 hi;obtain⟨o0,h3,h4⟩:=mapM_at hcs h1;have:=(List.getElem?_eq_some_iff.1 h3);obtain⟨h5,h6⟩:=this;exact⟨c0,h5,by rw[show os.getD i 0=o0 by simp[List.getD,h3]];exact h4,h2⟩
 have hosS:∀i,i<os.length→∃c0,s.ob (os.getD i 0)=some c0:=fun i hi=>by
  have hi1:i<cs1.length:=by omega
  obtain⟨c0,_,h2,_⟩:=hob i cs1[i] (List.getElem?_eq_getElem hi1);exact⟨c0,h2⟩
 have hinjo:∀i j,i<os.length→j<os.length→os.getD i 0=os.getD j 0→i=j:=fun i j hi hj he=>by
  have e1:os[i]?=some (os.getD i 0):=by simp[hi]
  have e2:os[j]?=some (os.getD j 0):=by simp[hj]
  rw[he]at e1;exact(List.getElem?_inj hi hnd).1 (e1.trans e2.symm)
 let β:Nat→Nat:=fun i=>g.β (os.getD i 0)
 let κ:Nat→Nat:=fun i=>g.κ (os.getD i 0)
 have hinn:∀o1 o2,inn os o1=some o2→o2<os.length∧os.getD o2 0=o1:=fun o1 o2 hi=>by
  unfold inn at hi;split at hi
  ·rename_i hm
   cases hi;have hlt:=List.idxOf_lt_length_of_mem hm;exact⟨hlt,by simp[List.getD,hlt]⟩
  ·cases hi
 have hren:∀o1 o2,g.D o1→inn os o1=some o2→(dH g.I β κ cs1.length).β o2=g.β o1∧(dH g.I β κ cs1.length).κ o2=g.κ o1∧(dH g.I β κ cs1.length).D o2:=fun o1 o2 _ hi=>by obtain⟨h1,h2⟩:=hinn o1 o2 hi;exact⟨by simp only[dH,β,h2],by simp only[dH,κ,h2],⟨by simp only[dH];omega,fun q=>q⟩⟩
 have hargs:bL (dH g.I β κ cs1.length) w qs (c.args.map a.eval).toList:=by rw[Array.toList_map];exact bL.conv (g:=g) (g':=dH g.I β κ cs1.length) (Rep.ren (g:=g) (g':=dH g.I β κ cs1.length) (fun _ _ hb=>hb) hren fuel) (h.looks _) hqs
 have hO:uG g.I w β κ cs1:=by
  refine⟨fun i hi=>?_,fun i j hi hj he=>?_,fun i c1 hi=>?_⟩
  ·obtain⟨c0,h1⟩:=hosS i (by omega)
   obtain⟨_,_,h2,⟨arr,h3,_⟩,_⟩:=h.ob _ _ h1;exact⟨lt_of_heap h3,h2⟩
  ·obtain⟨c0,h1⟩:=hosS i (by omega)
   obtain⟨c0',h1'⟩:=hosS j (by omega);exact hinjo i j (by omega) (by omega) (h.inj _ _ (by rw[h1];rfl) (by rw[h1'];rfl) he)
  ·obtain⟨c0,h0,h1,h2⟩:=hob i c1 hi
   unfold agq at h2;rw[Option.map_eq_some_iff]at h2;obtain⟨es,h3,rfl⟩:=h2;obtain⟨_,_,_,⟨arr,h4,h5⟩,h6,h7⟩:=h.ob _ _ h1;have hl:=(bg h3).1;exact⟨⟨arr,h4,h5⟩,by simp only[hl];exact h6,bB.conv (g:=g) (g':=dH g.I β κ cs1.length) (Rep.ren (g:=g) (g':=dH g.I β κ cs1.length) (fun _ _ hb=>hb) hren fuel) h7 h3⟩
 have hrun:(execOp a.eval o).run P w=.ok (.enter f (c.args.map a.eval)) w:=by unfold execOp;simp only[ho,resolve,hc,Act.eval,Deferred.ofValue,Sem.run_bind,Sem.run_pure,Result.andThen_ok,invoke,callFunc,run_program,hfn];simp[hname,hbody]
 intro K Q hk;unfold Oper.wp;rw[hrun,Oper.upon_enter];refine(hs w g.I β κ qs cs1 _ r0 cs' hΦ h.lt hO (h.tab.keep h.fr fun t ht ⟨i,hi,he⟩=>by
  obtain⟨c0,h1⟩:=hosS i (by omega);rcases(h.ob _ _ h1).2.1 with h2|h2
  ·have:=h.tab.lt t ht
   simp only[β]at he;omega
  ·exact h.tab.apart t ht (he▸h2)) hargs).mono ?_
 rintro e w' ⟨v,β',κ',M,rfl,hfr,hle,hold,hnew,hM,hO',hrep⟩
 let g':Gh:={I:=addN g.I M,β:=fun o=>if o<g.nx then g.β o else β' (os.length+(o-g.nx)),κ:=fun o=>if o<g.nx then g.κ o else κ' (os.length+(o-g.nx)),nx:=g.nx+(cs'.length-os.length),hole:=fun o=>g.hole o∧o<g.nx}
 have hgle:g.le g':=⟨fun _ _ hb=> .inl hb,fun o ho=>⟨Nat.lt_of_lt_of_le ho.1 (Nat.le_add_right _ _),fun q=>ho.2 q.1⟩,fun o ho=>by simp only[g',if_pos ho.1],fun o ho=>by simp only[g',if_pos ho.1]⟩;have hosnx:∀i,i<os.length→g.D (os.getD i 0):=fun i hi=>by obtain⟨c0,h1⟩:=hosS i hi;exact(h.ob _ _ h1).1
 have hout:∀i,i<cs'.length→g'.β (p9 os s.nx i)=β' i∧g'.κ (p9 os s.nx i)=κ' i∧g'.D (p9 os s.nx i):=fun i hi=>by
  unfold p9;rw[←h.nx];split
  ·rename_i hlt
   have hx:=hosnx i hlt;have ho:=hold i (by omega);refine⟨?_,?_,hgle.D _ hx⟩
   ·simp only[g',if_pos hx.1];exact ho.1.symm
   ·simp only[g',if_pos hx.1];exact ho.2.symm
  ·rename_i hlt
   have e:os.length+(g.nx+(i-os.length)-g.nx)=i:=by omega
   refine⟨?_,?_,?_⟩
   ·simp only[g'];rw[if_neg (by omega),e]
   ·simp only[g'];rw[if_neg (by omega),e]
   ·exact⟨by simp only[g'];omega,fun q=>by have:=q.2;omega⟩
 have hren':∀o1 o2,(dH (addN g.I M) β' κ' cs'.length).D o1→(some (p9 os s.nx o1))=some o2→g'.β o2=(dH (addN g.I M) β' κ' cs'.length).β o1∧g'.κ o2=(dH (addN g.I M) β' κ' cs'.length).κ o1∧g'.D o2:=fun o1 o2 h1 h2=>by cases h2;exact hout o1 h1.1
 have hIsame:∀k b,g.I k b→w'.heap[b]?=w.heap[b]?:=fun k b hb=>hfr.block b (h.lt k b hb) (fun⟨i,hi,he⟩=>(hO.lt i hi).2 k (he▸hb));have hpl:∀o c0,s.ob o=some c0→g.β o<w.heap.size:=fun o c0 hc0=>by obtain⟨_,_,_,⟨arr,h3,_⟩,_⟩:=h.ob _ _ hc0;exact lt_of_heap h3
 have hkeys:((((List.range cs2.length).map (p9 os s.nx)).zip cs2).map (·.1))=(List.range cs2.length).map (p9 os s.nx):=by rw[List.map_fst_zip];simp
 have houtinj:∀i j,i<cs'.length→j<cs'.length→p9 os s.nx i=p9 os s.nx j→i=j:=fun i j hi hj he=>by have h1:=(hout i hi).1;have h2:=(hout j hj).1;rw[he]at h1;exact hO'.inj i j hi hj (h1.symm.trans h2)
 have hnodup:((((List.range cs2.length).map (p9 os s.nx)).zip cs2).map (·.1)).Nodup:=by rw[hkeys];rw[List.nodup_iff_pairwise_ne,List.pairwise_map];refine(List.pairwise_lt_range).imp_of_mem fun{i j} hi hj hlt he=>?_;have:=houtinj i j (by have:=List.mem_range.1 hi;omega) (by have:=List.mem_range.1 hj;omega) he;omega
 have hobs:∀o1 c1,kM s.ob (((List.range cs2.length).map (p9 os s.nx)).zip cs2) o1=some c1→
  (∃i,i<cs'.length∧o1=p9 os s.nx i∧cs2[i]?=some c1)∨(s.ob o1=some c1∧∀i,i<cs'.length→o1≠p9 os s.nx i):=fun o1 c1 h1=>by
  rcases aad _ _ _ _ hnodup h1 with h2|⟨h2,h3⟩
  ·left
   obtain⟨i,hi,he⟩:=List.getElem_of_mem h2;have hi2:i<cs2.length:=by simp at hi;exact hi
   rw[List.getElem_zip]at he;simp only[List.getElem_map,List.getElem_range,Prod.mk.injEq]at he;exact⟨i,by omega,he.1.symm,by rw[List.getElem?_eq_getElem hi2,he.2]⟩
  ·right
   refine⟨h3,fun i hi he=>h2 ?_⟩;rw[hkeys,List.mem_map];exact⟨i,List.mem_range.2 (by omega),he.symm⟩
 have hnotos:∀o1 c1,s.ob o1=some c1→(∀i,i<cs'.length→o1≠p9 os s.nx i)→∀i,i<cs1.length→g.β o1≠β i:=fun o1 c1 h1 h2 i hi he=>by obtain⟨c0,h3⟩:=hosS i (by omega);have:=h.inj o1 _ (by rw[h1];rfl) (by rw[h3];rfl) he;refine h2 i (by omega) ?_;unfold p9;rw[if_pos (by omega)];exact this
 refine hk v w' g' ⟨h.nt,h.df,fun t=>(h.tm t).mono hgle hIsame,fun o1 c1 h1=>?_,fun o1 o2 h1 h2 he=>?_,?_,?_,?_,?_,?_,?_,?_,h.tab⟩ (Rep.ren (g:=dH (addN g.I M) β' κ' cs'.length) (g':=g') (fun _ _ hb=>hb) hren' fuel _ _ _ hrep hr')
 ·rcases hobs o1 c1 h1 with⟨i,hi,rfl,hc1⟩|⟨h2,h3⟩
  ·obtain⟨k1,k2,k3⟩:=hout i hi
   obtain⟨c0,hc0,hrc⟩:=mapM_at hcs2 hc1;refine⟨k3,?_,?_,?_⟩
   ·rw[k1]
    by_cases hlt:i<os.length
    ·obtain⟨c0',h4⟩:=hosS i hlt
     rw[(hold i (by omega)).1];exact(h.ob _ _ h4).2.1
    ·have:=hnew i (by omega) hi
     have:=h.fr.size;left;omega
   ·intro k
    rw[k1];exact(hO'.lt i hi).2 k
   ·obtain⟨⟨arr,m1,m2⟩,m3,m4⟩:=hO'.at_ i c0 hc0
    unfold agq at hrc;rw[Option.map_eq_some_iff]at hrc;obtain⟨es,h4,rfl⟩:=hrc;have hl:=(bg h4).1;refine⟨⟨arr,by rw[k1];exact m1,by rw[k2];exact m2⟩,by rw[k2];simp only[hl];exact m3,?_⟩;rw[k1];exact bB.conv (g:=dH (addN g.I M) β' κ' cs'.length) (g':=g') (Rep.ren (g:=dH (addN g.I M) β' κ' cs'.length) (g':=g') (fun _ _ hb=>hb) hren' fuel) m4 h4
  ·obtain⟨k1,k2,k3,k4⟩:=h.ob o1 c1 h2
   have hβ:=hgle.β o1 k1;have hlt:=hpl o1 c1 h2;refine⟨hgle.D _ k1,by rw[hβ];exact k2,fun k hb=>?_,k4.mono hgle k1 hIsame (hfr.block _ hlt fun⟨i,hi,he⟩=>hnotos o1 c1 h2 h3 i hi he)⟩;rw[hβ]at hb;rcases hb with hb|⟨_,hb⟩
   ·exact k3 k hb
   ·have:=(hM _ hb).1
    omega
 ·have key:∀o1,(kM s.ob (((List.range cs2.length).map (p9 os s.nx)).zip cs2) o1).isSome→(∃i,i<cs'.length∧o1=p9 os s.nx i∧g'.β o1=β' i)∨((s.ob o1).isSome∧g'.β o1=g.β o1∧g.β o1<w.heap.size∧∀i,i<cs1.length→g.β o1≠β i):=fun o1 h1=>by
   obtain⟨c1,hc1⟩:=Option.isSome_iff_exists.1 h1;rcases hobs o1 c1 hc1 with⟨i,hi,rfl,_⟩|⟨h2,h3⟩
   ·exact .inl ⟨i,hi,rfl,(hout i hi).1⟩
   ·exact .inr ⟨by simp[h2],hgle.β o1 (h.ob _ _ h2).1,hpl o1 c1 h2,hnotos o1 c1 h2 h3⟩
  have mixed:∀i o2,i<cs'.length→g.β o2<w.heap.size→(∀i,i<cs1.length→g.β o2≠β i)→β' i≠g.β o2:=fun i o2 hi h2 h3 he=>by
   by_cases hlt:i<cs1.length
   ·exact h3 i hlt (by rw[←he];exact(hold i hlt).1)
   ·have:=hnew i (by omega) hi
    omega
  rcases key o1 h1 with⟨i,hi,rfl,e1⟩|⟨k1,k2,k3,k4⟩
  ·rcases key o2 h2 with⟨j,hj,rfl,e2⟩|⟨l1,l2,l3,l4⟩
   ·rw[e1,e2]at he
    rw[hO'.inj i j hi hj he]
   ·rw[e1,l2]at he
    exact(mixed i o2 hi l3 l4 he).elim
  ·rcases key o2 h2 with⟨j,hj,rfl,e2⟩|⟨l1,l2,l3,l4⟩
   ·rw[e2,k2]at he
    exact(mixed j o1 hj k3 k4 he.symm).elim
   ·rw[k2,l2]at he
    exact h.inj o1 o2 k1 l1 he
 ·simp only[g',h.nx]
 ·rintro k b (hb|⟨_,hb⟩)
  ·exact Nat.lt_of_lt_of_le (h.lt k b hb) hfr.size
  ·exact(hM b hb).2
 ·rintro b (hb|⟨_,hb⟩)
  ·exact h.new b hb
  ·have h1:=(hM b hb).1
   have h2:=h.fr.size;exact .inl ⟨by omega,fun hi=>by have:=hio b hi;omega⟩
 ·refine⟨hfr.os.trans h.fr.os,hfr.tape.trans h.fr.tape,hfr.output.trans h.fr.output,Nat.le_trans h.fr.size hfr.size,fun b hb hi=>?_⟩
  rw[hfr.block b (Nat.lt_of_lt_of_le hb h.fr.size) fun⟨i,hi',he⟩=>?_]
  ·exact h.fr.block b hb hi
  ·subst he
   obtain⟨c0,h1⟩:=hosS i (by omega);rcases(h.ob _ _ h1).2.1 with h2|h2
   ·exact absurd hb (by simp only[β];omega)
   ·exact hi h2
 ·rintro b (hb|⟨hk,_⟩)
  ·exact h.old b hb
  ·cases hk
 ·exact⟨fun o1 ho1=>hgle.D o1 (h.fix.1 o1 ho1),fun o1 ho1=>by have hk:=h.fix.1 o1 ho1;rw[hgle.β o1 hk,hgle.κ o1 hk];exact h.fix.2 o1 ho1⟩
 ·exact fun o1 ho1=>⟨⟨(h.hl o1 ho1).1,(h.hl o1 ho1).2⟩,Nat.lt_of_lt_of_le (h.hl o1 ho1).2 (Nat.le_add_right _ _)⟩
end
end
end Go.Proofs.YtmmafcjjlbgnkaaGreatDoor
