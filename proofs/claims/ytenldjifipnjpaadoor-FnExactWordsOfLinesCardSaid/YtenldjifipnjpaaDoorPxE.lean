/- The model's operations give what evVal says. -/
import Derived.Test.YtenldjifipnjpaaDoorPxD
namespace Go.Proofs.YtenldjifipnjpaaDoor
open Go.RowKit
set_option linter.all false
section
variable {P : Program} {Γ : Ctx} {io : IoS} {w0 : World} {N : Nat} {g : Gh} {s : AS} {a : Act} {w : World} {o : Oper} {p : PV}

theorem sliceEs_rep (h : Rel io w0 N g s a w) {sz : Nat} {x : PV} {es : List PV} {v : Value} (hx : Rep g w x v) (he : sliceEs s.ob sz x = some es) :
    ∃ ad cap, v = .slice ad es.length cap ∧ es.length ≤ cap ∧ (es = [] ∨ ∃ b off, ad = some ⟨b, off, none⟩ ∧ RepEs g w sz es b off) := by
  unfold sliceEs at he
  split at he
  · split at he
    case isFalse => cases he
    case isTrue hs =>
      cases he
      subst hs
      simp only [Rep] at hx
      obtain ⟨ad, cap, h1, h2, h3, h4⟩ := hx
      refine ⟨ad, cap, h1, h2, h4.imp id ?_⟩
      rintro ⟨b, off, h5, h6, h7⟩
      exact ⟨b, off, h5, h7⟩
  · rename_i ob sz' i n
    split at he
    · rename_i T sz'' es0 ho
      split at he
      case isFalse => cases he
      case isTrue hs =>
        obtain ⟨rfl, rfl, hle⟩ := hs
        cases he
        simp only [Rep] at hx
        obtain ⟨c, rfl, h2, h3, h4, h5⟩ := hx
        have hl : ((es0.drop i).take n).length = n := by simp; omega
        refine ⟨_, c, by rw [hl], by omega, .inr ⟨_, _, rfl, ?_⟩⟩
        have := ((h.ob ob _ ho).2.2.2.2.2.drop i).take n
        simpa using this
    · cases he
  · simp only [Option.some.injEq] at he
    subst he
    simp only [Rep] at hx
    subst hx
    exact ⟨none, 0, rfl, Nat.le_refl _, .inl rfl⟩
  · cases he

theorem byteNs_rep : ∀ {es : List PV} {ns : List Int} {b off : Nat}, RepEs g w 1 es b off → byteNs es = some ns → es.length = ns.length ∧ ∀ (j : Nat) v, (ns.map (Value.int .u8))[j]? = some v → w.cell? ⟨b, off + j, none⟩ = some v
  | [], ns, b, off, h, hn => by simp only [byteNs, Option.some.injEq] at hn; subst hn; simp
  | e :: es, ns, b, off, h, hn => by
    simp only [RepEs] at h
    obtain ⟨⟨u, h1, h2, h3⟩, h4⟩ := h
    have key : ∃ n ns', ns = n :: ns' ∧ e = .val (.int .u8 n) ∧ byteNs es = some ns' := by
      cases e with
      | val v =>
        cases v with
        | int k n =>
          cases k <;> first
            | (simp [byteNs] at hn; done)
            | (simp only [byteNs, Option.map_eq_some_iff] at hn; obtain ⟨a, ha, rfl⟩ := hn; exact ⟨n, a, rfl, rfl, ha⟩)
        | _ => simp [byteNs] at hn
      | _ => simp [byteNs] at hn
    obtain ⟨n, ns', rfl, rfl, h5⟩ := key
    have ih := byteNs_rep h4 h5
    simp only [Rep] at h1
    subst h1
    refine ⟨by simp [ih.1], fun j v hv => ?_⟩
    cases j with
    | zero =>
      have := h2.2 0 (by simp [Value.cells])
      simp only [List.map_cons, List.getElem?_cons_zero, Option.some.injEq] at hv
      subst hv
      simpa [Value.cells] using this
    | succ j =>
      simp only [List.map_cons, List.getElem?_cons_succ] at hv
      have := ih.2 j v hv
      rw [show off + (j + 1) = off + 1 + j by omega]
      exact this

theorem run_toString {src dst : Nat} (h : Rel io w0 N g s a w) {x : PV} {v : Value} {ns : List Int} {es : List PV} (hx : Rep g w x v) (h1 : isByteSlice P src = true) (h2 : isStr P dst = true)
    (he : sliceEs s.ob 1 x = some es) (hn : byteNs es = some ns) : (convert src dst v).run P w = .ok (.string (bytesOf ns)) w := by
  obtain ⟨ad, cap, rfl, h3, h4⟩ := sliceEs_rep h hx he
  unfold isByteSlice at h1
  split at h1
  · rename_i e hu
    split at h1
    · rename_i hue
      unfold isStr at h2
      split at h2
      · rename_i hd
        rw [run_convert_bytes_string w src dst e ad _ cap hu hue hd]
        rcases h4 with rfl | ⟨b, off, rfl, h5⟩
        · simp only [byteNs, Option.some.injEq] at hn
          subst hn
          cases ad with
          | none => simp [Conv.bytesToString, bytesOf]
          | some ad =>
            have := run_bytesToString (P := P) w ad 0 cap [] (by simp [loadCells, loadCellsFrom])
            simpa [bytesOf] using this
        · have hb := byteNs_rep h5 hn
          have hl := run_loadCells_list (P := P) w ⟨b, off, none⟩ (ns.map (Value.int .u8)) (fun j v hv => by rw [Addr.add_mid]; exact hb.2 j v hv)
          rw [List.length_map, ← hb.1] at hl
          exact run_bytesToString w _ _ cap ns hl
      · cases h2
    · cases h1
  · cases h1

theorem RepL_append_of (h : Rel io w0 N g s a w) (xs : List Operand) : RepL g w (xs.map (look s.tm)) (xs.map a.eval) := h.looks xs

theorem Yld.call (h : Rel io w0 N g s a w) (hΓ : SoundΓ P Γ) {c : Call} {x : Operand} (ho : o.op = .call c) (hc : c.callee = .value x) {f : Nat} (hf : fnOf (look s.tm x) = some f) {φ : Fun} (hφ : Γ f = some φ)
    {ps : List PV} (hps : (c.args.toList.map (look s.tm)).mapM (reify false 0 s.ob fuel) = some ps) (hr : φ ps = some p) : Yld P o a w g p := fun K Q hk => by
  have hx := h.look x
  obtain ⟨⟨fn, hfn, hname, hbody⟩, hsound⟩ := hΓ.1 f φ hφ
  have hv : a.eval x = .func (.func f) #[] #[] := by
    unfold fnOf at hf
    split at hf
    · rename_i f' first captured hl
      split at hf
      case isFalse => cases hf
      case isTrue hz =>
        cases hf
        rw [hl] at hx
        simp only [Rep] at hx
        rw [hx, Array.eq_empty_of_size_eq_zero hz.1, Array.eq_empty_of_size_eq_zero hz.2]
    · cases hf
  have hrun : (execOp a.eval o).run P w = .ok (.enter f (c.args.map a.eval)) w := by
    unfold execOp
    simp only [ho, resolve, hc, hv, Deferred.ofValue, Sem.run_bind, Sem.run_pure, Result.andThen_ok, invoke, callFunc, run_program, hfn]
    simp [hname, hbody]
  unfold Oper.wp
  rw [hrun, Oper.upon_enter]
  let J : Nat → Prop := fun b => (∃ k, g.I k b) ∨ ∃ o, (s.ob o).isSome ∧ b = g.β o
  have hseen : Seen false 0 g s (argG J) := ⟨fun _ => ⟨fun k b hb => ⟨rfl, .inl ⟨k, hb⟩⟩, fun o ho => ⟨rfl, .inr ⟨o, ho, rfl⟩⟩⟩, fun hh => by cases hh⟩
  have hargs : RepL (argG J) w ps (c.args.map a.eval).toList := by
    rw [Array.toList_map]
    exact RepL.conv (Rep.seen (fun o c hoc => (h.ob o c hoc).2.2.2) hseen fuel) (h.looks _) hps
  refine (hsound w J ps _ p hr ?_ (h.tab.keep h.fr fun _ _ q => q) hargs).mono ?_
  · rintro b (⟨k', hb⟩ | ⟨o', ho', rfl⟩)
    · exact h.lt k' b hb
    · obtain ⟨c', hc'⟩ := Option.isSome_iff_exists.1 ho'
      obtain ⟨arr, harr, _⟩ := (h.ob o' c' hc').2.2.2.1
      exact lt_of_heap harr
  · rintro e w' ⟨v, rfl, hb, hrep⟩
    exact hk v w' hb (hrep _ fun b h1 h2 => .inr ⟨rfl, h1, h2⟩)

set_option maxHeartbeats 1000000 in
theorem evVal_ok (h : Rel io w0 N g s a w) (hΓ : SoundΓ P Γ) (hv : evVal P Γ s.ob (look s.tm) o.type o.op = some p) : Yld P o a w g p := by
  cases ho : o.op with
  | move x =>
    simp only [ho, evVal, Option.some.injEq] at hv
    subst hv
    exact Yld.run (v := a.eval x) (by simp [execOp, ho]) (h.look x)
  | assign x =>
    simp only [ho, evVal, Option.some.injEq] at hv
    subst hv
    exact Yld.run (v := a.eval x) (by simp [execOp, ho]) (h.look x)
  | pick c x y =>
    simp only [ho, evVal] at hv
    split at hv
    · rename_i b hb
      simp only [Option.some.injEq] at hv
      subst hv
      have hc := h.look c
      rw [hb] at hc
      simp only [Rep] at hc
      refine Yld.run (v := if b then a.eval x else a.eval y) (by simp [execOp, ho, hc, asBool]) ?_
      cases b
      · exact h.look y
      · exact h.look x
    · cases hv
  | build t ps =>
    simp only [ho, evVal] at hv
    obtain ⟨v, h1, h2⟩ := run_build (w := w) (h.parts ps) hv
    exact Yld.run (v := v) (by simp [execOp, ho, h1]) h2
  | buildSlice t n ps =>
    simp only [ho, evVal] at hv
    split at hv
    · rename_i e sz es h1
      simp only [Option.some.injEq] at hv
      subst hv
      obtain ⟨hl, arr, h2, h3, h4⟩ := run_buildSlice (w := w) h1 (h.parts ps)
      have hsz := rowEs_len h1
      intro K Q hk
      unfold Oper.wp
      have hrun : (execOp a.eval o).run P w = .ok (.value (.slice (some ⟨w.heap.size, 0, none⟩) n n)) (w.alloc (.cells arr e)) := by
        simp [execOp, ho, h3]
      rw [hrun, Oper.upon_value]
      refine hk _ _ ((Below.refl _ _).alloc (Nat.le_refl _) _) ?_
      simp only [Rep]
      refine ⟨_, n, by rw [hl], by omega, hsz, .inr ⟨w.heap.size, 0, rfl, .inr ⟨rfl, Nat.le_refl _, by simp⟩, ?_⟩⟩
      exact repEs_new (Gh.le_more _ _ _) h4 h.lt
    · cases hv
  | load t x =>
    simp only [ho, evVal] at hv
    have hx := h.look x
    split at hv
    · rename_i ob sz i f hl
      rw [hl] at hx
      split at hv
      · rename_i T sz' es hob
        split at hv
        case isFalse => cases hv
        case isTrue hs =>
          subst hs
          simp only [Option.bind_eq_some_iff] at hv
          obtain ⟨e, he, hsub⟩ := hv
          simp only [Rep] at hx
          obtain ⟨hx, _⟩ := hx
          obtain ⟨u, h1, h2, h3⟩ := (h.ob ob _ hob).2.2.2.2.2.get he
          obtain ⟨v, h4, h5⟩ := run_loadAt_sub h1 h2 hsub
          rw [Nat.zero_add] at h4
          exact Yld.run (v := v) (by simp [execOp, ho, hx, h4]) h5
      · cases hv
    · rename_i k e f hl
      rw [hl] at hx
      simp only [Rep] at hx
      obtain ⟨b, off, hx, _, u, h1, h2⟩ := hx
      obtain ⟨v, h4, h5⟩ := run_loadAt_sub h1 h2 hv
      exact Yld.run (v := v) (by simp [execOp, ho, hx, h4]) h5
    · cases hv
  | nilCheck x =>
    simp only [ho, evVal] at hv
    have hx := h.look x
    split at hv
    · rename_i ob sz i f hl
      simp only [Option.some.injEq] at hv
      subst hv
      rw [hl] at hx
      have hx' := hx
      simp only [Rep] at hx'
      exact Yld.run (v := a.eval x) (by simp [execOp, ho, hx'.1]) hx
    · rename_i k e f hl
      simp only [Option.some.injEq] at hv
      subst hv
      rw [hl] at hx
      have hx' := hx
      simp only [Rep] at hx'
      obtain ⟨b, off, hx', _⟩ := hx'
      exact Yld.run (v := a.eval x) (by simp [execOp, ho, hx']) hx
    · cases hv
  | binOp b t x y t' =>
    simp only [ho, evVal] at hv
    split at hv
    · rename_i u v h1 h2
      simp only [Option.map_eq_some_iff] at hv
      obtain ⟨z, h3, rfl⟩ := hv
      have e1 := toVal_rep (h.look x) h1
      have e2 := toVal_rep (h.look y) h2
      have h4 := pureRun_run h3 w
      have h5 : execOp a.eval o = ((do eqGuard b t x y u v; binOp b t u v) >>= fun z => pure (.value z)) := by simp only [execOp, ho, e1, e2]
      exact Yld.run (v := z) (by rw [h5, Sem.run_bind, h4]; rfl) (by simp [Rep])
    · cases hv
  | unOp u t x =>
    simp only [ho, evVal] at hv
    split at hv
    · rename_i v h1
      simp only [Option.map_eq_some_iff] at hv
      obtain ⟨z, h3, rfl⟩ := hv
      have e1 := toVal_rep (h.look x) h1
      exact Yld.run (v := z) (by simp [execOp, ho, e1, pureRun_run h3 w]) (by simp [Rep])
    · cases hv
  | convert src dst x =>
    simp only [ho, evVal] at hv
    split at hv
    · rename_i hc
      simp only [Option.map_eq_some_iff, Option.bind_eq_some_iff] at hv
      obtain ⟨ns, ⟨es, h1, h2⟩, rfl⟩ := hv
      exact Yld.run (v := .string (bytesOf ns)) (by simp [execOp, ho, run_toString h (h.look x) hc.1 hc.2 h1 h2]) (by simp [Rep])
    · split at hv
      · rename_i v h1
        simp only [Option.map_eq_some_iff] at hv
        obtain ⟨z, h3, rfl⟩ := hv
        have e1 := toVal_rep (h.look x) h1
        exact Yld.run (v := z) (by simp [execOp, ho, e1, pureRun_run h3 w]) (by simp [Rep])
      · cases hv
  | slice t x lo hi mx =>
    cases mx with
    | some m => simp [ho, evVal] at hv
    | none =>
      have hopt : ∀ (q : Option Operand) (i : Option Int), optI (q.map (look s.tm)) = some i → q.map a.eval = i.map (Value.int .i64) := by
        intro q i hq
        cases q with
        | none => simp only [optI, Option.map_none, Option.some.injEq] at hq; subst hq; rfl
        | some y =>
          have hy := h.look y
          simp only [Option.map_some] at hq ⊢
          unfold optI at hq
          split at hq
          · rename_i heq; cases heq
          · rename_i n heq
            cases hq
            simp only [Option.some.injEq] at heq
            rw [heq] at hy
            simp only [Rep] at hy
            simp [hy]
          · cases hq
      simp only [ho, evVal] at hv
      split at hv
      · rename_i st hl
        split at hv
        · rename_i l hh h1 h2
          have e1 := hopt _ _ h1
          have e2 := hopt _ _ h2
          have hx := h.look x
          rw [hl] at hx
          simp only [Rep] at hx
          simp only [Option.map_eq_some_iff] at hv
          obtain ⟨z, h4, rfl⟩ := hv
          exact Yld.run (v := z) (by simp only [execOp, ho, e1, e2, hx, Option.map_none]; rw [Sem.run_bind, pureRun_run h4 w]; rfl) (by simp [Rep])
        · cases hv
      · split at hv
        · rename_i l hh h1 h2
          have e1 := hopt _ _ h1
          have e2 := hopt _ _ h2
          obtain ⟨u, h3, h4⟩ := run_slice (P := P) (kl := .i64) (kh := .i64) (h.look x) hv
          exact Yld.run (v := u) (by simp only [execOp, ho, e1, e2, Option.map_none]; simp [h3]) h4
        · cases hv
  | fieldAddr t x f =>
    simp only [ho, evVal] at hv
    have hx := h.look x
    split at hv
    · rename_i ob sz i c k hl hk
      simp only [Option.some.injEq] at hv
      subst hv
      rw [hl] at hx
      simp only [Rep] at hx
      have := run_fieldAt hk (g.β ob) (i * sz + c) w
      refine Yld.run (v := .pointer (some ⟨g.β ob, i * sz + c + k, none⟩)) (by simp [execOp, ho, hx.1, this]) ?_
      simp only [Rep]
      exact ⟨by rw [Nat.add_assoc], hx.2⟩
    · rename_i b e c k hl hk
      simp only [Option.some.injEq] at hv
      subst hv
      rw [hl] at hx
      simp only [Rep] at hx
      obtain ⟨bb, off, hx, h1, h2⟩ := hx
      have := run_fieldAt hk bb (off + c) w
      refine Yld.run (v := .pointer (some ⟨bb, off + c + k, none⟩)) (by simp [execOp, ho, hx, this]) ?_
      simp only [Rep]
      exact ⟨bb, off, by rw [Nat.add_assoc], h1, h2⟩
    · cases hv
  | indexAddr t x i =>
    simp only [ho, evVal] at hv
    split at hv
    · rename_i n hn
      have hi := h.look i
      unfold asI at hn
      split at hn
      · rename_i k n' hl
        cases hn
        rw [hl] at hi
        simp only [Rep] at hi
        obtain ⟨u, h1, h2⟩ := run_indexAddr (k := k) (h.look x) hv
        exact Yld.run (v := u) (by simp [execOp, ho, hi, h1]) h2
      · cases hn
    · cases hv
  | index t x i =>
    simp only [ho, evVal] at hv
    split at hv
    · rename_i u v h1 h2
      simp only [Option.map_eq_some_iff] at hv
      obtain ⟨z, h3, rfl⟩ := hv
      have e1 := toVal_rep (h.look x) h1
      have e2 := toVal_rep (h.look i) h2
      exact Yld.run (v := z) (by simp [execOp, ho, e1, e2, pureRun_run h3 w]) (by simp [Rep])
    · cases hv
  | extract x i =>
    simp only [ho, evVal] at hv
    split at hv
    · rename_i vs hl
      have hx := h.look x
      rw [hl] at hx
      simp only [Rep] at hx
      obtain ⟨us, hx, h1⟩ := hx
      obtain ⟨v, h2, h3⟩ := h1.get.2 i p hv
      have h2' : us[i]? = some v := by simpa using h2
      exact Yld.run (v := v) (by simp [execOp, ho, hx, Instr.extract, h2']) h3
    · cases hv
  | call c =>
    simp only [ho, evVal] at hv
    split at hv
    · rename_i x hc
      split at hv
      · rename_i f hf
        split at hv
        · rename_i φ ps h1 h2
          exact Yld.call h hΓ ho hc hf h1 h2 hv
        · cases hv
      · cases hv
    · rename_i hc
      split at hv
      · rename_i x t h1 h2
        have ha : c.args = #[x] := by rw [← Array.toArray_toList (xs := c.args), h1]
        have ht : c.argTypes = #[t] := by rw [← Array.toArray_toList (xs := c.argTypes), h2]
        have hx := h.look x
        have key : ∀ z, (Builtin.len_ #[t] o.type #[a.eval x]).run P w = .ok z w → (execOp a.eval o).run P w = .ok (.value z) w := by
          intro z hz
          simp [execOp, ho, resolve, hc, ha, ht, invoke, builtin, hz]
        split at hv
        · rename_i q hq
          cases hv
          unfold evLen at hq
          split at hq
          · rename_i k sz es hl
            split at hq
            case isFalse => cases hq
            case isTrue hs =>
              cases hq
              rw [hl] at hx
              simp only [Rep] at hx
              obtain ⟨ad, cap, hx, _⟩ := hx
              unfold tyElem at hs
              split at hs
              · rename_i e hu
                exact Yld.run (v := .int .i64 es.length) (key _ (by simp [Builtin.len_, run_underlying hu w, hx, goInt])) (by simp [Rep])
              · cases hs
          · rename_i ob sz i n hl
            split at hq
            case isFalse => cases hq
            case isTrue hs =>
              cases hq
              rw [hl] at hx
              simp only [Rep] at hx
              obtain ⟨cap, hx, _⟩ := hx
              unfold tyElem at hs
              split at hs
              · rename_i e hu
                exact Yld.run (v := .int .i64 n) (key _ (by simp [Builtin.len_, run_underlying hu w, hx, goInt])) (by simp [Rep])
              · cases hs
          · cases hq
        · split at hv
          · rename_i v h3
            simp only [Option.map_eq_some_iff] at hv
            obtain ⟨z, h4, rfl⟩ := hv
            have e1 := toVal_rep hx h3
            exact Yld.run (v := z) (key _ (by rw [e1]; exact pureRun_run h4 w)) (by simp [Rep])
          · cases hv
      · cases hv
    · rename_i hc
      split at hv
      · rename_i vs h1
        simp only [Option.map_eq_some_iff] at hv
        obtain ⟨z, h4, rfl⟩ := hv
        have e1 := toValsA_rep (h.looks c.args.toList) h1
        have e2 : c.args.map a.eval = vs.toArray := by apply Array.ext'; simp [← e1]
        exact Yld.run (v := z) (by simp [execOp, ho, resolve, hc, invoke, builtin, e2, pureRun_run h4 w]) (by simp [Rep])
      · cases hv
    · rename_i hc
      split at hv
      · rename_i vs h1
        simp only [Option.map_eq_some_iff] at hv
        obtain ⟨z, h4, rfl⟩ := hv
        have e1 := toValsA_rep (h.looks c.args.toList) h1
        have e2 : c.args.map a.eval = vs.toArray := by apply Array.ext'; simp [← e1]
        exact Yld.run (v := z) (by simp [execOp, ho, resolve, hc, invoke, builtin, e2, pureRun_run h4 w]) (by simp [Rep])
      · cases hv
    · cases hv
  | _ => simp [ho, evVal] at hv
end
end Go.Proofs.YtenldjifipnjpaaDoor
