/- What the proof rests on, part 18: contracts of functions. No condition beyond what each states. -/
import Derived.Test.YtngcedklbinhjaaZPlE17
namespace Go.Proofs.Ytngcedklbinhjaa
open Go.RowKit
set_option linter.all false
def refsA : List PV → List Nat
  | [] => []
  | .own o _ _ _ :: l => o :: refsA l
  | .row o _ _ _ :: l => o :: refsA l
  | _ :: l => refsA l
def refsX : PV → List Nat
  | .own o _ _ _ => [o]
  | .row o _ _ _ => [o]
  | .agg cs => refsA cs
  | _ => []
def refsL : List PV → List Nat
  | [] => []
  | p :: ps => refsX p ++ refsL ps
theorem refsA_eq : ∀ cs : List PV, (cs.flatMap fun c => match c with | .own o _ _ _ => [o] | .row o _ _ _ => [o] | _ => []) = refsA cs
  | [] => rfl
  | c :: cs => by
    rw [List.flatMap_cons, refsA_eq cs]
    cases c <;> rfl
theorem refsL_eq : ∀ ps : List PV, ps.flatMap refsOf = refsL ps
  | [] => rfl
  | p :: ps => by
    rw [List.flatMap_cons, refsL_eq ps]
    show _ = refsX p ++ refsL ps
    congr 1
    cases p with
    | agg cs => exact refsA_eq cs
    | _ => rfl
section
variable {Φ : FunIO} {ob : Objs} {nx : Nat}
def ioTwo (Φ : FunIO) (ob : Objs) (nx a b : Nat) (qs : List PV) : Option CellIO → Option CellIO → Option (PV × Objs × Nat)
  | some c, some d => (c.2.2.mapM (renF (inn [a, b]) fuel)).bind fun es => (d.2.2.mapM (renF (inn [a, b]) fuel)).bind fun fs => ioR [a, b] ob nx (Φ qs [(c.1, c.2.1, es), (d.1, d.2.1, fs)])
  | _, _ => none
def ioX (Φ : FunIO) (ob : Objs) (nx : Nat) (ps : List PV) : List Nat → Option (PV × Objs × Nat)
  | [] => (ps.mapM (renF (inn []) fuel)).bind fun qs => ioR [] ob nx (Φ qs [])
  | [o] => (ps.mapM (renF (inn [o]) fuel)).bind fun qs => ioOne Φ ob nx o qs (ob o)
  | [a, b] => (ps.mapM (renF (inn [a, b]) fuel)).bind fun qs => ioTwo Φ ob nx a b qs (ob a) (ob b)
  | _ => ioEv Φ ob nx ps
theorem io_any (ps : List PV) : ioEv Φ ob nx ps = ioX Φ ob nx ps (dedup (refsL ps)) := by
  generalize hos : dedup (refsL ps) = os
  rw [← refsL_eq] at hos
  match os with
  | [] =>
    show _ = (ps.mapM (renF (inn []) fuel)).bind _
    cases h2 : ps.mapM (renF (inn []) fuel) with
    | some qs => rw [ioEv_eq ps [] hos, h2, mapM_nil']; rfl
    | none => rw [ioEv_eq ps [] hos, h2, mapM_nil']; rfl
  | [o] =>
    show _ = (ps.mapM (renF (inn [o]) fuel)).bind _
    cases h2 : ps.mapM (renF (inn [o]) fuel) with
    | some qs => rw [ioOne_of hos h2]; rfl
    | none =>
      rw [ioEv_eq ps [o] hos, h2]
      cases [o].mapM ob <;> rfl
  | [a, b] =>
    show _ = (ps.mapM (renF (inn [a, b]) fuel)).bind _
    rw [ioEv_eq ps [a, b] hos]
    simp only [mapM_cons', mapM_nil', renC]
    cases ps.mapM (renF (inn [a, b]) fuel) with
    | none => cases ob a <;> cases ob b <;> rfl
    | some qs =>
      simp only [Option.bind_some]
      cases ob a with
      | none => rfl
      | some c =>
        cases ob b with
        | none => rfl
        | some d =>
          obtain ⟨T, sz, es0⟩ := c
          obtain ⟨T2, sz2, fs0⟩ := d
          simp only [Option.bind_some, Option.map_some, ioTwo, mapM_cons', mapM_nil', renC]
          cases es0.mapM (renF (inn [a, b]) fuel) with
          | none => rfl
          | some es =>
            simp only [Option.bind_some, Option.map_some]
            cases fs0.mapM (renF (inn [a, b]) fuel) <;> rfl
  | _ :: _ :: _ :: _ => rfl
theorem ioX_nil {ps : List PV} : ioX Φ ob nx ps [] = (ps.mapM (renF (inn []) fuel)).bind fun qs => ioR [] ob nx (Φ qs []) := rfl
theorem ioX_one {ps : List PV} {o : Nat} : ioX Φ ob nx ps [o] = (ps.mapM (renF (inn [o]) fuel)).bind fun qs => ioOne Φ ob nx o qs (ob o) := rfl
theorem ioX_two {ps : List PV} {a b : Nat} : ioX Φ ob nx ps [a, b] = (ps.mapM (renF (inn [a, b]) fuel)).bind fun qs => ioTwo Φ ob nx a b qs (ob a) (ob b) := rfl
theorem ioTwo_some {a b T T2 sz sz2 : Nat} {es es2 qs : List PV} : ioTwo Φ ob nx a b qs (some (T, sz, es)) (some (T2, sz2, es2)) = (es.mapM (renF (inn [a, b]) fuel)).bind fun es => (es2.mapM (renF (inn [a, b]) fuel)).bind fun fs => ioR [a, b] ob nx (Φ qs [(T, sz, es), (T2, sz2, fs)]) := rfl
theorem dd_ab {a b : Nat} (h : ¬ a = b) : dedup [a, b] = [a, b] := by
  have h' : ¬ b = a := fun e => h e.symm
  simp [dedup, h']
theorem inn_a {a b : Nat} : inn [a, b] a = some 0 := by simp [inn]
theorem inn_b {a b : Nat} (h : ¬ a = b) : inn [a, b] b = some 1 := by
  have h2 : (a == b) = false := by simpa using h
  simp [inn, List.idxOf_cons, h2]
theorem outF_ab0 {a b nx : Nat} : outF [a, b] nx 0 = some a := rfl
theorem outF_ab1 {a b nx : Nat} : outF [a, b] nx 1 = some b := rfl
theorem outF_ab2 {a b nx : Nat} : outF [a, b] nx 2 = some nx := by simp [outF, outn]
theorem outF_a1 {a nx : Nat} : outF [a] nx 1 = some nx := by simp [outF, outn]
theorem ioR_ab2 {a b T T2 sz sz2 : Nat} {es es2 : List PV} {r : PV} : ioR [a, b] ob nx (some (r, [(T, sz, es), (T2, sz2, es2)])) = (renF (outF [a, b] nx) fuel r).bind fun r' => (es.mapM (renF (outF [a, b] nx) fuel)).bind fun es' => (es2.mapM (renF (outF [a, b] nx) fuel)).map fun es2' => (r', upd (upd ob a (some (T, sz, es'))) b (some (T2, sz2, es2')), nx) := by
  unfold ioR
  simp only [mapM_cons', mapM_nil', renC]
  cases renF (outF [a, b] nx) fuel r with
  | none => rfl
  | some r' =>
    cases es.mapM (renF (outF [a, b] nx) fuel) with
    | none => rfl
    | some es' =>
      cases es2.mapM (renF (outF [a, b] nx) fuel) <;> rfl
theorem ioR_ab3 {a b T T2 T3 sz sz2 sz3 : Nat} {es es2 es3 : List PV} {r : PV} : ioR [a, b] ob nx (some (r, [(T, sz, es), (T2, sz2, es2), (T3, sz3, es3)])) = (renF (outF [a, b] nx) fuel r).bind fun r' => (es.mapM (renF (outF [a, b] nx) fuel)).bind fun es' => (es2.mapM (renF (outF [a, b] nx) fuel)).bind fun es2' => (es3.mapM (renF (outF [a, b] nx) fuel)).map fun es3' => (r', upd (upd (upd ob a (some (T, sz, es'))) b (some (T2, sz2, es2'))) nx (some (T3, sz3, es3')), nx + 1) := by
  unfold ioR
  simp only [mapM_cons', mapM_nil', renC]
  cases renF (outF [a, b] nx) fuel r with
  | none => rfl
  | some r' =>
    cases es.mapM (renF (outF [a, b] nx) fuel) with
    | none => rfl
    | some es' =>
      cases es2.mapM (renF (outF [a, b] nx) fuel) with
      | none => rfl
      | some es2' =>
        cases es3.mapM (renF (outF [a, b] nx) fuel) with
        | none => rfl
        | some es3' =>
          simp only [Option.map_some, Option.bind_some, List.length_cons, List.length_nil, Nat.zero_add, Nat.reduceAdd, Nat.reduceSub, Option.some.injEq, Prod.mk.injEq, true_and, and_true]
          show putObs ob [(outn [a, b] nx 0, _), (outn [a, b] nx 1, _), (outn [a, b] nx 2, _)] = _
          simp [putObs, outn]
theorem dd_nil : dedup [] = [] := rfl
theorem dd_one {o : Nat} : dedup [o] = [o] := rfl
theorem dd_two {o : Nat} : dedup [o, o] = [o] := by simp [dedup]
theorem rl_nil : refsL [] = [] := rfl
theorem rl_cons {p : PV} {ps : List PV} : refsL (p :: ps) = refsX p ++ refsL ps := rfl
theorem rx_val {v : Value} : refsX (.val v) = [] := rfl
theorem rx_lst {k : Bool} {sz : Nat} {es : List PV} : refsX (.lst k sz es) = [] := rfl
theorem rx_ptr {k : Bool} {e : PV} {o : Nat} : refsX (.ptr k e o) = [] := rfl
theorem rx_own {o a b c : Nat} : refsX (.own o a b c) = [o] := rfl
theorem rx_row {o a b c : Nat} : refsX (.row o a b c) = [o] := rfl
theorem rx_agg {cs : List PV} : refsX (.agg cs) = refsA cs := rfl
theorem ra_nil : refsA [] = [] := rfl
theorem ra_val {v : Value} {l : List PV} : refsA (.val v :: l) = refsA l := rfl
theorem ra_lst {k : Bool} {sz : Nat} {es l : List PV} : refsA (.lst k sz es :: l) = refsA l := rfl
theorem ra_own {o a b c : Nat} {l : List PV} : refsA (.own o a b c :: l) = o :: refsA l := rfl
theorem ra_row {o a b c : Nat} {l : List PV} : refsA (.row o a b c :: l) = o :: refsA l := rfl
end
attribute [push_cast low]
  io_any
attribute [push_cast]
  ioX_nil ioX_one ioX_two ioTwo_some dd_ab inn_a inn_b outF_ab0 outF_ab1 outF_ab2 outF_a1 ioR_ab2 ioR_ab3 dd_nil dd_one dd_two rl_nil rl_cons rx_val rx_lst rx_ptr rx_own rx_row rx_agg ra_nil ra_val ra_lst ra_own ra_row
end Go.Proofs.Ytngcedklbinhjaa
namespace Go.Proofs.Ytngcedklbinhjaa
open Go.RowKit
set_option linter.all false
theorem lnsK_size {l : List It} {tx : LS} {br : List Int} (h : ∀ k : Nat, (tx[k]?.getD ByteArray.empty).size ≤ 20) (hl : l.length ≤ 60) (hb : okBr l br) : ∀ k, k ≤ br.length → ∀ s ∈ lnsK l tx br k, s.size ≤ 2000
  | 0, _ => by simp [lnsK]
  | k + 1, hk => fun s hs => by
    rw [lnsK] at hs
    rcases List.mem_append.1 hs with hs | hs
    · exact lnsK_size h hl hb k (by omega) s hs
    · rw [List.mem_singleton.1 hs]
      obtain ⟨b1, b2, b3, -⟩ := hb.at_ (k := k) (by omega)
      have := lnT_size (l := l) (tx := tx) (a := frB br k) h ((br[k]?.getD 0).toNat - frB br k)
      unfold lnR
      split
      · rw [ByteArray.size_append, show (⟨#[45]⟩ : ByteArray).size = 1 from rfl]
        omega
      · omega
theorem pglV_ok (ws pats : LS) (wd most : Int) : (pglV ws pats wd most).length ≤ 60 ∧ ∀ s ∈ pglV ws pats wd most, s.size ≤ 2000 := by
  unfold pglV
  split
  · rename_i h
    unfold pglB at h
    rw [Bool.and_eq_true] at h
    obtain ⟨h1, h2⟩ := h
    have hV : piV ws pats = piR ws pats := if_pos h1
    rw [hV] at h2
    obtain ⟨hB, -, -, hm, -⟩ := brkOk_iff.1 h2
    have hb := brk_ok (wd := wd) hB hm.2
    have hl := items_len hB
    rw [lnsK_len]
    exact ⟨by have := hb.1; omega, lnsK_size tx_size hl hb _ (Nat.le_refl _)⟩
  · simp
end Go.Proofs.Ytngcedklbinhjaa
namespace Go.Proofs.Ytngcedklbinhjaa
open Go.RowKit
set_option linter.all false
def mixL {α : Type} (m : Nat → α) (l : List α) (j : Nat) : List α := (List.range j).map m ++ l.drop j
section
variable {α : Type} {m : Nat → α} {l : List α} {j : Nat}
theorem mixL_length (h : j ≤ l.length) : (mixL m l j).length = l.length := by simp [mixL]; omega
theorem mixL_zero : mixL m l 0 = l := by simp [mixL]
theorem mixL_full (h : l.length ≤ j) : mixL m l j = (List.range j).map m := by simp [mixL, List.drop_eq_nil_of_le h]
theorem mixL_set (h : j < l.length) : (mixL m l j).set j (m j) = mixL m l (j + 1) := by
  have e : l.drop j = l[j] :: l.drop (j + 1) := List.drop_eq_getElem_cons h
  unfold mixL
  rw [List.set_append_right _ _ (by simp), e, show j - ((List.range j).map m).length = 0 by simp, List.set_cons_zero, List.range_succ]
  simp
end
def MarkD {α : Type} (T : Nat) (en : α → PV) (ps : List PV) (cs : List CellIO) : Prop :=
  (∃ (l : List α) (k : Int), ps = [.row 0 1 0 l.length, .val (.int .i64 k)] ∧ cs = [(T, 1, l.map en)] ∧ l.length ≤ 1048576 ∧ 0 < k ∧ k ≤ 1099511627776) ∨ ∃ k : Int, ps = [.val (.slice none 0 0), .val (.int .i64 k)] ∧ cs = []
def Marks {α : Type} (T : Nat) (en : α → PV) (mk : Int → Nat → List α) (Φ : FunIO) : Prop :=
  (∀ (l : List α) (k : Int), l.length ≤ 1048576 → 0 < k → k ≤ 1099511627776 → Φ [.row 0 1 0 l.length, .val (.int .i64 k)] [(T, 1, l.map en)] = some (.val (.int .i64 (k + l.length)), [(T, 1, (mk k l.length).map en)])) ∧
  ∀ k : Int, Φ [.val (.slice none 0 0), .val (.int .i64 k)] [] = some (.val (.int .i64 k), [])
def okH (k : Int) : Prop := 0 < k ∧ k ≤ 1099511627776
instance (k : Int) : Decidable (okH k) := by unfold okH; infer_instance
theorem markText_ex : ∃ φ : Fun, Sound Try.prog 42 φ ∧ ∀ k : Int, 0 < k → k ≤ 2199023255552 → ∃ s : ByteArray, φ [.val (.int .i64 k)] = some (.val (.string s)) ∧ s.size ≤ 2199023255553 := by
  obtain ⟨φ, h1, h2⟩ := rel_of_pq mixed GE_ok Try.func42 rfl 20 rfl [.tmp 2] rfl (by kernel_rfl) (fun ps => ∃ k : Int, ps = [.val (.int .i64 k)] ∧ 0 < k ∧ k ≤ 2199023255552)
    (fun ps r => ∃ s : ByteArray, r = .val (.string s) ∧ s.size ≤ 2199023255553) (fun ps ⟨k, e, _⟩ => by rw [e]; simp) (fun ps ⟨k, e, hk, hk2⟩ => by
      subst e
      (repeat' (first | (with_reducible first | apply i_seq | apply i_block | apply i_skip | apply i_exit | apply i_ret | apply i_kS | apply i_kSx | apply i_kSr | apply i_kL | apply i_kLx | apply i_kLr | apply i_kB | apply i_kBr | apply i_kBs | apply i_nil) | ((with_reducible apply i_region); (simp only [List.map_cons, List.map_nil] <;> exact rfl)) | ((with_reducible apply i_draw); (simp only [List.map_cons, List.map_nil] <;> exact rfl); decide +kernel) | ((with_reducible apply i_kBo); rfl) | ((first | ((with_reducible apply i_V); rfl; rfl; rfl) | ((first | ((with_reducible apply i_E); rfl) | ((with_reducible apply i_S); rfl)); first | rfl | (simp only [push_cast, ↓reduceIte])) | ((with_reducible apply i_Vq); rfl; rfl) | ((with_reducible apply i_Vp); rfl; rfl; rfl) | (with_reducible first | apply i_Gb | apply i_cond)); (simp (disch := (first | omega | (simp only [push_cast]; first | done | omega))) only [push_cast, ↓reduceIte, Nat.reduceEqDiff, Nat.reduceBEq, Nat.reduceAdd, Nat.reduceSub, Int.reduceToNat, *] <;> with_reducible exact rfl); all_goals try (first | (with_reducible first | refine hyT ?_ | refine hyF ?_ | exact hyA | exact hyB) | (intro hX; first | (cases hX; done) | ((try simp only [decide_eq_true_eq, decide_eq_false_iff_not, Bool.not_eq_true', Bool.not_eq_false'] at hX); (try have hXb := inB_iff.1 hX))))))); all_goals try (exfalso; omega)
      refine i_loop (α := ByteArray × Int × Nat) mixed (fun s => [(0, iv s.2.1), (3, .val (.string s.1))]) (fun j => []) (fun s => s.2.2)
        (fun s => (s.1.size : Int) + s.2.1 ≤ 2199023255552 ∧ 0 ≤ s.2.1) (fun s => s.2.1.toNat) (by kernel_rfl) (⟨#[]⟩, k, 0) ⟨by have h0 : ((⟨#[]⟩ : ByteArray)).size = 0 := rfl; dsimp only; omega, by dsimp only; omega⟩ ?_ trivial rfl ?_
      · simp (disch := (first | omega | (simp only [push_cast]; first | done | omega))) only [push_cast, ↓reduceIte, Nat.reduceEqDiff, Nat.reduceBEq, Nat.reduceAdd, Nat.reduceSub, Int.reduceToNat, List.length_append, *]
      rintro ⟨s, q, y⟩ ⟨h3, h4⟩
      dsimp only at h3 h4
      have h5 : ((⟨#[109]⟩ : ByteArray)).size = 1 := rfl
      (repeat' (first | (with_reducible first | apply i_seq | apply i_block | apply i_skip | apply i_exit | apply i_ret | apply i_kS | apply i_kSx | apply i_kSr | apply i_kL | apply i_kLx | apply i_kLr | apply i_kB | apply i_kBr | apply i_kBs | apply i_nil) | ((with_reducible apply i_region); (simp only [List.map_cons, List.map_nil] <;> exact rfl)) | ((with_reducible apply i_draw); (simp only [List.map_cons, List.map_nil] <;> exact rfl); decide +kernel) | ((with_reducible apply i_kBo); rfl) | ((first | ((with_reducible apply i_V); rfl; rfl; rfl) | ((first | ((with_reducible apply i_E); rfl) | ((with_reducible apply i_S); rfl)); first | rfl | (simp only [push_cast, ↓reduceIte])) | ((with_reducible apply i_Vq); rfl; rfl) | ((with_reducible apply i_Vp); rfl; rfl; rfl) | (with_reducible first | apply i_Gb | apply i_cond)); (simp (disch := (first | omega | (simp only [push_cast]; first | done | omega))) only [push_cast, ↓reduceIte, Nat.reduceEqDiff, Nat.reduceBEq, Nat.reduceAdd, Nat.reduceSub, Int.reduceToNat, *] <;> with_reducible exact rfl); all_goals try (first | (with_reducible first | refine hyT ?_ | refine hyF ?_ | exact hyA | exact hyB) | (intro hX; first | (cases hX; done) | ((try simp only [decide_eq_true_eq, decide_eq_false_iff_not, Bool.not_eq_true', Bool.not_eq_false'] at hX); (try have hXb := inB_iff.1 hX))))))); all_goals try (exfalso; omega)
      · refine ⟨(bytesOf [IntKind.u8.wrap (48 + q % 10)] ++ s, q / 10, y + 1), ⟨?_, ?_⟩, ?_, ?_, trivial, rfl⟩
        · simp only [ByteArray.size_append, size_bytesOf, List.length_cons, List.length_nil]; omega
        · dsimp only; omega
        · dsimp only; omega
        · simp (disch := (first | omega | (simp only [push_cast]; first | done | omega))) only [push_cast, ↓reduceIte, Nat.reduceEqDiff, Nat.reduceBEq, Nat.reduceAdd, Nat.reduceSub, Int.reduceToNat, List.length_append, *]
      · refine ⟨_, ⟨⟨#[109]⟩ ++ s, rfl, ?_⟩, i_end (by (simp (disch := (first | omega | (simp only [push_cast]; first | done | omega))) only [push_cast, ↓reduceIte, Nat.reduceEqDiff, Nat.reduceBEq, Nat.reduceAdd, Nat.reduceSub, Int.reduceToNat, *] <;> with_reducible exact rfl))⟩
        rw [ByteArray.size_append]
        omega)
  refine ⟨φ, h1, fun k hk hk2 => ?_⟩
  obtain ⟨r, e, s, rfl, hs⟩ := h2 _ ⟨k, rfl, hk, hk2⟩
  exact ⟨s, e, hs⟩
noncomputable def φMarkT : Fun := Classical.choose markText_ex
theorem markText_ok : Sound Try.prog 42 φMarkT := (Classical.choose_spec markText_ex).1
open Classical in
noncomputable def mkT (k : Int) : ByteArray := if h : 0 < k ∧ k ≤ 2199023255552 then Classical.choose ((Classical.choose_spec markText_ex).2 k h.1 h.2) else .empty
theorem φMarkT_ap {k : Int} (h : 0 < k) (h2 : k ≤ 2199023255552) : φMarkT [.val (.int .i64 k)] = some (.val (.string (mkT k))) := by
  unfold mkT
  rw [dif_pos ⟨h, h2⟩]
  exact (Classical.choose_spec ((Classical.choose_spec markText_ex).2 k h h2)).1
noncomputable def marksS (k : Int) (n : Nat) : LS := (List.range n).map fun j : Nat => mkT (k + j)
theorem marksS_length (k : Int) (n : Nat) : (marksS k n).length = n := by simp [marksS]
theorem marksS_at (k : Int) {n j : Nat} (h : j < n) : (marksS k n)[j]?.getD .empty = mkT (k + j) := by simp [marksS, h]
noncomputable def GMkS : Ctx := { fn := fun f => if f = 42 then some φMarkT else none, io := fun f => none }
theorem GMkS_ok : SoundΓ Try.prog GMkS := ⟨(fun f φ h => by
  unfold GMkS at h
  dsimp only at h
  split at h
  · rename_i hf; cases h; subst hf; exact ⟨⟨_, Try.func42, rfl, rfl⟩, markText_ok⟩
  cases h), (fun f φ h => by
  unfold GMkS at h
  dsimp only at h
  cases h), rfl⟩
theorem GMkS_42 (ob : Objs) (ps : List PV) : evCall GMkS ob 42 ps = (ps.mapM (reify false 0 ob fuel)).bind φMarkT := by
  have h : GMkS.fn 42 = some φMarkT := by simp [GMkS]
  unfold evCall
  rw [h]
  cases ps.mapM (reify false 0 ob fuel) <;> rfl
theorem markStringS_ex : ∃ Φ : FunIO, SoundIO Try.prog 17 Φ ∧ Marks 9 (fun s : ByteArray => .val (.string s)) marksS Φ := by
  obtain ⟨Φ, h1, h2⟩ := relIO_any mixed GMkS_ok Try.func17 rfl 20 rfl [.tmp 4] rfl (by kernel_rfl) (MarkD 9 fun s : ByteArray => .val (.string s))
    (fun ps cs r cs' => (∀ (l : LS) (k : Int), ps = [.row 0 1 0 l.length, .val (.int .i64 k)] → cs = [(9, 1, l.map fun s => .val (.string s))] → r = .val (.int .i64 (k + l.length)) ∧ cs' = [(9, 1, (marksS k l.length).map fun s => .val (.string s))]) ∧ ∀ k : Int, ps = [.val (.slice none 0 0), .val (.int .i64 k)] → r = .val (.int .i64 k) ∧ cs' = [])
    (fun ps cs hd => by rcases hd with ⟨l, k, rfl, _⟩ | ⟨k, rfl, _⟩ <;> simp) (fun ps cs hd => by
      rcases hd with ⟨l, k, rfl, rfl, hl, hk, hk2⟩ | ⟨k, rfl, rfl⟩
      · rw [ls_one]
        (refine wlkX ?_; intros)
        refine i_loop (α := Nat) mixed (fun j => [(0, .row 0 1 0 l.length), (1, iv (k + j)), (5, iv j)]) (fun j => [(0, 9, 1, (mixL (fun j : Nat => mkT (k + j)) l j).map fun s => .val (.string s))]) (fun _ => 1)
          (fun j => j ≤ l.length) (fun j => l.length - j) (by kernel_rfl) 0 (Nat.zero_le _) ?_ ?_ rfl ?_
        · simp (disch := (first | omega | (simp only [push_cast]; first | done | omega))) only [push_cast, ↓reduceIte, Nat.reduceEqDiff, Nat.reduceBEq, Nat.reduceAdd, Nat.reduceSub, Int.reduceToNat, Int.add_zero]
        · simp (disch := (first | omega | (simp only [push_cast]; first | done | omega))) only [push_cast, ↓reduceIte, Nat.reduceEqDiff, Nat.reduceBEq, Nat.reduceAdd, Nat.reduceSub, Int.reduceToNat, mixL_zero]
        intro j hj
        have hm : (mixL (fun j : Nat => mkT (k + j)) l j).length = l.length := mixL_length hj
        by_cases h : j < l.length
        · have ap := φMarkT_ap (k := k + j) (by omega) (by omega)
          have gmks_c42 := GMkS_42
          (refine wlk ?_; intros)
          refine ⟨j + 1, by omega, by dsimp only; omega, ?_, ?_, rfl⟩
          · simp (disch := (first | omega | (simp only [push_cast]; first | done | omega))) only [push_cast, ↓reduceIte, Nat.reduceEqDiff, Nat.reduceBEq, Nat.reduceAdd, Nat.reduceSub, Int.reduceToNat, *]
            simp only [Int.add_assoc, and_self]
          · simp (disch := (first | omega | (simp only [push_cast]; first | done | omega))) only [push_cast, ↓reduceIte, Nat.reduceEqDiff, Nat.reduceBEq, Nat.reduceAdd, Nat.reduceSub, Int.reduceToNat, *]
            rw [← mixL_set h]
        · (refine wlk ?_; intros)
          refine i_any1 (r := .val (.int .i64 (k + j))) (c' := (9, 1, (mixL (fun j : Nat => mkT (k + j)) l j).map fun s => .val (.string s))) (by first | exact .inl rfl | exact .inr rfl) (by (simp (disch := (first | omega | (simp only [push_cast]; first | done | omega))) only [push_cast, ↓reduceIte, Nat.reduceEqDiff, Nat.reduceBEq, Nat.reduceAdd, Nat.reduceSub, Int.reduceToNat, *] <;> with_reducible exact rfl)) (by (simp (disch := (first | omega | (simp only [push_cast]; first | done | omega))) only [push_cast, ↓reduceIte, Nat.reduceEqDiff, Nat.reduceBEq, Nat.reduceAdd, Nat.reduceSub, Int.reduceToNat, *] <;> with_reducible exact rfl)) ⟨fun l1 k1 e1 e2 => ?_, fun k1 e1 => by simp at e1⟩
          obtain ⟨e3, e4⟩ : l.length = l1.length ∧ k = k1 := by simpa using e1
          subst e4
          rw [mixL_full (by omega), ← e3, show j = l.length by omega]
          exact ⟨rfl, rfl⟩
      · rw [ls_nil]
        (refine wlkX ?_; intros)
        refine i_loop (α := Unit) mixed (fun j => [(0, .val (.slice none 0 0)), (1, iv k), (5, iv 0)]) (fun j => []) (fun _ => 0)
          (fun j => True) (fun j => 0) (by kernel_rfl) () trivial ?_ trivial rfl ?_
        · exact agr
        intro j hj
        (refine wlk ?_; intros)
        refine i_any0 (r := .val (.int .i64 k)) (by first | exact .inl rfl | exact .inr rfl) (by (simp (disch := (first | omega | (simp only [push_cast]; first | done | omega))) only [push_cast, ↓reduceIte, Nat.reduceEqDiff, Nat.reduceBEq, Nat.reduceAdd, Nat.reduceSub, Int.reduceToNat, *] <;> with_reducible exact rfl)) ⟨fun l1 k1 e1 e2 => by simp at e1, fun k1 e1 => ?_⟩
        obtain rfl : k = k1 := by simpa using e1
        exact ⟨rfl, rfl⟩)
  refine ⟨Φ, h1, fun l k hl hk hk2 => ?_, fun k => ?_⟩
  · obtain ⟨r, cs', e, hr, _⟩ := h2 _ _ (.inl ⟨l, k, rfl, rfl, hl, hk, hk2⟩)
    obtain ⟨rfl, rfl⟩ := hr l k rfl rfl
    exact e
  · obtain ⟨r, cs', e, _, hr⟩ := h2 _ _ (.inr ⟨k, rfl, rfl⟩)
    obtain ⟨rfl, rfl⟩ := hr k rfl
    exact e
noncomputable def ΦmarkS : FunIO := Classical.choose markStringS_ex
theorem markS_io : SoundIO Try.prog 17 ΦmarkS := (Classical.choose_spec markStringS_ex).1
theorem markS_mk : Marks 9 (fun s : ByteArray => .val (.string s)) marksS ΦmarkS := (Classical.choose_spec markStringS_ex).2
noncomputable def GHdS : Ctx := { fn := fun f => if f = 42 then some φMarkT else none, io := fun f => none }
theorem GHdS_ok : SoundΓ Try.prog GHdS := ⟨(fun f φ h => by
  unfold GHdS at h
  dsimp only at h
  split at h
  · rename_i hf; cases h; subst hf; exact ⟨⟨_, Try.func42, rfl, rfl⟩, markText_ok⟩
  cases h), (fun f φ h => by
  unfold GHdS at h
  dsimp only at h
  cases h), rfl⟩
theorem GHdS_42 (ob : Objs) (ps : List PV) : evCall GHdS ob 42 ps = (ps.mapM (reify false 0 ob fuel)).bind φMarkT := by
  have h : GHdS.fn 42 = some φMarkT := by simp [GHdS]
  unfold evCall
  rw [h]
  cases ps.mapM (reify false 0 ob fuel) <;> rfl
noncomputable def φHeldS : Fun := F2 dSs dI fun l k => if l = marksS k l.length ∧ l.length ≤ 1048576 ∧ okH k then some (iv (k + l.length)) else none
theorem φHeldS_ap {k : Int} {n : Nat} (hn : n ≤ 1048576) (hk : 0 < k) (hk2 : k ≤ 1099511627776) : φHeldS [.lst false 1 ((marksS k n).map fun s => .val (.string s)), .val (.int .i64 k)] = some (.val (.int .i64 (k + n))) := by
  refine (F2_ap (A := dSs) (B := dI) (marksS k n) k).trans ((if_pos ⟨by rw [marksS_length], by rw [marksS_length]; exact hn, hk, hk2⟩).trans ?_)
  rw [marksS_length]
set_option maxHeartbeats 4000000 in
theorem heldStringS_ok : Sound Try.prog 18 φHeldS := by
  refine sound_pq mixed GHdS_ok Try.func18 rfl 22 rfl [.tmp 4] rfl (by kernel_rfl) fun ps r hr => ?_
  obtain ⟨l, k, rfl, hq⟩ := F2_some hr
  clear hr
  split at hq
  case isFalse => cases hq
  case isTrue hpre =>
  cases hq
  refine ⟨by simp, ?_⟩
  simp only [dIs, dUs, dSs, dI_e, dU_e, dB_e, dS_e, dFn_e, dL_e, dA2_e, dA3_e, dA4_e, dA5_e]
  obtain ⟨hl, hlen, hk, hk2⟩ := hpre
  have hat : ∀ j : Nat, j < l.length → l[j]?.getD .empty = mkT (k + j) := fun j hj => by
    rw [hl, marksS_at k hj]
  clear hl
  (refine wlkX ?_; intros)
  refine i_loop (α := Nat) mixed (fun j => [(0, .lst false 1 (l.map fun s => .val (.string s))), (1, iv (k + j)), (5, iv j)]) (fun j => []) (fun _ => 0)
    (fun j => j ≤ l.length) (fun j => l.length - j) (by kernel_rfl) 0 (Nat.zero_le _) ?_ trivial rfl ?_
  · simp (disch := (first | omega | (simp only [push_cast]; first | done | omega))) only [push_cast, ↓reduceIte, Nat.reduceEqDiff, Nat.reduceBEq, Nat.reduceAdd, Nat.reduceSub, Int.reduceToNat, Int.add_zero]
  intro j hj
  by_cases h : j < l.length
  · have hj2 := hat j h
    have ap := φMarkT_ap (k := k + j) (by omega) (by omega)
    clear hat
    have ghds_c42 := GHdS_42
    (refine wlk ?_; intros)
    refine ⟨j + 1, by omega, by dsimp only; omega, ?_, trivial, rfl⟩
    simp (disch := (first | omega | (simp only [push_cast]; first | done | omega))) only [push_cast, ↓reduceIte, Nat.reduceEqDiff, Nat.reduceBEq, Nat.reduceAdd, Nat.reduceSub, Int.reduceToNat, *]
    simp only [Int.add_assoc, and_self]
  · clear hat
    (refine wlk ?_; intros)
    rw [show l.length = j by omega]
    (exact fnF)
def ΨToS : FunN := G1 dSs fun l => if l.length ≤ 1048576 then some (.row 0 1 0 l.length, [(9, 1, l.map fun s => .val (.string s))]) else none
theorem ΨToS_ap {l : LS} (h : l.length ≤ 1048576) : ΨToS [.lst false 1 (l.map fun s => .val (.string s))] = some (.row 0 1 0 l.length, [(9, 1, l.map fun s => .val (.string s))]) :=
  (G1_ap (A := dSs) l).trans (if_pos h)
set_option maxHeartbeats 4000000 in
theorem toStringSN : SoundN Try.prog 14 ΨToS := by
  refine sound_pqN mixed GE_ok Try.func14 rfl 22 rfl [.tmp 2] rfl (by kernel_rfl) fun ps r cs' hr => ?_
  obtain ⟨l, rfl, hq⟩ := G1_some hr
  clear hr
  split at hq
  case isFalse => cases hq
  case isTrue hpre =>
  cases hq
  refine ⟨by simp, ?_⟩
  simp only [dIs, dUs, dSs, dI_e, dU_e, dB_e, dS_e, dFn_e, dL_e, dA2_e, dA3_e, dA4_e, dA5_e]
  (refine wlkX ?_; intros)
  refine i_loop (α := Nat) mixed (fun k => [(0, .lst false 1 (l.map fun s => .val (.string s))), (3, .row 0 1 0 l.length), (4, iv k)]) (fun k => [(0, 9, 1, (fillZ l .empty k).map fun s => .val (.string s))]) (fun _ => 1)
    (fun k => k ≤ l.length) (fun k => l.length - k) (by kernel_rfl) 0 (Nat.zero_le _) ?_ ?_ rfl ?_
  · simp only [push_cast, ↓reduceIte, Nat.reduceEqDiff, Nat.reduceBEq, Nat.reduceAdd, Nat.reduceSub, Int.reduceToNat]
  · simp only [push_cast, ↓reduceIte, Nat.reduceEqDiff, Nat.reduceBEq, Nat.reduceAdd, Nat.reduceSub, Int.reduceToNat, fillZ_zero, List.map_replicate]
  intro k hk
  have hfl : (fillZ l .empty k).length = l.length := fillZ_length
  by_cases h : k < l.length
  · (refine wlk ?_; intros)
    refine ⟨k + 1, by omega, by dsimp only; omega, by simp only [push_cast, ↓reduceIte, Nat.reduceEqDiff, Nat.reduceBEq, Nat.reduceAdd, Nat.reduceSub, Int.reduceToNat], ?_, rfl⟩
    simp only [push_cast, ↓reduceIte, Nat.reduceEqDiff, Nat.reduceBEq, Nat.reduceAdd, Nat.reduceSub, Int.reduceToNat]
    rw [← fillZ_set (y := l[k]?.getD .empty) h (by simp [h])]
  · (refine wlk ?_; intros)
    have e := fillZ_full (zs := l) (z := ByteArray.empty) (k := k) (by omega)
    rw [e]
    ((with_reducible apply i_endN1 (0) (by first | exact .inl rfl | exact .inr rfl)); (focus (simp (disch := (first | omega | (simp only [push_cast]; first | done | omega))) only [push_cast, ↓reduceIte, Nat.reduceEqDiff, Nat.reduceBEq, Nat.reduceAdd, Nat.reduceSub, Int.reduceToNat, *] <;> with_reducible exact rfl)); (focus (simp (disch := (first | omega | (simp only [push_cast]; first | done | omega))) only [push_cast, ↓reduceIte, Nat.reduceEqDiff, Nat.reduceBEq, Nat.reduceAdd, Nat.reduceSub, Int.reduceToNat, *] <;> with_reducible exact rfl)))
theorem toS_lift {l : LS} (h : l.length ≤ 1048576) : liftN ΨToS [.lst false 1 (l.map fun s => .val (.string s))] [] = some (.row 0 1 0 l.length, [(9, 1, l.map fun s => .val (.string s))]) := by
  refine (liftN_of (cs := []) (by rw [mapM_cons', mapM_nil', reify_fuel]; exact (congrArg (fun x => Option.bind x _) reifyS_vals).trans rfl) (ΨToS_ap h) rfl (by rw [mapM_cons', mapM_nil', renCT_vals]; rfl)).trans ?_
  rfl
end Go.Proofs.Ytngcedklbinhjaa
namespace Go.Proofs.Ytngcedklbinhjaa
open Go.RowKit
set_option linter.all false
noncomputable def φEqSp : Fun := nilF 1 φEqS
noncomputable def φHeldSp : Fun := nilF 1 φHeldS
theorem φEqSp_ap {a b : LS} (h : a.length ≤ 1048576) (h2 : b.length ≤ 1048576) : φEqSp [.lst false 1 (a.map fun s => .val (.string s)), .lst false 1 (b.map fun s => .val (.string s))] = some (.val (.bool (decide (a = b)))) := φEqS_ap h h2
theorem φEqSp_nil : φEqSp [.val (.slice none 0 0), .lst false 1 []] = some (.val (.bool true)) := φEqS_ap (a := []) (b := []) (by simp) (by simp)
theorem φHeldSp_ap {k : Int} {n : Nat} (hn : n ≤ 1048576) (hk : 0 < k) (hk2 : k ≤ 1099511627776) : φHeldSp [.lst false 1 ((marksS k n).map fun s => .val (.string s)), .val (.int .i64 k)] = some (.val (.int .i64 (k + n))) := φHeldS_ap hn hk hk2
theorem φHeldSp_nil : φHeldSp [.val (.slice none 0 0), .val (.int .i64 1)] = some (.val (.int .i64 1)) := φHeldS_ap (k := 1) (n := 0) (by simp) (by simp) (by simp)
abbrev LSo (l : LS) : CellIO := (9, 1, l.map fun s => PV.val (.string s))
theorem Pgi_lift2 {ws pats L : LS} {wd most : Int} (h : okSs ws ∧ okSs pats) (hV : pglV ws pats wd most = L) (h0 : 0 < L.length) : liftN ΨPgi [.row 0 1 0 ws.length, .row 1 1 0 pats.length, .val (.int .i64 wd), .val (.int .i64 most)] [(9, 1, ws.map fun s => .val (.string s)), (9, 1, pats.map fun s => .val (.string s))] = some (.tup [.row 2 1 0 L.length, .val (.bool (pglB ws pats wd most))], [(9, 1, ws.map fun s => .val (.string s)), (9, 1, pats.map fun s => .val (.string s)), (9, 1, L.map fun s => .val (.string s))]) := by
  have hp : 0 < (L.map fun s => PV.val (.string s)).length := by simpa using h0
  refine (liftN_of (qs := [.lst false 1 (ws.map fun s => .val (.string s)), .lst false 1 (pats.map fun s => .val (.string s)), .val (.int .i64 wd), .val (.int .i64 most)]) (cs1 := [LSo L]) (r := .tup [.row 0 1 0 L.length, .val (.bool (pglB ws pats wd most))]) (cs0 := [LSo L]) (by
    rw [mapM_cons', reify_row rfl, Option.bind_some, mapM_cons', reify_row rfl, Option.bind_some, mapM_cons', reify_val, Option.bind_some, mapM_cons', reify_val, Option.bind_some, mapM_nil']; rfl) ((G4_ap (A := dSs) (B := dSs) (C := dI) (D := dI) ws pats wd most).trans ((if_pos h).trans (by rw [hV]; rw [nP_pos hp, nC_pos hp, List.length_map]))) rfl (by rw [mapM_cons', mapM_nil', renCT_vals]; rfl)).trans ?_
  rfl
theorem Pgi_lift20 {ws pats : LS} {wd most : Int} (h : okSs ws ∧ okSs pats) (hV : pglV ws pats wd most = []) : liftN ΨPgi [.row 0 1 0 ws.length, .row 1 1 0 pats.length, .val (.int .i64 wd), .val (.int .i64 most)] [(9, 1, ws.map fun s => .val (.string s)), (9, 1, pats.map fun s => .val (.string s))] = some (.tup [.val (.slice none 0 0), .val (.bool (pglB ws pats wd most))], [(9, 1, ws.map fun s => .val (.string s)), (9, 1, pats.map fun s => .val (.string s))]) := by
  refine (liftN_of (qs := [.lst false 1 (ws.map fun s => .val (.string s)), .lst false 1 (pats.map fun s => .val (.string s)), .val (.int .i64 wd), .val (.int .i64 most)]) (cs1 := []) (r := .tup [.val (.slice none 0 0), .val (.bool (pglB ws pats wd most))]) (cs0 := []) (by
    rw [mapM_cons', reify_row rfl, Option.bind_some, mapM_cons', reify_row rfl, Option.bind_some, mapM_cons', reify_val, Option.bind_some, mapM_cons', reify_val, Option.bind_some, mapM_nil']; rfl) ((G4_ap (A := dSs) (B := dSs) (C := dI) (D := dI) ws pats wd most).trans ((if_pos h).trans (by rw [hV]; rfl))) rfl rfl).trans ?_
  rfl
noncomputable def φLawPlE : Fun := F4 dSs dSs dI dI fun ws pats wd most => if okSL ws ∧ okSL pats then some (bv true) else none
noncomputable def GPlE : Ctx := { fn := fun f => if f = 12 then some φSzS else if f = 13 then some φPgl else if f = 16 then some φEqSp else if f = 18 then some φHeldSp else none, io := fun f => if f = 14 then some (liftN ΨToS) else if f = 15 then some (liftN ΨPgi) else if f = 17 then some ΦmarkS else none }
theorem GPlE_ok : SoundΓ Try.prog GPlE := ⟨(fun f φ h => by
  unfold GPlE at h
  dsimp only at h
  split at h
  · rename_i hf; cases h; subst hf; exact ⟨⟨_, Try.func12, rfl, rfl⟩, szStringS_ok⟩
  split at h
  · rename_i hf; cases h; subst hf; exact ⟨⟨_, Try.func13, rfl, rfl⟩, specPgl_ok⟩
  split at h
  · rename_i hf; cases h; subst hf; exact ⟨⟨_, Try.func16, rfl, rfl⟩, (eqStringS_ok.nil 1)⟩
  split at h
  · rename_i hf; cases h; subst hf; exact ⟨⟨_, Try.func18, rfl, rfl⟩, (heldStringS_ok.nil 1)⟩
  cases h), (fun f φ h => by
  unfold GPlE at h
  dsimp only at h
  split at h
  · rename_i hf; cases h; subst hf; exact ⟨⟨_, Try.func14, rfl, rfl⟩, toStringSN.lift⟩
  split at h
  · rename_i hf; cases h; subst hf; exact ⟨⟨_, Try.func15, rfl, rfl⟩, implPgiN.lift⟩
  split at h
  · rename_i hf; cases h; subst hf; exact ⟨⟨_, Try.func17, rfl, rfl⟩, markS_io⟩
  cases h), rfl⟩
theorem GPlE_12 (ob : Objs) (ps : List PV) : evCall GPlE ob 12 ps = (ps.mapM (reify false 0 ob fuel)).bind φSzS := by
  have h : GPlE.fn 12 = some φSzS := by simp [GPlE]
  unfold evCall
  rw [h]
  cases ps.mapM (reify false 0 ob fuel) <;> rfl
theorem GPlE_13 (ob : Objs) (ps : List PV) : evCall GPlE ob 13 ps = (ps.mapM (reify false 0 ob fuel)).bind φPgl := by
  have h : GPlE.fn 13 = some φPgl := by simp [GPlE]
  unfold evCall
  rw [h]
  cases ps.mapM (reify false 0 ob fuel) <;> rfl
theorem GPlE_16 (ob : Objs) (ps : List PV) : evCall GPlE ob 16 ps = (ps.mapM (reify false 0 ob fuel)).bind φEqSp := by
  have h : GPlE.fn 16 = some φEqSp := by simp [GPlE]
  unfold evCall
  rw [h]
  cases ps.mapM (reify false 0 ob fuel) <;> rfl
theorem GPlE_18 (ob : Objs) (ps : List PV) : evCall GPlE ob 18 ps = (ps.mapM (reify false 0 ob fuel)).bind φHeldSp := by
  have h : GPlE.fn 18 = some φHeldSp := by simp [GPlE]
  unfold evCall
  rw [h]
  cases ps.mapM (reify false 0 ob fuel) <;> rfl
theorem GPlE_14 : GPlE.io 14 = some (liftN ΨToS) := by simp [GPlE]
theorem GPlE_15 : GPlE.io 15 = some (liftN ΨPgi) := by simp [GPlE]
theorem GPlE_17 : GPlE.io 17 = some ΦmarkS := by simp [GPlE]
set_option maxHeartbeats 16000000 in
theorem lawPlE_ok : Sound Try.prog 4 φLawPlE := by
  refine sound_pq mixed GPlE_ok Try.func4 rfl 129 rfl [.tmp 8] rfl (by kernel_rfl) fun ps r hr => ?_
  obtain ⟨ws, pats, wd, most, rfl, hq⟩ := F4_some hr
  clear hr
  split at hq
  case isFalse => cases hq
  case isTrue hpre =>
  cases hq
  refine ⟨by simp, ?_⟩
  simp only [dIs, dUs, dSs, dI_e, dU_e, dB_e, dS_e, dFn_e, dL_e, dA2_e, dA3_e, dA4_e, dA5_e]
  have ap1 := φSzS_ap hpre.1 (left := 1048576) (by omega) (by omega)
  by_cases hneg : szS 1048576 ws < 0
  · have gple_c12 := GPlE_12; have gple_c14 := GPlE_14; have gple_c13 := GPlE_13; have gple_c15 := GPlE_15; have gple_c16 := GPlE_16; have gple_c17 := GPlE_17; have gple_c18 := GPlE_18
    exact wlkF
  have hok : okSs ws := szS_ok (left := 1048576) (by omega) (by omega) (by omega)
  have hle := szS_le (l := ws) (left := 1048576) (by omega)
  have ap1b := φSzS_ap hpre.2 (left := szS 1048576 ws) (by omega) hle
  by_cases hneg2 : szS (szS 1048576 ws) pats < 0
  · clear hok
    have gple_c12 := GPlE_12; have gple_c14 := GPlE_14; have gple_c13 := GPlE_13; have gple_c15 := GPlE_15; have gple_c16 := GPlE_16; have gple_c17 := GPlE_17; have gple_c18 := GPlE_18
    exact wlkF
  have hok2 : okSs pats := szS_ok (left := szS 1048576 ws) (by omega) (by omega) hle
  generalize szS (szS 1048576 ws) pats = z2 at *
  generalize szS 1048576 ws = z1 at *
  have ap2 := toS_lift hok.1
  have ap2b := toS_lift hok2.1
  have ap3 := φPgl_ap (wd := wd) (most := most) ⟨hok, hok2⟩
  have hlen := hok.1
  have hlen2 := hok2.1
  have ap5 := φEqSp_ap (a := ws) (b := ws) hok.1 hok.1
  have ap5b := φEqSp_ap (a := pats) (b := pats) hok2.1 hok2.1
  have ap6 := markS_mk.1 ws 1 hok.1 (by omega) (by omega)
  have ap6b := markS_mk.1 pats (1 + ws.length) hok2.1 (by omega) (by omega)
  have hL60 := (pglV_ok ws pats wd most).1
  by_cases h0 : (pglV ws pats wd most).length = 0
  · have e0 := List.eq_nil_of_length_eq_zero h0
    have ap4 := Pgi_lift20 (wd := wd) (most := most) ⟨hok, hok2⟩ e0
    have ap7 := markS_mk.2 1
    have ap8 := φEqSp_nil
    have ap9 := φHeldSp_nil
    rw [e0, List.map_nil] at ap3
    generalize pglB ws pats wd most = b at *
    clear hpre hok hok2 e0 h0 hL60
    cases b <;>
    · have gple_c12 := GPlE_12; have gple_c14 := GPlE_14; have gple_c13 := GPlE_13; have gple_c15 := GPlE_15; have gple_c16 := GPlE_16; have gple_c17 := GPlE_17; have gple_c18 := GPlE_18
      exact wlkS
  · obtain ⟨L, hL⟩ : ∃ L, pglV ws pats wd most = L := ⟨_, rfl⟩
    rw [hL] at h0 hL60 ap3
    have ap4 := Pgi_lift2 (wd := wd) (most := most) ⟨hok, hok2⟩ hL (by omega)
    have ap7 := markS_mk.1 L 1 (by omega) (by omega) (by omega)
    have ap8 := φEqSp_ap (a := L) (b := L) (by omega) (by omega)
    have ap9 := φHeldSp_ap (k := 1) (n := L.length) (by omega) (by omega) (by omega)
    have hml := marksS_length 1 L.length
    generalize pglB ws pats wd most = b at *
    clear hpre hok hok2 hL
    cases b <;>
    · have gple_c12 := GPlE_12; have gple_c14 := GPlE_14; have gple_c13 := GPlE_13; have gple_c15 := GPlE_15; have gple_c16 := GPlE_16; have gple_c17 := GPlE_17; have gple_c18 := GPlE_18
      exact wlkS
end Go.Proofs.Ytngcedklbinhjaa
namespace Go.Proofs.Ytngcedklbinhjaa
open Go.ChangeShapes Go.WideShapes Go.ChangeAt Go.RowKit
open Go.ChangeMaps (open_string shut_string)
set_option linter.all false
theorem own : ownKnob Try.prog.godebug = none := by kernel_rfl
theorem laidOut : laidOutB Try.prog = true := by kernel_rfl
theorem wf_bounds {x : Int} (h : (Lit.int .i64 x).wf = true) : -9223372036854775808 ≤ x ∧ x ≤ 9223372036854775807 := by
  simpa [Lit.wf, IntKind.min, IntKind.max, IntKind.signed, IntKind.bits] using h
theorem addr_add (b off i : Nat) : (⟨b, off, none⟩ : Addr).add i = ⟨b, off + i, none⟩ := by
  unfold Addr.add
  by_cases h : i = 0 <;> simp [h]
theorem cell_lt {w : World} {a : Addr} {v : Value} (h : w.cell? a = some v) : a.block < w.heap.size := by
  unfold World.cell? at h
  by_cases hb : a.block < w.heap.size
  · exact hb
  · rw [Array.getElem?_eq_none (by omega)] at h
    cases a.spot <;> simp at h
abbrev gW (W : World) : Gh := argG fun b => b < W.heap.size
section
variable {H : Type} {enc : TypeId × Value → H} {P : Program} {W : World} {base : Nat} {α β γ δ ε : Type}
def OpC (enc : TypeId × Value → H) (P : Program) (W : World) (base : Nat) (t : TypeId) (A : Dec α) (ok : α → Prop) : Prop :=
  ∀ fuel cs x, DataW.trod enc P W base (fun _ => true) true fuel t cs = some x → ∃ a v, ok a ∧ Rep (gW W) W (A.e a) v ∧ v.cells.toList = cs ∧ v.cells.all (·.oneCell') = true
theorem opI {t : TypeId} (ht : P.underlying t = some (.int .i64)) : OpC enc P W base t dI okI := fun fuel cs x h => by
  obtain ⟨n, rfl, _, hw⟩ := DataW.trod_int ht h
  exact ⟨n, .int .i64 n, wf_bounds hw, rfl, rfl, by simp [Value.cells, Value.oneCell']⟩
theorem opS {t : TypeId} (ht : P.underlying t = some .string) : OpC enc P W base t dS okS := fun fuel cs x h => by
  obtain ⟨s, rfl, _, hs⟩ := DataW.trod_string ht h
  exact ⟨s, .string s, hs, rfl, rfl, by simp [Value.cells, Value.oneCell']⟩
theorem list_of {n : Nat} {p : Nat → α → Prop} (h : ∀ i, i < n → ∃ x, p i x) : ∃ l : List α, l.length = n ∧ ∀ i a, l[i]? = some a → p i a := by
  induction n with
  | zero => exact ⟨[], rfl, fun i a h => by simp at h⟩
  | succ n ih =>
    obtain ⟨l, hl, hp⟩ := ih fun i hi => h i (by omega)
    obtain ⟨x, hx⟩ := h n (by omega)
    refine ⟨l ++ [x], by simp [hl], fun i a hi => ?_⟩
    rw [List.getElem?_append] at hi
    split at hi
    · exact hp i a hi
    · rename_i hlt
      have : i - l.length = 0 := by
        by_cases h0 : i - l.length = 0
        · exact h0
        · rw [List.getElem?_eq_none (by simp; omega)] at hi
          cases hi
      rw [this] at hi
      simp at hi
      subst hi
      have : i = n := by omega
      subst this
      exact hx
theorem opL {t e : TypeId} {A : Dec α} {ok : α → Prop} (sz : Nat) (ht : P.underlying t = some (.slice e)) (hs : P.cellsOf e = sz) (h0 : 0 < sz) (hA : OpC enc P W base e A ok) : OpC enc P W base t (dL sz A) (okL ok) := fun fuel cs x h => by
  rcases Go.Deep.open_slice ht h with ⟨rfl, _⟩ | ⟨x, len, cap, m, n, D, Pl, rfl, hb, hl, hm, hmm, _, hx⟩
  · exact ⟨[], .slice none 0 0, ⟨by simp, by simp⟩, ⟨none, 0, rfl, by simp, by simp, .inl rfl⟩, rfl, by simp [Value.cells, Value.oneCell']⟩
  have hm2 : m = cap := by simpa using hmm
  have hcap : cap ≤ 9223372036854775807 := hm
  obtain ⟨l, hlen, hp⟩ := list_of (n := len) (p := fun i a => ok a ∧ ∃ v, Rep (gW W) W (A.e a) v ∧ v.cells.size = sz ∧ v.cells.all (·.oneCell') = true ∧ ∀ j, j < sz → W.cell? ((x.add (i * sz)).add j) = v.cells[j]?) (fun i hi => by
    obtain ⟨cs', h1, h2⟩ := hx i (by omega)
    obtain ⟨a, v, h3, h4, h5, h6⟩ := hA _ _ _ h2
    obtain ⟨_, h7, h8⟩ := World.cells?_some h1
    rw [hs] at h7 h8
    refine ⟨a, h3, v, h4, ?_, h6, fun j hj => ?_⟩
    · rw [← h7, ← h5]; simp
    · rw [h8 j hj, ← h5]; simp)
  refine ⟨l, .slice (some x) len cap, ⟨by omega, fun a ha => ?_⟩, ?_, rfl, by simp [Value.cells, Value.oneCell']⟩
  · obtain ⟨i, hi, rfl⟩ := List.getElem_of_mem ha
    exact (hp i _ (by simp [hi])).1
  · refine ⟨some x, cap, by simp [hlen], by simp [hlen]; omega, hcap, ?_⟩
    by_cases hn : l = []
    · exact .inl (by simp [hn])
    right
    have hl0 : 0 < l.length := List.length_pos_iff.2 hn
    obtain ⟨_, v, h4, h5, h6, h7⟩ := hp 0 l[0] (by simp [hl0])
    have h8 := h7 0 h0
    have h9 : v.cells[0]? = some v.cells[0] := by simp
    rw [h9] at h8
    have hspot := World.cell?_spot h8
    have hlt := cell_lt h8
    obtain ⟨b, off, spot⟩ := x
    simp only [Nat.zero_mul, Addr.add, if_true] at hspot hlt
    subst hspot
    refine ⟨b, off, rfl, ⟨rfl, hlt⟩, RepEs.of fun i p hi => ?_⟩
    rw [List.getElem?_map, Option.map_eq_some_iff] at hi
    obtain ⟨a, ha, rfl⟩ := hi
    obtain ⟨_, v, h4, h5, h6, h7⟩ := hp i a ha
    refine ⟨v, h4, ⟨h6, fun j hj => ?_⟩, h5⟩
    have := h7 j (by omega)
    rwa [addr_add, addr_add] at this
theorem opF {t : TypeId} {A : Dec α} {ok : α → Prop} {n : Nat} {cs : List Value} {y : DataW H × List MemPlace} (hA : OpC enc P W base t A ok) (h1 : ∀ a, oneP (A.e a) = true)
    (h : DataW.trod enc P W base (fun _ => true) true n t cs = some y) : ∃ a v, ok a ∧ Rep (gW W) W (A.e a) v ∧ v.oneCell' = true ∧ cs = [v] := by
  obtain ⟨a, v, h3, h4, h5, h6⟩ := hA _ _ _ h
  have := oneP_rep h4 (h1 a)
  exact ⟨a, v, h3, h4, this, by rw [← h5, oneCell_cells this]⟩
theorem op1 {t : TypeId} {A : Dec α} {ok : α → Prop} {v : Value} {d : DataW H} {p : List MemPlace} (hA : OpC enc P W base t A ok) (h1 : ∀ a, oneP (A.e a) = true) (hv : v.cells = #[v])
    (h : DataW.Trod enc P W base (fun _ => true) true t v d p) : ∃ a, ok a ∧ Rep (gW W) W (A.e a) v := by
  obtain ⟨fuel, hf⟩ := h
  obtain ⟨a, u, h3, h4, h5, h6⟩ := opF hA h1 hf
  rw [hv] at h6
  have : v = u := by simpa using h6
  subst this
  exact ⟨a, h3, h4⟩
theorem walk_of {f : Nat} {φ : Fun} {ps : List PV} {args : Array Value} (h : Sound P f φ) (hT : TabF W fun _ => False) (ha : φ ps = some (bv true)) (hr : RepL (gW W) W ps args.toList) :
    Calls P f args W fun e w' => e = .returned (.bool true) ∧ Below W.heap.size W w' := by
  refine (h W (fun b => b < W.heap.size) ps args _ ha (fun b hb => hb) hT hr).mono ?_
  rintro e w' ⟨v, rfl, hb, hv⟩
  have := hv { I := fun _ _ => True, β := fun _ => 0, κ := fun _ => 0, nx := 0 } fun b _ _ => trivial
  have hv2 : v = .bool true := this
  subst hv2
  exact ⟨rfl, hb⟩
end
end Go.Proofs.Ytngcedklbinhjaa
