/- What the proof rests on, part 5: contracts of functions. No condition beyond what each states. -/
import Derived.Test.YtenldjifipnjpaaDoorZTlD4
namespace Go.Proofs.YtenldjifipnjpaaDoor
open Go.RowKit
set_option linter.all false
def φSameT : Fun := F2 dSs dSs fun a b => if a.length ≤ 1048576 ∧ b.length ≤ 1048576 then some (bv (decide (a = b))) else none
theorem φSameT_ap {a b : LS} (h : a.length ≤ 1048576) (h2 : b.length ≤ 1048576) : φSameT [.lst false 1 (a.map fun s => .val (.string s)), .lst false 1 (b.map fun s => .val (.string s))] = some (.val (.bool (decide (a = b)))) :=
  (F2_ap (A := dSs) (B := dSs) a b).trans (if_pos ⟨h, h2⟩)
set_option maxHeartbeats 4000000 in
theorem sameTexts_ok : Sound Tryd.prog 31 φSameT := by
  refine sound_pq mixed GE_ok Tryd.func31 rfl 26 rfl [.tmp 4] rfl (by kernel_rfl) fun ps r hr => ?_
  obtain ⟨xs, ys, rfl, hq⟩ := F2_some hr
  clear hr
  split at hq
  case isFalse => cases hq
  case isTrue hpre =>
  cases hq
  refine ⟨by simp, ?_⟩
  simp only [dIs, dUs, dSs, dI_e, dU_e, dB_e, dS_e, dFn_e, dL_e, dA2_e, dA3_e, dA4_e, dA5_e]
  obtain ⟨hl1, hl2⟩ := hpre
  repeat' (first | (with_reducible first | apply i_seq | apply i_block | apply i_skip | apply i_exit | apply i_ret | apply i_kS | apply i_kSx | apply i_kSr | apply i_kL | apply i_kLx | apply i_kLr | apply i_kB | apply i_kBr | apply i_kBs | apply i_nil) | ((with_reducible apply i_region); (focus (simp only [List.map_cons, List.map_nil] <;> exact rfl))) | ((with_reducible apply i_draw); (focus (simp only [List.map_cons, List.map_nil] <;> exact rfl)); (focus (decide +kernel))) | ((with_reducible apply i_kBo); (focus rfl)) | ((first | ((with_reducible apply i_V); (focus rfl); (focus rfl); (focus rfl)) | ((with_reducible apply i_E); (focus rfl); (focus (first | rfl | (simp only [push_cast, ↓reduceIte, effOk, touch, refsOf, List.flatMap_cons, List.flatMap_nil])))) | ((with_reducible apply i_S); (focus rfl); (focus (first | rfl | (simp only [push_cast, ↓reduceIte, effOk, touch, refsOf, List.flatMap_cons, List.flatMap_nil])))) | ((with_reducible apply i_Vq); (focus rfl); (focus rfl)) | ((with_reducible apply i_Vp); (focus rfl); (focus rfl); (focus rfl))); (focus (simp (disch := (first | omega | (simp only [push_cast]; done) | (simp only [push_cast]; omega) | ((try simp only [push_cast]); (with_reducible first | apply sel_lt | apply sel_ge); (focus decide); (focus (simp only [push_cast]; omega))))) only [push_cast, ↓reduceIte, Nat.reduceEqDiff, Nat.reduceBEq, Nat.reduceAdd, Nat.reduceSub, Int.reduceToNat, *] <;> with_reducible exact rfl))) | ((with_reducible first | apply i_Gb | apply i_cond); (focus (simp (disch := (first | omega | (simp only [push_cast]; done) | (simp only [push_cast]; omega) | ((try simp only [push_cast]); (with_reducible first | apply sel_lt | apply sel_ge); (focus decide); (focus (simp only [push_cast]; omega))))) only [push_cast, ↓reduceIte, Nat.reduceEqDiff, Nat.reduceBEq, Nat.reduceAdd, Nat.reduceSub, Int.reduceToNat, *] <;> with_reducible exact rfl)); all_goals (intro hX; first | (cases hX; done) | ((with_reducible first | have hX0 : true = true := hX | have hX0 : false = false := hX); clear hX0 hX) | ((try simp only [decide_eq_true_eq, decide_eq_false_iff_not, Bool.not_eq_true', Bool.not_eq_false'] at hX); (try have hXb := inB_iff.1 hX)))))
  · ((first | apply i_end | apply i_endN); simp (disch := (first | omega | (simp only [push_cast]; done) | (simp only [push_cast]; omega) | ((try simp only [push_cast]); (with_reducible first | apply sel_lt | apply sel_ge); (focus decide); (focus (simp only [push_cast]; omega))))) only [push_cast, ↓reduceIte, Nat.reduceEqDiff, Nat.reduceBEq, Nat.reduceAdd, Nat.reduceSub, Int.reduceToNat, *])
    have : ¬ xs = ys := fun h => by subst h; simp_all
    simp [this]
  refine i_loop (α := Nat) mixed (fun k => [(0, .lst false 1 (xs.map fun s => .val (.string s))), (1, .lst false 1 (ys.map fun s => .val (.string s))), (5, iv k)]) (fun k => []) (fun _ => 0)
    (fun k => k ≤ xs.length ∧ ∀ j, j < k → xs[j]?.getD .empty = ys[j]?.getD .empty) (fun k => xs.length - k) (by kernel_rfl) 0 ⟨Nat.zero_le _, fun j hj => by omega⟩ ?_ trivial rfl ?_
  · simp only [push_cast, ↓reduceIte, Nat.reduceEqDiff, Nat.reduceBEq, Nat.reduceAdd, Nat.reduceSub, Int.reduceToNat]
  · intro k ⟨hk, hok⟩
    repeat' (first | (with_reducible first | apply i_seq | apply i_block | apply i_skip | apply i_exit | apply i_ret | apply i_kS | apply i_kSx | apply i_kSr | apply i_kL | apply i_kLx | apply i_kLr | apply i_kB | apply i_kBr | apply i_kBs | apply i_nil) | ((with_reducible apply i_region); (focus (simp only [List.map_cons, List.map_nil] <;> exact rfl))) | ((with_reducible apply i_draw); (focus (simp only [List.map_cons, List.map_nil] <;> exact rfl)); (focus (decide +kernel))) | ((with_reducible apply i_kBo); (focus rfl)) | ((first | ((with_reducible apply i_V); (focus rfl); (focus rfl); (focus rfl)) | ((with_reducible apply i_E); (focus rfl); (focus (first | rfl | (simp only [push_cast, ↓reduceIte, effOk, touch, refsOf, List.flatMap_cons, List.flatMap_nil])))) | ((with_reducible apply i_S); (focus rfl); (focus (first | rfl | (simp only [push_cast, ↓reduceIte, effOk, touch, refsOf, List.flatMap_cons, List.flatMap_nil])))) | ((with_reducible apply i_Vq); (focus rfl); (focus rfl)) | ((with_reducible apply i_Vp); (focus rfl); (focus rfl); (focus rfl))); (focus (simp (disch := (first | omega | (simp only [push_cast]; done) | (simp only [push_cast]; omega) | ((try simp only [push_cast]); (with_reducible first | apply sel_lt | apply sel_ge); (focus decide); (focus (simp only [push_cast]; omega))))) only [push_cast, ↓reduceIte, Nat.reduceEqDiff, Nat.reduceBEq, Nat.reduceAdd, Nat.reduceSub, Int.reduceToNat, *] <;> with_reducible exact rfl))) | ((with_reducible first | apply i_Gb | apply i_cond); (focus (simp (disch := (first | omega | (simp only [push_cast]; done) | (simp only [push_cast]; omega) | ((try simp only [push_cast]); (with_reducible first | apply sel_lt | apply sel_ge); (focus decide); (focus (simp only [push_cast]; omega))))) only [push_cast, ↓reduceIte, Nat.reduceEqDiff, Nat.reduceBEq, Nat.reduceAdd, Nat.reduceSub, Int.reduceToNat, *] <;> with_reducible exact rfl)); all_goals (intro hX; first | (cases hX; done) | ((with_reducible first | have hX0 : true = true := hX | have hX0 : false = false := hX); clear hX0 hX) | ((try simp only [decide_eq_true_eq, decide_eq_false_iff_not, Bool.not_eq_true', Bool.not_eq_false'] at hX); (try have hXb := inB_iff.1 hX)))))
    all_goals try ((first | apply i_end | apply i_endN); simp (disch := (first | omega | (simp only [push_cast]; done) | (simp only [push_cast]; omega) | ((try simp only [push_cast]); (with_reducible first | apply sel_lt | apply sel_ge); (focus decide); (focus (simp only [push_cast]; omega))))) only [push_cast, ↓reduceIte, Nat.reduceEqDiff, Nat.reduceBEq, Nat.reduceAdd, Nat.reduceSub, Int.reduceToNat, *])
    · have : ¬ xs = ys := fun h => by subst h; simp_all
      simp [this]
    · refine ⟨k + 1, ⟨by omega, fun j hj => ?_⟩, by dsimp only; omega, by simp only [push_cast, ↓reduceIte, Nat.reduceEqDiff, Nat.reduceBEq, Nat.reduceAdd, Nat.reduceSub, Int.reduceToNat], trivial, rfl⟩
      by_cases h1 : j < k
      · exact hok j h1
      · have : j = k := by omega
        subst this
        assumption
    · have : xs = ys := eq_of_getDK (d := .empty) (by omega) fun j hj => hok j (by omega)
      simp [this]
abbrev ETl (p : LS × Int) : PV := .tup [.lst true 1 (p.1.map fun s => PV.val (.string s)), .val (.int .i64 p.2)]
def okTl (p : LS × Int) : Prop := okT 13 p.1 ∧ -100 ≤ p.2 ∧ p.2 ≤ 100000
noncomputable def GDtl : Ctx := ⟨fun f => none, fun f => if f = 54 then some ΦOpen else if f = 75 then some Φwords else if f = 55 then some Φpick else none⟩
theorem GDtl_ok : SoundΓ Tryd.prog GDtl := ⟨(fun f φ h => by
  unfold GDtl at h
  dsimp only at h
  cases h), (fun f φ h => by
  unfold GDtl at h
  dsimp only at h
  split at h
  · rename_i hf; cases h; subst hf; exact ⟨⟨_, Tryd.func54, rfl, rfl⟩, open_io⟩
  split at h
  · rename_i hf; cases h; subst hf; exact ⟨⟨_, Tryd.func75, rfl, rfl⟩, words_io⟩
  split at h
  · rename_i hf; cases h; subst hf; exact ⟨⟨_, Tryd.func55, rfl, rfl⟩, pick_io⟩
  cases h)⟩
theorem GDtl_54 : GDtl.io 54 = some ΦOpen := by simp [GDtl]
theorem GDtl_75 : GDtl.io 75 = some Φwords := by simp [GDtl]
theorem GDtl_55 : GDtl.io 55 = some Φpick := by simp [GDtl]
set_option maxHeartbeats 8000000 in
theorem drawTl_ex : ∃ φ : Fun, Sound Tryd.prog 40 φ ∧ Drw0 φ ETl okTl := by
  refine drw0_of mixed GDtl_ok Tryd.func40 rfl 25 rfl [.tmp 2, .tmp 3] rfl (by kernel_rfl) (by simp) _ _ fun code hbyte hlen => ?_
  have hok := okRd_take hbyte
  have apo := @ΦOpen_ap
  have gdtl_c54 := GDtl_54; have gdtl_c75 := GDtl_75; have gdtl_c55 := GDtl_55
  repeat' (first | (first | (with_reducible first | apply i_seq | apply i_block | apply i_skip | apply i_exit | apply i_ret | apply i_kS | apply i_kSx | apply i_kSr | apply i_kL | apply i_kLx | apply i_kLr | apply i_kB | apply i_kBr | apply i_kBs | apply i_nil) | ((with_reducible apply i_region); (focus (simp only [List.map_cons, List.map_nil] <;> exact rfl))) | ((with_reducible apply i_draw); (focus (simp only [List.map_cons, List.map_nil] <;> exact rfl)); (focus (decide +kernel))) | ((with_reducible apply i_kBo); (focus rfl)) | ((first | ((with_reducible apply i_V); (focus rfl); (focus rfl); (focus rfl)) | ((with_reducible apply i_E); (focus rfl); (focus (first | rfl | (simp only [push_cast, ↓reduceIte, effOk, touch, refsOf, List.flatMap_cons, List.flatMap_nil])))) | ((with_reducible apply i_S); (focus rfl); (focus (first | rfl | (simp only [push_cast, ↓reduceIte, effOk, touch, refsOf, List.flatMap_cons, List.flatMap_nil])))) | ((with_reducible apply i_Vq); (focus rfl); (focus rfl)) | ((with_reducible apply i_Vp); (focus rfl); (focus rfl); (focus rfl))); (focus (simp (disch := (first | omega | (simp only [push_cast]; done) | (simp only [push_cast]; omega) | ((try simp only [push_cast]); (with_reducible first | apply sel_lt | apply sel_ge); (focus decide); (focus (simp only [push_cast]; omega))))) only [push_cast, ↓reduceIte, Nat.reduceEqDiff, Nat.reduceBEq, Nat.reduceAdd, Nat.reduceSub, Int.reduceToNat, *] <;> with_reducible exact rfl))) | ((with_reducible first | apply i_Gb | apply i_cond); (focus (simp (disch := (first | omega | (simp only [push_cast]; done) | (simp only [push_cast]; omega) | ((try simp only [push_cast]); (with_reducible first | apply sel_lt | apply sel_ge); (focus decide); (focus (simp only [push_cast]; omega))))) only [push_cast, ↓reduceIte, Nat.reduceEqDiff, Nat.reduceBEq, Nat.reduceAdd, Nat.reduceSub, Int.reduceToNat, *] <;> with_reducible exact rfl)); all_goals (intro hX; first | (cases hX; done) | ((with_reducible first | have hX0 : true = true := hX | have hX0 : false = false := hX); clear hX0 hX) | ((try simp only [decide_eq_true_eq, decide_eq_false_iff_not, Bool.not_eq_true', Bool.not_eq_false'] at hX); (try have hXb := inB_iff.1 hX))))) | ((with_reducible apply i_drw2 words_drw (fun _ _ => by simp only [push_cast, ↓reduceIte, Nat.reduceEqDiff, Nat.reduceBEq, Nat.reduceAdd, Nat.reduceSub, Int.reduceToNat])); (focus rfl); (focus (simp (disch := (first | omega | (simp only [push_cast]; done) | (simp only [push_cast]; omega) | ((try simp only [push_cast]); (with_reducible first | apply sel_lt | apply sel_ge); (focus decide); (focus (simp only [push_cast]; omega))))) only [push_cast, ↓reduceIte, Nat.reduceEqDiff, Nat.reduceBEq, Nat.reduceAdd, Nat.reduceSub, Int.reduceToNat, *] <;> with_reducible exact rfl)); (focus (simp (disch := (first | omega | (simp only [push_cast]; done) | (simp only [push_cast]; omega) | ((try simp only [push_cast]); (with_reducible first | apply sel_lt | apply sel_ge); (focus decide); (focus (simp only [push_cast]; omega))))) only [push_cast, ↓reduceIte, Nat.reduceEqDiff, Nat.reduceBEq, Nat.reduceAdd, Nat.reduceSub, Int.reduceToNat, *] <;> with_reducible exact rfl)); (focus (simp (disch := (first | omega | (simp only [push_cast]; done) | (simp only [push_cast]; omega) | ((try simp only [push_cast]); (with_reducible first | apply sel_lt | apply sel_ge); (focus decide); (focus (simp only [push_cast]; omega))))) only [push_cast, ↓reduceIte, Nat.reduceEqDiff, Nat.reduceBEq, Nat.reduceAdd, Nat.reduceSub, Int.reduceToNat, *] <;> with_reducible exact rfl)); (focus assumption); (focus omega); (focus (first | trivial | omega)); (focus (first | rfl | (simp only [push_cast, ↓reduceIte, effOk, touch, refsOf, List.flatMap_cons, List.flatMap_nil]))); intro v pp hv hok hpp1 hpp2) | ((with_reducible apply i_drw2 pick_drw (fun _ _ => rfl)); (focus rfl); (focus (simp (disch := (first | omega | (simp only [push_cast]; done) | (simp only [push_cast]; omega) | ((try simp only [push_cast]); (with_reducible first | apply sel_lt | apply sel_ge); (focus decide); (focus (simp only [push_cast]; omega))))) only [push_cast, ↓reduceIte, Nat.reduceEqDiff, Nat.reduceBEq, Nat.reduceAdd, Nat.reduceSub, Int.reduceToNat, *] <;> with_reducible exact rfl)); (focus (simp (disch := (first | omega | (simp only [push_cast]; done) | (simp only [push_cast]; omega) | ((try simp only [push_cast]); (with_reducible first | apply sel_lt | apply sel_ge); (focus decide); (focus (simp only [push_cast]; omega))))) only [push_cast, ↓reduceIte, Nat.reduceEqDiff, Nat.reduceBEq, Nat.reduceAdd, Nat.reduceSub, Int.reduceToNat, *] <;> with_reducible exact rfl)); (focus (simp (disch := (first | omega | (simp only [push_cast]; done) | (simp only [push_cast]; omega) | ((try simp only [push_cast]); (with_reducible first | apply sel_lt | apply sel_ge); (focus decide); (focus (simp only [push_cast]; omega))))) only [push_cast, ↓reduceIte, Nat.reduceEqDiff, Nat.reduceBEq, Nat.reduceAdd, Nat.reduceSub, Int.reduceToNat, *] <;> with_reducible exact rfl)); (focus assumption); (focus omega); (focus (first | trivial | omega)); (focus (first | rfl | (simp only [push_cast, ↓reduceIte, effOk, touch, refsOf, List.flatMap_cons, List.flatMap_nil]))); intro v pp hv hok hpp1 hpp2))
  all_goals ((with_reducible apply i_fin0 (a := (_, _)) (by first | exact .inl rfl | exact .inr rfl)); (focus (simp (disch := (first | omega | (simp only [push_cast]; done) | (simp only [push_cast]; omega) | ((try simp only [push_cast]); (with_reducible first | apply sel_lt | apply sel_ge); (focus decide); (focus (simp only [push_cast]; omega))))) only [push_cast, ↓reduceIte, Nat.reduceEqDiff, Nat.reduceBEq, Nat.reduceAdd, Nat.reduceSub, Int.reduceToNat, rep_iv, rep_sv, rep_w, rep_i3, rep_i4, *] <;> with_reducible exact rfl)))
  all_goals refine ⟨by assumption, sel_rng ?_ (by omega) (by omega)⟩
  all_goals intro x hx
  all_goals simp only [List.mem_cons, List.not_mem_nil, or_false] at hx
  all_goals omega
noncomputable def φdrawTl : Fun := Classical.choose drawTl_ex
theorem drawTl_ok : Sound Tryd.prog 40 φdrawTl := (Classical.choose_spec drawTl_ex).1
theorem drawTl_drw : Drw0 φdrawTl ETl okTl := (Classical.choose_spec drawTl_ex).2
noncomputable def φTLI : Fun := pureN ΨTL
theorem φTLI_some {l L : LS} {wd : Int} (h : okSs l) (hR : tlR l wd = some L) (h0 : 0 < L.length) : φTLI [.lst false 1 (l.map fun s => .val (.string s)), .val (.int .i64 wd)] = some (.tup [.lst true 1 (L.map fun s => .val (.string s)), .val (.bool true)]) := by
  have hp : 0 < (L.map fun s => PV.val (.string s)).length := by simpa using h0
  refine pureN_of (r := .tup [.row 0 1 0 L.length, .val (.bool true)]) (cs0 := [(9, 1, L.map fun s => .val (.string s))]) ((G2_ap (A := dSs) (B := dI) l wd).trans ((if_pos h).trans (by rw [hR]; dsimp only; rw [nP_pos hp, nC_pos hp, List.length_map]))) ?_
  rw [ls_one]
  (simp (disch := (first | omega | (simp only [push_cast]; done) | (simp only [push_cast]; omega) | ((try simp only [push_cast]); (with_reducible first | apply sel_lt | apply sel_ge); (focus decide); (focus (simp only [push_cast]; omega))))) only [push_cast, ↓reduceIte, Nat.reduceEqDiff, Nat.reduceBEq, Nat.reduceAdd, Nat.reduceSub, Int.reduceToNat, *] <;> with_reducible exact rfl)
theorem φTLI_nil {l : LS} {wd : Int} {b : Bool} (h : okSs l) (hR : tlR l wd = if b = true then some [] else none) : φTLI [.lst false 1 (l.map fun s => .val (.string s)), .val (.int .i64 wd)] = some (.tup [.val (.slice none 0 0), .val (.bool b)]) :=
  pureN_of (r := .tup [.val (.slice none 0 0), .val (.bool b)]) (cs0 := []) ((G2_ap (A := dSs) (B := dI) l wd).trans ((if_pos h).trans (by rw [hR]; cases b <;> rfl))) rfl
theorem tlR_cases (l : LS) (wd : Int) : (∃ b : Bool, tlR l wd = if b = true then some [] else none) ∨ ∃ L, tlR l wd = some L ∧ 0 < L.length := by
  cases hR : tlR l wd with
  | none => exact .inl ⟨false, rfl⟩
  | some L =>
    cases L with
    | nil => exact .inl ⟨true, rfl⟩
    | cons z L => exact .inr ⟨_, rfl, by simp⟩
end Go.Proofs.YtenldjifipnjpaaDoor
namespace Go.Proofs.YtenldjifipnjpaaDoor
open Go.RowKit
set_option linter.all false
noncomputable def φWolI : Fun := pureN ΨWol
theorem implWol_ok : Sound Tryd.prog 14 φWolI := implWolN.pure
noncomputable def φWolIn : Fun := nilF 1 φWolI
theorem φWolI_ap {l : LS} (h : okWl l) (h0 : 0 < (wolR l).length) : φWolI [.lst false 1 (l.map fun s => .val (.string s))] = some (.lst true 1 ((wolR l).map fun s => .val (.string s))) := by
  have hp : 0 < ((wolR l).map fun s => PV.val (.string s)).length := by simpa using h0
  refine pureN_of (r := .row 0 1 0 (wolR l).length) (cs0 := [(9, 1, (wolR l).map fun s => .val (.string s))]) ((G1_ap (A := dSs) l).trans ((if_pos h).trans (by rw [nP_pos hp, nC_pos hp, List.length_map]))) ?_
  rw [ls_one]
  (simp (disch := (first | omega | (simp only [push_cast]; done) | (simp only [push_cast]; omega) | ((try simp only [push_cast]); (with_reducible first | apply sel_lt | apply sel_ge); (focus decide); (focus (simp only [push_cast]; omega))))) only [push_cast, ↓reduceIte, Nat.reduceEqDiff, Nat.reduceBEq, Nat.reduceAdd, Nat.reduceSub, Int.reduceToNat, *] <;> with_reducible exact rfl)
theorem φWolI_nil {l : LS} (h : okWl l) (h0 : (wolR l).length = 0) : φWolI [.lst false 1 (l.map fun s => .val (.string s))] = some (.val (.slice none 0 0)) := by
  have hR : wolR l = [] := List.eq_nil_of_length_eq_zero h0
  exact pureN_of (r := .val (.slice none 0 0)) (cs0 := []) ((G1_ap (A := dSs) l).trans ((if_pos h).trans (by rw [hR]; rfl))) rfl
theorem φWolIn_ap {l : LS} (h : okWl l) (h0 : 0 < (wolR l).length) : φWolIn [.lst false 1 (l.map fun s => .val (.string s))] = some (.lst true 1 ((wolR l).map fun s => .val (.string s))) := φWolI_ap h h0
theorem φWolIn_zero : φWolIn [.val (.slice none 0 0)] = some (.val (.slice none 0 0)) := φWolI_nil (l := []) ⟨by simp, by simp [sumS]⟩ (by simp [wolR, linesB, wordsM])
theorem okWl_short {l : LS} {c : Nat} (h : l.length ≤ 1000) (h2 : ∀ s ∈ l, s.size ≤ 1000) : okWl l := ⟨by omega, by
  have := sumS_le (l := l) (c := 1000) fun i => by
    by_cases hi : i < l.length
    · rw [List.getElem?_eq_getElem hi, Option.getD_some]
      exact h2 _ (List.getElem_mem hi)
    · rw [List.getElem?_eq_none (by omega)]
      decide
  have : l.length * 1000 ≤ 1000 * 1000 := Nat.mul_le_mul_right _ h
  omega⟩
noncomputable def φSameWn : Fun := nilF 1 φSameT
theorem φSameWn_ap {a b : LS} (h : a.length ≤ 1048576) (h2 : b.length ≤ 1048576) : φSameWn [.lst false 1 (a.map fun s => .val (.string s)), .lst false 1 (b.map fun s => .val (.string s))] = some (.val (.bool (decide (a = b)))) := φSameT_ap h h2
theorem φSameWn_nil : φSameWn [.val (.slice none 0 0), .lst false 1 []] = some (.val (.bool true)) := φSameT_ap (a := []) (b := []) (by simp) (by simp)
noncomputable def φLawTlD : Fun := F1 dUs fun code => if okL okB8 code then some (bv true) else none
noncomputable def GLtld : Ctx := ⟨fun f => if f = 40 then some φdrawTl else if f = 41 then some φTLI else if f = 42 then some φTL else if f = 31 then some φSameWn else if f = 14 then some φWolIn else if f = 28 then some φTrue else none, fun f => none⟩
theorem GLtld_ok : SoundΓ Tryd.prog GLtld := ⟨(fun f φ h => by
  unfold GLtld at h
  dsimp only at h
  split at h
  · rename_i hf; cases h; subst hf; exact ⟨⟨_, Tryd.func40, rfl, rfl⟩, drawTl_ok⟩
  split at h
  · rename_i hf; cases h; subst hf; exact ⟨⟨_, Tryd.func41, rfl, rfl⟩, implTLN.pure⟩
  split at h
  · rename_i hf; cases h; subst hf; exact ⟨⟨_, Tryd.func42, rfl, rfl⟩, specTL_ok⟩
  split at h
  · rename_i hf; cases h; subst hf; exact ⟨⟨_, Tryd.func31, rfl, rfl⟩, (sameTexts_ok.nil 1)⟩
  split at h
  · rename_i hf; cases h; subst hf; exact ⟨⟨_, Tryd.func14, rfl, rfl⟩, (implWol_ok.nil 1)⟩
  split at h
  · rename_i hf; cases h; subst hf; exact ⟨⟨_, Tryd.func28, rfl, rfl⟩, alive_ok⟩
  cases h), (fun f φ h => by
  unfold GLtld at h
  dsimp only at h
  cases h)⟩
theorem GLtld_40 (ob : Objs) (ps : List PV) : evCall GLtld ob 40 ps = (ps.mapM (reify false 0 ob fuel)).bind φdrawTl := by
  have h : GLtld.fn 40 = some φdrawTl := by simp [GLtld]
  unfold evCall
  rw [h]
  cases ps.mapM (reify false 0 ob fuel) <;> rfl
theorem GLtld_41 (ob : Objs) (ps : List PV) : evCall GLtld ob 41 ps = (ps.mapM (reify false 0 ob fuel)).bind φTLI := by
  have h : GLtld.fn 41 = some φTLI := by simp [GLtld]
  unfold evCall
  rw [h]
  cases ps.mapM (reify false 0 ob fuel) <;> rfl
theorem GLtld_42 (ob : Objs) (ps : List PV) : evCall GLtld ob 42 ps = (ps.mapM (reify false 0 ob fuel)).bind φTL := by
  have h : GLtld.fn 42 = some φTL := by simp [GLtld]
  unfold evCall
  rw [h]
  cases ps.mapM (reify false 0 ob fuel) <;> rfl
theorem GLtld_31 (ob : Objs) (ps : List PV) : evCall GLtld ob 31 ps = (ps.mapM (reify false 0 ob fuel)).bind φSameWn := by
  have h : GLtld.fn 31 = some φSameWn := by simp [GLtld]
  unfold evCall
  rw [h]
  cases ps.mapM (reify false 0 ob fuel) <;> rfl
theorem GLtld_14 (ob : Objs) (ps : List PV) : evCall GLtld ob 14 ps = (ps.mapM (reify false 0 ob fuel)).bind φWolIn := by
  have h : GLtld.fn 14 = some φWolIn := by simp [GLtld]
  unfold evCall
  rw [h]
  cases ps.mapM (reify false 0 ob fuel) <;> rfl
theorem GLtld_28 (ob : Objs) (ps : List PV) : evCall GLtld ob 28 ps = (ps.mapM (reify false 0 ob fuel)).bind φTrue := by
  have h : GLtld.fn 28 = some φTrue := by simp [GLtld]
  unfold evCall
  rw [h]
  cases ps.mapM (reify false 0 ob fuel) <;> rfl
set_option maxHeartbeats 16000000 in
theorem lawTlD_ok : Sound Tryd.prog 9 φLawTlD := by
  refine sound_pq mixed GLtld_ok Tryd.func9 rfl 71 rfl [.tmp 2] rfl (by kernel_rfl) fun ps r hr => ?_
  obtain ⟨code, rfl, hq⟩ := F1_some hr
  clear hr
  split at hq
  case isFalse => cases hq
  case isTrue hpre =>
  cases hq
  refine ⟨by simp, ?_⟩
  simp only [dIs, dUs, dSs, dI_e, dU_e, dB_e, dS_e, dFn_e, dL_e, dA2_e, dA3_e, dA4_e, dA5_e]
  have hbyte := bytes_ok hpre
  by_cases hlen : code.length ≤ 1048576
  · obtain ⟨⟨l, wd⟩, e, hl, hwd⟩ := drawTl_drw code hbyte hlen
    unfold ETl at e
    dsimp only at e hl hwd
    have hok := okT_ss hl (by omega)
    have hl13 := hl.1
    have apt := φTrue_ap
    have ap1 := φTL_ap (wd := wd) hok
    have ap3 := φSameWn_nil
    clear hbyte hpre
    rcases tlR_cases l wd with ⟨b, hR⟩ | ⟨L, hR, hL0⟩
    · have ap2 := φTLI_nil hok hR
      rw [hR] at ap1
      cases b with
      | false =>
        simp only [if_true, Bool.false_eq_true, if_false, Option.getD_some, Option.getD_none, Option.isSome_some, Option.isSome_none] at ap1
        clear hok hl hR
        have gltld_c40 := GLtld_40; have gltld_c41 := GLtld_41; have gltld_c42 := GLtld_42; have gltld_c31 := GLtld_31; have gltld_c14 := GLtld_14; have gltld_c28 := GLtld_28
        (repeat' (first | (with_reducible first | apply i_seq | apply i_block | apply i_skip | apply i_exit | apply i_ret | apply i_kS | apply i_kSx | apply i_kSr | apply i_kL | apply i_kLx | apply i_kLr | apply i_kB | apply i_kBr | apply i_kBs | apply i_nil) | ((with_reducible apply i_region); (focus (simp only [List.map_cons, List.map_nil] <;> exact rfl))) | ((with_reducible apply i_draw); (focus (simp only [List.map_cons, List.map_nil] <;> exact rfl)); (focus (decide +kernel))) | ((with_reducible apply i_kBo); (focus rfl)) | ((first | ((with_reducible apply i_V); (focus rfl); (focus rfl); (focus rfl)) | ((with_reducible apply i_E); (focus rfl); (focus (first | rfl | (simp only [push_cast, ↓reduceIte, effOk, touch, refsOf, List.flatMap_cons, List.flatMap_nil])))) | ((with_reducible apply i_S); (focus rfl); (focus (first | rfl | (simp only [push_cast, ↓reduceIte, effOk, touch, refsOf, List.flatMap_cons, List.flatMap_nil])))) | ((with_reducible apply i_Vq); (focus rfl); (focus rfl)) | ((with_reducible apply i_Vp); (focus rfl); (focus rfl); (focus rfl))); (focus (simp (disch := (first | omega | (simp only [push_cast]; done) | (simp only [push_cast]; omega) | ((try simp only [push_cast]); (with_reducible first | apply sel_lt | apply sel_ge); (focus decide); (focus (simp only [push_cast]; omega))))) only [push_cast, ↓reduceIte, Nat.reduceEqDiff, Nat.reduceBEq, Nat.reduceAdd, Nat.reduceSub, Int.reduceToNat, *] <;> with_reducible exact rfl))) | ((with_reducible first | apply i_Gb | apply i_cond); (focus (simp (disch := (first | omega | (simp only [push_cast]; done) | (simp only [push_cast]; omega) | ((try simp only [push_cast]); (with_reducible first | apply sel_lt | apply sel_ge); (focus decide); (focus (simp only [push_cast]; omega))))) only [push_cast, ↓reduceIte, Nat.reduceEqDiff, Nat.reduceBEq, Nat.reduceAdd, Nat.reduceSub, Int.reduceToNat, *] <;> with_reducible exact rfl)); all_goals (intro hX; first | (cases hX; done) | ((with_reducible first | have hX0 : true = true := hX | have hX0 : false = false := hX); clear hX0 hX) | ((try simp only [decide_eq_true_eq, decide_eq_false_iff_not, Bool.not_eq_true', Bool.not_eq_false'] at hX); (try have hXb := inB_iff.1 hX)))))); all_goals try (exfalso; omega)
        all_goals (first | (exfalso; omega) | ((first | apply i_end | apply i_endN); simp (disch := (first | omega | (simp only [push_cast]; done) | (simp only [push_cast]; omega) | ((try simp only [push_cast]); (with_reducible first | apply sel_lt | apply sel_ge); (focus decide); (focus (simp only [push_cast]; omega))))) only [push_cast, ↓reduceIte, Nat.reduceEqDiff, Nat.reduceBEq, Nat.reduceAdd, Nat.reduceSub, Int.reduceToNat, *]) | skip)
      | true =>
        obtain ⟨_, hw⟩ := tlR_words (L := []) hR
        obtain rfl : l = [] := by rw [← hw]; rfl
        simp only [if_true, Bool.false_eq_true, if_false, Option.getD_some, Option.getD_none, Option.isSome_some, Option.isSome_none] at ap1
        have ap4 := φWolIn_zero
        simp only [List.map_nil] at e ap1 ap2
        clear hok hl hR hw
        have gltld_c40 := GLtld_40; have gltld_c41 := GLtld_41; have gltld_c42 := GLtld_42; have gltld_c31 := GLtld_31; have gltld_c14 := GLtld_14; have gltld_c28 := GLtld_28
        (repeat' (first | (with_reducible first | apply i_seq | apply i_block | apply i_skip | apply i_exit | apply i_ret | apply i_kS | apply i_kSx | apply i_kSr | apply i_kL | apply i_kLx | apply i_kLr | apply i_kB | apply i_kBr | apply i_kBs | apply i_nil) | ((with_reducible apply i_region); (focus (simp only [List.map_cons, List.map_nil] <;> exact rfl))) | ((with_reducible apply i_draw); (focus (simp only [List.map_cons, List.map_nil] <;> exact rfl)); (focus (decide +kernel))) | ((with_reducible apply i_kBo); (focus rfl)) | ((first | ((with_reducible apply i_V); (focus rfl); (focus rfl); (focus rfl)) | ((with_reducible apply i_E); (focus rfl); (focus (first | rfl | (simp only [push_cast, ↓reduceIte, effOk, touch, refsOf, List.flatMap_cons, List.flatMap_nil])))) | ((with_reducible apply i_S); (focus rfl); (focus (first | rfl | (simp only [push_cast, ↓reduceIte, effOk, touch, refsOf, List.flatMap_cons, List.flatMap_nil])))) | ((with_reducible apply i_Vq); (focus rfl); (focus rfl)) | ((with_reducible apply i_Vp); (focus rfl); (focus rfl); (focus rfl))); (focus (simp (disch := (first | omega | (simp only [push_cast]; done) | (simp only [push_cast]; omega) | ((try simp only [push_cast]); (with_reducible first | apply sel_lt | apply sel_ge); (focus decide); (focus (simp only [push_cast]; omega))))) only [push_cast, ↓reduceIte, Nat.reduceEqDiff, Nat.reduceBEq, Nat.reduceAdd, Nat.reduceSub, Int.reduceToNat, *] <;> with_reducible exact rfl))) | ((with_reducible first | apply i_Gb | apply i_cond); (focus (simp (disch := (first | omega | (simp only [push_cast]; done) | (simp only [push_cast]; omega) | ((try simp only [push_cast]); (with_reducible first | apply sel_lt | apply sel_ge); (focus decide); (focus (simp only [push_cast]; omega))))) only [push_cast, ↓reduceIte, Nat.reduceEqDiff, Nat.reduceBEq, Nat.reduceAdd, Nat.reduceSub, Int.reduceToNat, *] <;> with_reducible exact rfl)); all_goals (intro hX; first | (cases hX; done) | ((with_reducible first | have hX0 : true = true := hX | have hX0 : false = false := hX); clear hX0 hX) | ((try simp only [decide_eq_true_eq, decide_eq_false_iff_not, Bool.not_eq_true', Bool.not_eq_false'] at hX); (try have hXb := inB_iff.1 hX)))))); all_goals try (exfalso; omega)
        refine i_loop (α := Unit) mixed (fun k => [(5, .val (.slice none 0 0)), (3, .lst true 1 []), (9, iv 0)])
          (fun _ => []) (fun _ => 0) (fun k => True) (fun k => 0) (by kernel_rfl) () trivial ?_ trivial rfl ?_
        · simp (disch := (first | omega | (simp only [push_cast]; done) | (simp only [push_cast]; omega) | ((try simp only [push_cast]); (with_reducible first | apply sel_lt | apply sel_ge); (focus decide); (focus (simp only [push_cast]; omega))))) only [push_cast, ↓reduceIte, Nat.reduceEqDiff, Nat.reduceBEq, Nat.reduceAdd, Nat.reduceSub, Int.reduceToNat, List.length_append, *]
        rintro - -
        (repeat' (first | (with_reducible first | apply i_seq | apply i_block | apply i_skip | apply i_exit | apply i_ret | apply i_kS | apply i_kSx | apply i_kSr | apply i_kL | apply i_kLx | apply i_kLr | apply i_kB | apply i_kBr | apply i_kBs | apply i_nil) | ((with_reducible apply i_region); (focus (simp only [List.map_cons, List.map_nil] <;> exact rfl))) | ((with_reducible apply i_draw); (focus (simp only [List.map_cons, List.map_nil] <;> exact rfl)); (focus (decide +kernel))) | ((with_reducible apply i_kBo); (focus rfl)) | ((first | ((with_reducible apply i_V); (focus rfl); (focus rfl); (focus rfl)) | ((with_reducible apply i_E); (focus rfl); (focus (first | rfl | (simp only [push_cast, ↓reduceIte, effOk, touch, refsOf, List.flatMap_cons, List.flatMap_nil])))) | ((with_reducible apply i_S); (focus rfl); (focus (first | rfl | (simp only [push_cast, ↓reduceIte, effOk, touch, refsOf, List.flatMap_cons, List.flatMap_nil])))) | ((with_reducible apply i_Vq); (focus rfl); (focus rfl)) | ((with_reducible apply i_Vp); (focus rfl); (focus rfl); (focus rfl))); (focus (simp (disch := (first | omega | (simp only [push_cast]; done) | (simp only [push_cast]; omega) | ((try simp only [push_cast]); (with_reducible first | apply sel_lt | apply sel_ge); (focus decide); (focus (simp only [push_cast]; omega))))) only [push_cast, ↓reduceIte, Nat.reduceEqDiff, Nat.reduceBEq, Nat.reduceAdd, Nat.reduceSub, Int.reduceToNat, *] <;> with_reducible exact rfl))) | ((with_reducible first | apply i_Gb | apply i_cond); (focus (simp (disch := (first | omega | (simp only [push_cast]; done) | (simp only [push_cast]; omega) | ((try simp only [push_cast]); (with_reducible first | apply sel_lt | apply sel_ge); (focus decide); (focus (simp only [push_cast]; omega))))) only [push_cast, ↓reduceIte, Nat.reduceEqDiff, Nat.reduceBEq, Nat.reduceAdd, Nat.reduceSub, Int.reduceToNat, *] <;> with_reducible exact rfl)); all_goals (intro hX; first | (cases hX; done) | ((with_reducible first | have hX0 : true = true := hX | have hX0 : false = false := hX); clear hX0 hX) | ((try simp only [decide_eq_true_eq, decide_eq_false_iff_not, Bool.not_eq_true', Bool.not_eq_false'] at hX); (try have hXb := inB_iff.1 hX)))))); all_goals try (exfalso; omega)
        all_goals (first | (exfalso; omega) | ((first | apply i_end | apply i_endN); simp (disch := (first | omega | (simp only [push_cast]; done) | (simp only [push_cast]; omega) | ((try simp only [push_cast]); (with_reducible first | apply sel_lt | apply sel_ge); (focus decide); (focus (simp only [push_cast]; omega))))) only [push_cast, ↓reduceIte, Nat.reduceEqDiff, Nat.reduceBEq, Nat.reduceAdd, Nat.reduceSub, Int.reduceToNat, *]) | skip)
    · have ap2 := φTLI_some hok hR hL0
      have hLl := tlR_len hR
      have ap4 := φSameWn_ap (a := L) (b := L) (by omega) (by omega)
      obtain ⟨hLs, hw⟩ := tlR_words hR
      have hA : allWords l = true ∧ inB wd 1 60 = true := by
        unfold tlR at hR
        split at hR
        · assumption
        · cases hR
      have hwd60 := inB_iff.1 hA.2
      have hl0 : 0 < l.length := by omega
      have hLg : ∀ k : Nat, k < L.length → 0 < (L[k]?.getD .empty).size ∧ ((L[k]?.getD .empty).size : Int) ≤ wd := fun k hk => by
        rw [List.getElem?_eq_getElem hk, Option.getD_some]
        exact hLs _ (List.getElem_mem hk)
      have ap5 := φWolIn_ap (l := L) (okWl_short (c := 0) (by omega) fun s hs => by have := hLs s hs; omega) (by rw [hw]; exact hl0)
      rw [hw] at ap5
      have ap6 := φSameWn_ap (a := l) (b := l) (by omega) (by omega)
      rw [hR, Option.getD_some, Option.isSome_some] at ap1
      clear hok hl hR hw hLs hA
      have gltld_c40 := GLtld_40; have gltld_c41 := GLtld_41; have gltld_c42 := GLtld_42; have gltld_c31 := GLtld_31; have gltld_c14 := GLtld_14; have gltld_c28 := GLtld_28
      (repeat' (first | (with_reducible first | apply i_seq | apply i_block | apply i_skip | apply i_exit | apply i_ret | apply i_kS | apply i_kSx | apply i_kSr | apply i_kL | apply i_kLx | apply i_kLr | apply i_kB | apply i_kBr | apply i_kBs | apply i_nil) | ((with_reducible apply i_region); (focus (simp only [List.map_cons, List.map_nil] <;> exact rfl))) | ((with_reducible apply i_draw); (focus (simp only [List.map_cons, List.map_nil] <;> exact rfl)); (focus (decide +kernel))) | ((with_reducible apply i_kBo); (focus rfl)) | ((first | ((with_reducible apply i_V); (focus rfl); (focus rfl); (focus rfl)) | ((with_reducible apply i_E); (focus rfl); (focus (first | rfl | (simp only [push_cast, ↓reduceIte, effOk, touch, refsOf, List.flatMap_cons, List.flatMap_nil])))) | ((with_reducible apply i_S); (focus rfl); (focus (first | rfl | (simp only [push_cast, ↓reduceIte, effOk, touch, refsOf, List.flatMap_cons, List.flatMap_nil])))) | ((with_reducible apply i_Vq); (focus rfl); (focus rfl)) | ((with_reducible apply i_Vp); (focus rfl); (focus rfl); (focus rfl))); (focus (simp (disch := (first | omega | (simp only [push_cast]; done) | (simp only [push_cast]; omega) | ((try simp only [push_cast]); (with_reducible first | apply sel_lt | apply sel_ge); (focus decide); (focus (simp only [push_cast]; omega))))) only [push_cast, ↓reduceIte, Nat.reduceEqDiff, Nat.reduceBEq, Nat.reduceAdd, Nat.reduceSub, Int.reduceToNat, *] <;> with_reducible exact rfl))) | ((with_reducible first | apply i_Gb | apply i_cond); (focus (simp (disch := (first | omega | (simp only [push_cast]; done) | (simp only [push_cast]; omega) | ((try simp only [push_cast]); (with_reducible first | apply sel_lt | apply sel_ge); (focus decide); (focus (simp only [push_cast]; omega))))) only [push_cast, ↓reduceIte, Nat.reduceEqDiff, Nat.reduceBEq, Nat.reduceAdd, Nat.reduceSub, Int.reduceToNat, *] <;> with_reducible exact rfl)); all_goals (intro hX; first | (cases hX; done) | ((with_reducible first | have hX0 : true = true := hX | have hX0 : false = false := hX); clear hX0 hX) | ((try simp only [decide_eq_true_eq, decide_eq_false_iff_not, Bool.not_eq_true', Bool.not_eq_false'] at hX); (try have hXb := inB_iff.1 hX)))))); all_goals try (exfalso; omega)
      refine i_loop (α := Nat) mixed (fun k => [(3, .lst true 1 (l.map fun s => .val (.string s))), (4, iv wd), (5, .lst true 1 (L.map fun s => .val (.string s))), (9, iv k)])
        (fun _ => []) (fun _ => 0) (fun k => k ≤ L.length) (fun k => L.length - k) (by kernel_rfl) 0 (Nat.zero_le _) ?_ trivial rfl ?_
      · simp (disch := (first | omega | (simp only [push_cast]; done) | (simp only [push_cast]; omega) | ((try simp only [push_cast]); (with_reducible first | apply sel_lt | apply sel_ge); (focus decide); (focus (simp only [push_cast]; omega))))) only [push_cast, ↓reduceIte, Nat.reduceEqDiff, Nat.reduceBEq, Nat.reduceAdd, Nat.reduceSub, Int.reduceToNat, List.length_append, *]
      intro k hk
      have hs := hLg k
      clear hLg
      by_cases hkl : k < L.length
      · obtain ⟨hs1, hs2⟩ := hs hkl
        have hne : ¬ (L[k]?.getD ByteArray.empty) = ⟨#[]⟩ := fun e => by rw [e] at hs1; simp [ByteArray.size] at hs1
        clear hs
        (repeat' (first | (with_reducible first | apply i_seq | apply i_block | apply i_skip | apply i_exit | apply i_ret | apply i_kS | apply i_kSx | apply i_kSr | apply i_kL | apply i_kLx | apply i_kLr | apply i_kB | apply i_kBr | apply i_kBs | apply i_nil) | ((with_reducible apply i_region); (focus (simp only [List.map_cons, List.map_nil] <;> exact rfl))) | ((with_reducible apply i_draw); (focus (simp only [List.map_cons, List.map_nil] <;> exact rfl)); (focus (decide +kernel))) | ((with_reducible apply i_kBo); (focus rfl)) | ((first | ((with_reducible apply i_V); (focus rfl); (focus rfl); (focus rfl)) | ((with_reducible apply i_E); (focus rfl); (focus (first | rfl | (simp only [push_cast, ↓reduceIte, effOk, touch, refsOf, List.flatMap_cons, List.flatMap_nil])))) | ((with_reducible apply i_S); (focus rfl); (focus (first | rfl | (simp only [push_cast, ↓reduceIte, effOk, touch, refsOf, List.flatMap_cons, List.flatMap_nil])))) | ((with_reducible apply i_Vq); (focus rfl); (focus rfl)) | ((with_reducible apply i_Vp); (focus rfl); (focus rfl); (focus rfl))); (focus (simp (disch := (first | omega | (simp only [push_cast]; done) | (simp only [push_cast]; omega) | ((try simp only [push_cast]); (with_reducible first | apply sel_lt | apply sel_ge); (focus decide); (focus (simp only [push_cast]; omega))))) only [push_cast, ↓reduceIte, Nat.reduceEqDiff, Nat.reduceBEq, Nat.reduceAdd, Nat.reduceSub, Int.reduceToNat, *] <;> with_reducible exact rfl))) | ((with_reducible first | apply i_Gb | apply i_cond); (focus (simp (disch := (first | omega | (simp only [push_cast]; done) | (simp only [push_cast]; omega) | ((try simp only [push_cast]); (with_reducible first | apply sel_lt | apply sel_ge); (focus decide); (focus (simp only [push_cast]; omega))))) only [push_cast, ↓reduceIte, Nat.reduceEqDiff, Nat.reduceBEq, Nat.reduceAdd, Nat.reduceSub, Int.reduceToNat, *] <;> with_reducible exact rfl)); all_goals (intro hX; first | (cases hX; done) | ((with_reducible first | have hX0 : true = true := hX | have hX0 : false = false := hX); clear hX0 hX) | ((try simp only [decide_eq_true_eq, decide_eq_false_iff_not, Bool.not_eq_true', Bool.not_eq_false'] at hX); (try have hXb := inB_iff.1 hX)))))); all_goals try (exfalso; omega)
        refine ⟨k + 1, by omega, by dsimp only; omega, ?_, trivial, rfl⟩
        simp (disch := (first | omega | (simp only [push_cast]; done) | (simp only [push_cast]; omega) | ((try simp only [push_cast]); (with_reducible first | apply sel_lt | apply sel_ge); (focus decide); (focus (simp only [push_cast]; omega))))) only [push_cast, ↓reduceIte, Nat.reduceEqDiff, Nat.reduceBEq, Nat.reduceAdd, Nat.reduceSub, Int.reduceToNat, List.length_append, *]
      · clear hs
        (repeat' (first | (with_reducible first | apply i_seq | apply i_block | apply i_skip | apply i_exit | apply i_ret | apply i_kS | apply i_kSx | apply i_kSr | apply i_kL | apply i_kLx | apply i_kLr | apply i_kB | apply i_kBr | apply i_kBs | apply i_nil) | ((with_reducible apply i_region); (focus (simp only [List.map_cons, List.map_nil] <;> exact rfl))) | ((with_reducible apply i_draw); (focus (simp only [List.map_cons, List.map_nil] <;> exact rfl)); (focus (decide +kernel))) | ((with_reducible apply i_kBo); (focus rfl)) | ((first | ((with_reducible apply i_V); (focus rfl); (focus rfl); (focus rfl)) | ((with_reducible apply i_E); (focus rfl); (focus (first | rfl | (simp only [push_cast, ↓reduceIte, effOk, touch, refsOf, List.flatMap_cons, List.flatMap_nil])))) | ((with_reducible apply i_S); (focus rfl); (focus (first | rfl | (simp only [push_cast, ↓reduceIte, effOk, touch, refsOf, List.flatMap_cons, List.flatMap_nil])))) | ((with_reducible apply i_Vq); (focus rfl); (focus rfl)) | ((with_reducible apply i_Vp); (focus rfl); (focus rfl); (focus rfl))); (focus (simp (disch := (first | omega | (simp only [push_cast]; done) | (simp only [push_cast]; omega) | ((try simp only [push_cast]); (with_reducible first | apply sel_lt | apply sel_ge); (focus decide); (focus (simp only [push_cast]; omega))))) only [push_cast, ↓reduceIte, Nat.reduceEqDiff, Nat.reduceBEq, Nat.reduceAdd, Nat.reduceSub, Int.reduceToNat, *] <;> with_reducible exact rfl))) | ((with_reducible first | apply i_Gb | apply i_cond); (focus (simp (disch := (first | omega | (simp only [push_cast]; done) | (simp only [push_cast]; omega) | ((try simp only [push_cast]); (with_reducible first | apply sel_lt | apply sel_ge); (focus decide); (focus (simp only [push_cast]; omega))))) only [push_cast, ↓reduceIte, Nat.reduceEqDiff, Nat.reduceBEq, Nat.reduceAdd, Nat.reduceSub, Int.reduceToNat, *] <;> with_reducible exact rfl)); all_goals (intro hX; first | (cases hX; done) | ((with_reducible first | have hX0 : true = true := hX | have hX0 : false = false := hX); clear hX0 hX) | ((try simp only [decide_eq_true_eq, decide_eq_false_iff_not, Bool.not_eq_true', Bool.not_eq_false'] at hX); (try have hXb := inB_iff.1 hX)))))); all_goals try (exfalso; omega)
        all_goals (first | (exfalso; omega) | ((first | apply i_end | apply i_endN); simp (disch := (first | omega | (simp only [push_cast]; done) | (simp only [push_cast]; omega) | ((try simp only [push_cast]); (with_reducible first | apply sel_lt | apply sel_ge); (focus decide); (focus (simp only [push_cast]; omega))))) only [push_cast, ↓reduceIte, Nat.reduceEqDiff, Nat.reduceBEq, Nat.reduceAdd, Nat.reduceSub, Int.reduceToNat, *]) | skip)
  · have gltld_c40 := GLtld_40; have gltld_c41 := GLtld_41; have gltld_c42 := GLtld_42; have gltld_c31 := GLtld_31; have gltld_c14 := GLtld_14; have gltld_c28 := GLtld_28
    (repeat' (first | (with_reducible first | apply i_seq | apply i_block | apply i_skip | apply i_exit | apply i_ret | apply i_kS | apply i_kSx | apply i_kSr | apply i_kL | apply i_kLx | apply i_kLr | apply i_kB | apply i_kBr | apply i_kBs | apply i_nil) | ((with_reducible apply i_region); (focus (simp only [List.map_cons, List.map_nil] <;> exact rfl))) | ((with_reducible apply i_draw); (focus (simp only [List.map_cons, List.map_nil] <;> exact rfl)); (focus (decide +kernel))) | ((with_reducible apply i_kBo); (focus rfl)) | ((first | ((with_reducible apply i_V); (focus rfl); (focus rfl); (focus rfl)) | ((with_reducible apply i_E); (focus rfl); (focus (first | rfl | (simp only [push_cast, ↓reduceIte, effOk, touch, refsOf, List.flatMap_cons, List.flatMap_nil])))) | ((with_reducible apply i_S); (focus rfl); (focus (first | rfl | (simp only [push_cast, ↓reduceIte, effOk, touch, refsOf, List.flatMap_cons, List.flatMap_nil])))) | ((with_reducible apply i_Vq); (focus rfl); (focus rfl)) | ((with_reducible apply i_Vp); (focus rfl); (focus rfl); (focus rfl))); (focus (simp (disch := (first | omega | (simp only [push_cast]; done) | (simp only [push_cast]; omega) | ((try simp only [push_cast]); (with_reducible first | apply sel_lt | apply sel_ge); (focus decide); (focus (simp only [push_cast]; omega))))) only [push_cast, ↓reduceIte, Nat.reduceEqDiff, Nat.reduceBEq, Nat.reduceAdd, Nat.reduceSub, Int.reduceToNat, *] <;> with_reducible exact rfl))) | ((with_reducible first | apply i_Gb | apply i_cond); (focus (simp (disch := (first | omega | (simp only [push_cast]; done) | (simp only [push_cast]; omega) | ((try simp only [push_cast]); (with_reducible first | apply sel_lt | apply sel_ge); (focus decide); (focus (simp only [push_cast]; omega))))) only [push_cast, ↓reduceIte, Nat.reduceEqDiff, Nat.reduceBEq, Nat.reduceAdd, Nat.reduceSub, Int.reduceToNat, *] <;> with_reducible exact rfl)); all_goals (intro hX; first | (cases hX; done) | ((with_reducible first | have hX0 : true = true := hX | have hX0 : false = false := hX); clear hX0 hX) | ((try simp only [decide_eq_true_eq, decide_eq_false_iff_not, Bool.not_eq_true', Bool.not_eq_false'] at hX); (try have hXb := inB_iff.1 hX)))))); all_goals try (exfalso; omega)
    all_goals (first | (exfalso; omega) | ((first | apply i_end | apply i_endN); simp (disch := (first | omega | (simp only [push_cast]; done) | (simp only [push_cast]; omega) | ((try simp only [push_cast]); (with_reducible first | apply sel_lt | apply sel_ge); (focus decide); (focus (simp only [push_cast]; omega))))) only [push_cast, ↓reduceIte, Nat.reduceEqDiff, Nat.reduceBEq, Nat.reduceAdd, Nat.reduceSub, Int.reduceToNat, *]) | skip)
end Go.Proofs.YtenldjifipnjpaaDoor
namespace Go.Proofs.YtenldjifipnjpaaDoor
open Go.ChangeShapes Go.WideShapes Go.ChangeAt Go.RowKit
open Go.ChangeMaps (open_string shut_string)
set_option linter.all false
theorem own : ownKnob Tryd.prog.godebug = none := by kernel_rfl
theorem laidOut : laidOutB Tryd.prog = true := by kernel_rfl
theorem wf_u8 {x : Int} (h : (Lit.int .u8 x).wf = true) : 0 ≤ x ∧ x ≤ 255 := by
  simpa [Lit.wf, IntKind.min, IntKind.max, IntKind.signed, IntKind.bits] using h
theorem addr_add (b off i : Nat) : (⟨b, off, none⟩ : Addr).add i = ⟨b, off + i, none⟩ := by
  unfold Addr.add
  by_cases h : i = 0 <;> simp [h]
theorem cell_lt {w : World} {a : Addr} {v : Value} (h : w.cell? a = some v) : a.block < w.heap.size := by
  unfold World.cell? at h
  by_cases hb : a.block < w.heap.size
  · exact hb
  · rw [Array.getElem?_eq_none (by omega)] at h
    cases a.spot <;> simp at h
abbrev gW (W : World) : Gh := argG fun b => b < W.heap.size
section
variable {H : Type} {enc : TypeId × Value → H} {P : Program} {W : World} {base : Nat} {α β γ δ ε : Type}
def OpC (enc : TypeId × Value → H) (P : Program) (W : World) (base : Nat) (t : TypeId) (A : Dec α) (ok : α → Prop) : Prop :=
  ∀ fuel cs x, DataW.trod enc P W base (fun _ => true) true fuel t cs = some x → ∃ a v, ok a ∧ Rep (gW W) W (A.e a) v ∧ v.cells.toList = cs ∧ v.cells.all (·.oneCell') = true
theorem opU {t : TypeId} (ht : P.underlying t = some (.int .u8)) : OpC enc P W base t dU okB8 := fun fuel cs x h => by
  obtain ⟨n, rfl, _, hw⟩ := DataW.trod_int ht h
  exact ⟨n, .int .u8 n, wf_u8 hw, rfl, rfl, by simp [Value.cells, Value.oneCell']⟩
theorem list_of {n : Nat} {p : Nat → α → Prop} (h : ∀ i, i < n → ∃ x, p i x) : ∃ l : List α, l.length = n ∧ ∀ i a, l[i]? = some a → p i a := by
  induction n with
  | zero => exact ⟨[], rfl, fun i a h => by simp at h⟩
  | succ n ih =>
    obtain ⟨l, hl, hp⟩ := ih fun i hi => h i (by omega)
    obtain ⟨x, hx⟩ := h n (by omega)
    refine ⟨l ++ [x], by simp [hl], fun i a hi => ?_⟩
    rw [List.getElem?_append] at hi
    split at hi
    · exact hp i a hi
    · rename_i hlt
      have : i - l.length = 0 := by
        by_cases h0 : i - l.length = 0
        · exact h0
        · rw [List.getElem?_eq_none (by simp; omega)] at hi
          cases hi
      rw [this] at hi
      simp at hi
      subst hi
      have : i = n := by omega
      subst this
      exact hx
theorem opL {t e : TypeId} {A : Dec α} {ok : α → Prop} (sz : Nat) (ht : P.underlying t = some (.slice e)) (hs : P.cellsOf e = sz) (h0 : 0 < sz) (hA : OpC enc P W base e A ok) : OpC enc P W base t (dL sz A) (okL ok) := fun fuel cs x h => by
  rcases Go.Deep.open_slice ht h with ⟨rfl, _⟩ | ⟨x, len, cap, m, n, D, Pl, rfl, hb, hl, hm, hmm, _, hx⟩
  · exact ⟨[], .slice none 0 0, ⟨by simp, by simp⟩, ⟨none, 0, rfl, by simp, by simp, .inl rfl⟩, rfl, by simp [Value.cells, Value.oneCell']⟩
  have hm2 : m = cap := by simpa using hmm
  have hcap : cap ≤ 9223372036854775807 := hm
  obtain ⟨l, hlen, hp⟩ := list_of (n := len) (p := fun i a => ok a ∧ ∃ v, Rep (gW W) W (A.e a) v ∧ v.cells.size = sz ∧ v.cells.all (·.oneCell') = true ∧ ∀ j, j < sz → W.cell? ((x.add (i * sz)).add j) = v.cells[j]?) (fun i hi => by
    obtain ⟨cs', h1, h2⟩ := hx i (by omega)
    obtain ⟨a, v, h3, h4, h5, h6⟩ := hA _ _ _ h2
    obtain ⟨_, h7, h8⟩ := World.cells?_some h1
    rw [hs] at h7 h8
    refine ⟨a, h3, v, h4, ?_, h6, fun j hj => ?_⟩
    · rw [← h7, ← h5]; simp
    · rw [h8 j hj, ← h5]; simp)
  refine ⟨l, .slice (some x) len cap, ⟨by omega, fun a ha => ?_⟩, ?_, rfl, by simp [Value.cells, Value.oneCell']⟩
  · obtain ⟨i, hi, rfl⟩ := List.getElem_of_mem ha
    exact (hp i _ (by simp [hi])).1
  · refine ⟨some x, cap, by simp [hlen], by simp [hlen]; omega, hcap, ?_⟩
    by_cases hn : l = []
    · exact .inl (by simp [hn])
    right
    have hl0 : 0 < l.length := List.length_pos_iff.2 hn
    obtain ⟨_, v, h4, h5, h6, h7⟩ := hp 0 l[0] (by simp [hl0])
    have h8 := h7 0 h0
    have h9 : v.cells[0]? = some v.cells[0] := by simp
    rw [h9] at h8
    have hspot := World.cell?_spot h8
    have hlt := cell_lt h8
    obtain ⟨b, off, spot⟩ := x
    simp only [Nat.zero_mul, Addr.add, if_true] at hspot hlt
    subst hspot
    refine ⟨b, off, rfl, ⟨rfl, hlt⟩, RepEs.of fun i p hi => ?_⟩
    rw [List.getElem?_map, Option.map_eq_some_iff] at hi
    obtain ⟨a, ha, rfl⟩ := hi
    obtain ⟨_, v, h4, h5, h6, h7⟩ := hp i a ha
    refine ⟨v, h4, ⟨h6, fun j hj => ?_⟩, h5⟩
    have := h7 j (by omega)
    rwa [addr_add, addr_add] at this
theorem opF {t : TypeId} {A : Dec α} {ok : α → Prop} {n : Nat} {cs : List Value} {y : DataW H × List MemPlace} (hA : OpC enc P W base t A ok) (h1 : ∀ a, oneP (A.e a) = true)
    (h : DataW.trod enc P W base (fun _ => true) true n t cs = some y) : ∃ a v, ok a ∧ Rep (gW W) W (A.e a) v ∧ v.oneCell' = true ∧ cs = [v] := by
  obtain ⟨a, v, h3, h4, h5, h6⟩ := hA _ _ _ h
  have := oneP_rep h4 (h1 a)
  exact ⟨a, v, h3, h4, this, by rw [← h5, oneCell_cells this]⟩
theorem op1 {t : TypeId} {A : Dec α} {ok : α → Prop} {v : Value} {d : DataW H} {p : List MemPlace} (hA : OpC enc P W base t A ok) (h1 : ∀ a, oneP (A.e a) = true) (hv : v.cells = #[v])
    (h : DataW.Trod enc P W base (fun _ => true) true t v d p) : ∃ a, ok a ∧ Rep (gW W) W (A.e a) v := by
  obtain ⟨fuel, hf⟩ := h
  obtain ⟨a, u, h3, h4, h5, h6⟩ := opF hA h1 hf
  rw [hv] at h6
  have : v = u := by simpa using h6
  subst this
  exact ⟨a, h3, h4⟩
theorem walk_of {f : Nat} {φ : Fun} {ps : List PV} {args : Array Value} (h : Sound P f φ) (hT : TabF W fun _ => False) (ha : φ ps = some (bv true)) (hr : RepL (gW W) W ps args.toList) :
    Calls P f args W fun e w' => e = .returned (.bool true) ∧ Below W.heap.size W w' := by
  refine (h W (fun b => b < W.heap.size) ps args _ ha (fun b hb => hb) hT hr).mono ?_
  rintro e w' ⟨v, rfl, hb, hv⟩
  have := hv { I := fun _ _ => True, β := fun _ => 0, κ := fun _ => 0, nx := 0 } fun b _ _ => trivial
  have hv2 : v = .bool true := this
  subst hv2
  exact ⟨rfl, hb⟩
end
end Go.Proofs.YtenldjifipnjpaaDoor
