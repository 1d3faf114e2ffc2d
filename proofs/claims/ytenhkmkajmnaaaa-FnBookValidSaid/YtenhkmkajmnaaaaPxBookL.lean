/- Books drawn: the law. -/
import Derived.Test.YtenhkmkajmnaaaaPxBookD
import Derived.Test.YtenhkmkajmnaaaaPxPut
namespace Go.Proofs.Ytenhkmkajmnaaaa
open Go.RowKit
set_option linter.all false
theorem renS_ls {nm : Nat → Option Nat} {f sz : Nat} {k : Bool} {L : List LS} : renF nm (f + 4) (.lst k sz (lsE L)) = some (.lst k sz (lsE L)) := by
  show ((lsE L).mapM (renF nm (f + 3))).map (PV.lst k sz) = _
  rw [mapM_maps fun p => renS_vals]
  rfl
theorem renS_pE {nm : Nat → Option Nat} {f : Nat} {L : List LS} : renF nm (f + 4) (pE L) = some (pE L) := by
  cases L with
  | nil => rfl
  | cons a L => exact renS_ls
attribute [push_cast] renS_ls renS_pE
noncomputable def Φbook : FunIO := Classical.choose book_ex
theorem book_io : SoundIO Try.prog 80 Φbook := (Classical.choose_spec book_ex).1
theorem book_drw : Drw2 108 Φbook 500000000 2000 EBk (fun n => 0 ≤ n ∧ n ≤ 1000) (fun _ b => okBkD b) := (Classical.choose_spec book_ex).2
noncomputable def GDbk : Ctx := ⟨fun f => none, fun f => if f = 55 then some ΦOpen else if f = 80 then some Φbook else none⟩
theorem GDbk_ok : SoundΓ Try.prog GDbk := ⟨(fun f φ h => by
  unfold GDbk at h
  dsimp only at h
  cases h), (fun f φ h => by
  unfold GDbk at h
  dsimp only at h
  split at h
  · rename_i hf; cases h; subst hf; exact ⟨⟨_, Try.func55, rfl, rfl⟩, open_io⟩
  split at h
  · rename_i hf; cases h; subst hf; exact ⟨⟨_, Try.func80, rfl, rfl⟩, book_io⟩
  cases h)⟩
theorem GDbk_55 : GDbk.io 55 = some ΦOpen := by simp [GDbk]
theorem GDbk_80 : GDbk.io 80 = some Φbook := by simp [GDbk]
theorem drawBookV_ex : ∃ φ : Fun, Sound Try.prog 38 φ ∧ Drw0 φ EBk okBkD := by
  refine drw0_of mixed GDbk_ok Try.func38 rfl 6 rfl [.cell 2 55] rfl (by kernel_rfl) (by simp) _ _ fun code hbyte hlen => ?_
  have hok := okRd_take hbyte
  have apo := @ΦOpen_ap
  have gdbk_c55 := GDbk_55; have gdbk_c80 := GDbk_80
  repeat' (first | (first | (with_reducible first | apply i_seq | apply i_block | apply i_skip | apply i_exit | apply i_ret | apply i_kS | apply i_kSx | apply i_kSr | apply i_kL | apply i_kLx | apply i_kLr | apply i_kB | apply i_kBr | apply i_kBs | apply i_nil) | ((with_reducible apply i_region); (focus (simp only [List.map_cons, List.map_nil] <;> exact rfl))) | ((with_reducible apply i_draw); (focus (simp only [List.map_cons, List.map_nil] <;> exact rfl)); (focus (decide +kernel))) | ((with_reducible apply i_kBo); (focus rfl)) | ((first | ((with_reducible apply i_V); (focus rfl); (focus rfl); (focus rfl)) | ((with_reducible apply i_E); (focus rfl); (focus (first | rfl | (simp only [push_cast, ↓reduceIte, effOk, touch, refsOf, List.flatMap_cons, List.flatMap_nil])))) | ((with_reducible apply i_S); (focus rfl); (focus (first | rfl | (simp only [push_cast, ↓reduceIte, effOk, touch, refsOf, List.flatMap_cons, List.flatMap_nil])))) | ((with_reducible apply i_Vq); (focus rfl); (focus rfl)) | ((with_reducible apply i_Vp); (focus rfl); (focus rfl); (focus rfl))); (focus (simp (disch := (first | omega | (simp only [push_cast]; done) | (simp only [push_cast]; omega) | ((try simp only [push_cast]); (with_reducible first | apply sel_lt | apply sel_ge); (focus decide); (focus (simp only [push_cast]; omega))))) only [push_cast, ↓reduceIte, Nat.reduceEqDiff, Nat.reduceBEq, Nat.reduceAdd, Nat.reduceSub, Int.reduceToNat, *] <;> with_reducible exact rfl))) | ((with_reducible first | apply i_Gb | apply i_cond); (focus (simp (disch := (first | omega | (simp only [push_cast]; done) | (simp only [push_cast]; omega) | ((try simp only [push_cast]); (with_reducible first | apply sel_lt | apply sel_ge); (focus decide); (focus (simp only [push_cast]; omega))))) only [push_cast, ↓reduceIte, Nat.reduceEqDiff, Nat.reduceBEq, Nat.reduceAdd, Nat.reduceSub, Int.reduceToNat, *] <;> with_reducible exact rfl)); all_goals (intro hX; first | (cases hX; done) | ((with_reducible first | have hX0 : true = true := hX | have hX0 : false = false := hX); clear hX0 hX) | ((try simp only [decide_eq_true_eq, decide_eq_false_iff_not, Bool.not_eq_true', Bool.not_eq_false'] at hX); (try have hXb := inB_iff.1 hX))))) | ((with_reducible apply i_drw2 book_drw (fun _ _ => by simp only [push_cast, ↓reduceIte, Nat.reduceEqDiff, Nat.reduceBEq, Nat.reduceAdd, Nat.reduceSub, Int.reduceToNat])); (focus rfl); (focus (simp (disch := (first | omega | (simp only [push_cast]; done) | (simp only [push_cast]; omega) | ((try simp only [push_cast]); (with_reducible first | apply sel_lt | apply sel_ge); (focus decide); (focus (simp only [push_cast]; omega))))) only [push_cast, ↓reduceIte, Nat.reduceEqDiff, Nat.reduceBEq, Nat.reduceAdd, Nat.reduceSub, Int.reduceToNat, *] <;> with_reducible exact rfl)); (focus (simp (disch := (first | omega | (simp only [push_cast]; done) | (simp only [push_cast]; omega) | ((try simp only [push_cast]); (with_reducible first | apply sel_lt | apply sel_ge); (focus decide); (focus (simp only [push_cast]; omega))))) only [push_cast, ↓reduceIte, Nat.reduceEqDiff, Nat.reduceBEq, Nat.reduceAdd, Nat.reduceSub, Int.reduceToNat, *] <;> with_reducible exact rfl)); (focus (simp (disch := (first | omega | (simp only [push_cast]; done) | (simp only [push_cast]; omega) | ((try simp only [push_cast]); (with_reducible first | apply sel_lt | apply sel_ge); (focus decide); (focus (simp only [push_cast]; omega))))) only [push_cast, ↓reduceIte, Nat.reduceEqDiff, Nat.reduceBEq, Nat.reduceAdd, Nat.reduceSub, Int.reduceToNat, *] <;> with_reducible exact rfl)); (focus assumption); (focus omega); (focus (first | trivial | omega)); (focus (first | rfl | (simp only [push_cast, ↓reduceIte, effOk, touch, refsOf, List.flatMap_cons, List.flatMap_nil]))); intro v pp hv hok hpp1 hpp2))
  obtain ⟨L, ps, wd, mo, li⟩ := v
  by_cases h0 : L.length = 0
  · obtain rfl : L = [] := List.eq_nil_of_length_eq_zero h0
    clear h0
    repeat' (first | (first | (with_reducible first | apply i_seq | apply i_block | apply i_skip | apply i_exit | apply i_ret | apply i_kS | apply i_kSx | apply i_kSr | apply i_kL | apply i_kLx | apply i_kLr | apply i_kB | apply i_kBr | apply i_kBs | apply i_nil) | ((with_reducible apply i_region); (focus (simp only [List.map_cons, List.map_nil] <;> exact rfl))) | ((with_reducible apply i_draw); (focus (simp only [List.map_cons, List.map_nil] <;> exact rfl)); (focus (decide +kernel))) | ((with_reducible apply i_kBo); (focus rfl)) | ((first | ((with_reducible apply i_V); (focus rfl); (focus rfl); (focus rfl)) | ((with_reducible apply i_E); (focus rfl); (focus (first | rfl | (simp only [push_cast, ↓reduceIte, effOk, touch, refsOf, List.flatMap_cons, List.flatMap_nil])))) | ((with_reducible apply i_S); (focus rfl); (focus (first | rfl | (simp only [push_cast, ↓reduceIte, effOk, touch, refsOf, List.flatMap_cons, List.flatMap_nil])))) | ((with_reducible apply i_Vq); (focus rfl); (focus rfl)) | ((with_reducible apply i_Vp); (focus rfl); (focus rfl); (focus rfl))); (focus (simp (disch := (first | omega | (simp only [push_cast]; done) | (simp only [push_cast]; omega) | ((try simp only [push_cast]); (with_reducible first | apply sel_lt | apply sel_ge); (focus decide); (focus (simp only [push_cast]; omega))))) only [push_cast, ↓reduceIte, Nat.reduceEqDiff, Nat.reduceBEq, Nat.reduceAdd, Nat.reduceSub, Int.reduceToNat, *] <;> with_reducible exact rfl))) | ((with_reducible first | apply i_Gb | apply i_cond); (focus (simp (disch := (first | omega | (simp only [push_cast]; done) | (simp only [push_cast]; omega) | ((try simp only [push_cast]); (with_reducible first | apply sel_lt | apply sel_ge); (focus decide); (focus (simp only [push_cast]; omega))))) only [push_cast, ↓reduceIte, Nat.reduceEqDiff, Nat.reduceBEq, Nat.reduceAdd, Nat.reduceSub, Int.reduceToNat, *] <;> with_reducible exact rfl)); all_goals (intro hX; first | (cases hX; done) | ((with_reducible first | have hX0 : true = true := hX | have hX0 : false = false := hX); clear hX0 hX) | ((try simp only [decide_eq_true_eq, decide_eq_false_iff_not, Bool.not_eq_true', Bool.not_eq_false'] at hX); (try have hXb := inB_iff.1 hX))))) | ((with_reducible apply i_drw2 book_drw (fun _ _ => by simp only [push_cast, ↓reduceIte, Nat.reduceEqDiff, Nat.reduceBEq, Nat.reduceAdd, Nat.reduceSub, Int.reduceToNat])); (focus rfl); (focus (simp (disch := (first | omega | (simp only [push_cast]; done) | (simp only [push_cast]; omega) | ((try simp only [push_cast]); (with_reducible first | apply sel_lt | apply sel_ge); (focus decide); (focus (simp only [push_cast]; omega))))) only [push_cast, ↓reduceIte, Nat.reduceEqDiff, Nat.reduceBEq, Nat.reduceAdd, Nat.reduceSub, Int.reduceToNat, *] <;> with_reducible exact rfl)); (focus (simp (disch := (first | omega | (simp only [push_cast]; done) | (simp only [push_cast]; omega) | ((try simp only [push_cast]); (with_reducible first | apply sel_lt | apply sel_ge); (focus decide); (focus (simp only [push_cast]; omega))))) only [push_cast, ↓reduceIte, Nat.reduceEqDiff, Nat.reduceBEq, Nat.reduceAdd, Nat.reduceSub, Int.reduceToNat, *] <;> with_reducible exact rfl)); (focus (simp (disch := (first | omega | (simp only [push_cast]; done) | (simp only [push_cast]; omega) | ((try simp only [push_cast]); (with_reducible first | apply sel_lt | apply sel_ge); (focus decide); (focus (simp only [push_cast]; omega))))) only [push_cast, ↓reduceIte, Nat.reduceEqDiff, Nat.reduceBEq, Nat.reduceAdd, Nat.reduceSub, Int.reduceToNat, *] <;> with_reducible exact rfl)); (focus assumption); (focus omega); (focus (first | trivial | omega)); (focus (first | rfl | (simp only [push_cast, ↓reduceIte, effOk, touch, refsOf, List.flatMap_cons, List.flatMap_nil]))); intro v pp hv hok hpp1 hpp2))
    (with_reducible apply i_fin0 (a := (([] : List LS), _, _, _, _)) (by first | exact .inl rfl | exact .inr rfl)); (focus (simp (disch := (first | omega | (simp only [push_cast]; done) | (simp only [push_cast]; omega) | ((try simp only [push_cast]); (with_reducible first | apply sel_lt | apply sel_ge); (focus decide); (focus (simp only [push_cast]; omega))))) only [push_cast, ↓reduceIte, Nat.reduceEqDiff, Nat.reduceBEq, Nat.reduceAdd, Nat.reduceSub, Int.reduceToNat, rep_iv, rep_sv, rep_w, rep_i3, rep_i4, *] <;> with_reducible exact rfl))
    exact hv
  · repeat' (first | (first | (with_reducible first | apply i_seq | apply i_block | apply i_skip | apply i_exit | apply i_ret | apply i_kS | apply i_kSx | apply i_kSr | apply i_kL | apply i_kLx | apply i_kLr | apply i_kB | apply i_kBr | apply i_kBs | apply i_nil) | ((with_reducible apply i_region); (focus (simp only [List.map_cons, List.map_nil] <;> exact rfl))) | ((with_reducible apply i_draw); (focus (simp only [List.map_cons, List.map_nil] <;> exact rfl)); (focus (decide +kernel))) | ((with_reducible apply i_kBo); (focus rfl)) | ((first | ((with_reducible apply i_V); (focus rfl); (focus rfl); (focus rfl)) | ((with_reducible apply i_E); (focus rfl); (focus (first | rfl | (simp only [push_cast, ↓reduceIte, effOk, touch, refsOf, List.flatMap_cons, List.flatMap_nil])))) | ((with_reducible apply i_S); (focus rfl); (focus (first | rfl | (simp only [push_cast, ↓reduceIte, effOk, touch, refsOf, List.flatMap_cons, List.flatMap_nil])))) | ((with_reducible apply i_Vq); (focus rfl); (focus rfl)) | ((with_reducible apply i_Vp); (focus rfl); (focus rfl); (focus rfl))); (focus (simp (disch := (first | omega | (simp only [push_cast]; done) | (simp only [push_cast]; omega) | ((try simp only [push_cast]); (with_reducible first | apply sel_lt | apply sel_ge); (focus decide); (focus (simp only [push_cast]; omega))))) only [push_cast, ↓reduceIte, Nat.reduceEqDiff, Nat.reduceBEq, Nat.reduceAdd, Nat.reduceSub, Int.reduceToNat, *] <;> with_reducible exact rfl))) | ((with_reducible first | apply i_Gb | apply i_cond); (focus (simp (disch := (first | omega | (simp only [push_cast]; done) | (simp only [push_cast]; omega) | ((try simp only [push_cast]); (with_reducible first | apply sel_lt | apply sel_ge); (focus decide); (focus (simp only [push_cast]; omega))))) only [push_cast, ↓reduceIte, Nat.reduceEqDiff, Nat.reduceBEq, Nat.reduceAdd, Nat.reduceSub, Int.reduceToNat, *] <;> with_reducible exact rfl)); all_goals (intro hX; first | (cases hX; done) | ((with_reducible first | have hX0 : true = true := hX | have hX0 : false = false := hX); clear hX0 hX) | ((try simp only [decide_eq_true_eq, decide_eq_false_iff_not, Bool.not_eq_true', Bool.not_eq_false'] at hX); (try have hXb := inB_iff.1 hX))))) | ((with_reducible apply i_drw2 book_drw (fun _ _ => by simp only [push_cast, ↓reduceIte, Nat.reduceEqDiff, Nat.reduceBEq, Nat.reduceAdd, Nat.reduceSub, Int.reduceToNat])); (focus rfl); (focus (simp (disch := (first | omega | (simp only [push_cast]; done) | (simp only [push_cast]; omega) | ((try simp only [push_cast]); (with_reducible first | apply sel_lt | apply sel_ge); (focus decide); (focus (simp only [push_cast]; omega))))) only [push_cast, ↓reduceIte, Nat.reduceEqDiff, Nat.reduceBEq, Nat.reduceAdd, Nat.reduceSub, Int.reduceToNat, *] <;> with_reducible exact rfl)); (focus (simp (disch := (first | omega | (simp only [push_cast]; done) | (simp only [push_cast]; omega) | ((try simp only [push_cast]); (with_reducible first | apply sel_lt | apply sel_ge); (focus decide); (focus (simp only [push_cast]; omega))))) only [push_cast, ↓reduceIte, Nat.reduceEqDiff, Nat.reduceBEq, Nat.reduceAdd, Nat.reduceSub, Int.reduceToNat, *] <;> with_reducible exact rfl)); (focus (simp (disch := (first | omega | (simp only [push_cast]; done) | (simp only [push_cast]; omega) | ((try simp only [push_cast]); (with_reducible first | apply sel_lt | apply sel_ge); (focus decide); (focus (simp only [push_cast]; omega))))) only [push_cast, ↓reduceIte, Nat.reduceEqDiff, Nat.reduceBEq, Nat.reduceAdd, Nat.reduceSub, Int.reduceToNat, *] <;> with_reducible exact rfl)); (focus assumption); (focus omega); (focus (first | trivial | omega)); (focus (first | rfl | (simp only [push_cast, ↓reduceIte, effOk, touch, refsOf, List.flatMap_cons, List.flatMap_nil]))); intro v pp hv hok hpp1 hpp2))
    (with_reducible apply i_fin0 (a := (L, _, _, _, _)) (by first | exact .inl rfl | exact .inr rfl)); (focus (simp (disch := (first | omega | (simp only [push_cast]; done) | (simp only [push_cast]; omega) | ((try simp only [push_cast]); (with_reducible first | apply sel_lt | apply sel_ge); (focus decide); (focus (simp only [push_cast]; omega))))) only [push_cast, ↓reduceIte, Nat.reduceEqDiff, Nat.reduceBEq, Nat.reduceAdd, Nat.reduceSub, Int.reduceToNat, rep_iv, rep_sv, rep_w, rep_i3, rep_i4, *] <;> with_reducible exact rfl))
    exact hv
noncomputable def φdrawBookV : Fun := Classical.choose drawBookV_ex
theorem drawBookV_ok : Sound Try.prog 38 φdrawBookV := (Classical.choose_spec drawBookV_ex).1
theorem drawBookV_drw : Drw0 φdrawBookV EBk okBkD := (Classical.choose_spec drawBookV_ex).2
theorem okSs_of {n : Nat} {l : LS} (h : okT n l) (hn : n ≤ 1000) : okSs l := by
  refine ⟨by have := h.1; omega, fun i => ?_⟩
  by_cases hi : i < l.length
  · have := h.2 l[i] (List.getElem_mem hi)
    simp only [List.getElem?_eq_getElem hi, Option.getD_some]
    omega
  · rw [List.getElem?_eq_none (by omega)]
    simp
theorem okBk_of {L : List LS} {ps : LS} (h1 : L.length ≤ 6) (h2 : ∀ l ∈ L, okT 13 l) (h3 : okT 22 ps) : okBk L ps := by
  refine ⟨by omega, fun i => ?_, okSs_of h3 (by omega)⟩
  by_cases hi : i < L.length
  · simp only [List.getElem?_eq_getElem hi, Option.getD_some]
    exact okSs_of (h2 L[i] (List.getElem_mem hi)) (by omega)
  · rw [List.getElem?_eq_none (by omega)]
    exact ⟨by simp, by simp⟩
theorem bookB_bad {L : List LS} {ps : LS} {x y z : Int} : bookB (L ++ [[]]) ps x y z = false := by
  unfold bookB
  rw [List.all_append, show ([[]] : List LS).all parB = false from by decide]
  simp
theorem bookB_pats {L : List LS} {ps : LS} {x y z : Int} (h : bookB L ps x y z = true) : allPats ps = true := by
  unfold bookB at h
  simp only [Bool.and_eq_true] at h
  exact h.2.2.1
noncomputable def φBookVn : Fun := nilG 1 φBookV
abbrev lsF (L : List LS) : List PV := L.map fun p => .lst false 1 (p.map fun s => .val (.string s))
theorem φBookVn_nil {q : LS} {x y z : Int} (h : okBk [] q) : φBookVn [.agg [.val (.slice none 0 0), .lst false 1 (q.map fun s => .val (.string s)), .val (.int .i64 x), .val (.int .i64 y), .val (.int .i64 z)]] = some (.val (.bool (bookB [] q x y z))) := φBookV_ap h
theorem φBookVn_ap {p : List LS} {q : LS} {x y z : Int} (h : okBk p q) : φBookVn [.agg [.lst false 1 (lsF p), .lst false 1 (q.map fun s => .val (.string s)), .val (.int .i64 x), .val (.int .i64 y), .val (.int .i64 z)]] = some (.val (.bool (bookB p q x y z))) := φBookV_ap h
theorem reM_lsr {ob : Objs} {f m : Nat} {L : List LS} {x : PV} : (lsE L ++ [x]).mapM (reify false m ob (f + 2)) = (reify false m ob (f + 2) x).map fun y => lsF L ++ [y] := by
  rw [List.mapM_append, mapM_maps fun p => reify_strs, mapM_cons', mapM_nil']
  cases reify false m ob (f + 2) x <;> rfl
attribute [push_cast] reM_lsr
noncomputable def GLbk : Ctx := ⟨fun f => if f = 38 then some φdrawBookV else if f = 39 then some φBookVn else if f = 40 then some φBookVn else if f = 41 then some φPats else if f = 18 then some φTrue else none, fun f => none⟩
theorem GLbk_ok : SoundΓ Try.prog GLbk := ⟨(fun f φ h => by
  unfold GLbk at h
  dsimp only at h
  split at h
  · rename_i hf; cases h; subst hf; exact ⟨⟨_, Try.func38, rfl, rfl⟩, drawBookV_ok⟩
  split at h
  · rename_i hf; cases h; subst hf; exact ⟨⟨_, Try.func39, rfl, rfl⟩, (implBookValid_ok.nilG 1)⟩
  split at h
  · rename_i hf; cases h; subst hf; exact ⟨⟨_, Try.func40, rfl, rfl⟩, (specBookValid_ok.nilG 1)⟩
  split at h
  · rename_i hf; cases h; subst hf; exact ⟨⟨_, Try.func41, rfl, rfl⟩, implPatternsValid_ok⟩
  split at h
  · rename_i hf; cases h; subst hf; exact ⟨⟨_, Try.func18, rfl, rfl⟩, alive_ok⟩
  cases h), (fun f φ h => by
  unfold GLbk at h
  dsimp only at h
  cases h)⟩
theorem GLbk_38 (ob : Objs) (ps : List PV) : evCall GLbk ob 38 ps = (ps.mapM (reify false 0 ob fuel)).bind φdrawBookV := by
  have h : GLbk.fn 38 = some φdrawBookV := by simp [GLbk]
  unfold evCall
  rw [h]
  cases ps.mapM (reify false 0 ob fuel) <;> rfl
theorem GLbk_39 (ob : Objs) (ps : List PV) : evCall GLbk ob 39 ps = (ps.mapM (reify false 0 ob fuel)).bind φBookVn := by
  have h : GLbk.fn 39 = some φBookVn := by simp [GLbk]
  unfold evCall
  rw [h]
  cases ps.mapM (reify false 0 ob fuel) <;> rfl
theorem GLbk_40 (ob : Objs) (ps : List PV) : evCall GLbk ob 40 ps = (ps.mapM (reify false 0 ob fuel)).bind φBookVn := by
  have h : GLbk.fn 40 = some φBookVn := by simp [GLbk]
  unfold evCall
  rw [h]
  cases ps.mapM (reify false 0 ob fuel) <;> rfl
theorem GLbk_41 (ob : Objs) (ps : List PV) : evCall GLbk ob 41 ps = (ps.mapM (reify false 0 ob fuel)).bind φPats := by
  have h : GLbk.fn 41 = some φPats := by simp [GLbk]
  unfold evCall
  rw [h]
  cases ps.mapM (reify false 0 ob fuel) <;> rfl
theorem GLbk_18 (ob : Objs) (ps : List PV) : evCall GLbk ob 18 ps = (ps.mapM (reify false 0 ob fuel)).bind φTrue := by
  have h : GLbk.fn 18 = some φTrue := by simp [GLbk]
  unfold evCall
  rw [h]
  cases ps.mapM (reify false 0 ob fuel) <;> rfl
noncomputable def φLawBk : Fun := F1 dUs fun code => if okL okB8 code then some (bv true) else none
set_option maxHeartbeats 16000000 in
theorem lawBk_ok : Sound Try.prog 11 φLawBk := by
  refine sound_pq mixed GLbk_ok Try.func11 rfl 41 rfl [.tmp 2] rfl (by kernel_rfl) fun ps r hr => ?_
  obtain ⟨code, rfl, hq⟩ := F1_some hr
  clear hr
  split at hq
  case isFalse => cases hq
  case isTrue hpre =>
  cases hq
  refine ⟨by simp, ?_⟩
  simp only [dIs, dUs, dSs, dI_e, dU_e, dB_e, dS_e, dFn_e, dL_e, dA2_e, dA3_e, dA4_e, dA5_e]
  have hbyte := bytes_ok hpre
  by_cases hlen : code.length ≤ 1048576
  · obtain ⟨⟨L, ps, wd, mo, li⟩, e, ⟨hL, hL2⟩, hps, hwd, hmo, hli⟩ := drawBookV_drw code hbyte hlen
    have apt := φTrue_ap
    dsimp only at hL hL2 hps hwd hmo hli e
    have ap1 := φPats_ap (okSs_of hps (by omega))
    have ap2 := φBookVn_ap (x := wd) (y := mo) (z := li) (okBk_of (L := L ++ [[]]) (ps := ps) (by simp; omega) (lsts_app hL2 okT_nil) hps)
    have ap3 := φBookVn_ap (x := wd) (y := mo) (z := li) (okBk_of (L := L) (by omega) hL2 hps)
    have ap4 := φBookVn_nil (x := wd) (y := mo) (z := li) (okBk_of (L := []) (by simp) (by simp) hps)
    rw [bookB_bad] at ap2
    have hpl := hps.1
    clear hbyte hpre hL2 hps
    by_cases h0 : L.length = 0
    · obtain rfl : L = [] := List.eq_nil_of_length_eq_zero h0
      clear h0 ap3
      rw [List.nil_append] at ap2
      simp only [lsF, List.map_cons, List.map_nil] at ap2
      cases hB : bookB [] ps wd mo li with
      | false =>
        have glbk_c38 := GLbk_38; have glbk_c39 := GLbk_39; have glbk_c40 := GLbk_40; have glbk_c41 := GLbk_41; have glbk_c18 := GLbk_18
        (repeat' (first | (with_reducible first | apply i_seq | apply i_block | apply i_skip | apply i_exit | apply i_ret | apply i_kS | apply i_kSx | apply i_kSr | apply i_kL | apply i_kLx | apply i_kLr | apply i_kB | apply i_kBr | apply i_kBs | apply i_nil) | ((with_reducible apply i_region); (focus (simp only [List.map_cons, List.map_nil] <;> exact rfl))) | ((with_reducible apply i_draw); (focus (simp only [List.map_cons, List.map_nil] <;> exact rfl)); (focus (decide +kernel))) | ((with_reducible apply i_kBo); (focus rfl)) | ((first | ((with_reducible apply i_V); (focus rfl); (focus rfl); (focus rfl)) | ((with_reducible apply i_E); (focus rfl); (focus (first | rfl | (simp only [push_cast, ↓reduceIte, effOk, touch, refsOf, List.flatMap_cons, List.flatMap_nil])))) | ((with_reducible apply i_S); (focus rfl); (focus (first | rfl | (simp only [push_cast, ↓reduceIte, effOk, touch, refsOf, List.flatMap_cons, List.flatMap_nil])))) | ((with_reducible apply i_Vq); (focus rfl); (focus rfl)) | ((with_reducible apply i_Vp); (focus rfl); (focus rfl); (focus rfl))); (focus (simp (disch := (first | omega | (simp only [push_cast]; done) | (simp only [push_cast]; omega) | ((try simp only [push_cast]); (with_reducible first | apply sel_lt | apply sel_ge); (focus decide); (focus (simp only [push_cast]; omega))))) only [push_cast, ↓reduceIte, Nat.reduceEqDiff, Nat.reduceBEq, Nat.reduceAdd, Nat.reduceSub, Int.reduceToNat, *] <;> with_reducible exact rfl))) | ((with_reducible first | apply i_Gb | apply i_cond); (focus (simp (disch := (first | omega | (simp only [push_cast]; done) | (simp only [push_cast]; omega) | ((try simp only [push_cast]); (with_reducible first | apply sel_lt | apply sel_ge); (focus decide); (focus (simp only [push_cast]; omega))))) only [push_cast, ↓reduceIte, Nat.reduceEqDiff, Nat.reduceBEq, Nat.reduceAdd, Nat.reduceSub, Int.reduceToNat, *] <;> with_reducible exact rfl)); all_goals (intro hX; first | (cases hX; done) | ((with_reducible first | have hX0 : true = true := hX | have hX0 : false = false := hX); clear hX0 hX) | ((try simp only [decide_eq_true_eq, decide_eq_false_iff_not, Bool.not_eq_true', Bool.not_eq_false'] at hX); (try have hXb := inB_iff.1 hX)))))); all_goals try (exfalso; omega)
        all_goals (first | (exfalso; omega) | ((first | apply i_end | apply i_endN); simp (disch := (first | omega | (simp only [push_cast]; done) | (simp only [push_cast]; omega) | ((try simp only [push_cast]); (with_reducible first | apply sel_lt | apply sel_ge); (focus decide); (focus (simp only [push_cast]; omega))))) only [push_cast, ↓reduceIte, Nat.reduceEqDiff, Nat.reduceBEq, Nat.reduceAdd, Nat.reduceSub, Int.reduceToNat, *]) | skip)
      | true =>
        have hpa := bookB_pats hB
        have glbk_c38 := GLbk_38; have glbk_c39 := GLbk_39; have glbk_c40 := GLbk_40; have glbk_c41 := GLbk_41; have glbk_c18 := GLbk_18
        (repeat' (first | (with_reducible first | apply i_seq | apply i_block | apply i_skip | apply i_exit | apply i_ret | apply i_kS | apply i_kSx | apply i_kSr | apply i_kL | apply i_kLx | apply i_kLr | apply i_kB | apply i_kBr | apply i_kBs | apply i_nil) | ((with_reducible apply i_region); (focus (simp only [List.map_cons, List.map_nil] <;> exact rfl))) | ((with_reducible apply i_draw); (focus (simp only [List.map_cons, List.map_nil] <;> exact rfl)); (focus (decide +kernel))) | ((with_reducible apply i_kBo); (focus rfl)) | ((first | ((with_reducible apply i_V); (focus rfl); (focus rfl); (focus rfl)) | ((with_reducible apply i_E); (focus rfl); (focus (first | rfl | (simp only [push_cast, ↓reduceIte, effOk, touch, refsOf, List.flatMap_cons, List.flatMap_nil])))) | ((with_reducible apply i_S); (focus rfl); (focus (first | rfl | (simp only [push_cast, ↓reduceIte, effOk, touch, refsOf, List.flatMap_cons, List.flatMap_nil])))) | ((with_reducible apply i_Vq); (focus rfl); (focus rfl)) | ((with_reducible apply i_Vp); (focus rfl); (focus rfl); (focus rfl))); (focus (simp (disch := (first | omega | (simp only [push_cast]; done) | (simp only [push_cast]; omega) | ((try simp only [push_cast]); (with_reducible first | apply sel_lt | apply sel_ge); (focus decide); (focus (simp only [push_cast]; omega))))) only [push_cast, ↓reduceIte, Nat.reduceEqDiff, Nat.reduceBEq, Nat.reduceAdd, Nat.reduceSub, Int.reduceToNat, *] <;> with_reducible exact rfl))) | ((with_reducible first | apply i_Gb | apply i_cond); (focus (simp (disch := (first | omega | (simp only [push_cast]; done) | (simp only [push_cast]; omega) | ((try simp only [push_cast]); (with_reducible first | apply sel_lt | apply sel_ge); (focus decide); (focus (simp only [push_cast]; omega))))) only [push_cast, ↓reduceIte, Nat.reduceEqDiff, Nat.reduceBEq, Nat.reduceAdd, Nat.reduceSub, Int.reduceToNat, *] <;> with_reducible exact rfl)); all_goals (intro hX; first | (cases hX; done) | ((with_reducible first | have hX0 : true = true := hX | have hX0 : false = false := hX); clear hX0 hX) | ((try simp only [decide_eq_true_eq, decide_eq_false_iff_not, Bool.not_eq_true', Bool.not_eq_false'] at hX); (try have hXb := inB_iff.1 hX)))))); all_goals try (exfalso; omega)
        all_goals (first | (exfalso; omega) | ((first | apply i_end | apply i_endN); simp (disch := (first | omega | (simp only [push_cast]; done) | (simp only [push_cast]; omega) | ((try simp only [push_cast]); (with_reducible first | apply sel_lt | apply sel_ge); (focus decide); (focus (simp only [push_cast]; omega))))) only [push_cast, ↓reduceIte, Nat.reduceEqDiff, Nat.reduceBEq, Nat.reduceAdd, Nat.reduceSub, Int.reduceToNat, *]) | skip)
    · clear ap4
      simp only [lsF, List.map_append, List.map_cons, List.map_nil] at ap2
      cases hB : bookB L ps wd mo li with
      | false =>
        have glbk_c38 := GLbk_38; have glbk_c39 := GLbk_39; have glbk_c40 := GLbk_40; have glbk_c41 := GLbk_41; have glbk_c18 := GLbk_18
        (repeat' (first | (with_reducible first | apply i_seq | apply i_block | apply i_skip | apply i_exit | apply i_ret | apply i_kS | apply i_kSx | apply i_kSr | apply i_kL | apply i_kLx | apply i_kLr | apply i_kB | apply i_kBr | apply i_kBs | apply i_nil) | ((with_reducible apply i_region); (focus (simp only [List.map_cons, List.map_nil] <;> exact rfl))) | ((with_reducible apply i_draw); (focus (simp only [List.map_cons, List.map_nil] <;> exact rfl)); (focus (decide +kernel))) | ((with_reducible apply i_kBo); (focus rfl)) | ((first | ((with_reducible apply i_V); (focus rfl); (focus rfl); (focus rfl)) | ((with_reducible apply i_E); (focus rfl); (focus (first | rfl | (simp only [push_cast, ↓reduceIte, effOk, touch, refsOf, List.flatMap_cons, List.flatMap_nil])))) | ((with_reducible apply i_S); (focus rfl); (focus (first | rfl | (simp only [push_cast, ↓reduceIte, effOk, touch, refsOf, List.flatMap_cons, List.flatMap_nil])))) | ((with_reducible apply i_Vq); (focus rfl); (focus rfl)) | ((with_reducible apply i_Vp); (focus rfl); (focus rfl); (focus rfl))); (focus (simp (disch := (first | omega | (simp only [push_cast]; done) | (simp only [push_cast]; omega) | ((try simp only [push_cast]); (with_reducible first | apply sel_lt | apply sel_ge); (focus decide); (focus (simp only [push_cast]; omega))))) only [push_cast, ↓reduceIte, Nat.reduceEqDiff, Nat.reduceBEq, Nat.reduceAdd, Nat.reduceSub, Int.reduceToNat, *] <;> with_reducible exact rfl))) | ((with_reducible first | apply i_Gb | apply i_cond); (focus (simp (disch := (first | omega | (simp only [push_cast]; done) | (simp only [push_cast]; omega) | ((try simp only [push_cast]); (with_reducible first | apply sel_lt | apply sel_ge); (focus decide); (focus (simp only [push_cast]; omega))))) only [push_cast, ↓reduceIte, Nat.reduceEqDiff, Nat.reduceBEq, Nat.reduceAdd, Nat.reduceSub, Int.reduceToNat, *] <;> with_reducible exact rfl)); all_goals (intro hX; first | (cases hX; done) | ((with_reducible first | have hX0 : true = true := hX | have hX0 : false = false := hX); clear hX0 hX) | ((try simp only [decide_eq_true_eq, decide_eq_false_iff_not, Bool.not_eq_true', Bool.not_eq_false'] at hX); (try have hXb := inB_iff.1 hX)))))); all_goals try (exfalso; omega)
        all_goals (first | (exfalso; omega) | ((first | apply i_end | apply i_endN); simp (disch := (first | omega | (simp only [push_cast]; done) | (simp only [push_cast]; omega) | ((try simp only [push_cast]); (with_reducible first | apply sel_lt | apply sel_ge); (focus decide); (focus (simp only [push_cast]; omega))))) only [push_cast, ↓reduceIte, Nat.reduceEqDiff, Nat.reduceBEq, Nat.reduceAdd, Nat.reduceSub, Int.reduceToNat, *]) | skip)
      | true =>
        have hpa := bookB_pats hB
        have glbk_c38 := GLbk_38; have glbk_c39 := GLbk_39; have glbk_c40 := GLbk_40; have glbk_c41 := GLbk_41; have glbk_c18 := GLbk_18
        (repeat' (first | (with_reducible first | apply i_seq | apply i_block | apply i_skip | apply i_exit | apply i_ret | apply i_kS | apply i_kSx | apply i_kSr | apply i_kL | apply i_kLx | apply i_kLr | apply i_kB | apply i_kBr | apply i_kBs | apply i_nil) | ((with_reducible apply i_region); (focus (simp only [List.map_cons, List.map_nil] <;> exact rfl))) | ((with_reducible apply i_draw); (focus (simp only [List.map_cons, List.map_nil] <;> exact rfl)); (focus (decide +kernel))) | ((with_reducible apply i_kBo); (focus rfl)) | ((first | ((with_reducible apply i_V); (focus rfl); (focus rfl); (focus rfl)) | ((with_reducible apply i_E); (focus rfl); (focus (first | rfl | (simp only [push_cast, ↓reduceIte, effOk, touch, refsOf, List.flatMap_cons, List.flatMap_nil])))) | ((with_reducible apply i_S); (focus rfl); (focus (first | rfl | (simp only [push_cast, ↓reduceIte, effOk, touch, refsOf, List.flatMap_cons, List.flatMap_nil])))) | ((with_reducible apply i_Vq); (focus rfl); (focus rfl)) | ((with_reducible apply i_Vp); (focus rfl); (focus rfl); (focus rfl))); (focus (simp (disch := (first | omega | (simp only [push_cast]; done) | (simp only [push_cast]; omega) | ((try simp only [push_cast]); (with_reducible first | apply sel_lt | apply sel_ge); (focus decide); (focus (simp only [push_cast]; omega))))) only [push_cast, ↓reduceIte, Nat.reduceEqDiff, Nat.reduceBEq, Nat.reduceAdd, Nat.reduceSub, Int.reduceToNat, *] <;> with_reducible exact rfl))) | ((with_reducible first | apply i_Gb | apply i_cond); (focus (simp (disch := (first | omega | (simp only [push_cast]; done) | (simp only [push_cast]; omega) | ((try simp only [push_cast]); (with_reducible first | apply sel_lt | apply sel_ge); (focus decide); (focus (simp only [push_cast]; omega))))) only [push_cast, ↓reduceIte, Nat.reduceEqDiff, Nat.reduceBEq, Nat.reduceAdd, Nat.reduceSub, Int.reduceToNat, *] <;> with_reducible exact rfl)); all_goals (intro hX; first | (cases hX; done) | ((with_reducible first | have hX0 : true = true := hX | have hX0 : false = false := hX); clear hX0 hX) | ((try simp only [decide_eq_true_eq, decide_eq_false_iff_not, Bool.not_eq_true', Bool.not_eq_false'] at hX); (try have hXb := inB_iff.1 hX)))))); all_goals try (exfalso; omega)
        all_goals (first | (exfalso; omega) | ((first | apply i_end | apply i_endN); simp (disch := (first | omega | (simp only [push_cast]; done) | (simp only [push_cast]; omega) | ((try simp only [push_cast]); (with_reducible first | apply sel_lt | apply sel_ge); (focus decide); (focus (simp only [push_cast]; omega))))) only [push_cast, ↓reduceIte, Nat.reduceEqDiff, Nat.reduceBEq, Nat.reduceAdd, Nat.reduceSub, Int.reduceToNat, *]) | skip)
  · have glbk_c38 := GLbk_38; have glbk_c39 := GLbk_39; have glbk_c40 := GLbk_40; have glbk_c41 := GLbk_41; have glbk_c18 := GLbk_18
    repeat' (first | (with_reducible first | apply i_seq | apply i_block | apply i_skip | apply i_exit | apply i_ret | apply i_kS | apply i_kSx | apply i_kSr | apply i_kL | apply i_kLx | apply i_kLr | apply i_kB | apply i_kBr | apply i_kBs | apply i_nil) | ((with_reducible apply i_region); (focus (simp only [List.map_cons, List.map_nil] <;> exact rfl))) | ((with_reducible apply i_draw); (focus (simp only [List.map_cons, List.map_nil] <;> exact rfl)); (focus (decide +kernel))) | ((with_reducible apply i_kBo); (focus rfl)) | ((first | ((with_reducible apply i_V); (focus rfl); (focus rfl); (focus rfl)) | ((with_reducible apply i_E); (focus rfl); (focus (first | rfl | (simp only [push_cast, ↓reduceIte, effOk, touch, refsOf, List.flatMap_cons, List.flatMap_nil])))) | ((with_reducible apply i_S); (focus rfl); (focus (first | rfl | (simp only [push_cast, ↓reduceIte, effOk, touch, refsOf, List.flatMap_cons, List.flatMap_nil])))) | ((with_reducible apply i_Vq); (focus rfl); (focus rfl)) | ((with_reducible apply i_Vp); (focus rfl); (focus rfl); (focus rfl))); (focus (simp (disch := (first | omega | (simp only [push_cast]; done) | (simp only [push_cast]; omega) | ((try simp only [push_cast]); (with_reducible first | apply sel_lt | apply sel_ge); (focus decide); (focus (simp only [push_cast]; omega))))) only [push_cast, ↓reduceIte, Nat.reduceEqDiff, Nat.reduceBEq, Nat.reduceAdd, Nat.reduceSub, Int.reduceToNat, *] <;> with_reducible exact rfl))) | ((with_reducible first | apply i_Gb | apply i_cond); (focus (simp (disch := (first | omega | (simp only [push_cast]; done) | (simp only [push_cast]; omega) | ((try simp only [push_cast]); (with_reducible first | apply sel_lt | apply sel_ge); (focus decide); (focus (simp only [push_cast]; omega))))) only [push_cast, ↓reduceIte, Nat.reduceEqDiff, Nat.reduceBEq, Nat.reduceAdd, Nat.reduceSub, Int.reduceToNat, *] <;> with_reducible exact rfl)); all_goals (intro hX; first | (cases hX; done) | ((with_reducible first | have hX0 : true = true := hX | have hX0 : false = false := hX); clear hX0 hX) | ((try simp only [decide_eq_true_eq, decide_eq_false_iff_not, Bool.not_eq_true', Bool.not_eq_false'] at hX); (try have hXb := inB_iff.1 hX)))))
    all_goals (first | (exfalso; omega) | ((first | apply i_end | apply i_endN); simp (disch := (first | omega | (simp only [push_cast]; done) | (simp only [push_cast]; omega) | ((try simp only [push_cast]); (with_reducible first | apply sel_lt | apply sel_ge); (focus decide); (focus (simp only [push_cast]; omega))))) only [push_cast, ↓reduceIte, Nat.reduceEqDiff, Nat.reduceBEq, Nat.reduceAdd, Nat.reduceSub, Int.reduceToNat, *]) | skip)
end Go.Proofs.Ytenhkmkajmnaaaa
