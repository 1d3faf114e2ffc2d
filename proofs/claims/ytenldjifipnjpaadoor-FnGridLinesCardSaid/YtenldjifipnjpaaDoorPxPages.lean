/- Lists of pages, drawn and looked at. -/
import Derived.Test.YtenldjifipnjpaaDoorPxRd
import Derived.Test.YtenldjifipnjpaaDoorPxIndex
namespace Go.Proofs.YtenldjifipnjpaaDoor
open Go.RowKit
set_option linter.all false
theorem pagesB_no {zs : List Int} {k : Nat} (h : k < zs.length) (hb : okPage zs k = false) : pagesB zs = false := by
  unfold pagesB
  rw [okPages_mono h hb]
  rfl
theorem pagesB_yes {zs : List Int} (h : okPages zs zs.length = true) : pagesB zs = decide ((zs.length : Int) ≤ 30) := by
  unfold pagesB
  rw [h, Bool.true_and]
  exact decide_eq_decide.2 (by omega)
theorem pagesB_iff {zs : List Int} : pagesB zs = true ↔ (∀ i, i < zs.length → (1 ≤ zs[i]?.getD 0 ∧ zs[i]?.getD 0 ≤ 999) ∧ (0 < i → zs[i - 1]?.getD 0 < zs[i]?.getD 0)) ∧ zs.length ≤ 30 := by
  unfold pagesB okPages
  simp only [Bool.and_eq_true, List.all_eq_true, List.mem_range, decide_eq_true_eq]
  refine and_congr_left fun _ => forall_congr' fun i => imp_congr_right fun _ => ?_
  simp only [okPage, Bool.and_eq_true, inB_iff, Bool.or_eq_true, beq_iff_eq, decide_eq_true_eq]
  refine and_congr_right fun _ => ?_
  constructor
  · rintro (h | h) h0
    · omega
    · exact h
  · intro h
    by_cases h0 : i = 0
    · exact .inl h0
    · exact .inr (h (by omega))
theorem pagesB_part {l : List Int} (h : pagesB l = true) {a b : Nat} : pagesB ((l.drop a).take b) = true := by
  rw [pagesB_iff] at h ⊢
  obtain ⟨h1, h2⟩ := h
  refine ⟨fun i hi => ?_, by simp; omega⟩
  simp only [List.length_take, List.length_drop] at hi
  have e : ∀ j, j < b → ((l.drop a).take b)[j]? = l[a + j]? := fun j hj => by rw [List.getElem?_take, if_pos hj, List.getElem?_drop]
  have := h1 (a + i) (by omega)
  rw [e i (by omega)]
  refine ⟨this.1, fun h0 => ?_⟩
  rw [e (i - 1) (by omega), show a + (i - 1) = a + i - 1 by omega]
  exact this.2 (by omega)
theorem pagesB_twice {l : List Int} (h : l ≠ []) : pagesB (l ++ [l[l.length - 1]?.getD 0]) = false := by
  rw [Bool.eq_false_iff]
  intro h1
  rw [pagesB_iff] at h1
  have hp : 0 < l.length := List.length_pos_iff.2 h
  have := (h1.1 l.length (by simp)).2 hp
  rw [List.getElem?_append_left (by omega), List.getElem?_append_right (Nat.le_refl _)] at this
  simp at this
def φPagesV : Fun := F1 dIs fun zs => if zs.length ≤ 1099511627776 then some (bv (pagesB zs)) else none
theorem φPagesV_ap {zs : List Int} (h : zs.length ≤ 1099511627776) : φPagesV [.lst false 1 (zs.map fun n => .val (.int .i64 n))] = some (.val (.bool (pagesB zs))) :=
  (F1_ap (A := dIs) zs).trans (if_pos h)
def glueB (g : I4) : Bool := inB g.1 0 1000 && inB g.2.1 0 1000 && inB g.2.2.1 0 g.1 && inB g.2.2.2 0 1
def φGlueV : Fun := F1 dI4 fun g => some (bv (glueB g))
theorem φGlueV_ap {a b c d : Int} : φGlueV [.agg [.val (.int .i64 a), .val (.int .i64 b), .val (.int .i64 c), .val (.int .i64 d)]] = some (.val (.bool (glueB (a, b, c, d)))) := F1_ap (A := dI4) (a, b, c, d)
noncomputable def GGl : Ctx := ⟨fun f => if f = 65 then some φIn else none, fun f => none⟩
theorem GGl_ok : SoundΓ Tryd.prog GGl := ⟨(fun f φ h => by
  unfold GGl at h
  dsimp only at h
  split at h
  · rename_i hf; cases h; subst hf; exact ⟨⟨_, Tryd.func65, rfl, rfl⟩, in_ok⟩
  cases h), (fun f φ h => by
  unfold GGl at h
  dsimp only at h
  cases h)⟩
theorem GGl_65 (ob : Objs) (ps : List PV) : evCall GGl ob 65 ps = (ps.mapM (reify false 0 ob fuel)).bind φIn := by
  have h : GGl.fn 65 = some φIn := by simp [GGl]
  unfold evCall
  rw [h]
  cases ps.mapM (reify false 0 ob fuel) <;> rfl
set_option maxHeartbeats 4000000 in
theorem implGlueV_ok : Sound Tryd.prog 59 φGlueV := by
  refine sound_pq mixed GGl_ok Tryd.func59 rfl 23 rfl [.tmp 2] rfl (by kernel_rfl) fun ps r hr => ?_
  obtain ⟨⟨a, b, c, d⟩, rfl, hr⟩ := F1_some hr
  cases hr
  refine ⟨by simp, ?_⟩
  simp only [dIs, dUs, dSs, dI_e, dU_e, dB_e, dS_e, dFn_e, dL_e, dA2_e, dA3_e, dA4_e, dA5_e]
  have ggl_c65 := GGl_65; have ap := φIn_ap
  repeat' (first | (with_reducible first | apply i_seq | apply i_block | apply i_skip | apply i_exit | apply i_ret | apply i_kS | apply i_kSx | apply i_kSr | apply i_kL | apply i_kLx | apply i_kLr | apply i_kB | apply i_kBr | apply i_kBs | apply i_nil) | ((with_reducible apply i_region); (focus (simp only [List.map_cons, List.map_nil] <;> exact rfl))) | ((with_reducible apply i_draw); (focus (simp only [List.map_cons, List.map_nil] <;> exact rfl)); (focus (decide +kernel))) | ((with_reducible apply i_kBo); (focus rfl)) | ((first | ((with_reducible apply i_V); (focus rfl); (focus rfl); (focus rfl)) | ((with_reducible apply i_E); (focus rfl); (focus (first | rfl | (simp only [push_cast, ↓reduceIte, effOk, touch, refsOf, List.flatMap_cons, List.flatMap_nil])))) | ((with_reducible apply i_S); (focus rfl); (focus (first | rfl | (simp only [push_cast, ↓reduceIte, effOk, touch, refsOf, List.flatMap_cons, List.flatMap_nil])))) | ((with_reducible apply i_Vq); (focus rfl); (focus rfl)) | ((with_reducible apply i_Vp); (focus rfl); (focus rfl); (focus rfl))); (focus (simp (disch := (first | omega | (simp only [push_cast]; done) | (simp only [push_cast]; omega) | ((try simp only [push_cast]); (with_reducible first | apply sel_lt | apply sel_ge); (focus decide); (focus (simp only [push_cast]; omega))))) only [push_cast, ↓reduceIte, Nat.reduceEqDiff, Nat.reduceBEq, Nat.reduceAdd, Nat.reduceSub, Int.reduceToNat, *] <;> with_reducible exact rfl))) | ((with_reducible first | apply i_Gb | apply i_cond); (focus (simp (disch := (first | omega | (simp only [push_cast]; done) | (simp only [push_cast]; omega) | ((try simp only [push_cast]); (with_reducible first | apply sel_lt | apply sel_ge); (focus decide); (focus (simp only [push_cast]; omega))))) only [push_cast, ↓reduceIte, Nat.reduceEqDiff, Nat.reduceBEq, Nat.reduceAdd, Nat.reduceSub, Int.reduceToNat, *] <;> with_reducible exact rfl)); all_goals (intro hX; first | (cases hX; done) | ((with_reducible first | have hX0 : true = true := hX | have hX0 : false = false := hX); clear hX0 hX) | ((try simp only [decide_eq_true_eq, decide_eq_false_iff_not, Bool.not_eq_true', Bool.not_eq_false'] at hX); (try have hXb := inB_iff.1 hX)))))
  all_goals ((first | apply i_end | apply i_endN); simp (disch := (first | omega | (simp only [push_cast]; done) | (simp only [push_cast]; omega) | ((try simp only [push_cast]); (with_reducible first | apply sel_lt | apply sel_ge); (focus decide); (focus (simp only [push_cast]; omega))))) only [push_cast, ↓reduceIte, Nat.reduceEqDiff, Nat.reduceBEq, Nat.reduceAdd, Nat.reduceSub, Int.reduceToNat, *])
  all_goals simp_all [glueB]
noncomputable def GAl : Ctx := ⟨fun f => if f = 59 then some φGlueV else none, fun f => none⟩
theorem GAl_ok : SoundΓ Tryd.prog GAl := ⟨(fun f φ h => by
  unfold GAl at h
  dsimp only at h
  split at h
  · rename_i hf; cases h; subst hf; exact ⟨⟨_, Tryd.func59, rfl, rfl⟩, implGlueV_ok⟩
  cases h), (fun f φ h => by
  unfold GAl at h
  dsimp only at h
  cases h)⟩
theorem GAl_59 (ob : Objs) (ps : List PV) : evCall GAl ob 59 ps = (ps.mapM (reify false 0 ob fuel)).bind φGlueV := by
  have h : GAl.fn 59 = some φGlueV := by simp [GAl]
  unfold evCall
  rw [h]
  cases ps.mapM (reify false 0 ob fuel) <;> rfl
def φTrue : Fun := F0 (some (bv true))
theorem φTrue_ap : φTrue [] = some (.val (.bool true)) := rfl
theorem alive_ok : Sound Tryd.prog 28 φTrue := by
  refine sound_pq mixed GAl_ok Tryd.func28 rfl 3 rfl [.tmp 0] rfl (by kernel_rfl) fun ps r hr => ?_
  obtain ⟨rfl, hr⟩ := F0_some hr
  cases hr
  refine ⟨by simp, ?_⟩
  have gal_c59 := GAl_59; have ap := @φGlueV_ap
  have e : glueB (4, 0, 0, 0) = true := rfl
  repeat' (first | (with_reducible first | apply i_seq | apply i_block | apply i_skip | apply i_exit | apply i_ret | apply i_kS | apply i_kSx | apply i_kSr | apply i_kL | apply i_kLx | apply i_kLr | apply i_kB | apply i_kBr | apply i_kBs | apply i_nil) | ((with_reducible apply i_region); (focus (simp only [List.map_cons, List.map_nil] <;> exact rfl))) | ((with_reducible apply i_draw); (focus (simp only [List.map_cons, List.map_nil] <;> exact rfl)); (focus (decide +kernel))) | ((with_reducible apply i_kBo); (focus rfl)) | ((first | ((with_reducible apply i_V); (focus rfl); (focus rfl); (focus rfl)) | ((with_reducible apply i_E); (focus rfl); (focus (first | rfl | (simp only [push_cast, ↓reduceIte, effOk, touch, refsOf, List.flatMap_cons, List.flatMap_nil])))) | ((with_reducible apply i_S); (focus rfl); (focus (first | rfl | (simp only [push_cast, ↓reduceIte, effOk, touch, refsOf, List.flatMap_cons, List.flatMap_nil])))) | ((with_reducible apply i_Vq); (focus rfl); (focus rfl)) | ((with_reducible apply i_Vp); (focus rfl); (focus rfl); (focus rfl))); (focus (simp (disch := (first | omega | (simp only [push_cast]; done) | (simp only [push_cast]; omega) | ((try simp only [push_cast]); (with_reducible first | apply sel_lt | apply sel_ge); (focus decide); (focus (simp only [push_cast]; omega))))) only [push_cast, ↓reduceIte, Nat.reduceEqDiff, Nat.reduceBEq, Nat.reduceAdd, Nat.reduceSub, Int.reduceToNat, *] <;> with_reducible exact rfl))) | ((with_reducible first | apply i_Gb | apply i_cond); (focus (simp (disch := (first | omega | (simp only [push_cast]; done) | (simp only [push_cast]; omega) | ((try simp only [push_cast]); (with_reducible first | apply sel_lt | apply sel_ge); (focus decide); (focus (simp only [push_cast]; omega))))) only [push_cast, ↓reduceIte, Nat.reduceEqDiff, Nat.reduceBEq, Nat.reduceAdd, Nat.reduceSub, Int.reduceToNat, *] <;> with_reducible exact rfl)); all_goals (intro hX; first | (cases hX; done) | ((with_reducible first | have hX0 : true = true := hX | have hX0 : false = false := hX); clear hX0 hX) | ((try simp only [decide_eq_true_eq, decide_eq_false_iff_not, Bool.not_eq_true', Bool.not_eq_false'] at hX); (try have hXb := inB_iff.1 hX)))))
  all_goals ((first | apply i_end | apply i_endN); simp (disch := (first | omega | (simp only [push_cast]; done) | (simp only [push_cast]; omega) | ((try simp only [push_cast]); (with_reducible first | apply sel_lt | apply sel_ge); (focus decide); (focus (simp only [push_cast]; omega))))) only [push_cast, ↓reduceIte, Nat.reduceEqDiff, Nat.reduceBEq, Nat.reduceAdd, Nat.reduceSub, Int.reduceToNat, *])
noncomputable def GRd : Ctx := ⟨fun f => none, fun f => if f = 55 then some Φpick else if f = 91 then some Φodd else none⟩
theorem GRd_ok : SoundΓ Tryd.prog GRd := ⟨(fun f φ h => by
  unfold GRd at h
  dsimp only at h
  cases h), (fun f φ h => by
  unfold GRd at h
  dsimp only at h
  split at h
  · rename_i hf; cases h; subst hf; exact ⟨⟨_, Tryd.func55, rfl, rfl⟩, pick_io⟩
  split at h
  · rename_i hf; cases h; subst hf; exact ⟨⟨_, Tryd.func91, rfl, rfl⟩, odd_io⟩
  cases h)⟩
theorem GRd_55 : GRd.io 55 = some Φpick := by simp [GRd]
theorem GRd_91 : GRd.io 91 = some Φodd := by simp [GRd]
end Go.Proofs.YtenldjifipnjpaaDoor
