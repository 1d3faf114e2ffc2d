/- GridOf answers as the reference's. -/
import Derived.Test.YtenldjifipnjpaaPxRep
import Derived.Test.YtenldjifipnjpaaPxPutE
namespace Go.Proofs.Ytenldjifipnjpaa
open Go.RowKit
set_option linter.all false
theorem gOf_lift0 {w h : Int} (hG : gridO w h = false) : liftN ΨGridOf [.val (.int .i64 w), .val (.int .i64 h)] [] = some (.agg [.val (.int .i64 0), .val (.slice none 0 0)], []) := by
  refine (liftN_of (cs := []) (qs := [.val (.int .i64 w), .val (.int .i64 h)]) (cs1 := []) (r := .agg [.val (.int .i64 0), .val (.slice none 0 0)]) (cs0 := []) rfl (ΨGridOf_ap.trans (by unfold gridZ; rw [hG]; rfl)) rfl rfl).trans ?_
  rfl
theorem gOf_row {w h : Int} (hG : gridO w h = true) : ∃ L : List Int, 1 ≤ L.length ∧ L.length ≤ 3600 ∧ liftN ΨGridOf [.val (.int .i64 w), .val (.int .i64 h)] [] = some (.agg [.val (.int .i64 w), .row 0 1 0 L.length], [(5, 1, L.map fun n => .val (.int .u8 n))]) := by
  have har := area_rng hG
  have e := gOf_lift hG
  have hl : (List.replicate (w * h).toNat (32 : Int)).length = (w * h).toNat := List.length_replicate
  refine ⟨List.replicate (w * h).toNat 32, by omega, by omega, ?_⟩
  rw [hl]
  exact e
def φLawGo : Fun := F2 dI dI fun w h => some (bv true)
noncomputable def GLGo : Ctx := ⟨fun f => if f = 9 then some φEqGn else if f = 11 then some φHeldG else none, fun f => if f = 7 then some (liftN ΨGridOf) else if f = 8 then some (liftN ΨGridOf) else if f = 10 then some ΦmarkG else none⟩
theorem GLGo_ok : SoundΓ Try.prog GLGo := ⟨(fun f φ h => by
  unfold GLGo at h
  dsimp only at h
  split at h
  · rename_i hf; cases h; subst hf; exact ⟨⟨_, Try.func9, rfl, rfl⟩, (eqGrid_ok.nilG 1)⟩
  split at h
  · rename_i hf; cases h; subst hf; exact ⟨⟨_, Try.func11, rfl, rfl⟩, heldGrid_ok⟩
  cases h), (fun f φ h => by
  unfold GLGo at h
  dsimp only at h
  split at h
  · rename_i hf; cases h; subst hf; exact ⟨⟨_, Try.func7, rfl, rfl⟩, specGridOfN.lift⟩
  split at h
  · rename_i hf; cases h; subst hf; exact ⟨⟨_, Try.func8, rfl, rfl⟩, implGridOfN.lift⟩
  split at h
  · rename_i hf; cases h; subst hf; exact ⟨⟨_, Try.func10, rfl, rfl⟩, markG_io⟩
  cases h)⟩
theorem GLGo_9 (ob : Objs) (ps : List PV) : evCall GLGo ob 9 ps = (ps.mapM (reify false 0 ob fuel)).bind φEqGn := by
  have h : GLGo.fn 9 = some φEqGn := by simp [GLGo]
  unfold evCall
  rw [h]
  cases ps.mapM (reify false 0 ob fuel) <;> rfl
theorem GLGo_11 (ob : Objs) (ps : List PV) : evCall GLGo ob 11 ps = (ps.mapM (reify false 0 ob fuel)).bind φHeldG := by
  have h : GLGo.fn 11 = some φHeldG := by simp [GLGo]
  unfold evCall
  rw [h]
  cases ps.mapM (reify false 0 ob fuel) <;> rfl
theorem GLGo_7 : GLGo.io 7 = some (liftN ΨGridOf) := by simp [GLGo]
theorem GLGo_8 : GLGo.io 8 = some (liftN ΨGridOf) := by simp [GLGo]
theorem GLGo_10 : GLGo.io 10 = some ΦmarkG := by simp [GLGo]
set_option maxHeartbeats 16000000 in
theorem lawGo_ok : Sound Try.prog 3 φLawGo := by
  refine sound_pq mixed GLGo_ok Try.func3 rfl 46 rfl [.tmp 4] rfl (by kernel_rfl) fun ps r hr => ?_
  obtain ⟨w, h, rfl, hq⟩ := F2_some hr
  clear hr
  cases hq
  refine ⟨by simp, ?_⟩
  simp only [dIs, dUs, dSs, dI_e, dU_e, dB_e, dS_e, dFn_e, dL_e, dA2_e, dA3_e, dA4_e, dA5_e]
  cases hG : gridO w h with
  | false =>
    have ap1 := gOf_lift0 hG
    have ap7 := φEqGn_nil
    have ap8 := markG_nil 0 1
    have ap9 := φHeldG_nil (wd := 0)
    clear hG
    have glgo_c7 := GLGo_7; have glgo_c8 := GLGo_8; have glgo_c9 := GLGo_9; have glgo_c10 := GLGo_10; have glgo_c11 := GLGo_11
    (repeat' (first | (with_reducible first | apply i_seq | apply i_block | apply i_skip | apply i_exit | apply i_ret | apply i_kS | apply i_kSx | apply i_kSr | apply i_kL | apply i_kLx | apply i_kLr | apply i_kB | apply i_kBr | apply i_kBs | apply i_nil) | ((with_reducible apply i_region); (focus (simp only [List.map_cons, List.map_nil] <;> exact rfl))) | ((with_reducible apply i_draw); (focus (simp only [List.map_cons, List.map_nil] <;> exact rfl)); (focus (decide +kernel))) | ((with_reducible apply i_kBo); (focus rfl)) | ((first | ((with_reducible apply i_V); (focus rfl); (focus rfl); (focus rfl)) | ((with_reducible apply i_E); (focus rfl); (focus (first | rfl | (simp only [push_cast, ↓reduceIte, effOk, touch, refsOf, List.flatMap_cons, List.flatMap_nil])))) | ((with_reducible apply i_S); (focus rfl); (focus (first | rfl | (simp only [push_cast, ↓reduceIte, effOk, touch, refsOf, List.flatMap_cons, List.flatMap_nil])))) | ((with_reducible apply i_Vq); (focus rfl); (focus rfl)) | ((with_reducible apply i_Vp); (focus rfl); (focus rfl); (focus rfl))); (focus (simp (disch := (first | omega | (simp only [push_cast]; done) | (simp only [push_cast]; omega) | ((try simp only [push_cast]); (with_reducible first | apply sel_lt | apply sel_ge); (focus decide); (focus (simp only [push_cast]; omega))))) only [push_cast, ↓reduceIte, Nat.reduceEqDiff, Nat.reduceBEq, Nat.reduceAdd, Nat.reduceSub, Int.reduceToNat, *] <;> with_reducible exact rfl))) | ((with_reducible first | apply i_Gb | apply i_cond); (focus (simp (disch := (first | omega | (simp only [push_cast]; done) | (simp only [push_cast]; omega) | ((try simp only [push_cast]); (with_reducible first | apply sel_lt | apply sel_ge); (focus decide); (focus (simp only [push_cast]; omega))))) only [push_cast, ↓reduceIte, Nat.reduceEqDiff, Nat.reduceBEq, Nat.reduceAdd, Nat.reduceSub, Int.reduceToNat, *] <;> with_reducible exact rfl)); all_goals (intro hX; first | (cases hX; done) | ((with_reducible first | have hX0 : true = true := hX | have hX0 : false = false := hX); clear hX0 hX) | ((try simp only [decide_eq_true_eq, decide_eq_false_iff_not, Bool.not_eq_true', Bool.not_eq_false'] at hX); (try have hXb := inB_iff.1 hX)))))); all_goals try (exfalso; omega)
    all_goals (first | (exfalso; omega) | ((first | apply i_end | apply i_endN); simp (disch := (first | omega | (simp only [push_cast]; done) | (simp only [push_cast]; omega) | ((try simp only [push_cast]); (with_reducible first | apply sel_lt | apply sel_ge); (focus decide); (focus (simp only [push_cast]; omega))))) only [push_cast, ↓reduceIte, Nat.reduceEqDiff, Nat.reduceBEq, Nat.reduceAdd, Nat.reduceSub, Int.reduceToNat, *]) | skip)
  | true =>
    obtain ⟨L, h1, h2, ap1⟩ := gOf_row hG
    have ap7 := φEqGn_ap (wd := w) (wd' := w) (zs := L) (zs' := L) (by omega) (by omega)
    have ap8 := markG_row (wd := w) (l := L) (k := 1) (by omega) (by omega) (by omega)
    have ap9 := φHeldG_row (wd := w) (k := 1) (n := L.length) (by omega) (by omega) (by omega)
    have hml := marksU_length 1 L.length
    clear hG
    have glgo_c7 := GLGo_7; have glgo_c8 := GLGo_8; have glgo_c9 := GLGo_9; have glgo_c10 := GLGo_10; have glgo_c11 := GLGo_11
    (repeat' (first | (with_reducible first | apply i_seq | apply i_block | apply i_skip | apply i_exit | apply i_ret | apply i_kS | apply i_kSx | apply i_kSr | apply i_kL | apply i_kLx | apply i_kLr | apply i_kB | apply i_kBr | apply i_kBs | apply i_nil) | ((with_reducible apply i_region); (focus (simp only [List.map_cons, List.map_nil] <;> exact rfl))) | ((with_reducible apply i_draw); (focus (simp only [List.map_cons, List.map_nil] <;> exact rfl)); (focus (decide +kernel))) | ((with_reducible apply i_kBo); (focus rfl)) | ((first | ((with_reducible apply i_V); (focus rfl); (focus rfl); (focus rfl)) | ((with_reducible apply i_E); (focus rfl); (focus (first | rfl | (simp only [push_cast, ↓reduceIte, effOk, touch, refsOf, List.flatMap_cons, List.flatMap_nil])))) | ((with_reducible apply i_S); (focus rfl); (focus (first | rfl | (simp only [push_cast, ↓reduceIte, effOk, touch, refsOf, List.flatMap_cons, List.flatMap_nil])))) | ((with_reducible apply i_Vq); (focus rfl); (focus rfl)) | ((with_reducible apply i_Vp); (focus rfl); (focus rfl); (focus rfl))); (focus (simp (disch := (first | omega | (simp only [push_cast]; done) | (simp only [push_cast]; omega) | ((try simp only [push_cast]); (with_reducible first | apply sel_lt | apply sel_ge); (focus decide); (focus (simp only [push_cast]; omega))))) only [push_cast, ↓reduceIte, Nat.reduceEqDiff, Nat.reduceBEq, Nat.reduceAdd, Nat.reduceSub, Int.reduceToNat, *] <;> with_reducible exact rfl))) | ((with_reducible first | apply i_Gb | apply i_cond); (focus (simp (disch := (first | omega | (simp only [push_cast]; done) | (simp only [push_cast]; omega) | ((try simp only [push_cast]); (with_reducible first | apply sel_lt | apply sel_ge); (focus decide); (focus (simp only [push_cast]; omega))))) only [push_cast, ↓reduceIte, Nat.reduceEqDiff, Nat.reduceBEq, Nat.reduceAdd, Nat.reduceSub, Int.reduceToNat, *] <;> with_reducible exact rfl)); all_goals (intro hX; first | (cases hX; done) | ((with_reducible first | have hX0 : true = true := hX | have hX0 : false = false := hX); clear hX0 hX) | ((try simp only [decide_eq_true_eq, decide_eq_false_iff_not, Bool.not_eq_true', Bool.not_eq_false'] at hX); (try have hXb := inB_iff.1 hX)))))); all_goals try (exfalso; omega)
    all_goals (first | (exfalso; omega) | ((first | apply i_end | apply i_endN); simp (disch := (first | omega | (simp only [push_cast]; done) | (simp only [push_cast]; omega) | ((try simp only [push_cast]); (with_reducible first | apply sel_lt | apply sel_ge); (focus decide); (focus (simp only [push_cast]; omega))))) only [push_cast, ↓reduceIte, Nat.reduceEqDiff, Nat.reduceBEq, Nat.reduceAdd, Nat.reduceSub, Int.reduceToNat, *]) | skip)
end Go.Proofs.Ytenldjifipnjpaa
