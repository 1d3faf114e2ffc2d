/- What the proof rests on, part 5: contracts of functions. No condition beyond what each states. -/
import Derived.Test.YtpggpdbipajchaaDoorZPgD4
namespace Go.Proofs.YtpggpdbipajchaaDoor
open Go.RowKit
set_option linter.all false
theorem tdiv2 {x : Int} (h : -60 ≤ x) (h2 : x ≤ 60) : -60 ≤ x.tdiv 2 ∧ x.tdiv 2 ≤ 60 := by
  by_cases h0 : 0 ≤ x
  · rw [Int.tdiv_eq_ediv_of_nonneg h0]; omega
  · rw [show x = -(-x) by omega, Int.neg_tdiv, Int.tdiv_eq_ediv_of_nonneg (by omega)]; omega
def pgZI (l : LS) (wd ht page : Int) : PV × List CellIO := match pgR l wd ht page with
  | some g => (.tup [.agg [.val (.int .i64 wd), .row 0 1 0 g.length], .val (.bool true)], [(5, 1, g.map fun n => .val (.int .u8 n))])
  | none => (.tup [.agg [.val (.int .i64 0), .val (.slice none 0 0)], .val (.bool false)], [])
noncomputable def ΨPg : FunN := G4 dSs dI dI dI fun l wd ht page => if okSs l ∧ okI wd ∧ okI ht ∧ okI page then some (pgZI l wd ht page) else none
theorem gOf_rowI {w h : Int} (hG : gridO w h = true) : liftN ΨGridOf [.val (.int .i64 w), .val (.int .i64 h)] [] = some (.agg [.val (.int .i64 w), .row 0 1 0 (List.replicate (w * h).toNat (32 : Int)).length], [(5, 1, (List.replicate (w * h).toNat (32 : Int)).map fun n => .val (.int .u8 n))]) := by
  rw [List.length_replicate]
  exact gOf_lift hG
noncomputable def GPgI : Ctx := ⟨fun f => if f = 51 then some φSide else if f = 52 then some φPage else if f = 55 then some φItoa else none, fun f => if f = 53 then some (liftN ΨGridOf) else if f = 54 then some (liftN ΨPut) else none⟩
theorem GPgI_ok : SoundΓ Tryd.prog GPgI := ⟨(fun f φ h => by
  unfold GPgI at h
  dsimp only at h
  split at h
  · rename_i hf; cases h; subst hf; exact ⟨⟨_, Tryd.func51, rfl, rfl⟩, isSide_ok⟩
  split at h
  · rename_i hf; cases h; subst hf; exact ⟨⟨_, Tryd.func52, rfl, rfl⟩, isPage_ok⟩
  split at h
  · rename_i hf; cases h; subst hf; exact ⟨⟨_, Tryd.func55, rfl, rfl⟩, itoa_ok⟩
  cases h), (fun f φ h => by
  unfold GPgI at h
  dsimp only at h
  split at h
  · rename_i hf; cases h; subst hf; exact ⟨⟨_, Tryd.func53, rfl, rfl⟩, implGridOfN.lift⟩
  split at h
  · rename_i hf; cases h; subst hf; exact ⟨⟨_, Tryd.func54, rfl, rfl⟩, implPutN.lift⟩
  cases h)⟩
theorem GPgI_51 (ob : Objs) (ps : List PV) : evCall GPgI ob 51 ps = (ps.mapM (reify false 0 ob fuel)).bind φSide := by
  have h : GPgI.fn 51 = some φSide := by simp [GPgI]
  unfold evCall
  rw [h]
  cases ps.mapM (reify false 0 ob fuel) <;> rfl
theorem GPgI_52 (ob : Objs) (ps : List PV) : evCall GPgI ob 52 ps = (ps.mapM (reify false 0 ob fuel)).bind φPage := by
  have h : GPgI.fn 52 = some φPage := by simp [GPgI]
  unfold evCall
  rw [h]
  cases ps.mapM (reify false 0 ob fuel) <;> rfl
theorem GPgI_55 (ob : Objs) (ps : List PV) : evCall GPgI ob 55 ps = (ps.mapM (reify false 0 ob fuel)).bind φItoa := by
  have h : GPgI.fn 55 = some φItoa := by simp [GPgI]
  unfold evCall
  rw [h]
  cases ps.mapM (reify false 0 ob fuel) <;> rfl
theorem GPgI_53 : GPgI.io 53 = some (liftN ΨGridOf) := by simp [GPgI]
theorem GPgI_54 : GPgI.io 54 = some (liftN ΨPut) := by simp [GPgI]
set_option maxHeartbeats 16000000 in
theorem implPgN : SoundN Tryd.prog 14 ΨPg := by
  refine sound_pqN mixed GPgI_ok Tryd.func14 rfl 82 rfl [.cell 8 26, .tmp 9] rfl (by kernel_rfl) fun ps r cs' hr => ?_
  obtain ⟨l, wd, ht, page, rfl, hq⟩ := G4_some hr
  clear hr
  split at hq
  case isFalse => cases hq
  case isTrue hpre =>
  have hz : pgZI l wd ht page = (r, cs') := by simpa using hq
  clear hq
  refine ⟨by simp, ?_⟩
  simp only [dIs, dUs, dSs, dI_e, dU_e, dB_e, dS_e, dFn_e, dL_e, dA2_e, dA3_e, dA4_e, dA5_e]
  obtain ⟨hok, ho1, ho2, ho3⟩ := hpre
  have hlen := hok.1
  have hsz := hok.2
  have aps := φSide_ap
  have app := φPage_ap
  by_cases hA : pgA l.length wd ht page = true
  · obtain ⟨hO, hA1, hA2⟩ := pgA_iff.1 hA
    obtain ⟨hw, hh⟩ := gridO_iff.1 hO
    have hwi := inB_iff.2 hw
    have hhi := inB_iff.2 hh
    have hpb := inB_iff.1 hA2
    have har := area_rng hO
    have hG0 := gridB_sp hO
    have ap1 := gOf_rowI hO
    have ap4 := φItoa_ap (n := page) ho3
    have his := itoaS_size (n := page) (by omega) (by omega)
    unfold pgZI pgR at hz
    rw [if_pos hA] at hz
    replace hz := Lib.hid hz
    have hgl0 : (List.replicate (wd * ht).toNat (32 : Int)).length = (wd * ht).toNat := List.length_replicate
    generalize hg0 : List.replicate (wd * ht).toNat (32 : Int) = g0 at *
    replace hG0 := Lib.hid hG0
    clear hO hok hA hg0
    have gpgi_c51 := GPgI_51; have gpgi_c52 := GPgI_52; have gpgi_c53 := GPgI_53; have gpgi_c54 := GPgI_54; have gpgi_c55 := GPgI_55
    (repeat' (first | (with_reducible first | apply i_seq | apply i_block | apply i_skip | apply i_exit | apply i_ret | apply i_kS | apply i_kSx | apply i_kSr | apply i_kL | apply i_kLx | apply i_kLr | apply i_kB | apply i_kBr | apply i_kBs | apply i_nil) | ((with_reducible apply i_region); (focus (simp only [List.map_cons, List.map_nil] <;> exact rfl))) | ((with_reducible apply i_draw); (focus (simp only [List.map_cons, List.map_nil] <;> exact rfl)); (focus (decide +kernel))) | ((with_reducible apply i_kBo); (focus rfl)) | ((first | ((with_reducible apply i_V); (focus rfl); (focus rfl); (focus rfl)) | ((with_reducible apply i_E); (focus rfl); (focus (first | rfl | (simp only [push_cast, ↓reduceIte, effOk, touch, refsOf, List.flatMap_cons, List.flatMap_nil])))) | ((with_reducible apply i_S); (focus rfl); (focus (first | rfl | (simp only [push_cast, ↓reduceIte, effOk, touch, refsOf, List.flatMap_cons, List.flatMap_nil])))) | ((with_reducible apply i_Vq); (focus rfl); (focus rfl)) | ((with_reducible apply i_Vp); (focus rfl); (focus rfl); (focus rfl)) | (with_reducible first | apply i_Gb | apply i_cond)); (focus (simp (disch := (first | omega | (simp only [push_cast]; done) | (simp only [push_cast]; omega) | ((try simp only [push_cast]); (with_reducible first | apply sel_lt | apply sel_ge); (focus decide); (focus (simp only [push_cast]; omega))))) only [push_cast, ↓reduceIte, Nat.reduceEqDiff, Nat.reduceBEq, Nat.reduceAdd, Nat.reduceSub, Int.reduceToNat, *] <;> with_reducible exact rfl)); all_goals try (intro hX; first | (cases hX; done) | ((with_reducible first | have hX0 : true = true := hX | have hX0 : false = false := hX); clear hX0 hX) | ((try simp only [decide_eq_true_eq, decide_eq_false_iff_not, Bool.not_eq_true', Bool.not_eq_false'] at hX); (try have hXb := inB_iff.1 hX)))))); all_goals try (exfalso; omega)
    refine i_loop (α := Nat × List Int × Nat × Nat) mixed (fun s => [(1, iv wd), (2, iv ht), (3, iv page), (8, .own 0 2 0 0), (10, .own 2 2 0 0), (39, .lst false 1 (l.map fun s => .val (.string s))), (40, iv l.length), (41, iv s.1)])
      (fun s => [(0, 26, 2, [PV.agg [.val (.int .i64 0), .val (.slice none 0 0)]]), (s.2.2.1, 5, 1, s.2.1.map fun n => .val (.int .u8 n)), (2, 26, 2, [PV.agg [.val (.int .i64 wd), .row s.2.2.1 1 0 s.2.1.length]])]) (fun s => s.2.2.2)
      (fun s => s.1 ≤ l.length ∧ gridB wd s.2.1 = true ∧ s.2.1.length = (wd * ht).toNat ∧ pgF wd s.2.1 s.1 (l.drop s.1) = pgF wd g0 0 l ∧ (s.2.2.1 = 1 ∨ 2 < s.2.2.1) ∧ s.2.2.1 < s.2.2.2 ∧ 2 < s.2.2.2) (fun s => l.length - s.1) (by kernel_rfl) (0, g0, 1, 3) ⟨Nat.zero_le _, hG0.out, hgl0, by rw [List.drop_zero], .inl rfl, by simp, by simp⟩ ?_ ?_ rfl ?_
    · simp (disch := (first | omega | (simp only [push_cast]; done) | (simp only [push_cast]; omega) | ((try simp only [push_cast]); (with_reducible first | apply sel_lt | apply sel_ge); (focus decide); (focus (simp only [push_cast]; omega))))) only [push_cast, ↓reduceIte, Nat.reduceEqDiff, Nat.reduceBEq, Nat.reduceAdd, Nat.reduceSub, Int.reduceToNat, List.length_append, *]
    · simp (disch := (first | omega | (simp only [push_cast]; done) | (simp only [push_cast]; omega) | ((try simp only [push_cast]); (with_reducible first | apply sel_lt | apply sel_ge); (focus decide); (focus (simp only [push_cast]; omega))))) only [push_cast, ↓reduceIte, Nat.reduceEqDiff, Nat.reduceBEq, Nat.reduceAdd, Nat.reduceSub, Int.reduceToNat, List.length_append, *]
    rintro ⟨k, g, x, y⟩ ⟨hk, hG, hgl, hF, hx, hxy, hy⟩
    dsimp only at hk hG hgl hF hx hxy hy
    have hU := gridB_okU hG
    replace hgl := Lib.hid hgl
    by_cases hkl : k < l.length
    · have ap5 := put_lift (wd := wd) (col := 0) (row := k) (l := g) (s := l[k]?.getD .empty) ⟨hU, by have := hsz k; omega⟩ hG
      have hst := pgF_step (wd := wd) (g := g) hkl
      cases hp : (putPre wd g 0 k (l[k]?.getD .empty) && prB (l[k]?.getD .empty)) with
      | true =>
        obtain ⟨hG2, hl2⟩ := put_keeps hG hp
        unfold putR at ap5
        rw [hp, if_pos rfl, ← hl2] at ap5
        rw [hp, if_pos rfl, hF] at hst
        rw [hl2] at ap5
        replace hG2 := Lib.hid hG2
        replace hl2 := Lib.hid hl2
        replace hst := Lib.hid hst
        clear hp hF hG hU hsz
        (repeat' (first | (with_reducible first | apply i_seq | apply i_block | apply i_skip | apply i_exit | apply i_ret | apply i_kS | apply i_kSx | apply i_kSr | apply i_kL | apply i_kLx | apply i_kLr | apply i_kB | apply i_kBr | apply i_kBs | apply i_nil) | ((with_reducible apply i_region); (focus (simp only [List.map_cons, List.map_nil] <;> exact rfl))) | ((with_reducible apply i_draw); (focus (simp only [List.map_cons, List.map_nil] <;> exact rfl)); (focus (decide +kernel))) | ((with_reducible apply i_kBo); (focus rfl)) | ((first | ((with_reducible apply i_V); (focus rfl); (focus rfl); (focus rfl)) | ((with_reducible apply i_E); (focus rfl); (focus (first | rfl | (simp only [push_cast, ↓reduceIte, effOk, touch, refsOf, List.flatMap_cons, List.flatMap_nil])))) | ((with_reducible apply i_S); (focus rfl); (focus (first | rfl | (simp only [push_cast, ↓reduceIte, effOk, touch, refsOf, List.flatMap_cons, List.flatMap_nil])))) | ((with_reducible apply i_Vq); (focus rfl); (focus rfl)) | ((with_reducible apply i_Vp); (focus rfl); (focus rfl); (focus rfl)) | (with_reducible first | apply i_Gb | apply i_cond)); (focus (simp (disch := (first | omega | (simp only [push_cast]; done) | (simp only [push_cast]; omega) | ((try simp only [push_cast]); (with_reducible first | apply sel_lt | apply sel_ge); (focus decide); (focus (simp only [push_cast]; omega))))) only [push_cast, ↓reduceIte, Nat.reduceEqDiff, Nat.reduceBEq, Nat.reduceAdd, Nat.reduceSub, Int.reduceToNat, *] <;> with_reducible exact rfl)); all_goals try (intro hX; first | (cases hX; done) | ((with_reducible first | have hX0 : true = true := hX | have hX0 : false = false := hX); clear hX0 hX) | ((try simp only [decide_eq_true_eq, decide_eq_false_iff_not, Bool.not_eq_true', Bool.not_eq_false'] at hX); (try have hXb := inB_iff.1 hX)))))); all_goals try (exfalso; omega)
        refine ⟨(k + 1, putL wd g 0 k (l[k]?.getD ByteArray.empty), y, y + 1), ⟨by dsimp only; omega, hG2.out, by rw [← hgl.out]; exact hl2.out, hst.out.symm, by dsimp only; omega, by dsimp only; omega, by dsimp only; omega⟩, by dsimp only; omega, ?_, ?_, rfl⟩
        · simp (disch := (first | omega | (simp only [push_cast]; done) | (simp only [push_cast]; omega) | ((try simp only [push_cast]); (with_reducible first | apply sel_lt | apply sel_ge); (focus decide); (focus (simp only [push_cast]; omega))))) only [push_cast, ↓reduceIte, Nat.reduceEqDiff, Nat.reduceBEq, Nat.reduceAdd, Nat.reduceSub, Int.reduceToNat, List.length_append, *]
        · simp (disch := (first | omega | (simp only [push_cast]; done) | (simp only [push_cast]; omega) | ((try simp only [push_cast]); (with_reducible first | apply sel_lt | apply sel_ge); (focus decide); (focus (simp only [push_cast]; omega))))) only [push_cast, ↓reduceIte, Nat.reduceEqDiff, Nat.reduceBEq, Nat.reduceAdd, Nat.reduceSub, Int.reduceToNat, List.length_append, hl2.out, *]
      | false =>
        unfold putR at ap5
        rw [hp, if_neg (by simp)] at ap5
        rw [hp, if_neg (by simp), hF] at hst
        have hz2 : ((PV.tup [.agg [.val (.int .i64 0), .val (.slice none 0 0)], .val (.bool false)], []) : PV × List CellIO) = (r, cs') := by
          have h := hz.out
          rw [hst] at h
          exact h
        clear hz
        cases hz2
        clear hp hF hG hU hsz hst
        (repeat' (first | (with_reducible first | apply i_seq | apply i_block | apply i_skip | apply i_exit | apply i_ret | apply i_kS | apply i_kSx | apply i_kSr | apply i_kL | apply i_kLx | apply i_kLr | apply i_kB | apply i_kBr | apply i_kBs | apply i_nil) | ((with_reducible apply i_region); (focus (simp only [List.map_cons, List.map_nil] <;> exact rfl))) | ((with_reducible apply i_draw); (focus (simp only [List.map_cons, List.map_nil] <;> exact rfl)); (focus (decide +kernel))) | ((with_reducible apply i_kBo); (focus rfl)) | ((first | ((with_reducible apply i_V); (focus rfl); (focus rfl); (focus rfl)) | ((with_reducible apply i_E); (focus rfl); (focus (first | rfl | (simp only [push_cast, ↓reduceIte, effOk, touch, refsOf, List.flatMap_cons, List.flatMap_nil])))) | ((with_reducible apply i_S); (focus rfl); (focus (first | rfl | (simp only [push_cast, ↓reduceIte, effOk, touch, refsOf, List.flatMap_cons, List.flatMap_nil])))) | ((with_reducible apply i_Vq); (focus rfl); (focus rfl)) | ((with_reducible apply i_Vp); (focus rfl); (focus rfl); (focus rfl)) | (with_reducible first | apply i_Gb | apply i_cond)); (focus (simp (disch := (first | omega | (simp only [push_cast]; done) | (simp only [push_cast]; omega) | ((try simp only [push_cast]); (with_reducible first | apply sel_lt | apply sel_ge); (focus decide); (focus (simp only [push_cast]; omega))))) only [push_cast, ↓reduceIte, Nat.reduceEqDiff, Nat.reduceBEq, Nat.reduceAdd, Nat.reduceSub, Int.reduceToNat, *] <;> with_reducible exact rfl)); all_goals try (intro hX; first | (cases hX; done) | ((with_reducible first | have hX0 : true = true := hX | have hX0 : false = false := hX); clear hX0 hX) | ((try simp only [decide_eq_true_eq, decide_eq_false_iff_not, Bool.not_eq_true', Bool.not_eq_false'] at hX); (try have hXb := inB_iff.1 hX)))))); all_goals try (exfalso; omega)
        all_goals ((with_reducible apply i_endN0 (by first | exact .inl rfl | exact .inr rfl)); (focus (simp (disch := (first | omega | (simp only [push_cast]; done) | (simp only [push_cast]; omega) | ((try simp only [push_cast]); (with_reducible first | apply sel_lt | apply sel_ge); (focus decide); (focus (simp only [push_cast]; omega))))) only [push_cast, ↓reduceIte, Nat.reduceEqDiff, Nat.reduceBEq, Nat.reduceAdd, Nat.reduceSub, Int.reduceToNat, *] <;> with_reducible exact rfl)))
    · obtain rfl : k = l.length := by omega
      rw [List.drop_length] at hF
      have hcolE : ∃ col : Int, (wd - (itoaS page).size).tdiv 2 = col ∧ (putPre wd g col (ht - 1) (itoaS page) = putPre wd g (pgCol wd page) (ht - 1) (itoaS page)) ∧ (((itoaS page).size : Int) ≤ wd → col = pgCol wd page) ∧ -60 ≤ col ∧ col ≤ 60 := by
        refine ⟨_, rfl, ?_, ?_, ?_, ?_⟩
        · by_cases h1 : ((itoaS page).size : Int) ≤ wd
          · have : (wd - (itoaS page).size).tdiv 2 = pgCol wd page := by
              unfold pgCol
              rw [Int.tdiv_eq_ediv_of_nonneg (by omega), Int.max_eq_right (by omega)]
            rw [this]
          · have e1 : putPre wd g ((wd - (itoaS page).size).tdiv 2) (ht - 1) (itoaS page) = false := by
              unfold putPre
              by_cases h2 : 0 ≤ (wd - (itoaS page).size).tdiv 2
              · rw [decide_eq_false (by omega), Bool.and_false, Bool.and_false]
              · rw [show inB ((wd - (itoaS page).size).tdiv 2) 0 wd = false from by
                  rw [Bool.eq_false_iff]
                  intro q
                  exact h2 (inB_iff.1 q).1, Bool.false_and]
            have e2 : putPre wd g (pgCol wd page) (ht - 1) (itoaS page) = false := by
              unfold putPre
              rw [decide_eq_false (by unfold pgCol; omega), Bool.and_false, Bool.and_false]
            rw [e1, e2]
        · intro h1
          unfold pgCol
          rw [Int.tdiv_eq_ediv_of_nonneg (by omega), Int.max_eq_right (by omega)]
        · exact (tdiv2 (by omega) (by omega)).1
        · exact (tdiv2 (by omega) (by omega)).2
      obtain ⟨col, hc1, hc2, hc3, hc4, hc5⟩ := hcolE
      have ap5 := put_lift (wd := wd) (col := col) (row := ht - 1) (l := g) (s := itoaS page) ⟨hU, by omega⟩ hG
      unfold putR at ap5
      have hz2 : (match pgN wd ht page g with
        | some g => ((PV.tup [.agg [.val (.int .i64 wd), .row 0 1 0 g.length], .val (.bool true)], [(5, 1, g.map fun n => PV.val (.int .u8 n))]) : PV × List CellIO)
        | none => (PV.tup [.agg [.val (.int .i64 0), .val (.slice none 0 0)], .val (.bool false)], [])) = (r, cs') := by
        have h := hz.out
        rw [← hF] at h
        exact h
      clear hz
      unfold pgN at hz2
      rw [← hc2] at hz2
      cases hp : (putPre wd g col (ht - 1) (itoaS page) && prB (itoaS page)) with
      | true =>
        have hsw : ((itoaS page).size : Int) ≤ wd := by
          have := (Bool.and_eq_true_iff.1 hp).1
          rw [hc2] at this
          unfold putPre at this
          simp only [Bool.and_eq_true, decide_eq_true_eq] at this
          have h0 := (inB_iff.1 this.1).1
          omega
        rw [← hc3 hsw] at hz2
        have hlz := (put_keeps hG hp).2
        rw [hp, if_pos rfl] at hz2 ap5
        dsimp only at hz2
        rw [hlz] at hz2
        cases hz2
        clear hp hF hG hU hsz hc3 hc2
        generalize itoaS page = num at *
        (repeat' (first | (with_reducible first | apply i_seq | apply i_block | apply i_skip | apply i_exit | apply i_ret | apply i_kS | apply i_kSx | apply i_kSr | apply i_kL | apply i_kLx | apply i_kLr | apply i_kB | apply i_kBr | apply i_kBs | apply i_nil) | ((with_reducible apply i_region); (focus (simp only [List.map_cons, List.map_nil] <;> exact rfl))) | ((with_reducible apply i_draw); (focus (simp only [List.map_cons, List.map_nil] <;> exact rfl)); (focus (decide +kernel))) | ((with_reducible apply i_kBo); (focus rfl)) | ((first | ((with_reducible apply i_V); (focus rfl); (focus rfl); (focus rfl)) | ((with_reducible apply i_E); (focus rfl); (focus (first | rfl | (simp only [push_cast, ↓reduceIte, effOk, touch, refsOf, List.flatMap_cons, List.flatMap_nil])))) | ((with_reducible apply i_S); (focus rfl); (focus (first | rfl | (simp only [push_cast, ↓reduceIte, effOk, touch, refsOf, List.flatMap_cons, List.flatMap_nil])))) | ((with_reducible apply i_Vq); (focus rfl); (focus rfl)) | ((with_reducible apply i_Vp); (focus rfl); (focus rfl); (focus rfl)) | (with_reducible first | apply i_Gb | apply i_cond)); (focus (simp (disch := (first | omega | (simp only [push_cast]; done) | (simp only [push_cast]; omega) | ((try simp only [push_cast]); (with_reducible first | apply sel_lt | apply sel_ge); (focus decide); (focus (simp only [push_cast]; omega))))) only [push_cast, ↓reduceIte, Nat.reduceEqDiff, Nat.reduceBEq, Nat.reduceAdd, Nat.reduceSub, Int.reduceToNat, *] <;> with_reducible exact rfl)); all_goals try (intro hX; first | (cases hX; done) | ((with_reducible first | have hX0 : true = true := hX | have hX0 : false = false := hX); clear hX0 hX) | ((try simp only [decide_eq_true_eq, decide_eq_false_iff_not, Bool.not_eq_true', Bool.not_eq_false'] at hX); (try have hXb := inB_iff.1 hX)))))); all_goals try (exfalso; omega)
        ((with_reducible apply i_endN1 (y) (by first | exact .inl rfl | exact .inr rfl)); (focus (simp (disch := (first | omega | (simp only [push_cast]; done) | (simp only [push_cast]; omega) | ((try simp only [push_cast]); (with_reducible first | apply sel_lt | apply sel_ge); (focus decide); (focus (simp only [push_cast]; omega))))) only [push_cast, ↓reduceIte, Nat.reduceEqDiff, Nat.reduceBEq, Nat.reduceAdd, Nat.reduceSub, Int.reduceToNat, *] <;> with_reducible exact rfl)); (focus (simp (disch := (first | omega | (simp only [push_cast]; done) | (simp only [push_cast]; omega) | ((try simp only [push_cast]); (with_reducible first | apply sel_lt | apply sel_ge); (focus decide); (focus (simp only [push_cast]; omega))))) only [push_cast, ↓reduceIte, Nat.reduceEqDiff, Nat.reduceBEq, Nat.reduceAdd, Nat.reduceSub, Int.reduceToNat, *] <;> with_reducible exact rfl)))
      | false =>
        rw [hp, if_neg (by simp)] at hz2 ap5
        dsimp only at hz2
        cases hz2
        clear hp hF hG hU hsz hc3 hc2
        generalize itoaS page = num at *
        (repeat' (first | (with_reducible first | apply i_seq | apply i_block | apply i_skip | apply i_exit | apply i_ret | apply i_kS | apply i_kSx | apply i_kSr | apply i_kL | apply i_kLx | apply i_kLr | apply i_kB | apply i_kBr | apply i_kBs | apply i_nil) | ((with_reducible apply i_region); (focus (simp only [List.map_cons, List.map_nil] <;> exact rfl))) | ((with_reducible apply i_draw); (focus (simp only [List.map_cons, List.map_nil] <;> exact rfl)); (focus (decide +kernel))) | ((with_reducible apply i_kBo); (focus rfl)) | ((first | ((with_reducible apply i_V); (focus rfl); (focus rfl); (focus rfl)) | ((with_reducible apply i_E); (focus rfl); (focus (first | rfl | (simp only [push_cast, ↓reduceIte, effOk, touch, refsOf, List.flatMap_cons, List.flatMap_nil])))) | ((with_reducible apply i_S); (focus rfl); (focus (first | rfl | (simp only [push_cast, ↓reduceIte, effOk, touch, refsOf, List.flatMap_cons, List.flatMap_nil])))) | ((with_reducible apply i_Vq); (focus rfl); (focus rfl)) | ((with_reducible apply i_Vp); (focus rfl); (focus rfl); (focus rfl)) | (with_reducible first | apply i_Gb | apply i_cond)); (focus (simp (disch := (first | omega | (simp only [push_cast]; done) | (simp only [push_cast]; omega) | ((try simp only [push_cast]); (with_reducible first | apply sel_lt | apply sel_ge); (focus decide); (focus (simp only [push_cast]; omega))))) only [push_cast, ↓reduceIte, Nat.reduceEqDiff, Nat.reduceBEq, Nat.reduceAdd, Nat.reduceSub, Int.reduceToNat, *] <;> with_reducible exact rfl)); all_goals try (intro hX; first | (cases hX; done) | ((with_reducible first | have hX0 : true = true := hX | have hX0 : false = false := hX); clear hX0 hX) | ((try simp only [decide_eq_true_eq, decide_eq_false_iff_not, Bool.not_eq_true', Bool.not_eq_false'] at hX); (try have hXb := inB_iff.1 hX)))))); all_goals try (exfalso; omega)
        all_goals ((with_reducible apply i_endN0 (by first | exact .inl rfl | exact .inr rfl)); (focus (simp (disch := (first | omega | (simp only [push_cast]; done) | (simp only [push_cast]; omega) | ((try simp only [push_cast]); (with_reducible first | apply sel_lt | apply sel_ge); (focus decide); (focus (simp only [push_cast]; omega))))) only [push_cast, ↓reduceIte, Nat.reduceEqDiff, Nat.reduceBEq, Nat.reduceAdd, Nat.reduceSub, Int.reduceToNat, *] <;> with_reducible exact rfl)))
  · have hz2 : ((PV.tup [.agg [.val (.int .i64 0), .val (.slice none 0 0)], .val (.bool false)], []) : PV × List CellIO) = (r, cs') := by
      unfold pgZI pgR at hz
      rw [if_neg hA] at hz
      exact hz
    cases hz2
    have hd : inB wd 1 60 = false ∨ inB ht 1 60 = false ∨ inB page 1 999 = false ∨ ht - 1 < l.length := by
      cases h1 : inB wd 1 60 with
      | false => exact .inl rfl
      | true =>
        cases h2 : inB ht 1 60 with
        | false => exact .inr (.inl rfl)
        | true =>
          cases h3 : inB page 1 999 with
          | false => exact .inr (.inr (.inl rfl))
          | true =>
            refine .inr (.inr (.inr ?_))
            by_cases h4 : ht - 1 < l.length
            · exact h4
            · exact absurd (pgA_iff.2 ⟨by unfold gridO; rw [h1, h2]; rfl, by omega, h3⟩) hA
    clear hA hsz hok hz
    rcases hd with hd | hd | hd | hd <;>
    · have gpgi_c51 := GPgI_51; have gpgi_c52 := GPgI_52; have gpgi_c53 := GPgI_53; have gpgi_c54 := GPgI_54; have gpgi_c55 := GPgI_55
      (repeat' (first | (with_reducible first | apply i_seq | apply i_block | apply i_skip | apply i_exit | apply i_ret | apply i_kS | apply i_kSx | apply i_kSr | apply i_kL | apply i_kLx | apply i_kLr | apply i_kB | apply i_kBr | apply i_kBs | apply i_nil) | ((with_reducible apply i_region); (focus (simp only [List.map_cons, List.map_nil] <;> exact rfl))) | ((with_reducible apply i_draw); (focus (simp only [List.map_cons, List.map_nil] <;> exact rfl)); (focus (decide +kernel))) | ((with_reducible apply i_kBo); (focus rfl)) | ((first | ((with_reducible apply i_V); (focus rfl); (focus rfl); (focus rfl)) | ((with_reducible apply i_E); (focus rfl); (focus (first | rfl | (simp only [push_cast, ↓reduceIte, effOk, touch, refsOf, List.flatMap_cons, List.flatMap_nil])))) | ((with_reducible apply i_S); (focus rfl); (focus (first | rfl | (simp only [push_cast, ↓reduceIte, effOk, touch, refsOf, List.flatMap_cons, List.flatMap_nil])))) | ((with_reducible apply i_Vq); (focus rfl); (focus rfl)) | ((with_reducible apply i_Vp); (focus rfl); (focus rfl); (focus rfl)) | (with_reducible first | apply i_Gb | apply i_cond)); (focus (simp (disch := (first | omega | (simp only [push_cast]; done) | (simp only [push_cast]; omega) | ((try simp only [push_cast]); (with_reducible first | apply sel_lt | apply sel_ge); (focus decide); (focus (simp only [push_cast]; omega))))) only [push_cast, ↓reduceIte, Nat.reduceEqDiff, Nat.reduceBEq, Nat.reduceAdd, Nat.reduceSub, Int.reduceToNat, *] <;> with_reducible exact rfl)); all_goals try (intro hX; first | (cases hX; done) | ((with_reducible first | have hX0 : true = true := hX | have hX0 : false = false := hX); clear hX0 hX) | ((try simp only [decide_eq_true_eq, decide_eq_false_iff_not, Bool.not_eq_true', Bool.not_eq_false'] at hX); (try have hXb := inB_iff.1 hX)))))); all_goals try (exfalso; omega)
      all_goals (first | (exfalso; omega) | ((with_reducible apply i_endN0 (by first | exact .inl rfl | exact .inr rfl)); (focus (simp (disch := (first | omega | (simp only [push_cast]; done) | (simp only [push_cast]; omega) | ((try simp only [push_cast]); (with_reducible first | apply sel_lt | apply sel_ge); (focus decide); (focus (simp only [push_cast]; omega))))) only [push_cast, ↓reduceIte, Nat.reduceEqDiff, Nat.reduceBEq, Nat.reduceAdd, Nat.reduceSub, Int.reduceToNat, *] <;> with_reducible exact rfl))))
end Go.Proofs.YtpggpdbipajchaaDoor
namespace Go.Proofs.YtpggpdbipajchaaDoor
open Go.RowKit
set_option linter.all false
theorem push_l : ∀ (l : List Int) (acc : ByteArray), (List.foldl (fun r (n : Int) => r.push (UInt8.ofNat n.toNat)) acc l).data.toList = acc.data.toList ++ l.map fun n => UInt8.ofNat n.toNat
  | [], acc => by simp
  | n :: l, acc => by
    rw [List.foldl_cons, push_l l]
    show (acc.data.push _).toList ++ _ = _
    rw [Array.toList_push, List.append_assoc]
    rfl
theorem bytesOf_l (l : List Int) : (bytesOf l).data.toList = l.map fun n => UInt8.ofNat n.toNat := (push_l l .empty).trans (List.nil_append _)
theorem u8_back {l : List Int} (h : ∀ x ∈ l, 0 ≤ x ∧ x ≤ 255) : (l.map fun n => UInt8.ofNat n.toNat).map (fun x => (x.toNat : Int)) = l := by
  rw [List.map_map]
  have : ∀ x ∈ l, ((fun x : UInt8 => (x.toNat : Int)) ∘ fun n : Int => UInt8.ofNat n.toNat) x = x := fun x hx => by
    have h1 := h x hx
    show ((UInt8.ofNat x.toNat).toNat : Int) = x
    rw [UInt8.toNat_ofNat']
    omega
  exact (List.map_congr_left this).trans (List.map_id _)
theorem trim_rest : ∀ (n : Nat) (u : List UInt8), u.length = n → ∃ m, u = Lib.trimRightB u 32 ++ List.replicate m 32
  | 0, u, h => ⟨0, by
      have : u = [] := List.eq_nil_of_length_eq_zero h
      subst this
      rfl⟩
  | n + 1, u, h => by
    have hne : u ≠ [] := fun e => by subst e; simp at h
    have e := (List.dropLast_concat_getLast hne).symm
    generalize u.dropLast = l at e
    generalize u.getLast hne = z at e
    subst e
    by_cases hz : z = 32
    · subst hz
      obtain ⟨m, hm⟩ := trim_rest n l (by simpa using h)
      refine ⟨m + 1, ?_⟩
      rw [trimL_cut, List.replicate_succ', ← List.append_assoc, ← hm]
    · exact ⟨0, by rw [trimL_done l hz]; simp⟩
theorem row_split {r : List Int} (h : ∀ x ∈ r, 0 ≤ x ∧ x ≤ 255) : (trimS (bytesOf r)).size ≤ r.length ∧ r = strI (trimS (bytesOf r)) ++ List.replicate (r.length - (trimS (bytesOf r)).size) 32 := by
  obtain ⟨m, hm⟩ := trim_rest _ (bytesOf r).data.toList rfl
  have e1 : strI (trimS (bytesOf r)) = (Lib.trimRightB (bytesOf r).data.toList 32).map fun x => (x.toNat : Int) := rfl
  have e2 : r = strI (trimS (bytesOf r)) ++ List.replicate m 32 := by
    have := congrArg (List.map fun x : UInt8 => (x.toNat : Int)) hm
    rw [List.map_append, ← e1, bytesOf_l, u8_back h, List.map_replicate] at this
    exact this
  have e3 := congrArg List.length e2
  rw [List.length_append, strI_length, List.length_replicate] at e3
  refine ⟨by omega, ?_⟩
  rw [show r.length - (trimS (bytesOf r)).size = m by omega]
  exact e2
def rowT (W : Nat) (l : List Int) (k : Nat) : ByteArray := trimS (bytesOf ((l.drop (k * W)).take W))
theorem gridF_rows {W : Nat} (hW : 0 < W) : ∀ (n f : Nat) (zs : List Int) (acc : LS), zs.length = n * W → n * W ≤ f → gridF W f zs acc = acc ++ (List.range n).map (rowT W zs)
  | 0, f, zs, acc, h, _ => by rw [gridF_nil (by omega)]; simp
  | n + 1, f, zs, acc, h, hf => by
    have e : (n + 1) * W = n * W + W := Nat.succ_mul n W
    obtain ⟨g, rfl⟩ : ∃ g, f = g + 1 := ⟨f - 1, by omega⟩
    unfold gridF
    rw [if_neg (by omega), gridF_rows hW n g _ _ (by rw [List.length_drop]; omega) (by omega), List.range_succ_eq_map, List.map_cons, List.map_map, List.append_assoc]
    have e2 : rowT W zs 0 = trimS (bytesOf (zs.take W)) := by simp [rowT]
    have e3 : ∀ k, (rowT W zs ∘ Nat.succ) k = rowT W (zs.drop W) k := fun k => by
      show trimS (bytesOf ((zs.drop ((k + 1) * W)).take W)) = trimS (bytesOf (((zs.drop W).drop (k * W)).take W))
      rw [List.drop_drop, Nat.succ_mul, Nat.add_comm]
    rw [e2, List.map_congr_left fun k _ => e3 k]
    rfl
theorem gridR_rows {W n : Nat} {l : List Int} (hW : 0 < W) (h : l.length = n * W) : gridR (W : Int) l = (List.range n).map (rowT W l) := by
  unfold gridR
  rw [Int.toNat_natCast, gridF_rows hW n _ _ _ h (by omega), List.nil_append]
end Go.Proofs.YtpggpdbipajchaaDoor
namespace Go.Proofs.YtpggpdbipajchaaDoor
open Go.RowKit
set_option linter.all false
theorem row_apart {W r c k n : Nat} (hc : c < W) (hn : n ≤ W) : k * W ≤ r * W + c ∧ r * W + c < k * W + n → r = k := by
  rintro ⟨h1, h2⟩
  rcases Nat.lt_trichotomy r k with h | h | h
  · have := Nat.mul_le_mul_right W (show r + 1 ≤ k from h)
    rw [Nat.succ_mul] at this
    omega
  · exact h
  · have := Nat.mul_le_mul_right W (show k + 1 ≤ r from h)
    rw [Nat.succ_mul] at this
    omega
def PgInv (W n : Nat) (l : LS) (k : Nat) (g : List Int) : Prop := ∀ r c, r < n → c < W → g[r * W + c]?.getD 0 = if r < k ∧ c < (l[r]?.getD .empty).size then at8 (l[r]?.getD .empty) c else 32
theorem pg_pos {W k c : Nat} : ((k : Int) * (W : Int) + (c : Int)).toNat = k * W + c := by
  rw [← Int.natCast_mul, ← Int.natCast_add, Int.toNat_natCast]
theorem row_in {W n k : Nat} (hk : k < n) : k * W + W ≤ n * W := by
  have := Nat.mul_le_mul_right W (show k + 1 ≤ n from hk)
  rwa [Nat.succ_mul] at this
theorem put_cell {W n k c : Nat} {g : List Int} {s : ByteArray} (hl : g.length = n * W) (hk : k < n) (hs : c + s.size ≤ W) {r d : Nat} (hr : r < n) (hd : d < W) :
    (putL (W : Int) g c k s)[r * W + d]?.getD 0 = if r = k ∧ c ≤ d ∧ d < c + s.size then at8 s (d - c) else g[r * W + d]?.getD 0 := by
  have hin := row_in (W := W) hk
  rw [putL_at (by rw [pg_pos]; omega), pg_pos]
  by_cases h : r = k
  · subst h
    by_cases h2 : c ≤ d ∧ d < c + s.size
    · rw [if_pos (by omega), if_pos ⟨rfl, h2⟩]
      congr 1
      omega
    · rw [if_neg (by omega), if_neg (fun q => h2 q.2)]
  · rw [if_neg (fun q => h (row_apart (k := k) (n := c + s.size) hd hs ⟨by omega, by omega⟩)), if_neg (fun q => h q.1)]
theorem putPre_facts {W n k : Nat} {col : Int} {g : List Int} {s : ByteArray} (hW : 0 < W) (hl : g.length = n * W) (h : putPre (W : Int) g col k s = true) : k < n ∧ 0 ≤ col ∧ (s.size : Int) ≤ W - col := by
  unfold putPre at h
  simp only [Bool.and_eq_true, decide_eq_true_eq] at h
  have h1 := inB_iff.1 h.1
  have h2 := inB_iff.1 h.2.1
  rw [hl, Int.natCast_mul, Int.mul_ediv_cancel _ (by omega)] at h2
  exact ⟨by omega, h1.1, h.2.2⟩
theorem pgF_inv {W n : Nat} {l : LS} (hW : 0 < W) : ∀ (r : LS) (k : Nat) (g G : List Int), l.drop k = r → gridB (W : Int) g = true → g.length = n * W → PgInv W n l k g → pgF W g k r = some G → gridB (W : Int) G = true ∧ G.length = n * W ∧ PgInv W n l l.length G ∧ ∀ r, k ≤ r → r < l.length → (l[r]?.getD .empty).size ≤ W
  | [], k, g, G, hd, hG, hl, hI, h => by
    have : g = G := by simpa [pgF] using h
    subst this
    have hk : l.length ≤ k := List.drop_eq_nil_iff.1 hd
    refine ⟨hG, hl, fun r c hr hc => ?_, fun r h1 h2 => by omega⟩
    rw [hI r c hr hc]
    by_cases h1 : r < l.length
    · have h2 : r < k := by omega
      simp only [h1, h2, true_and]
    · rw [List.getElem?_eq_none (by omega)]
      have h3 : ¬ c < (ByteArray.empty).size := by simp
      simp only [Option.getD_none, h3, and_false, if_false]
  | s :: r, k, g, G, hd, hG, hl, hI, h => by
    unfold pgF at h
    split at h
    case isFalse => cases h
    case isTrue hp =>
    have hkl : k < l.length := by
      rcases Nat.lt_or_ge k l.length with h1 | h1
      · exact h1
      · rw [List.drop_eq_nil_iff.2 h1] at hd; cases hd
    have hs : s = l[k]?.getD .empty ∧ l.drop (k + 1) = r := by
      rw [List.drop_eq_getElem_cons hkl] at hd
      rw [List.getElem?_eq_getElem hkl]
      exact ⟨(List.cons.inj hd).1.symm, (List.cons.inj hd).2⟩
    obtain ⟨hG2, hl2⟩ := put_keeps hG hp
    obtain ⟨f1, f2, f3⟩ := putPre_facts hW hl (Bool.and_eq_true_iff.1 hp).1
    have key : gridB (W : Int) G = true ∧ G.length = n * W ∧ PgInv W n l l.length G ∧ ∀ r, k + 1 ≤ r → r < l.length → (l[r]?.getD .empty).size ≤ W := by
     refine pgF_inv hW r (k + 1) _ G hs.2 hG2 (hl2.trans hl) (fun x c hx hc => ?_) h
     have hpc := put_cell (c := 0) hl f1 (s := s) (by omega) hx hc
     rw [Int.natCast_zero] at hpc
     rw [hpc, hI x c hx hc]
     by_cases h1 : x = k
     · subst h1
       rw [← hs.1]
       have h2 : ¬ x < x := Nat.lt_irrefl _
       have h3 : x < x + 1 := Nat.lt_succ_self _
       simp only [Nat.zero_le, true_and, Nat.zero_add, Nat.sub_zero, h2, h3, false_and, if_false]
     · have h2 : x < k + 1 ↔ x < k := by omega
       simp only [h1, false_and, if_false, h2]
    exact ⟨key.1, key.2.1, key.2.2.1, fun x h1 h2 => by
      by_cases h3 : x = k
      · subst h3; rw [← hs.1]; omega
      · exact key.2.2.2 x (by omega) h2⟩
theorem PgInv.start {W n : Nat} {l : LS} : PgInv W n l 0 (List.replicate (n * W) 32) := fun r c hr hc => by
  have := row_in (W := W) hr
  rw [List.getElem?_replicate, if_pos (by omega), if_neg (by omega)]
  rfl
theorem trim_reps (u : List UInt8) (m : Nat) : Lib.trimRightB (u ++ List.replicate m 32) 32 = Lib.trimRightB u 32 := by
  induction m with
  | zero => rw [List.replicate_zero, List.append_nil]
  | succ m ih => rw [List.replicate_succ', ← List.append_assoc, trimL_cut, ih]
def noTrail (s : ByteArray) : Prop := Lib.trimRightB s.data.toList 32 = s.data.toList
theorem row_of_text {s : ByteArray} (h : noTrail s) (m : Nat) : trimS (bytesOf (strI s ++ List.replicate m 32)) = s := by
  refine gl_ext ?_
  show Lib.trimRightB (bytesOf (strI s ++ List.replicate m 32)).data.toList 32 = _
  have e : (strI s ++ List.replicate m 32).map (fun n : Int => UInt8.ofNat n.toNat) = s.data.toList ++ List.replicate m 32 := by
    rw [List.map_append, List.map_replicate]
    congr 1
    unfold strI
    rw [List.map_map]
    refine (List.map_congr_left fun x _ => ?_).trans (List.map_id _)
    show UInt8.ofNat ((x.toNat : Int)).toNat = x
    rw [Int.toNat_natCast, UInt8.ofNat_toNat]
  rw [bytesOf_l, e, trim_reps, h]
theorem rowT_cells {W n r : Nat} {g : List Int} (hl : g.length = n * W) (hr : r < n) : ((g.drop (r * W)).take W).length = W ∧ ∀ c, c < W → ((g.drop (r * W)).take W)[c]?.getD 0 = g[r * W + c]?.getD 0 := by
  have := row_in (W := W) hr
  refine ⟨by rw [List.length_take, List.length_drop]; omega, fun c hc => ?_⟩
  rw [List.getElem?_take, if_pos hc, List.getElem?_drop]
theorem rowT_line {W n r : Nat} {l : LS} {k : Nat} {g : List Int} (hl : g.length = n * W) (hr : r < n) (hI : ∀ c, c < W → g[r * W + c]?.getD 0 = if c < (l[r]?.getD .empty).size then at8 (l[r]?.getD .empty) c else 32) (hs : (l[r]?.getD .empty).size ≤ W) (hn : noTrail (l[r]?.getD .empty)) : rowT W g r = l[r]?.getD .empty := by
  obtain ⟨h1, h2⟩ := rowT_cells hl hr
  generalize l[r]?.getD .empty = s at *
  have e : (g.drop (r * W)).take W = strI s ++ List.replicate (W - s.size) 32 := by
    have hz := strI_length s
    refine eq_of_getDK (d := 0) (by rw [h1, List.length_append, List.length_replicate]; omega) fun c hc => ?_
    rw [h1] at hc
    rw [h2 c hc, hI c hc]
    split
    · rename_i h3
      rw [List.getElem?_append_left (by omega), strI_at]
    · rename_i h3
      rw [List.getElem?_append_right (by omega), List.getElem?_replicate, if_pos (by omega)]
      rfl
  unfold rowT
  rw [e, row_of_text hn]
theorem rowT_full {W n r c : Nat} {g : List Int} (hl : g.length = n * W) (hr : r < n) (hc : c < W) (hu : okU g) (h : ¬ g[r * W + c]?.getD 0 = 32) : ¬ rowT W g r = ⟨#[]⟩ := fun q => by
  obtain ⟨h1, h2⟩ := rowT_cells hl hr
  have hx : ∀ x ∈ (g.drop (r * W)).take W, 0 ≤ x ∧ x ≤ 255 := fun x hx => inB_iff.1 (List.all_eq_true.1 hu.2 x (List.mem_of_mem_drop (List.mem_of_mem_take hx)))
  obtain ⟨_, h3⟩ := row_split hx
  have h4 : trimS (bytesOf ((g.drop (r * W)).take W)) = ⟨#[]⟩ := q
  rw [h4] at h3
  refine h ((h2 c hc).symm.trans ?_)
  rw [h3]
  show ([] ++ List.replicate _ (32 : Int))[c]?.getD 0 = 32
  rw [List.nil_append, List.getElem?_replicate, if_pos (by rw [h1]; simpa [ByteArray.size] using hc)]
  rfl
theorem pg_law {l : LS} {wd ht page : Int} {G : List Int} (h : pgR l wd ht page = some G) (hn : ∀ k, k < l.length → noTrail (l[k]?.getD .empty)) :
    gridB wd G = true ∧ G.length ≤ 3600 ∧ (l.length : Int) < ht ∧ ((gridR wd G).length : Int) = ht ∧ (gridR wd G).length ≤ 60 ∧ 0 < (gridR wd G).length ∧ (∀ k, k < l.length → (gridR wd G)[k]?.getD .empty = l[k]?.getD .empty) ∧ ¬ (gridR wd G)[(gridR wd G).length - 1]?.getD .empty = ⟨#[]⟩ := by
  unfold pgR at h
  split at h
  case isFalse => cases h
  case isTrue hA =>
  obtain ⟨hO, hlen, hpg⟩ := pgA_iff.1 hA
  have hpb := inB_iff.1 hpg
  obtain ⟨hw, hh⟩ := gridO_iff.1 hO
  have hG0 := gridB_sp hO
  obtain ⟨W, rfl⟩ := Int.eq_ofNat_of_zero_le (show 0 ≤ wd by omega)
  obtain ⟨n, rfl⟩ := Int.eq_ofNat_of_zero_le (show 0 ≤ ht by omega)
  have hW : 0 < W := by omega
  have har : ((W : Int) * (n : Int)).toNat = n * W := by rw [← Int.natCast_mul, Int.toNat_natCast, Nat.mul_comm]
  rw [Option.bind_eq_some_iff] at h
  obtain ⟨g, h1, h2⟩ := h
  rw [har] at h1 hG0
  obtain ⟨k1, k2, k3, k4⟩ := pgF_inv hW l 0 _ g rfl hG0 List.length_replicate PgInv.start h1
  unfold pgN at h2
  split at h2
  case isFalse => cases h2
  case isTrue hp =>
  cases h2
  have e1 : ((n : Int) - 1) = ((n - 1 : Nat) : Int) := by omega
  rw [e1] at hp ⊢
  obtain ⟨g1, g2⟩ := put_keeps k1 hp
  obtain ⟨f1, f2, f3⟩ := putPre_facts hW k2 (Bool.and_eq_true_iff.1 hp).1
  obtain ⟨d1, d2⟩ := itoaS_head (n := page) (by omega)
  generalize itoaS page = num at *
  obtain ⟨c, hc⟩ := Int.eq_ofNat_of_zero_le f2
  rw [hc] at f3 g1 g2 ⊢
  have hl3 := g2.trans k2
  have hcell := fun r d (hr : r < n) (hd : d < W) => put_cell (c := c) k2 f1 (s := num) (by omega) hr hd
  have hU := gridB_okU g1
  have hsz : n * W ≤ 60 * 60 := Nat.mul_le_mul (by omega) (by omega)
  generalize putL (W : Int) g c ((n - 1 : Nat) : Int) num = G at *
  have hR := gridR_rows hW hl3
  rw [hR, List.length_map, List.length_range]
  refine ⟨g1, by omega, by omega, rfl, by omega, by omega, fun k hk => ?_, ?_⟩
  · rw [List.getElem?_map, List.getElem?_range (by omega)]
    show rowT W G k = _
    have hs := k4 k (Nat.zero_le _) hk
    refine rowT_line (k := k) hl3 (by omega) (fun d hd => ?_) hs (hn k hk)
    rw [hcell k d (by omega) hd, if_neg (by omega), k3 k d (by omega) hd]
    simp only [hk, true_and]
  · rw [List.getElem?_map, List.getElem?_range (by omega)]
    show ¬ rowT W G (n - 1) = ⟨#[]⟩
    refine rowT_full (c := c) hl3 (by omega) (by omega) hU ?_
    rw [hcell (n - 1) c (by omega) (by omega), if_pos ⟨rfl, by omega, by omega⟩, Nat.sub_self]
    omega
end Go.Proofs.YtpggpdbipajchaaDoor
namespace Go.Proofs.YtpggpdbipajchaaDoor
open Go.RowKit
set_option linter.all false
theorem sel_rng {a b d : Int} {l : List Int} {i : Nat} (h : ∀ x ∈ l, a ≤ x ∧ x ≤ b) (h1 : a ≤ d) (h2 : d ≤ b) : a ≤ sel d l i ∧ sel d l i ≤ b := by
  unfold sel
  by_cases hi : i < l.length
  · rw [List.getElem?_eq_getElem hi, Option.getD_some]
    exact h _ (List.getElem_mem hi)
  · rw [List.getElem?_eq_none (by omega)]
    exact ⟨h1, h2⟩
end Go.Proofs.YtpggpdbipajchaaDoor
namespace Go.Proofs.YtpggpdbipajchaaDoor
open Go.RowKit
set_option linter.all false
abbrev EPg (p : LS × Int × Int × Int) : PV := .tup [.lst true 1 (p.1.map fun s => PV.val (.string s)), .val (.int .i64 p.2.1), .val (.int .i64 p.2.2.1), .val (.int .i64 p.2.2.2)]
def okPgD (p : LS × Int × Int × Int) : Prop := (p.1.length ≤ 4 ∧ ∀ s ∈ p.1, s.size ≤ 10 ∧ Lib.trimRightB s.data.toList 32 = s.data.toList) ∧ (0 ≤ p.2.1 ∧ p.2.1 ≤ 2000) ∧ (0 ≤ p.2.2.1 ∧ p.2.2.1 ≤ 2000) ∧ 0 ≤ p.2.2.2 ∧ p.2.2.2 ≤ 2000
noncomputable def GDpg : Ctx := ⟨fun f => none, fun f => if f = 60 then some ΦOpen else if f = 61 then some Φpick else none⟩
theorem GDpg_ok : SoundΓ Tryd.prog GDpg := ⟨(fun f φ h => by
  unfold GDpg at h
  dsimp only at h
  cases h), (fun f φ h => by
  unfold GDpg at h
  dsimp only at h
  split at h
  · rename_i hf; cases h; subst hf; exact ⟨⟨_, Tryd.func60, rfl, rfl⟩, open_io⟩
  split at h
  · rename_i hf; cases h; subst hf; exact ⟨⟨_, Tryd.func61, rfl, rfl⟩, pick_io⟩
  cases h)⟩
theorem GDpg_60 : GDpg.io 60 = some ΦOpen := by simp [GDpg]
theorem GDpg_61 : GDpg.io 61 = some Φpick := by simp [GDpg]
set_option maxHeartbeats 16000000 in
theorem drawPg_ex : ∃ φ : Fun, Sound Tryd.prog 20 φ ∧ Drw0 φ EPg okPgD := by
  refine drw0_of mixed GDpg_ok Tryd.func20 rfl 63 rfl [.tmp 2, .tmp 3, .tmp 4, .tmp 5] rfl (by kernel_rfl) (by simp) _ _ fun code hbyte hlen => ?_
  have hok := okRd_take hbyte
  have apo := @ΦOpen_ap
  have gdpg_c60 := GDpg_60; have gdpg_c61 := GDpg_61
  repeat' (first | (first | (with_reducible first | apply i_seq | apply i_block | apply i_skip | apply i_exit | apply i_ret | apply i_kS | apply i_kSx | apply i_kSr | apply i_kL | apply i_kLx | apply i_kLr | apply i_kB | apply i_kBr | apply i_kBs | apply i_nil) | ((with_reducible apply i_region); (focus (simp only [List.map_cons, List.map_nil] <;> exact rfl))) | ((with_reducible apply i_draw); (focus (simp only [List.map_cons, List.map_nil] <;> exact rfl)); (focus (decide +kernel))) | ((with_reducible apply i_kBo); (focus rfl)) | ((first | ((with_reducible apply i_V); (focus rfl); (focus rfl); (focus rfl)) | ((with_reducible apply i_E); (focus rfl); (focus (first | rfl | (simp only [push_cast, ↓reduceIte, effOk, touch, refsOf, List.flatMap_cons, List.flatMap_nil])))) | ((with_reducible apply i_S); (focus rfl); (focus (first | rfl | (simp only [push_cast, ↓reduceIte, effOk, touch, refsOf, List.flatMap_cons, List.flatMap_nil])))) | ((with_reducible apply i_Vq); (focus rfl); (focus rfl)) | ((with_reducible apply i_Vp); (focus rfl); (focus rfl); (focus rfl)) | (with_reducible first | apply i_Gb | apply i_cond)); (focus (simp (disch := (first | omega | (simp only [push_cast]; done) | (simp only [push_cast]; omega) | ((try simp only [push_cast]); (with_reducible first | apply sel_lt | apply sel_ge); (focus decide); (focus (simp only [push_cast]; omega))))) only [push_cast, ↓reduceIte, Nat.reduceEqDiff, Nat.reduceBEq, Nat.reduceAdd, Nat.reduceSub, Int.reduceToNat, *] <;> with_reducible exact rfl)); all_goals try (intro hX; first | (cases hX; done) | ((with_reducible first | have hX0 : true = true := hX | have hX0 : false = false := hX); clear hX0 hX) | ((try simp only [decide_eq_true_eq, decide_eq_false_iff_not, Bool.not_eq_true', Bool.not_eq_false'] at hX); (try have hXb := inB_iff.1 hX))))) | ((with_reducible apply i_drw2 pick_drw (fun _ _ => rfl)); (focus rfl); (focus (simp (disch := (first | omega | (simp only [push_cast]; done) | (simp only [push_cast]; omega) | ((try simp only [push_cast]); (with_reducible first | apply sel_lt | apply sel_ge); (focus decide); (focus (simp only [push_cast]; omega))))) only [push_cast, ↓reduceIte, Nat.reduceEqDiff, Nat.reduceBEq, Nat.reduceAdd, Nat.reduceSub, Int.reduceToNat, *] <;> with_reducible exact rfl)); (focus (simp (disch := (first | omega | (simp only [push_cast]; done) | (simp only [push_cast]; omega) | ((try simp only [push_cast]); (with_reducible first | apply sel_lt | apply sel_ge); (focus decide); (focus (simp only [push_cast]; omega))))) only [push_cast, ↓reduceIte, Nat.reduceEqDiff, Nat.reduceBEq, Nat.reduceAdd, Nat.reduceSub, Int.reduceToNat, *] <;> with_reducible exact rfl)); (focus (simp (disch := (first | omega | (simp only [push_cast]; done) | (simp only [push_cast]; omega) | ((try simp only [push_cast]); (with_reducible first | apply sel_lt | apply sel_ge); (focus decide); (focus (simp only [push_cast]; omega))))) only [push_cast, ↓reduceIte, Nat.reduceEqDiff, Nat.reduceBEq, Nat.reduceAdd, Nat.reduceSub, Int.reduceToNat, *] <;> with_reducible exact rfl)); (focus assumption); (focus omega); (focus (first | trivial | omega)); (focus (first | rfl | (simp only [push_cast, ↓reduceIte, effOk, touch, refsOf, List.flatMap_cons, List.flatMap_nil]))); intro v pp hv hok hpp1 hpp2))
  refine i_loop (α := LS × Int × Int × Nat × Nat) mixed (fun s => [(6, .own 0 2 0 0), (7, .row s.2.2.2.1 1 0 s.1.length), (8, iv s.2.1)])
    (fun s => [(0, rdC 102 (code.take 2000) s.2.2.1), (s.2.2.2.1, 9, 1, s.1.map fun s => PV.val (.string s))]) (fun s => s.2.2.2.2)
    (fun s => okRd (code.take 2000) s.2.2.1 ∧ (∀ x ∈ s.1, x.size ≤ 10 ∧ Lib.trimRightB x.data.toList 32 = x.data.toList) ∧ 0 ≤ s.2.2.1 ∧ s.2.2.1 + s.2.1 ≤ 10 ∧ s.1.length + s.2.1 ≤ 4 ∧ 0 ≤ s.2.1 ∧ 0 < s.2.2.2.1 ∧ s.2.2.2.1 < s.2.2.2.2) (fun s => s.2.1.toNat) (by kernel_rfl) ([], v, pp, 1, 2) ⟨by assumption, by simp, ?_⟩ ?_ ?_ rfl ?_
  · dsimp only [List.length_nil]; omega
  · simp (disch := (first | omega | (simp only [push_cast]; done) | (simp only [push_cast]; omega) | ((try simp only [push_cast]); (with_reducible first | apply sel_lt | apply sel_ge); (focus decide); (focus (simp only [push_cast]; omega))))) only [push_cast, ↓reduceIte, Nat.reduceEqDiff, Nat.reduceBEq, Nat.reduceAdd, Nat.reduceSub, Int.reduceToNat, List.length_append, *]
  · simp (disch := (first | omega | (simp only [push_cast]; done) | (simp only [push_cast]; omega) | ((try simp only [push_cast]); (with_reducible first | apply sel_lt | apply sel_ge); (focus decide); (focus (simp only [push_cast]; omega))))) only [push_cast, ↓reduceIte, Nat.reduceEqDiff, Nat.reduceBEq, Nat.reduceAdd, Nat.reduceSub, Int.reduceToNat, List.length_append, *]
  rintro ⟨l, k, q, x, y⟩ ⟨okq, hl, i1, i2, i3, i4, i5, i6⟩
  dsimp only at okq hl i1 i2 i3 i4 i5 i6
  repeat' (first | (first | (with_reducible first | apply i_seq | apply i_block | apply i_skip | apply i_exit | apply i_ret | apply i_kS | apply i_kSx | apply i_kSr | apply i_kL | apply i_kLx | apply i_kLr | apply i_kB | apply i_kBr | apply i_kBs | apply i_nil) | ((with_reducible apply i_region); (focus (simp only [List.map_cons, List.map_nil] <;> exact rfl))) | ((with_reducible apply i_draw); (focus (simp only [List.map_cons, List.map_nil] <;> exact rfl)); (focus (decide +kernel))) | ((with_reducible apply i_kBo); (focus rfl)) | ((first | ((with_reducible apply i_V); (focus rfl); (focus rfl); (focus rfl)) | ((with_reducible apply i_E); (focus rfl); (focus (first | rfl | (simp only [push_cast, ↓reduceIte, effOk, touch, refsOf, List.flatMap_cons, List.flatMap_nil])))) | ((with_reducible apply i_S); (focus rfl); (focus (first | rfl | (simp only [push_cast, ↓reduceIte, effOk, touch, refsOf, List.flatMap_cons, List.flatMap_nil])))) | ((with_reducible apply i_Vq); (focus rfl); (focus rfl)) | ((with_reducible apply i_Vp); (focus rfl); (focus rfl); (focus rfl)) | (with_reducible first | apply i_Gb | apply i_cond)); (focus (simp (disch := (first | omega | (simp only [push_cast]; done) | (simp only [push_cast]; omega) | ((try simp only [push_cast]); (with_reducible first | apply sel_lt | apply sel_ge); (focus decide); (focus (simp only [push_cast]; omega))))) only [push_cast, ↓reduceIte, Nat.reduceEqDiff, Nat.reduceBEq, Nat.reduceAdd, Nat.reduceSub, Int.reduceToNat, *] <;> with_reducible exact rfl)); all_goals try (intro hX; first | (cases hX; done) | ((with_reducible first | have hX0 : true = true := hX | have hX0 : false = false := hX); clear hX0 hX) | ((try simp only [decide_eq_true_eq, decide_eq_false_iff_not, Bool.not_eq_true', Bool.not_eq_false'] at hX); (try have hXb := inB_iff.1 hX))))) | ((with_reducible apply i_drw2 pick_drw (fun _ _ => rfl)); (focus rfl); (focus (simp (disch := (first | omega | (simp only [push_cast]; done) | (simp only [push_cast]; omega) | ((try simp only [push_cast]); (with_reducible first | apply sel_lt | apply sel_ge); (focus decide); (focus (simp only [push_cast]; omega))))) only [push_cast, ↓reduceIte, Nat.reduceEqDiff, Nat.reduceBEq, Nat.reduceAdd, Nat.reduceSub, Int.reduceToNat, *] <;> with_reducible exact rfl)); (focus (simp (disch := (first | omega | (simp only [push_cast]; done) | (simp only [push_cast]; omega) | ((try simp only [push_cast]); (with_reducible first | apply sel_lt | apply sel_ge); (focus decide); (focus (simp only [push_cast]; omega))))) only [push_cast, ↓reduceIte, Nat.reduceEqDiff, Nat.reduceBEq, Nat.reduceAdd, Nat.reduceSub, Int.reduceToNat, *] <;> with_reducible exact rfl)); (focus (simp (disch := (first | omega | (simp only [push_cast]; done) | (simp only [push_cast]; omega) | ((try simp only [push_cast]); (with_reducible first | apply sel_lt | apply sel_ge); (focus decide); (focus (simp only [push_cast]; omega))))) only [push_cast, ↓reduceIte, Nat.reduceEqDiff, Nat.reduceBEq, Nat.reduceAdd, Nat.reduceSub, Int.reduceToNat, *] <;> with_reducible exact rfl)); (focus assumption); (focus omega); (focus (first | trivial | omega)); (focus (first | rfl | (simp only [push_cast, ↓reduceIte, effOk, touch, refsOf, List.flatMap_cons, List.flatMap_nil]))); intro v pp hv hok hpp1 hpp2))
  · refine ⟨(l ++ [sel ByteArray.empty [⟨#[]⟩, ⟨#[97, 32, 108, 105, 110, 101]⟩, ⟨#[116, 101, 120, 116]⟩, ⟨#[109, 111, 114, 101, 32, 111, 102, 32, 105, 116]⟩] v.toNat], k - 1, pp, y + 2, y + 3), ⟨by assumption, fun z hz => ?_, ?_⟩, ?_, ?_, ?_, rfl⟩
    · rcases List.mem_append.1 hz with hz | hz
      · exact hl z hz
      · rw [List.mem_singleton.1 hz]
        exact sel_all (p := fun a : ByteArray => a.size ≤ 10 ∧ Lib.trimRightB a.data.toList 32 = a.data.toList) (by decide) (by simp only [List.length_cons, List.length_nil]; omega)
    · simp only [List.length_append, List.length_cons, List.length_nil]; omega
    · dsimp only; omega
    · simp (disch := (first | omega | (simp only [push_cast]; done) | (simp only [push_cast]; omega) | ((try simp only [push_cast]); (with_reducible first | apply sel_lt | apply sel_ge); (focus decide); (focus (simp only [push_cast]; omega))))) only [push_cast, ↓reduceIte, Nat.reduceEqDiff, Nat.reduceBEq, Nat.reduceAdd, Nat.reduceSub, Int.reduceToNat, List.length_append, *]
    · simp (disch := (first | omega | (simp only [push_cast]; done) | (simp only [push_cast]; omega) | ((try simp only [push_cast]); (with_reducible first | apply sel_lt | apply sel_ge); (focus decide); (focus (simp only [push_cast]; omega))))) only [push_cast, ↓reduceIte, Nat.reduceEqDiff, Nat.reduceBEq, Nat.reduceAdd, Nat.reduceSub, Int.reduceToNat, List.length_append, *]
  · ((with_reducible apply i_fin0 (a := (_, _, _, _)) (by first | exact .inl rfl | exact .inr rfl)); (focus (simp (disch := (first | omega | (simp only [push_cast]; done) | (simp only [push_cast]; omega) | ((try simp only [push_cast]); (with_reducible first | apply sel_lt | apply sel_ge); (focus decide); (focus (simp only [push_cast]; omega))))) only [push_cast, ↓reduceIte, Nat.reduceEqDiff, Nat.reduceBEq, Nat.reduceAdd, Nat.reduceSub, Int.reduceToNat, rep_iv, rep_sv, rep_w, rep_i3, rep_i4, *] <;> with_reducible exact rfl)))
    refine ⟨⟨by dsimp only; omega, hl⟩, sel_rng ?_ (by omega) (by omega), sel_rng ?_ (by omega) (by omega), sel_rng ?_ (by omega) (by omega)⟩
    all_goals intro z hz
    all_goals simp only [List.mem_cons, List.not_mem_nil, or_false] at hz
    all_goals omega
noncomputable def φdrawPg : Fun := Classical.choose drawPg_ex
theorem drawPg_ok : Sound Tryd.prog 20 φdrawPg := (Classical.choose_spec drawPg_ex).1
theorem drawPg_drw : Drw0 φdrawPg EPg okPgD := (Classical.choose_spec drawPg_ex).2
noncomputable def φPgI : Fun := pureN ΨPg
theorem φPgI_some {l : LS} {wd ht page : Int} {g : List Int} (h : okSs l ∧ okI wd ∧ okI ht ∧ okI page) (hR : pgR l wd ht page = some g) : φPgI [.lst false 1 (l.map fun s => .val (.string s)), .val (.int .i64 wd), .val (.int .i64 ht), .val (.int .i64 page)] = some (.tup [.agg [.val (.int .i64 wd), .lst true 1 (g.map fun n => .val (.int .u8 n))], .val (.bool true)]) := by
  refine pureN_of (r := .tup [.agg [.val (.int .i64 wd), .row 0 1 0 g.length], .val (.bool true)]) (cs0 := [(5, 1, g.map fun n => .val (.int .u8 n))]) ((G4_ap (A := dSs) (B := dI) (C := dI) (D := dI) l wd ht page).trans ((if_pos h).trans (by unfold pgZI; rw [hR]))) ?_
  rw [ls_one]
  (simp (disch := (first | omega | (simp only [push_cast]; done) | (simp only [push_cast]; omega) | ((try simp only [push_cast]); (with_reducible first | apply sel_lt | apply sel_ge); (focus decide); (focus (simp only [push_cast]; omega))))) only [push_cast, ↓reduceIte, Nat.reduceEqDiff, Nat.reduceBEq, Nat.reduceAdd, Nat.reduceSub, Int.reduceToNat, *] <;> with_reducible exact rfl)
theorem φPgI_none {l : LS} {wd ht page : Int} (h : okSs l ∧ okI wd ∧ okI ht ∧ okI page) (hR : pgR l wd ht page = none) : φPgI [.lst false 1 (l.map fun s => .val (.string s)), .val (.int .i64 wd), .val (.int .i64 ht), .val (.int .i64 page)] = some (.tup [.agg [.val (.int .i64 0), .val (.slice none 0 0)], .val (.bool false)]) :=
  pureN_of (r := .tup [.agg [.val (.int .i64 0), .val (.slice none 0 0)], .val (.bool false)]) (cs0 := []) ((G4_ap (A := dSs) (B := dI) (C := dI) (D := dI) l wd ht page).trans ((if_pos h).trans (by unfold pgZI; rw [hR]))) rfl
noncomputable def φGlI : Fun := pureN ΨGl
theorem φGlI_ap {wd : Int} {l : List Int} (h : okU l) (hG : gridB wd l = true) : φGlI [.agg [.val (.int .i64 wd), .lst false 1 (l.map fun n => .val (.int .u8 n))]] = some (.lst true 1 ((gridR wd l).map fun s => .val (.string s))) := by
  have hp : 0 < ((gridR wd l).map fun s => PV.val (.string s)).length := by simpa using gridR_pos hG
  refine pureN_of (r := .row 0 1 0 (gridR wd l).length) (cs0 := [(9, 1, (gridR wd l).map fun s => .val (.string s))]) ((G1_ap (A := dGrid) (wd, l)).trans ((if_pos h).trans (by dsimp only; rw [if_pos hG, nP_pos hp, nC_pos hp, List.length_map]))) ?_
  rw [ls_one]
  (simp (disch := (first | omega | (simp only [push_cast]; done) | (simp only [push_cast]; omega) | ((try simp only [push_cast]); (with_reducible first | apply sel_lt | apply sel_ge); (focus decide); (focus (simp only [push_cast]; omega))))) only [push_cast, ↓reduceIte, Nat.reduceEqDiff, Nat.reduceBEq, Nat.reduceAdd, Nat.reduceSub, Int.reduceToNat, *] <;> with_reducible exact rfl)
noncomputable def φLawPgD : Fun := F1 dUs fun code => if okL okB8 code then some (bv true) else none
noncomputable def GLpgd : Ctx := ⟨fun f => if f = 20 then some φdrawPg else if f = 14 then some φPgI else if f = 12 then some φPg else if f = 21 then some φSameGn else if f = 22 then some φTrue else if f = 23 then some φGlI else if f = 24 then some φGridValid else none, fun f => none⟩
theorem GLpgd_ok : SoundΓ Tryd.prog GLpgd := ⟨(fun f φ h => by
  unfold GLpgd at h
  dsimp only at h
  split at h
  · rename_i hf; cases h; subst hf; exact ⟨⟨_, Tryd.func20, rfl, rfl⟩, drawPg_ok⟩
  split at h
  · rename_i hf; cases h; subst hf; exact ⟨⟨_, Tryd.func14, rfl, rfl⟩, implPgN.pure⟩
  split at h
  · rename_i hf; cases h; subst hf; exact ⟨⟨_, Tryd.func12, rfl, rfl⟩, specPg_ok⟩
  split at h
  · rename_i hf; cases h; subst hf; exact ⟨⟨_, Tryd.func21, rfl, rfl⟩, (sameGrid_ok.nilG 1)⟩
  split at h
  · rename_i hf; cases h; subst hf; exact ⟨⟨_, Tryd.func22, rfl, rfl⟩, alive_ok⟩
  split at h
  · rename_i hf; cases h; subst hf; exact ⟨⟨_, Tryd.func23, rfl, rfl⟩, implGlN.pure⟩
  split at h
  · rename_i hf; cases h; subst hf; exact ⟨⟨_, Tryd.func24, rfl, rfl⟩, implGridValid_ok⟩
  cases h), (fun f φ h => by
  unfold GLpgd at h
  dsimp only at h
  cases h)⟩
theorem GLpgd_20 (ob : Objs) (ps : List PV) : evCall GLpgd ob 20 ps = (ps.mapM (reify false 0 ob fuel)).bind φdrawPg := by
  have h : GLpgd.fn 20 = some φdrawPg := by simp [GLpgd]
  unfold evCall
  rw [h]
  cases ps.mapM (reify false 0 ob fuel) <;> rfl
theorem GLpgd_14 (ob : Objs) (ps : List PV) : evCall GLpgd ob 14 ps = (ps.mapM (reify false 0 ob fuel)).bind φPgI := by
  have h : GLpgd.fn 14 = some φPgI := by simp [GLpgd]
  unfold evCall
  rw [h]
  cases ps.mapM (reify false 0 ob fuel) <;> rfl
theorem GLpgd_12 (ob : Objs) (ps : List PV) : evCall GLpgd ob 12 ps = (ps.mapM (reify false 0 ob fuel)).bind φPg := by
  have h : GLpgd.fn 12 = some φPg := by simp [GLpgd]
  unfold evCall
  rw [h]
  cases ps.mapM (reify false 0 ob fuel) <;> rfl
theorem GLpgd_21 (ob : Objs) (ps : List PV) : evCall GLpgd ob 21 ps = (ps.mapM (reify false 0 ob fuel)).bind φSameGn := by
  have h : GLpgd.fn 21 = some φSameGn := by simp [GLpgd]
  unfold evCall
  rw [h]
  cases ps.mapM (reify false 0 ob fuel) <;> rfl
theorem GLpgd_22 (ob : Objs) (ps : List PV) : evCall GLpgd ob 22 ps = (ps.mapM (reify false 0 ob fuel)).bind φTrue := by
  have h : GLpgd.fn 22 = some φTrue := by simp [GLpgd]
  unfold evCall
  rw [h]
  cases ps.mapM (reify false 0 ob fuel) <;> rfl
theorem GLpgd_23 (ob : Objs) (ps : List PV) : evCall GLpgd ob 23 ps = (ps.mapM (reify false 0 ob fuel)).bind φGlI := by
  have h : GLpgd.fn 23 = some φGlI := by simp [GLpgd]
  unfold evCall
  rw [h]
  cases ps.mapM (reify false 0 ob fuel) <;> rfl
theorem GLpgd_24 (ob : Objs) (ps : List PV) : evCall GLpgd ob 24 ps = (ps.mapM (reify false 0 ob fuel)).bind φGridValid := by
  have h : GLpgd.fn 24 = some φGridValid := by simp [GLpgd]
  unfold evCall
  rw [h]
  cases ps.mapM (reify false 0 ob fuel) <;> rfl
set_option maxHeartbeats 16000000 in
theorem lawPgD_ok : Sound Tryd.prog 4 φLawPgD := by
  refine sound_pq mixed GLpgd_ok Tryd.func4 rfl 102 rfl [.tmp 2] rfl (by kernel_rfl) fun ps r hr => ?_
  obtain ⟨code, rfl, hq⟩ := F1_some hr
  clear hr
  split at hq
  case isFalse => cases hq
  case isTrue hpre =>
  cases hq
  refine ⟨by simp, ?_⟩
  simp only [dIs, dUs, dSs, dI_e, dU_e, dB_e, dS_e, dFn_e, dL_e, dA2_e, dA3_e, dA4_e, dA5_e]
  have hbyte := bytes_ok hpre
  by_cases hlen : code.length ≤ 1048576
  · obtain ⟨⟨l, wd, ht, page⟩, e, ⟨hl4, hls⟩, hd1, hd2, hd3⟩ := drawPg_drw code hbyte hlen
    unfold EPg at e
    dsimp only at e hl4 hls hd1 hd2 hd3
    have hlk : ∀ k, k < l.length → (l[k]?.getD .empty).size ≤ 10 ∧ noTrail (l[k]?.getD .empty) := fun k hk => by
      rw [List.getElem?_eq_getElem hk, Option.getD_some]
      exact hls _ (List.getElem_mem hk)
    have hok : okSs l := ⟨by omega, fun i => by
      by_cases hi : i < l.length
      · have := (hlk i hi).1; omega
      · rw [List.getElem?_eq_none (by omega)]; decide⟩
    have hall : okSs l ∧ okI wd ∧ okI ht ∧ okI page := ⟨hok, ⟨by omega, by omega⟩, ⟨by omega, by omega⟩, by omega, by omega⟩
    have apt := φTrue_ap
    have ap1 := φPg_ap hall
    unfold pgZS at ap1
    clear hbyte hpre
    cases hR : pgR l wd ht page with
    | none =>
      have ap2 := φPgI_none hall hR
      have ap3 := φSameGn_nil
      rw [hR] at ap1
      dsimp only at ap1
      clear hall hok hlk hls hR
      have glpgd_c20 := GLpgd_20; have glpgd_c14 := GLpgd_14; have glpgd_c12 := GLpgd_12; have glpgd_c21 := GLpgd_21; have glpgd_c22 := GLpgd_22; have glpgd_c23 := GLpgd_23; have glpgd_c24 := GLpgd_24
      (repeat' (first | (with_reducible first | apply i_seq | apply i_block | apply i_skip | apply i_exit | apply i_ret | apply i_kS | apply i_kSx | apply i_kSr | apply i_kL | apply i_kLx | apply i_kLr | apply i_kB | apply i_kBr | apply i_kBs | apply i_nil) | ((with_reducible apply i_region); (focus (simp only [List.map_cons, List.map_nil] <;> exact rfl))) | ((with_reducible apply i_draw); (focus (simp only [List.map_cons, List.map_nil] <;> exact rfl)); (focus (decide +kernel))) | ((with_reducible apply i_kBo); (focus rfl)) | ((first | ((with_reducible apply i_V); (focus rfl); (focus rfl); (focus rfl)) | ((with_reducible apply i_E); (focus rfl); (focus (first | rfl | (simp only [push_cast, ↓reduceIte, effOk, touch, refsOf, List.flatMap_cons, List.flatMap_nil])))) | ((with_reducible apply i_S); (focus rfl); (focus (first | rfl | (simp only [push_cast, ↓reduceIte, effOk, touch, refsOf, List.flatMap_cons, List.flatMap_nil])))) | ((with_reducible apply i_Vq); (focus rfl); (focus rfl)) | ((with_reducible apply i_Vp); (focus rfl); (focus rfl); (focus rfl)) | (with_reducible first | apply i_Gb | apply i_cond)); (focus (simp (disch := (first | omega | (simp only [push_cast]; done) | (simp only [push_cast]; omega) | ((try simp only [push_cast]); (with_reducible first | apply sel_lt | apply sel_ge); (focus decide); (focus (simp only [push_cast]; omega))))) only [push_cast, ↓reduceIte, Nat.reduceEqDiff, Nat.reduceBEq, Nat.reduceAdd, Nat.reduceSub, Int.reduceToNat, *] <;> with_reducible exact rfl)); all_goals try (intro hX; first | (cases hX; done) | ((with_reducible first | have hX0 : true = true := hX | have hX0 : false = false := hX); clear hX0 hX) | ((try simp only [decide_eq_true_eq, decide_eq_false_iff_not, Bool.not_eq_true', Bool.not_eq_false'] at hX); (try have hXb := inB_iff.1 hX)))))); all_goals try (exfalso; omega)
      all_goals (first | (exfalso; omega) | ((first | apply i_end | apply i_endN); simp (disch := (first | omega | (simp only [push_cast]; done) | (simp only [push_cast]; omega) | ((try simp only [push_cast]); (with_reducible first | apply sel_lt | apply sel_ge); (focus decide); (focus (simp only [push_cast]; omega))))) only [push_cast, ↓reduceIte, Nat.reduceEqDiff, Nat.reduceBEq, Nat.reduceAdd, Nat.reduceSub, Int.reduceToNat, *]) | skip)
    | some g =>
      have ap2 := φPgI_some hall hR
      obtain ⟨g1, g2, g3, g4, g5, g6, g7, g8⟩ := pg_law hR fun k hk => (hlk k hk).2
      have hU := gridB_okU g1
      have ap3 := φSameGn_ap (wd := wd) (l := g) (by omega)
      have ap4 := φGlI_ap hU g1
      have ap5 := φGridValid_ap (wd := wd) hU
      rw [g1] at ap5
      rw [hR] at ap1
      dsimp only at ap1
      generalize gridR wd g = R at *
      clear hall hok hls hR hU g1
      have glpgd_c20 := GLpgd_20; have glpgd_c14 := GLpgd_14; have glpgd_c12 := GLpgd_12; have glpgd_c21 := GLpgd_21; have glpgd_c22 := GLpgd_22; have glpgd_c23 := GLpgd_23; have glpgd_c24 := GLpgd_24
      (repeat' (first | (with_reducible first | apply i_seq | apply i_block | apply i_skip | apply i_exit | apply i_ret | apply i_kS | apply i_kSx | apply i_kSr | apply i_kL | apply i_kLx | apply i_kLr | apply i_kB | apply i_kBr | apply i_kBs | apply i_nil) | ((with_reducible apply i_region); (focus (simp only [List.map_cons, List.map_nil] <;> exact rfl))) | ((with_reducible apply i_draw); (focus (simp only [List.map_cons, List.map_nil] <;> exact rfl)); (focus (decide +kernel))) | ((with_reducible apply i_kBo); (focus rfl)) | ((first | ((with_reducible apply i_V); (focus rfl); (focus rfl); (focus rfl)) | ((with_reducible apply i_E); (focus rfl); (focus (first | rfl | (simp only [push_cast, ↓reduceIte, effOk, touch, refsOf, List.flatMap_cons, List.flatMap_nil])))) | ((with_reducible apply i_S); (focus rfl); (focus (first | rfl | (simp only [push_cast, ↓reduceIte, effOk, touch, refsOf, List.flatMap_cons, List.flatMap_nil])))) | ((with_reducible apply i_Vq); (focus rfl); (focus rfl)) | ((with_reducible apply i_Vp); (focus rfl); (focus rfl); (focus rfl)) | (with_reducible first | apply i_Gb | apply i_cond)); (focus (simp (disch := (first | omega | (simp only [push_cast]; done) | (simp only [push_cast]; omega) | ((try simp only [push_cast]); (with_reducible first | apply sel_lt | apply sel_ge); (focus decide); (focus (simp only [push_cast]; omega))))) only [push_cast, ↓reduceIte, Nat.reduceEqDiff, Nat.reduceBEq, Nat.reduceAdd, Nat.reduceSub, Int.reduceToNat, *] <;> with_reducible exact rfl)); all_goals try (intro hX; first | (cases hX; done) | ((with_reducible first | have hX0 : true = true := hX | have hX0 : false = false := hX); clear hX0 hX) | ((try simp only [decide_eq_true_eq, decide_eq_false_iff_not, Bool.not_eq_true', Bool.not_eq_false'] at hX); (try have hXb := inB_iff.1 hX)))))); all_goals try (exfalso; omega)
      refine i_loop (α := Nat) mixed (fun k => [(3, .lst true 1 (l.map fun s => .val (.string s))), (5, iv ht), (7, .own 0 2 0 0), (11, .lst true 1 (R.map fun s => .val (.string s))), (12, iv k)])
        (fun _ => [(0, 26, 2, [PV.agg [.val (.int .i64 wd), .lst true 1 (g.map fun n => .val (.int .u8 n))]])]) (fun _ => 2) (fun k => k ≤ l.length) (fun k => l.length - k) (by kernel_rfl) 0 (Nat.zero_le _) ?_ ?_ rfl ?_
      · simp (disch := (first | omega | (simp only [push_cast]; done) | (simp only [push_cast]; omega) | ((try simp only [push_cast]); (with_reducible first | apply sel_lt | apply sel_ge); (focus decide); (focus (simp only [push_cast]; omega))))) only [push_cast, ↓reduceIte, Nat.reduceEqDiff, Nat.reduceBEq, Nat.reduceAdd, Nat.reduceSub, Int.reduceToNat, List.length_append, *]
      · simp (disch := (first | omega | (simp only [push_cast]; done) | (simp only [push_cast]; omega) | ((try simp only [push_cast]); (with_reducible first | apply sel_lt | apply sel_ge); (focus decide); (focus (simp only [push_cast]; omega))))) only [push_cast, ↓reduceIte, Nat.reduceEqDiff, Nat.reduceBEq, Nat.reduceAdd, Nat.reduceSub, Int.reduceToNat, List.length_append, *]
      intro k hk
      by_cases hkl : k < l.length
      · have h7 := g7 k hkl
        clear g7 g8
        (repeat' (first | (with_reducible first | apply i_seq | apply i_block | apply i_skip | apply i_exit | apply i_ret | apply i_kS | apply i_kSx | apply i_kSr | apply i_kL | apply i_kLx | apply i_kLr | apply i_kB | apply i_kBr | apply i_kBs | apply i_nil) | ((with_reducible apply i_region); (focus (simp only [List.map_cons, List.map_nil] <;> exact rfl))) | ((with_reducible apply i_draw); (focus (simp only [List.map_cons, List.map_nil] <;> exact rfl)); (focus (decide +kernel))) | ((with_reducible apply i_kBo); (focus rfl)) | ((first | ((with_reducible apply i_V); (focus rfl); (focus rfl); (focus rfl)) | ((with_reducible apply i_E); (focus rfl); (focus (first | rfl | (simp only [push_cast, ↓reduceIte, effOk, touch, refsOf, List.flatMap_cons, List.flatMap_nil])))) | ((with_reducible apply i_S); (focus rfl); (focus (first | rfl | (simp only [push_cast, ↓reduceIte, effOk, touch, refsOf, List.flatMap_cons, List.flatMap_nil])))) | ((with_reducible apply i_Vq); (focus rfl); (focus rfl)) | ((with_reducible apply i_Vp); (focus rfl); (focus rfl); (focus rfl)) | (with_reducible first | apply i_Gb | apply i_cond)); (focus (simp (disch := (first | omega | (simp only [push_cast]; done) | (simp only [push_cast]; omega) | ((try simp only [push_cast]); (with_reducible first | apply sel_lt | apply sel_ge); (focus decide); (focus (simp only [push_cast]; omega))))) only [push_cast, ↓reduceIte, Nat.reduceEqDiff, Nat.reduceBEq, Nat.reduceAdd, Nat.reduceSub, Int.reduceToNat, *] <;> with_reducible exact rfl)); all_goals try (intro hX; first | (cases hX; done) | ((with_reducible first | have hX0 : true = true := hX | have hX0 : false = false := hX); clear hX0 hX) | ((try simp only [decide_eq_true_eq, decide_eq_false_iff_not, Bool.not_eq_true', Bool.not_eq_false'] at hX); (try have hXb := inB_iff.1 hX)))))); all_goals try (exfalso; omega)
        refine ⟨k + 1, by omega, by dsimp only; omega, ?_, ?_, rfl⟩
        · simp (disch := (first | omega | (simp only [push_cast]; done) | (simp only [push_cast]; omega) | ((try simp only [push_cast]); (with_reducible first | apply sel_lt | apply sel_ge); (focus decide); (focus (simp only [push_cast]; omega))))) only [push_cast, ↓reduceIte, Nat.reduceEqDiff, Nat.reduceBEq, Nat.reduceAdd, Nat.reduceSub, Int.reduceToNat, List.length_append, *]
        · simp (disch := (first | omega | (simp only [push_cast]; done) | (simp only [push_cast]; omega) | ((try simp only [push_cast]); (with_reducible first | apply sel_lt | apply sel_ge); (focus decide); (focus (simp only [push_cast]; omega))))) only [push_cast, ↓reduceIte, Nat.reduceEqDiff, Nat.reduceBEq, Nat.reduceAdd, Nat.reduceSub, Int.reduceToNat, List.length_append, *]
      · clear g7
        rw [show R.length - 1 = (ht - 1).toNat by omega] at g8
        have hne : decide (R[(ht - 1).toNat]?.getD ByteArray.empty = ⟨#[]⟩) = false := decide_eq_false g8
        clear g8
        (repeat' (first | (with_reducible first | apply i_seq | apply i_block | apply i_skip | apply i_exit | apply i_ret | apply i_kS | apply i_kSx | apply i_kSr | apply i_kL | apply i_kLx | apply i_kLr | apply i_kB | apply i_kBr | apply i_kBs | apply i_nil) | ((with_reducible apply i_region); (focus (simp only [List.map_cons, List.map_nil] <;> exact rfl))) | ((with_reducible apply i_draw); (focus (simp only [List.map_cons, List.map_nil] <;> exact rfl)); (focus (decide +kernel))) | ((with_reducible apply i_kBo); (focus rfl)) | ((first | ((with_reducible apply i_V); (focus rfl); (focus rfl); (focus rfl)) | ((with_reducible apply i_E); (focus rfl); (focus (first | rfl | (simp only [push_cast, ↓reduceIte, effOk, touch, refsOf, List.flatMap_cons, List.flatMap_nil])))) | ((with_reducible apply i_S); (focus rfl); (focus (first | rfl | (simp only [push_cast, ↓reduceIte, effOk, touch, refsOf, List.flatMap_cons, List.flatMap_nil])))) | ((with_reducible apply i_Vq); (focus rfl); (focus rfl)) | ((with_reducible apply i_Vp); (focus rfl); (focus rfl); (focus rfl)) | (with_reducible first | apply i_Gb | apply i_cond)); (focus (simp (disch := (first | omega | (simp only [push_cast]; done) | (simp only [push_cast]; omega) | ((try simp only [push_cast]); (with_reducible first | apply sel_lt | apply sel_ge); (focus decide); (focus (simp only [push_cast]; omega))))) only [push_cast, ↓reduceIte, Nat.reduceEqDiff, Nat.reduceBEq, Nat.reduceAdd, Nat.reduceSub, Int.reduceToNat, *] <;> with_reducible exact rfl)); all_goals try (intro hX; first | (cases hX; done) | ((with_reducible first | have hX0 : true = true := hX | have hX0 : false = false := hX); clear hX0 hX) | ((try simp only [decide_eq_true_eq, decide_eq_false_iff_not, Bool.not_eq_true', Bool.not_eq_false'] at hX); (try have hXb := inB_iff.1 hX)))))); all_goals try (exfalso; omega)
        all_goals (first | (exfalso; omega) | ((first | apply i_end | apply i_endN); simp (disch := (first | omega | (simp only [push_cast]; done) | (simp only [push_cast]; omega) | ((try simp only [push_cast]); (with_reducible first | apply sel_lt | apply sel_ge); (focus decide); (focus (simp only [push_cast]; omega))))) only [push_cast, ↓reduceIte, Nat.reduceEqDiff, Nat.reduceBEq, Nat.reduceAdd, Nat.reduceSub, Int.reduceToNat, *]) | skip)
        all_goals (rw [hne]; rfl)
  · have glpgd_c20 := GLpgd_20; have glpgd_c14 := GLpgd_14; have glpgd_c12 := GLpgd_12; have glpgd_c21 := GLpgd_21; have glpgd_c22 := GLpgd_22; have glpgd_c23 := GLpgd_23; have glpgd_c24 := GLpgd_24
    (repeat' (first | (with_reducible first | apply i_seq | apply i_block | apply i_skip | apply i_exit | apply i_ret | apply i_kS | apply i_kSx | apply i_kSr | apply i_kL | apply i_kLx | apply i_kLr | apply i_kB | apply i_kBr | apply i_kBs | apply i_nil) | ((with_reducible apply i_region); (focus (simp only [List.map_cons, List.map_nil] <;> exact rfl))) | ((with_reducible apply i_draw); (focus (simp only [List.map_cons, List.map_nil] <;> exact rfl)); (focus (decide +kernel))) | ((with_reducible apply i_kBo); (focus rfl)) | ((first | ((with_reducible apply i_V); (focus rfl); (focus rfl); (focus rfl)) | ((with_reducible apply i_E); (focus rfl); (focus (first | rfl | (simp only [push_cast, ↓reduceIte, effOk, touch, refsOf, List.flatMap_cons, List.flatMap_nil])))) | ((with_reducible apply i_S); (focus rfl); (focus (first | rfl | (simp only [push_cast, ↓reduceIte, effOk, touch, refsOf, List.flatMap_cons, List.flatMap_nil])))) | ((with_reducible apply i_Vq); (focus rfl); (focus rfl)) | ((with_reducible apply i_Vp); (focus rfl); (focus rfl); (focus rfl)) | (with_reducible first | apply i_Gb | apply i_cond)); (focus (simp (disch := (first | omega | (simp only [push_cast]; done) | (simp only [push_cast]; omega) | ((try simp only [push_cast]); (with_reducible first | apply sel_lt | apply sel_ge); (focus decide); (focus (simp only [push_cast]; omega))))) only [push_cast, ↓reduceIte, Nat.reduceEqDiff, Nat.reduceBEq, Nat.reduceAdd, Nat.reduceSub, Int.reduceToNat, *] <;> with_reducible exact rfl)); all_goals try (intro hX; first | (cases hX; done) | ((with_reducible first | have hX0 : true = true := hX | have hX0 : false = false := hX); clear hX0 hX) | ((try simp only [decide_eq_true_eq, decide_eq_false_iff_not, Bool.not_eq_true', Bool.not_eq_false'] at hX); (try have hXb := inB_iff.1 hX)))))); all_goals try (exfalso; omega)
    all_goals (first | (exfalso; omega) | ((first | apply i_end | apply i_endN); simp (disch := (first | omega | (simp only [push_cast]; done) | (simp only [push_cast]; omega) | ((try simp only [push_cast]); (with_reducible first | apply sel_lt | apply sel_ge); (focus decide); (focus (simp only [push_cast]; omega))))) only [push_cast, ↓reduceIte, Nat.reduceEqDiff, Nat.reduceBEq, Nat.reduceAdd, Nat.reduceSub, Int.reduceToNat, *]) | skip)
end Go.Proofs.YtpggpdbipajchaaDoor
namespace Go.Proofs.YtpggpdbipajchaaDoor
open Go.ChangeShapes Go.WideShapes Go.ChangeAt Go.RowKit
open Go.ChangeMaps (open_string shut_string)
set_option linter.all false
theorem own : ownKnob Tryd.prog.godebug = none := by kernel_rfl
theorem laidOut : laidOutB Tryd.prog = true := by kernel_rfl
theorem wf_u8 {x : Int} (h : (Lit.int .u8 x).wf = true) : 0 ≤ x ∧ x ≤ 255 := by
  simpa [Lit.wf, IntKind.min, IntKind.max, IntKind.signed, IntKind.bits] using h
theorem addr_add (b off i : Nat) : (⟨b, off, none⟩ : Addr).add i = ⟨b, off + i, none⟩ := by
  unfold Addr.add
  by_cases h : i = 0 <;> simp [h]
theorem cell_lt {w : World} {a : Addr} {v : Value} (h : w.cell? a = some v) : a.block < w.heap.size := by
  unfold World.cell? at h
  by_cases hb : a.block < w.heap.size
  · exact hb
  · rw [Array.getElem?_eq_none (by omega)] at h
    cases a.spot <;> simp at h
theorem tab_of {P : Program} {W : World} {name : String} {k : IntKind} {zs : List Int} {g : Nat} (hg : P.globalNamed name = some g) (h : Lib.TabIs P W name k zs) : ∃ T k', W.heap[g]? = some (.cells ((zs.map fun z => Value.int k z).toArray) T k') := by
  unfold Lib.TabIs World.var? at h
  rw [hg, Option.bind_some] at h
  split at h
  · rename_i cs T k' hc
    cases h
    exact ⟨_, _, hc⟩
  · cases h
theorem laid_tail {P : Program} {x : String × DataW Unit} {r : List (String × DataW Unit)} {w : World} (h : laidMet P (x :: r) w) : laidMet P r w := by
  obtain ⟨ps, hv, hnd, hc⟩ := h
  obtain ⟨g, t, cs, fuel, p, q, h1, h2, h3, h4, h5, rfl⟩ := hv
  exact ⟨q, h5, (List.nodup_append.1 hnd).2.1, fun b off hm => hc b off (List.mem_append_right _ hm)⟩
abbrev gW (W : World) : Gh := argG fun b => b < W.heap.size
section
variable {H : Type} {enc : TypeId × Value → H} {P : Program} {W : World} {base : Nat} {α β γ δ ε : Type}
def OpC (enc : TypeId × Value → H) (P : Program) (W : World) (base : Nat) (t : TypeId) (A : Dec α) (ok : α → Prop) : Prop :=
  ∀ fuel cs x, DataW.trod enc P W base (fun _ => true) true fuel t cs = some x → ∃ a v, ok a ∧ Rep (gW W) W (A.e a) v ∧ v.cells.toList = cs ∧ v.cells.all (·.oneCell') = true
theorem opU {t : TypeId} (ht : P.underlying t = some (.int .u8)) : OpC enc P W base t dU okB8 := fun fuel cs x h => by
  obtain ⟨n, rfl, _, hw⟩ := DataW.trod_int ht h
  exact ⟨n, .int .u8 n, wf_u8 hw, rfl, rfl, by simp [Value.cells, Value.oneCell']⟩
theorem list_of {n : Nat} {p : Nat → α → Prop} (h : ∀ i, i < n → ∃ x, p i x) : ∃ l : List α, l.length = n ∧ ∀ i a, l[i]? = some a → p i a := by
  induction n with
  | zero => exact ⟨[], rfl, fun i a h => by simp at h⟩
  | succ n ih =>
    obtain ⟨l, hl, hp⟩ := ih fun i hi => h i (by omega)
    obtain ⟨x, hx⟩ := h n (by omega)
    refine ⟨l ++ [x], by simp [hl], fun i a hi => ?_⟩
    rw [List.getElem?_append] at hi
    split at hi
    · exact hp i a hi
    · rename_i hlt
      have : i - l.length = 0 := by
        by_cases h0 : i - l.length = 0
        · exact h0
        · rw [List.getElem?_eq_none (by simp; omega)] at hi
          cases hi
      rw [this] at hi
      simp at hi
      subst hi
      have : i = n := by omega
      subst this
      exact hx
theorem opL {t e : TypeId} {A : Dec α} {ok : α → Prop} (sz : Nat) (ht : P.underlying t = some (.slice e)) (hs : P.cellsOf e = sz) (h0 : 0 < sz) (hA : OpC enc P W base e A ok) : OpC enc P W base t (dL sz A) (okL ok) := fun fuel cs x h => by
  rcases Go.Deep.open_slice ht h with ⟨rfl, _⟩ | ⟨x, len, cap, m, n, D, Pl, rfl, hb, hl, hm, hmm, _, hx⟩
  · exact ⟨[], .slice none 0 0, ⟨by simp, by simp⟩, ⟨none, 0, rfl, by simp, by simp, .inl rfl⟩, rfl, by simp [Value.cells, Value.oneCell']⟩
  have hm2 : m = cap := by simpa using hmm
  have hcap : cap ≤ 9223372036854775807 := hm
  obtain ⟨l, hlen, hp⟩ := list_of (n := len) (p := fun i a => ok a ∧ ∃ v, Rep (gW W) W (A.e a) v ∧ v.cells.size = sz ∧ v.cells.all (·.oneCell') = true ∧ ∀ j, j < sz → W.cell? ((x.add (i * sz)).add j) = v.cells[j]?) (fun i hi => by
    obtain ⟨cs', h1, h2⟩ := hx i (by omega)
    obtain ⟨a, v, h3, h4, h5, h6⟩ := hA _ _ _ h2
    obtain ⟨_, h7, h8⟩ := World.cells?_some h1
    rw [hs] at h7 h8
    refine ⟨a, h3, v, h4, ?_, h6, fun j hj => ?_⟩
    · rw [← h7, ← h5]; simp
    · rw [h8 j hj, ← h5]; simp)
  refine ⟨l, .slice (some x) len cap, ⟨by omega, fun a ha => ?_⟩, ?_, rfl, by simp [Value.cells, Value.oneCell']⟩
  · obtain ⟨i, hi, rfl⟩ := List.getElem_of_mem ha
    exact (hp i _ (by simp [hi])).1
  · refine ⟨some x, cap, by simp [hlen], by simp [hlen]; omega, hcap, ?_⟩
    by_cases hn : l = []
    · exact .inl (by simp [hn])
    right
    have hl0 : 0 < l.length := List.length_pos_iff.2 hn
    obtain ⟨_, v, h4, h5, h6, h7⟩ := hp 0 l[0] (by simp [hl0])
    have h8 := h7 0 h0
    have h9 : v.cells[0]? = some v.cells[0] := by simp
    rw [h9] at h8
    have hspot := World.cell?_spot h8
    have hlt := cell_lt h8
    obtain ⟨b, off, spot⟩ := x
    simp only [Nat.zero_mul, Addr.add, if_true] at hspot hlt
    subst hspot
    refine ⟨b, off, rfl, ⟨rfl, hlt⟩, RepEs.of fun i p hi => ?_⟩
    rw [List.getElem?_map, Option.map_eq_some_iff] at hi
    obtain ⟨a, ha, rfl⟩ := hi
    obtain ⟨_, v, h4, h5, h6, h7⟩ := hp i a ha
    refine ⟨v, h4, ⟨h6, fun j hj => ?_⟩, h5⟩
    have := h7 j (by omega)
    rwa [addr_add, addr_add] at this
theorem opF {t : TypeId} {A : Dec α} {ok : α → Prop} {n : Nat} {cs : List Value} {y : DataW H × List MemPlace} (hA : OpC enc P W base t A ok) (h1 : ∀ a, oneP (A.e a) = true)
    (h : DataW.trod enc P W base (fun _ => true) true n t cs = some y) : ∃ a v, ok a ∧ Rep (gW W) W (A.e a) v ∧ v.oneCell' = true ∧ cs = [v] := by
  obtain ⟨a, v, h3, h4, h5, h6⟩ := hA _ _ _ h
  have := oneP_rep h4 (h1 a)
  exact ⟨a, v, h3, h4, this, by rw [← h5, oneCell_cells this]⟩
theorem op1 {t : TypeId} {A : Dec α} {ok : α → Prop} {v : Value} {d : DataW H} {p : List MemPlace} (hA : OpC enc P W base t A ok) (h1 : ∀ a, oneP (A.e a) = true) (hv : v.cells = #[v])
    (h : DataW.Trod enc P W base (fun _ => true) true t v d p) : ∃ a, ok a ∧ Rep (gW W) W (A.e a) v := by
  obtain ⟨fuel, hf⟩ := h
  obtain ⟨a, u, h3, h4, h5, h6⟩ := opF hA h1 hf
  rw [hv] at h6
  have : v = u := by simpa using h6
  subst this
  exact ⟨a, h3, h4⟩
theorem walk_of {f : Nat} {φ : Fun} {ps : List PV} {args : Array Value} (h : Sound P f φ) (hT : TabF W fun _ => False) (ha : φ ps = some (bv true)) (hr : RepL (gW W) W ps args.toList) :
    Calls P f args W fun e w' => e = .returned (.bool true) ∧ Below W.heap.size W w' := by
  refine (h W (fun b => b < W.heap.size) ps args _ ha (fun b hb => hb) hT hr).mono ?_
  rintro e w' ⟨v, rfl, hb, hv⟩
  have := hv { I := fun _ _ => True, β := fun _ => 0, κ := fun _ => 0, nx := 0 } fun b _ _ => trivial
  have hv2 : v = .bool true := this
  subst hv2
  exact ⟨rfl, hb⟩
end
theorem shape_cell {P : Program} {w : World} {g : Nat} {t : TypeId} {zero : Array Value} (h : w.ShapedOpen P) (hg : g < P.globals.size)
    (h0 : ((begin P (fun _ _ => 0) default).world.heap[g]?).bind Obj.row? = some (zero, t)) (hz : zero.size = 1) : ∃ v, w.cell? ⟨g, 0, none⟩ = some v := by
  obtain ⟨cs, hh, hs, _⟩ := h.1 g zero t hg h0
  have h1 : 0 < cs.size := by omega
  exact ⟨cs[0], by simp [World.cell?, hh, h1]⟩
theorem returns_and_shaped {H : Type} {enc : TypeId × Value → H} {a : Assume} {C : Checked} {os : Os} {f : FuncId} {fn : Func} {s : ChangeSpec} {conds : List PathCond} {apart fresh handsOn again : Bool} {X : World → Array Value → Prop}
    (hX : ∀ (w w' : World) (args : Array Value), w.heap = w'.heap → X w args → X w' args)
    (own : ownKnob C.prog.godebug = none) (started : os.Started) (noInit : C.prog.inits.idxOf? f = none) (hfn : C.prog.funcs[f]? = some fn)
    (witness : ∃ (w : World) (tape : Tape) (i : Input), w.os = os ∧ (w.forCall tape i).Shaped C.prog ∧ i.vars = [] ∧ Input.okWide C.prog (w.forCall tape i) .any w.heap.size f i ∧
      ((s.pre enc C.prog fn conds apart (w.forCall tape i).memory i.args ∧ X (w.forCall tape i).memory i.args) ∧ sizedMet enc C.prog fn (OpenSpec.ofChange s) apart (w.forCall tape i).memory i.args) ∧ a.holds C.prog (lone (Frame.enter C.prog f i.args .normal) [] (w.forCall tape i)))
    (contract : ∀ (W : World) (base : Nat) (args : Array Value) (ds gs : List (DataW H)) (before : List MemPlace),
      (∀ (j : Nat) t v, fn.params[j]? = some t → args[j]? = some v → Value.okWide C.prog W .any base t v) →
      DataW.Whole enc C.prog fn.params.toList s.vars apart W args.toList ds gs before →
      conds.all (PathCond.test C.prog ⟨fn.params.toList, ds, s.plain.varTypes C.prog, gs⟩) = true →
      (DataW.weightsEach C.prog (fn.params.toList ++ s.plain.varTypes C.prog) (ds ++ gs)).all (· ≤ reachBytes) = true → X W args → W.ShapedOpen C.prog →
      a.holds C.prog (lone (Frame.enter C.prog f args .normal) [] W) →
      Calls C.prog f args W fun e W' => ∃ v, e = .returned v ∧ s.post enc C.prog fn apart fresh handsOn again W args v W') :
    ReturnsInHanded a C os f .any (fun w args => (s.pre enc C.prog fn conds apart w args ∧ X w args) ∧ sizedMet enc C.prog fn (OpenSpec.ofChange s) apart w args) (s.post enc C.prog fn apart fresh handsOn again) := by
  refine returnsInHanded_of_calls own started noInit witness ?_
  intro w tape i _ hsh _ hok hpre hholds
  obtain ⟨_, _, _, fn', hfn', _, _, _, _, hval⟩ := hok
  have e : fn' = fn := Option.some.inj (hfn'.symm.trans hfn)
  subst e
  obtain ⟨⟨⟨ds, gs, before, hw, hc⟩, hx⟩, hz⟩ := hpre
  have hw' := DataW.Whole.of_heap (w' := w.forCall tape i) (by rfl) hw
  refine (contract (w.forCall tape i) w.heap.size i.args ds gs before hval hw' hc (hz.weights hw) (hX _ _ _ (by rfl) hx) hsh hholds).mono fun e W' ⟨v, he, hp⟩ => ?_
  subst he
  exact ChangeSpec.post_blind hp
end Go.Proofs.YtpggpdbipajchaaDoor
