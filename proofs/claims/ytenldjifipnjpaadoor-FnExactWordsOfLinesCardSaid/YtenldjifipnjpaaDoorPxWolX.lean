/- WordsOfLines: the program's, as a contract; the exact law. -/
import Derived.Test.YtenldjifipnjpaaDoorPxWolI
import Derived.Test.YtenldjifipnjpaaDoorPxMark
namespace Go.Proofs.YtenldjifipnjpaaDoor
open Go.RowKit
set_option linter.all false
noncomputable def ΨWol : FunN := G1 dSs fun l => open Classical in if okWl l then some (nP 1 ((wolR l).map fun s => .val (.string s)) 0, nC 9 1 ((wolR l).map fun s => .val (.string s))) else none
theorem implWolN : SoundN Tryd.prog 14 ΨWol := by
  intro w J β κ ps cs args r cs' hr hJ hO _ hargs
  dsimp only at hr
  split at hr
  case isFalse => cases hr
  case isTrue hcs =>
  subst hcs
  obtain ⟨l, rfl, hq⟩ := G1_some hr
  split at hq
  case isFalse => cases hq
  case isTrue hok =>
  simp only [Option.some.injEq, Prod.mk.injEq] at hq
  obtain ⟨rfl, rfl⟩ := hq
  simp only [RepL] at hargs
  obtain ⟨v1, vs1, e1, h1, rfl⟩ := hargs
  obtain rfl : args = #[v1] := by
    obtain ⟨a⟩ := args
    simp only at e1
    rw [e1]
  simp only [dSs, dL, dS, Rep] at h1
  obtain ⟨a, cap, rfl, k1, k2, k3⟩ := h1
  simp only [List.length_map] at k1 ⊢
  have hfact : ∃ b off, (0 < l.length → a = some ⟨b, off, none⟩ ∧ b < w.heap.size) ∧ StrAt w b off l := by
    rcases k3 with k3 | ⟨b, off, rfl, k4, k5⟩
    · have : l = [] := by simpa using k3
      subst this
      exact ⟨0, 0, fun h => by simp at h, fun j x hj => by simp at hj⟩
    · exact ⟨b, off, fun _ => ⟨rfl, hJ _ b k4⟩, str_cells k5⟩
  obtain ⟨b, off, ha, hs⟩ := hfact
  refine (wol_any (R := wolR l) rfl rfl hok.1 ha hs hok.2).mono ?_
  rintro e w' ⟨v, rfl, hb, hown, hnil⟩
  generalize wolR l = R at *
  by_cases h0 : R.length = 0
  · obtain rfl : R = [] := List.eq_nil_of_length_eq_zero h0
    obtain rfl := hnil rfl
    refine ⟨_, fun _ => 0, fun _ => 0, fun _ => False, rfl, ⟨hb.os, hb.tape, hb.output, hb.size, fun k hk _ => hb.block k hk⟩, by simp, fun o ho => by simp at ho, fun o _ ho => by simp [nC] at ho, fun b hb => hb.elim, ⟨fun o ho => by simp [nC] at ho, fun o o' ho => by simp [nC] at ho, fun o c hc => by simp [nC] at hc⟩, ?_⟩
    simp [nP, Rep]
  · have hp : 0 < (R.map fun s => PV.val (.string s)).length := by rw [List.length_map]; omega
    rw [nP_pos hp, nC_pos hp, List.length_map]
    obtain ⟨b1, κ1, hb1, hO1, hrep⟩ := own_objS (J := J) (n := R.length) (by omega) rfl hJ hown
    exact ⟨v, fun _ => b1, fun _ => κ1, fun _ => False, rfl, ⟨hb.os, hb.tape, hb.output, hb.size, fun k hk _ => hb.block k hk⟩, by simp, fun o ho => by simp at ho, fun o _ _ => hb1, fun b hb => hb.elim, hO1, hrep⟩
theorem Wol_lift {l : LS} (h : okWl l) (h0 : 0 < (wolR l).length) : liftN ΨWol [.row 0 1 0 l.length] [(9, 1, l.map fun s => .val (.string s))] = some (.row 1 1 0 (wolR l).length, [(9, 1, l.map fun s => .val (.string s)), (9, 1, (wolR l).map fun s => .val (.string s))]) := by
  have hp : 0 < ((wolR l).map fun s => PV.val (.string s)).length := by simpa using h0
  refine (liftN_of (qs := [.lst false 1 (l.map fun s => .val (.string s))]) (cs1 := [(9, 1, (wolR l).map fun s => .val (.string s))]) (r := .row 0 1 0 (wolR l).length) (cs0 := [(9, 1, (wolR l).map fun s => .val (.string s))]) (by
    rw [mapM_cons', reify_row rfl, Option.bind_some, mapM_nil']; rfl) ((G1_ap (A := dSs) l).trans ((if_pos h).trans (by rw [nP_pos hp, nC_pos hp, List.length_map]))) rfl (by rw [mapM_cons', mapM_nil', renCT_vals]; rfl)).trans ?_
  rfl
theorem Wol_lift0 {l : LS} (h : okWl l) (h0 : (wolR l).length = 0) : liftN ΨWol [.row 0 1 0 l.length] [(9, 1, l.map fun s => .val (.string s))] = some (.val (.slice none 0 0), [(9, 1, l.map fun s => .val (.string s))]) := by
  have hR : wolR l = [] := List.eq_nil_of_length_eq_zero h0
  refine (liftN_of (qs := [.lst false 1 (l.map fun s => .val (.string s))]) (cs1 := []) (r := .val (.slice none 0 0)) (cs0 := []) (by
    rw [mapM_cons', reify_row rfl, Option.bind_some, mapM_nil']; rfl) ((G1_ap (A := dSs) l).trans ((if_pos h).trans (by rw [hR]; rfl))) rfl rfl).trans ?_
  rfl
theorem φWol_ap {l : LS} (h : okWl l) : φWol [.lst false 1 (l.map fun s => .val (.string s))] = some (.lst true 1 ((wolR l).map fun s => .val (.string s))) := (F1_ap (A := dSs) l).trans (if_pos h)
theorem wordsM_len : ∀ (s w : List UInt8), (wordsM s w).length ≤ s.length + w.length
  | [], w => by
    unfold wordsM
    split
    · simp
    · rename_i h
      have : 0 < w.length := List.length_pos_iff.2 h
      simp only [List.length_singleton, List.length_nil]; omega
  | b :: s, w => by
    unfold wordsM
    split
    · have := wordsM_len s []
      rw [List.length_append]
      simp only [List.length_nil, List.length_cons] at this ⊢
      split
      · simp only [List.length_nil]; omega
      · rename_i h
        have : 0 < w.length := List.length_pos_iff.2 h
        simp only [List.length_singleton]; omega
    · have := wordsM_len s (w ++ [b])
      rw [List.length_append] at this
      simp only [List.length_cons, List.length_nil] at this ⊢
      omega
theorem wolR_len (l : LS) : (wolR l).length ≤ sumS l + l.length := by
  unfold wolR
  rw [List.length_map]
  have h1 := wordsM_len (linesB (l.map (·.data.toList))) []
  have h2 := linesB_len (l := l) l.length (Nat.le_refl _)
  rw [List.take_of_length_le (Nat.le_refl _)] at h2
  simp only [List.length_nil] at h1
  omega
theorem takeOff_sum : ∀ {l : List Nat} {left : Int}, 0 ≤ takeOff left l → 0 ≤ left → (l.sum : Int) ≤ left
  | [], left, _, h => by simpa using h
  | n :: l, left, h, h0 => by
    unfold takeOff at h
    split at h
    · omega
    · have := takeOff_sum (l := l) h (by omega)
      rw [List.sum_cons]
      omega
theorem szS_sum {l : LS} {left : Int} (h : 0 ≤ szS left l) (h0 : 0 ≤ left) : ((l.length + sumS l : Nat) : Int) ≤ left := by
  unfold szS at h
  split at h
  · omega
  · rename_i h2
    have := takeOff_sum h (by omega)
    unfold sumS
    omega
def φEqSw : Fun := nilF 1 φEqS
noncomputable def φHeldSw : Fun := nilF 1 φHeldS
theorem φEqSw_ap {a b : LS} (h : a.length ≤ 1048576) (h2 : b.length ≤ 1048576) : φEqSw [.lst false 1 (a.map fun s => .val (.string s)), .lst false 1 (b.map fun s => .val (.string s))] = some (.val (.bool (decide (a = b)))) := φEqS_ap h h2
theorem φEqSw_nil : φEqSw [.val (.slice none 0 0), .lst false 1 []] = some (.val (.bool true)) := φEqS_ap (a := []) (b := []) (by simp) (by simp)
theorem φHeldSw_ap {k : Int} {n : Nat} (hn : n ≤ 1048576) (hk : 0 < k) (hk2 : k ≤ 1099511627776) : φHeldSw [.lst false 1 ((marksS k n).map fun s => .val (.string s)), .val (.int .i64 k)] = some (.val (.int .i64 (k + n))) := φHeldS_ap hn hk hk2
theorem φHeldSw_nil : φHeldSw [.val (.slice none 0 0), .val (.int .i64 1)] = some (.val (.int .i64 1)) := φHeldS_ap (k := 1) (n := 0) (by simp) (by simp) (by simp)
noncomputable def φLawWolE : Fun := F1 dSs fun l => if okSL l then some (bv true) else none
noncomputable def GWolE : Ctx := ⟨fun f => if f = 11 then some φSzS else if f = 12 then some φWol else if f = 15 then some φEqSw else if f = 17 then some φHeldSw else none, fun f => if f = 13 then some (liftN ΨToS) else if f = 14 then some (liftN ΨWol) else if f = 16 then some ΦmarkS else none⟩
theorem GWolE_ok : SoundΓ Tryd.prog GWolE := ⟨(fun f φ h => by
  unfold GWolE at h
  dsimp only at h
  split at h
  · rename_i hf; cases h; subst hf; exact ⟨⟨_, Tryd.func11, rfl, rfl⟩, szStringS_ok⟩
  split at h
  · rename_i hf; cases h; subst hf; exact ⟨⟨_, Tryd.func12, rfl, rfl⟩, specWol_ok⟩
  split at h
  · rename_i hf; cases h; subst hf; exact ⟨⟨_, Tryd.func15, rfl, rfl⟩, (eqStringS_ok.nil 1)⟩
  split at h
  · rename_i hf; cases h; subst hf; exact ⟨⟨_, Tryd.func17, rfl, rfl⟩, (heldStringS_ok.nil 1)⟩
  cases h), (fun f φ h => by
  unfold GWolE at h
  dsimp only at h
  split at h
  · rename_i hf; cases h; subst hf; exact ⟨⟨_, Tryd.func13, rfl, rfl⟩, toStringSN.lift⟩
  split at h
  · rename_i hf; cases h; subst hf; exact ⟨⟨_, Tryd.func14, rfl, rfl⟩, implWolN.lift⟩
  split at h
  · rename_i hf; cases h; subst hf; exact ⟨⟨_, Tryd.func16, rfl, rfl⟩, markS_io⟩
  cases h)⟩
theorem GWolE_11 (ob : Objs) (ps : List PV) : evCall GWolE ob 11 ps = (ps.mapM (reify false 0 ob fuel)).bind φSzS := by
  have h : GWolE.fn 11 = some φSzS := by simp [GWolE]
  unfold evCall
  rw [h]
  cases ps.mapM (reify false 0 ob fuel) <;> rfl
theorem GWolE_12 (ob : Objs) (ps : List PV) : evCall GWolE ob 12 ps = (ps.mapM (reify false 0 ob fuel)).bind φWol := by
  have h : GWolE.fn 12 = some φWol := by simp [GWolE]
  unfold evCall
  rw [h]
  cases ps.mapM (reify false 0 ob fuel) <;> rfl
theorem GWolE_15 (ob : Objs) (ps : List PV) : evCall GWolE ob 15 ps = (ps.mapM (reify false 0 ob fuel)).bind φEqSw := by
  have h : GWolE.fn 15 = some φEqSw := by simp [GWolE]
  unfold evCall
  rw [h]
  cases ps.mapM (reify false 0 ob fuel) <;> rfl
theorem GWolE_17 (ob : Objs) (ps : List PV) : evCall GWolE ob 17 ps = (ps.mapM (reify false 0 ob fuel)).bind φHeldSw := by
  have h : GWolE.fn 17 = some φHeldSw := by simp [GWolE]
  unfold evCall
  rw [h]
  cases ps.mapM (reify false 0 ob fuel) <;> rfl
theorem GWolE_13 : GWolE.io 13 = some (liftN ΨToS) := by simp [GWolE]
theorem GWolE_14 : GWolE.io 14 = some (liftN ΨWol) := by simp [GWolE]
theorem GWolE_16 : GWolE.io 16 = some ΦmarkS := by simp [GWolE]
set_option maxHeartbeats 16000000 in
theorem lawWolE_ok : Sound Tryd.prog 3 φLawWolE := by
  refine sound_pq mixed GWolE_ok Tryd.func3 rfl 69 rfl [.tmp 2] rfl (by kernel_rfl) fun ps r hr => ?_
  obtain ⟨l, rfl, hq⟩ := F1_some hr
  clear hr
  split at hq
  case isFalse => cases hq
  case isTrue hpre =>
  cases hq
  refine ⟨by simp, ?_⟩
  simp only [dIs, dUs, dSs, dI_e, dU_e, dB_e, dS_e, dFn_e, dL_e, dA2_e, dA3_e, dA4_e, dA5_e]
  have ap1 := φSzS_ap hpre (left := 1048576) (by omega) (by omega)
  by_cases hneg : szS 1048576 l < 0
  · have gwole_c11 := GWolE_11; have gwole_c13 := GWolE_13; have gwole_c12 := GWolE_12; have gwole_c14 := GWolE_14; have gwole_c15 := GWolE_15; have gwole_c16 := GWolE_16; have gwole_c17 := GWolE_17
    (repeat' (first | (with_reducible first | apply i_seq | apply i_block | apply i_skip | apply i_exit | apply i_ret | apply i_kS | apply i_kSx | apply i_kSr | apply i_kL | apply i_kLx | apply i_kLr | apply i_kB | apply i_kBr | apply i_kBs | apply i_nil) | ((with_reducible apply i_region); (focus (simp only [List.map_cons, List.map_nil] <;> exact rfl))) | ((with_reducible apply i_draw); (focus (simp only [List.map_cons, List.map_nil] <;> exact rfl)); (focus (decide +kernel))) | ((with_reducible apply i_kBo); (focus rfl)) | ((first | ((with_reducible apply i_V); (focus rfl); (focus rfl); (focus rfl)) | ((with_reducible apply i_E); (focus rfl); (focus (first | rfl | (simp only [push_cast, ↓reduceIte, effOk, touch, refsOf, List.flatMap_cons, List.flatMap_nil])))) | ((with_reducible apply i_S); (focus rfl); (focus (first | rfl | (simp only [push_cast, ↓reduceIte, effOk, touch, refsOf, List.flatMap_cons, List.flatMap_nil])))) | ((with_reducible apply i_Vq); (focus rfl); (focus rfl)) | ((with_reducible apply i_Vp); (focus rfl); (focus rfl); (focus rfl))); (focus (simp (disch := (first | omega | (simp only [push_cast]; done) | (simp only [push_cast]; omega) | ((try simp only [push_cast]); (with_reducible first | apply sel_lt | apply sel_ge); (focus decide); (focus (simp only [push_cast]; omega))))) only [push_cast, ↓reduceIte, Nat.reduceEqDiff, Nat.reduceBEq, Nat.reduceAdd, Nat.reduceSub, Int.reduceToNat, *] <;> with_reducible exact rfl))) | ((with_reducible first | apply i_Gb | apply i_cond); (focus (simp (disch := (first | omega | (simp only [push_cast]; done) | (simp only [push_cast]; omega) | ((try simp only [push_cast]); (with_reducible first | apply sel_lt | apply sel_ge); (focus decide); (focus (simp only [push_cast]; omega))))) only [push_cast, ↓reduceIte, Nat.reduceEqDiff, Nat.reduceBEq, Nat.reduceAdd, Nat.reduceSub, Int.reduceToNat, *] <;> with_reducible exact rfl)); all_goals (intro hX; first | (cases hX; done) | ((with_reducible first | have hX0 : true = true := hX | have hX0 : false = false := hX); clear hX0 hX) | ((try simp only [decide_eq_true_eq, decide_eq_false_iff_not, Bool.not_eq_true', Bool.not_eq_false'] at hX); (try have hXb := inB_iff.1 hX)))))); all_goals try (exfalso; omega)
    all_goals ((first | apply i_end | apply i_endN); simp (disch := (first | omega | (simp only [push_cast]; done) | (simp only [push_cast]; omega) | ((try simp only [push_cast]); (with_reducible first | apply sel_lt | apply sel_ge); (focus decide); (focus (simp only [push_cast]; omega))))) only [push_cast, ↓reduceIte, Nat.reduceEqDiff, Nat.reduceBEq, Nat.reduceAdd, Nat.reduceSub, Int.reduceToNat, *])
  have hok : okSs l := szS_ok (left := 1048576) (by omega) (by omega) (by omega)
  have hsum := szS_sum (left := 1048576) (l := l) (by omega) (by omega)
  have hok2 : okWl l := ⟨hok.1, by omega⟩
  have ap2 := toS_lift hok.1
  have ap3 := φWol_ap hok2
  have hlen := hok.1
  have ap5 := φEqSw_ap (a := l) (b := l) hok.1 hok.1
  have ap6 := markS_mk.1 l 1 hok.1 (by omega) (by omega)
  have hRl := wolR_len l
  by_cases h0 : (wolR l).length = 0
  · have ap4 := Wol_lift0 hok2 h0
    rw [List.eq_nil_of_length_eq_zero h0] at ap3
    have ap7 := markS_mk.2 1
    have ap8 := φEqSw_nil
    have ap9 := φHeldSw_nil
    clear hpre hok hok2 h0 hRl
    have gwole_c11 := GWolE_11; have gwole_c13 := GWolE_13; have gwole_c12 := GWolE_12; have gwole_c14 := GWolE_14; have gwole_c15 := GWolE_15; have gwole_c16 := GWolE_16; have gwole_c17 := GWolE_17
    (repeat' (first | (with_reducible first | apply i_seq | apply i_block | apply i_skip | apply i_exit | apply i_ret | apply i_kS | apply i_kSx | apply i_kSr | apply i_kL | apply i_kLx | apply i_kLr | apply i_kB | apply i_kBr | apply i_kBs | apply i_nil) | ((with_reducible apply i_region); (focus (simp only [List.map_cons, List.map_nil] <;> exact rfl))) | ((with_reducible apply i_draw); (focus (simp only [List.map_cons, List.map_nil] <;> exact rfl)); (focus (decide +kernel))) | ((with_reducible apply i_kBo); (focus rfl)) | ((first | ((with_reducible apply i_V); (focus rfl); (focus rfl); (focus rfl)) | ((with_reducible apply i_E); (focus rfl); (focus (first | rfl | (simp only [push_cast, ↓reduceIte, effOk, touch, refsOf, List.flatMap_cons, List.flatMap_nil])))) | ((with_reducible apply i_S); (focus rfl); (focus (first | rfl | (simp only [push_cast, ↓reduceIte, effOk, touch, refsOf, List.flatMap_cons, List.flatMap_nil])))) | ((with_reducible apply i_Vq); (focus rfl); (focus rfl)) | ((with_reducible apply i_Vp); (focus rfl); (focus rfl); (focus rfl))); (focus (simp (disch := (first | omega | (simp only [push_cast]; done) | (simp only [push_cast]; omega) | ((try simp only [push_cast]); (with_reducible first | apply sel_lt | apply sel_ge); (focus decide); (focus (simp only [push_cast]; omega))))) only [push_cast, ↓reduceIte, Nat.reduceEqDiff, Nat.reduceBEq, Nat.reduceAdd, Nat.reduceSub, Int.reduceToNat, *] <;> with_reducible exact rfl))) | ((with_reducible first | apply i_Gb | apply i_cond); (focus (simp (disch := (first | omega | (simp only [push_cast]; done) | (simp only [push_cast]; omega) | ((try simp only [push_cast]); (with_reducible first | apply sel_lt | apply sel_ge); (focus decide); (focus (simp only [push_cast]; omega))))) only [push_cast, ↓reduceIte, Nat.reduceEqDiff, Nat.reduceBEq, Nat.reduceAdd, Nat.reduceSub, Int.reduceToNat, *] <;> with_reducible exact rfl)); all_goals (intro hX; first | (cases hX; done) | ((with_reducible first | have hX0 : true = true := hX | have hX0 : false = false := hX); clear hX0 hX) | ((try simp only [decide_eq_true_eq, decide_eq_false_iff_not, Bool.not_eq_true', Bool.not_eq_false'] at hX); (try have hXb := inB_iff.1 hX)))))); all_goals try (exfalso; omega)
    all_goals (first | (exfalso; omega) | ((first | apply i_end | apply i_endN); simp (disch := (first | omega | (simp only [push_cast]; done) | (simp only [push_cast]; omega) | ((try simp only [push_cast]); (with_reducible first | apply sel_lt | apply sel_ge); (focus decide); (focus (simp only [push_cast]; omega))))) only [push_cast, ↓reduceIte, Nat.reduceEqDiff, Nat.reduceBEq, Nat.reduceAdd, Nat.reduceSub, Int.reduceToNat, *]) | skip)
  · have ap4 := Wol_lift hok2 (by omega)
    generalize wolR l = L at *
    have hLl : L.length ≤ 1048576 := by omega
    have ap7 := markS_mk.1 L 1 (by omega) (by omega) (by omega)
    have ap8 := φEqSw_ap (a := L) (b := L) (by omega) (by omega)
    have ap9 := φHeldSw_ap (k := 1) (n := L.length) (by omega) (by omega) (by omega)
    have hml := marksS_length 1 L.length
    clear hpre hok hok2
    have gwole_c11 := GWolE_11; have gwole_c13 := GWolE_13; have gwole_c12 := GWolE_12; have gwole_c14 := GWolE_14; have gwole_c15 := GWolE_15; have gwole_c16 := GWolE_16; have gwole_c17 := GWolE_17
    (repeat' (first | (with_reducible first | apply i_seq | apply i_block | apply i_skip | apply i_exit | apply i_ret | apply i_kS | apply i_kSx | apply i_kSr | apply i_kL | apply i_kLx | apply i_kLr | apply i_kB | apply i_kBr | apply i_kBs | apply i_nil) | ((with_reducible apply i_region); (focus (simp only [List.map_cons, List.map_nil] <;> exact rfl))) | ((with_reducible apply i_draw); (focus (simp only [List.map_cons, List.map_nil] <;> exact rfl)); (focus (decide +kernel))) | ((with_reducible apply i_kBo); (focus rfl)) | ((first | ((with_reducible apply i_V); (focus rfl); (focus rfl); (focus rfl)) | ((with_reducible apply i_E); (focus rfl); (focus (first | rfl | (simp only [push_cast, ↓reduceIte, effOk, touch, refsOf, List.flatMap_cons, List.flatMap_nil])))) | ((with_reducible apply i_S); (focus rfl); (focus (first | rfl | (simp only [push_cast, ↓reduceIte, effOk, touch, refsOf, List.flatMap_cons, List.flatMap_nil])))) | ((with_reducible apply i_Vq); (focus rfl); (focus rfl)) | ((with_reducible apply i_Vp); (focus rfl); (focus rfl); (focus rfl))); (focus (simp (disch := (first | omega | (simp only [push_cast]; done) | (simp only [push_cast]; omega) | ((try simp only [push_cast]); (with_reducible first | apply sel_lt | apply sel_ge); (focus decide); (focus (simp only [push_cast]; omega))))) only [push_cast, ↓reduceIte, Nat.reduceEqDiff, Nat.reduceBEq, Nat.reduceAdd, Nat.reduceSub, Int.reduceToNat, *] <;> with_reducible exact rfl))) | ((with_reducible first | apply i_Gb | apply i_cond); (focus (simp (disch := (first | omega | (simp only [push_cast]; done) | (simp only [push_cast]; omega) | ((try simp only [push_cast]); (with_reducible first | apply sel_lt | apply sel_ge); (focus decide); (focus (simp only [push_cast]; omega))))) only [push_cast, ↓reduceIte, Nat.reduceEqDiff, Nat.reduceBEq, Nat.reduceAdd, Nat.reduceSub, Int.reduceToNat, *] <;> with_reducible exact rfl)); all_goals (intro hX; first | (cases hX; done) | ((with_reducible first | have hX0 : true = true := hX | have hX0 : false = false := hX); clear hX0 hX) | ((try simp only [decide_eq_true_eq, decide_eq_false_iff_not, Bool.not_eq_true', Bool.not_eq_false'] at hX); (try have hXb := inB_iff.1 hX)))))); all_goals try (exfalso; omega)
    all_goals (first | (exfalso; omega) | ((first | apply i_end | apply i_endN); simp (disch := (first | omega | (simp only [push_cast]; done) | (simp only [push_cast]; omega) | ((try simp only [push_cast]); (with_reducible first | apply sel_lt | apply sel_ge); (focus decide); (focus (simp only [push_cast]; omega))))) only [push_cast, ↓reduceIte, Nat.reduceEqDiff, Nat.reduceBEq, Nat.reduceAdd, Nat.reduceSub, Int.reduceToNat, *]) | skip)
end Go.Proofs.YtenldjifipnjpaaDoor
