/- What the proof rests on, part 5: contracts of functions. No condition beyond what each states. -/
import Derived.Test.YtpggpdbipajchaaDoorZPgE4
namespace Go.Proofs.YtpggpdbipajchaaDoor
open Go.RowKit
set_option linter.all false
def pgF (wd : Int) : List Int → Nat → LS → Option (List Int)
  | g, _, [] => some g
  | g, k, s :: r => if (putPre wd g 0 k s && prB s) = true then pgF wd (putL wd g 0 k s) (k + 1) r else none
def pgCol (wd page : Int) : Int := max 0 (wd - (itoaS page).size) / 2
def pgN (wd ht page : Int) (g : List Int) : Option (List Int) := if (putPre wd g (pgCol wd page) (ht - 1) (itoaS page) && prB (itoaS page)) = true then some (putL wd g (pgCol wd page) (ht - 1) (itoaS page)) else none
def pgA (n : Nat) (wd ht page : Int) : Bool := gridO wd ht && (decide ((n : Int) ≤ ht - 1) && inB page 1 999)
def pgR (l : LS) (wd ht page : Int) : Option (List Int) := if pgA l.length wd ht page = true then (pgF wd (List.replicate (wd * ht).toNat 32) 0 l).bind (pgN wd ht page) else none
theorem pgA_iff {n : Nat} {wd ht page : Int} : pgA n wd ht page = true ↔ gridO wd ht = true ∧ (n : Int) ≤ ht - 1 ∧ inB page 1 999 = true := by
  unfold pgA
  rw [Bool.and_eq_true, Bool.and_eq_true, decide_eq_true_eq]
theorem pgF_step {wd : Int} {g : List Int} {k : Nat} {l : LS} (h : k < l.length) : pgF wd g k (l.drop k) = if (putPre wd g 0 k (l[k]?.getD .empty) && prB (l[k]?.getD .empty)) = true then pgF wd (putL wd g 0 k (l[k]?.getD .empty)) (k + 1) (l.drop (k + 1)) else none := by
  rw [List.drop_eq_getElem_cons h, List.getElem?_eq_getElem h]
  rfl
theorem itoaS_size {n : Int} (h : 0 ≤ n) (h2 : n ≤ 999) : (itoaS n).size ≤ 3 := by
  have e : (itoaS n).size = Lib.nDigits n.toNat := by
    unfold itoaS Lib.itoa
    rw [if_neg (by omega), ← Lib.decDigits_length]
    rfl
  rw [e]
  by_cases h1 : n.toNat < 10
  · rw [Lib.nDigits_small h1]; omega
  · rw [Lib.nDigits_big h1]
    by_cases h3 : n.toNat / 10 < 10
    · rw [Lib.nDigits_small h3]; omega
    · rw [Lib.nDigits_big h3, Lib.nDigits_small (by omega)]; omega
theorem put_keeps {wd col row : Int} {l : List Int} {s : ByteArray} (hG : gridB wd l = true) (hp : (putPre wd l col row s && prB s) = true) : gridB wd (putL wd l col row s) = true ∧ (putL wd l col row s).length = l.length := by
  have h1 := putR_length (col := col) (row := row) (s := s) hG
  unfold putR at h1
  rw [if_pos hp] at h1
  exact ⟨putR_grid hG (Bool.and_eq_true_iff.1 hp).2 h1, h1⟩
noncomputable def φGoP : Fun := pureN ΨGridOf
theorem specGo_ok : Sound Tryd.prog 47 φGoP := specGridOfN.pure
theorem φGoP_ap {w h : Int} (hG : gridO w h = true) : φGoP [.val (.int .i64 w), .val (.int .i64 h)] = some (.agg [.val (.int .i64 w), .lst true 1 (spcs (w * h).toNat)]) := by
  refine pureN_of (r := .agg [.val (.int .i64 w), .row 0 1 0 (w * h).toNat]) (cs0 := [(5, 1, spcs (w * h).toNat)]) (ΨGridOf_ap.trans (by unfold gridZ; rw [if_pos hG])) ?_
  rw [ls_one]
  have hl : (List.replicate (w * h).toNat (32 : Int)).length = (w * h).toNat := List.length_replicate
  rw [← hl]
  unfold spcs
  rw [hl]
  (simp (disch := (first | omega | (simp only [push_cast]; done) | (simp only [push_cast]; omega) | ((try simp only [push_cast]); (with_reducible first | apply sel_lt | apply sel_ge); (focus decide); (focus (simp only [push_cast]; omega))))) only [push_cast, ↓reduceIte, Nat.reduceEqDiff, Nat.reduceBEq, Nat.reduceAdd, Nat.reduceSub, Int.reduceToNat, *] <;> with_reducible exact rfl)
theorem φGoP_no {w h : Int} (hG : gridO w h = false) : φGoP [.val (.int .i64 w), .val (.int .i64 h)] = some (.agg [.val (.int .i64 0), .val (.slice none 0 0)]) :=
  pureN_of (r := .agg [.val (.int .i64 0), .val (.slice none 0 0)]) (cs0 := []) (ΨGridOf_ap.trans (by unfold gridZ; rw [if_neg (by rw [hG]; decide)])) rfl
def pgZS (l : LS) (wd ht page : Int) : PV := match pgR l wd ht page with
  | some g => .tup [.agg [.val (.int .i64 wd), .lst true 1 (g.map fun n => .val (.int .u8 n))], .val (.bool true)]
  | none => .tup [.agg [.val (.int .i64 0), .val (.slice none 0 0)], .val (.bool false)]
noncomputable def φPg : Fun := F4 dSs dI dI dI fun l wd ht page => if okSs l ∧ okI wd ∧ okI ht ∧ okI page then some (pgZS l wd ht page) else none
theorem φPg_ap {l : LS} {wd ht page : Int} (h : okSs l ∧ okI wd ∧ okI ht ∧ okI page) : φPg [.lst false 1 (l.map fun s => .val (.string s)), .val (.int .i64 wd), .val (.int .i64 ht), .val (.int .i64 page)] = some (pgZS l wd ht page) :=
  (F4_ap (A := dSs) (B := dI) (C := dI) (D := dI) l wd ht page).trans (if_pos h)
noncomputable def GSpg : Ctx := ⟨fun f => if f = 47 then some φGoP else if f = 48 then some φIn else if f = 49 then some φPutS else if f = 50 then some φNum else none, fun f => none⟩
theorem GSpg_ok : SoundΓ Tryd.prog GSpg := ⟨(fun f φ h => by
  unfold GSpg at h
  dsimp only at h
  split at h
  · rename_i hf; cases h; subst hf; exact ⟨⟨_, Tryd.func47, rfl, rfl⟩, specGo_ok⟩
  split at h
  · rename_i hf; cases h; subst hf; exact ⟨⟨_, Tryd.func48, rfl, rfl⟩, l1In_ok⟩
  split at h
  · rename_i hf; cases h; subst hf; exact ⟨⟨_, Tryd.func49, rfl, rfl⟩, specPut_ok⟩
  split at h
  · rename_i hf; cases h; subst hf; exact ⟨⟨_, Tryd.func50, rfl, rfl⟩, num_ok⟩
  cases h), (fun f φ h => by
  unfold GSpg at h
  dsimp only at h
  cases h)⟩
theorem GSpg_47 (ob : Objs) (ps : List PV) : evCall GSpg ob 47 ps = (ps.mapM (reify false 0 ob fuel)).bind φGoP := by
  have h : GSpg.fn 47 = some φGoP := by simp [GSpg]
  unfold evCall
  rw [h]
  cases ps.mapM (reify false 0 ob fuel) <;> rfl
theorem GSpg_48 (ob : Objs) (ps : List PV) : evCall GSpg ob 48 ps = (ps.mapM (reify false 0 ob fuel)).bind φIn := by
  have h : GSpg.fn 48 = some φIn := by simp [GSpg]
  unfold evCall
  rw [h]
  cases ps.mapM (reify false 0 ob fuel) <;> rfl
theorem GSpg_49 (ob : Objs) (ps : List PV) : evCall GSpg ob 49 ps = (ps.mapM (reify false 0 ob fuel)).bind φPutS := by
  have h : GSpg.fn 49 = some φPutS := by simp [GSpg]
  unfold evCall
  rw [h]
  cases ps.mapM (reify false 0 ob fuel) <;> rfl
theorem GSpg_50 (ob : Objs) (ps : List PV) : evCall GSpg ob 50 ps = (ps.mapM (reify false 0 ob fuel)).bind φNum := by
  have h : GSpg.fn 50 = some φNum := by simp [GSpg]
  unfold evCall
  rw [h]
  cases ps.mapM (reify false 0 ob fuel) <;> rfl
set_option maxHeartbeats 16000000 in
theorem specPg_ok : Sound Tryd.prog 12 φPg := by
  refine sound_pq mixed GSpg_ok Tryd.func12 rfl 77 rfl [.cell 8 26, .tmp 9] rfl (by kernel_rfl) fun ps r hr => ?_
  obtain ⟨l, wd, ht, page, rfl, hq⟩ := F4_some hr
  clear hr
  split at hq
  case isFalse => cases hq
  case isTrue hpre =>
  have hz : pgZS l wd ht page = r := by simpa using hq
  clear hq
  refine ⟨by simp, ?_⟩
  simp only [dIs, dUs, dSs, dI_e, dU_e, dB_e, dS_e, dFn_e, dL_e, dA2_e, dA3_e, dA4_e, dA5_e]
  obtain ⟨hok, ho1, ho2, ho3⟩ := hpre
  have hlen := hok.1
  have hsz := hok.2
  have ap3 := φIn_ap
  unfold pgZS pgR at hz
  cases hO : gridO wd ht with
  | false =>
    have ap1 := φGoP_no hO
    rw [if_neg (by rw [pgA_iff, hO]; simp)] at hz
    subst hz
    clear hO hsz hok
    have gspg_c47 := GSpg_47; have gspg_c48 := GSpg_48; have gspg_c49 := GSpg_49; have gspg_c50 := GSpg_50
    (repeat' (first | (with_reducible first | apply i_seq | apply i_block | apply i_skip | apply i_exit | apply i_ret | apply i_kS | apply i_kSx | apply i_kSr | apply i_kL | apply i_kLx | apply i_kLr | apply i_kB | apply i_kBr | apply i_kBs | apply i_nil) | ((with_reducible apply i_region); (focus (simp only [List.map_cons, List.map_nil] <;> exact rfl))) | ((with_reducible apply i_draw); (focus (simp only [List.map_cons, List.map_nil] <;> exact rfl)); (focus (decide +kernel))) | ((with_reducible apply i_kBo); (focus rfl)) | ((first | ((with_reducible apply i_V); (focus rfl); (focus rfl); (focus rfl)) | ((with_reducible apply i_E); (focus rfl); (focus (first | rfl | (simp only [push_cast, ↓reduceIte, effOk, touch, refsOf, List.flatMap_cons, List.flatMap_nil])))) | ((with_reducible apply i_S); (focus rfl); (focus (first | rfl | (simp only [push_cast, ↓reduceIte, effOk, touch, refsOf, List.flatMap_cons, List.flatMap_nil])))) | ((with_reducible apply i_Vq); (focus rfl); (focus rfl)) | ((with_reducible apply i_Vp); (focus rfl); (focus rfl); (focus rfl)) | (with_reducible first | apply i_Gb | apply i_cond)); (focus (simp (disch := (first | omega | (simp only [push_cast]; done) | (simp only [push_cast]; omega) | ((try simp only [push_cast]); (with_reducible first | apply sel_lt | apply sel_ge); (focus decide); (focus (simp only [push_cast]; omega))))) only [push_cast, ↓reduceIte, Nat.reduceEqDiff, Nat.reduceBEq, Nat.reduceAdd, Nat.reduceSub, Int.reduceToNat, *] <;> with_reducible exact rfl)); all_goals try (intro hX; first | (cases hX; done) | ((with_reducible first | have hX0 : true = true := hX | have hX0 : false = false := hX); clear hX0 hX) | ((try simp only [decide_eq_true_eq, decide_eq_false_iff_not, Bool.not_eq_true', Bool.not_eq_false'] at hX); (try have hXb := inB_iff.1 hX)))))); all_goals try (exfalso; omega)
    all_goals (first | (exfalso; omega) | ((first | apply i_end | apply i_endN); simp (disch := (first | omega | (simp only [push_cast]; done) | (simp only [push_cast]; omega) | ((try simp only [push_cast]); (with_reducible first | apply sel_lt | apply sel_ge); (focus decide); (focus (simp only [push_cast]; omega))))) only [push_cast, ↓reduceIte, Nat.reduceEqDiff, Nat.reduceBEq, Nat.reduceAdd, Nat.reduceSub, Int.reduceToNat, *]) | skip)
  | true =>
    have ap1 := φGoP_ap hO
    obtain ⟨hw, hh⟩ := gridO_iff.1 hO
    have har := area_rng hO
    have hG0 := gridB_sp hO
    by_cases hA : (l.length : Int) ≤ ht - 1 ∧ inB page 1 999 = true
    · rw [if_pos (pgA_iff.2 ⟨hO, hA⟩)] at hz
      obtain ⟨hA1, hA2⟩ := hA
      have hpb := inB_iff.1 hA2
      have ap4 := φNum_ap (n := page) (by omega) (by omega)
      have his := itoaS_size (n := page) (by omega) (by omega)
      have hcol : ∀ n : Nat, n = n := fun _ => rfl
      replace hz := Lib.hid hz
      replace hG0 := Lib.hid hG0
      clear hO hok hcol
      have gspg_c47 := GSpg_47; have gspg_c48 := GSpg_48; have gspg_c49 := GSpg_49; have gspg_c50 := GSpg_50
      (repeat' (first | (with_reducible first | apply i_seq | apply i_block | apply i_skip | apply i_exit | apply i_ret | apply i_kS | apply i_kSx | apply i_kSr | apply i_kL | apply i_kLx | apply i_kLr | apply i_kB | apply i_kBr | apply i_kBs | apply i_nil) | ((with_reducible apply i_region); (focus (simp only [List.map_cons, List.map_nil] <;> exact rfl))) | ((with_reducible apply i_draw); (focus (simp only [List.map_cons, List.map_nil] <;> exact rfl)); (focus (decide +kernel))) | ((with_reducible apply i_kBo); (focus rfl)) | ((first | ((with_reducible apply i_V); (focus rfl); (focus rfl); (focus rfl)) | ((with_reducible apply i_E); (focus rfl); (focus (first | rfl | (simp only [push_cast, ↓reduceIte, effOk, touch, refsOf, List.flatMap_cons, List.flatMap_nil])))) | ((with_reducible apply i_S); (focus rfl); (focus (first | rfl | (simp only [push_cast, ↓reduceIte, effOk, touch, refsOf, List.flatMap_cons, List.flatMap_nil])))) | ((with_reducible apply i_Vq); (focus rfl); (focus rfl)) | ((with_reducible apply i_Vp); (focus rfl); (focus rfl); (focus rfl)) | (with_reducible first | apply i_Gb | apply i_cond)); (focus (simp (disch := (first | omega | (simp only [push_cast]; done) | (simp only [push_cast]; omega) | ((try simp only [push_cast]); (with_reducible first | apply sel_lt | apply sel_ge); (focus decide); (focus (simp only [push_cast]; omega))))) only [push_cast, ↓reduceIte, Nat.reduceEqDiff, Nat.reduceBEq, Nat.reduceAdd, Nat.reduceSub, Int.reduceToNat, *] <;> with_reducible exact rfl)); all_goals try (intro hX; first | (cases hX; done) | ((with_reducible first | have hX0 : true = true := hX | have hX0 : false = false := hX); clear hX0 hX) | ((try simp only [decide_eq_true_eq, decide_eq_false_iff_not, Bool.not_eq_true', Bool.not_eq_false'] at hX); (try have hXb := inB_iff.1 hX)))))); all_goals try (exfalso; omega)
      refine i_loop (α := Nat × List Int × Nat) mixed (fun s => [(0, .lst false 1 (l.map fun s => .val (.string s))), (1, iv wd), (2, iv ht), (3, iv page), (8, .own 0 2 0 0), (10, .own 1 2 0 0), (11, iv s.1)])
        (fun s => [(0, 26, 2, [PV.agg [.val (.int .i64 0), .val (.slice none 0 0)]]), (1, 26, 2, [PV.agg [.val (.int .i64 wd), .lst true 1 (s.2.1.map fun n => .val (.int .u8 n))]])]) (fun s => s.2.2)
        (fun s => s.1 ≤ l.length ∧ gridB wd s.2.1 = true ∧ s.2.1.length = (wd * ht).toNat ∧ pgF wd s.2.1 s.1 (l.drop s.1) = pgF wd (List.replicate (wd * ht).toNat 32) 0 l ∧ 2 ≤ s.2.2) (fun s => l.length - s.1) (by kernel_rfl) (0, List.replicate (wd * ht).toNat 32, 2) ⟨Nat.zero_le _, hG0.out, List.length_replicate, by rw [List.drop_zero], by simp⟩ ?_ ?_ rfl ?_
      · simp (disch := (first | omega | (simp only [push_cast]; done) | (simp only [push_cast]; omega) | ((try simp only [push_cast]); (with_reducible first | apply sel_lt | apply sel_ge); (focus decide); (focus (simp only [push_cast]; omega))))) only [push_cast, ↓reduceIte, Nat.reduceEqDiff, Nat.reduceBEq, Nat.reduceAdd, Nat.reduceSub, Int.reduceToNat, List.length_append, *]
      · simp (disch := (first | omega | (simp only [push_cast]; done) | (simp only [push_cast]; omega) | ((try simp only [push_cast]); (with_reducible first | apply sel_lt | apply sel_ge); (focus decide); (focus (simp only [push_cast]; omega))))) only [push_cast, ↓reduceIte, Nat.reduceEqDiff, Nat.reduceBEq, Nat.reduceAdd, Nat.reduceSub, Int.reduceToNat, List.length_append, *]
      rintro ⟨k, g, y⟩ ⟨hk, hG, hgl, hF, hy⟩
      dsimp only at hk hG hgl hF hy
      have hU := gridB_okU hG
      by_cases hkl : k < l.length
      · have ap5 := φPutS_ap (wd := wd) (col := 0) (row := k) (l := g) (s := l[k]?.getD .empty) ⟨hU, by have := hsz k; omega⟩
        have hst := pgF_step (wd := wd) (g := g) hkl
        unfold putZS at ap5
        rw [if_pos hG] at ap5
        cases hp : (putPre wd g 0 k (l[k]?.getD .empty) && prB (l[k]?.getD .empty)) with
        | true =>
          obtain ⟨hG2, hl2⟩ := put_keeps hG hp
          unfold putR at ap5
          rw [hp, if_pos rfl] at ap5
          rw [hp, if_pos rfl, hF] at hst
          replace hG2 := Lib.hid hG2
          replace hl2 := Lib.hid hl2
          replace hst := Lib.hid hst
          clear hp hF hG hU hsz
          (repeat' (first | (with_reducible first | apply i_seq | apply i_block | apply i_skip | apply i_exit | apply i_ret | apply i_kS | apply i_kSx | apply i_kSr | apply i_kL | apply i_kLx | apply i_kLr | apply i_kB | apply i_kBr | apply i_kBs | apply i_nil) | ((with_reducible apply i_region); (focus (simp only [List.map_cons, List.map_nil] <;> exact rfl))) | ((with_reducible apply i_draw); (focus (simp only [List.map_cons, List.map_nil] <;> exact rfl)); (focus (decide +kernel))) | ((with_reducible apply i_kBo); (focus rfl)) | ((first | ((with_reducible apply i_V); (focus rfl); (focus rfl); (focus rfl)) | ((with_reducible apply i_E); (focus rfl); (focus (first | rfl | (simp only [push_cast, ↓reduceIte, effOk, touch, refsOf, List.flatMap_cons, List.flatMap_nil])))) | ((with_reducible apply i_S); (focus rfl); (focus (first | rfl | (simp only [push_cast, ↓reduceIte, effOk, touch, refsOf, List.flatMap_cons, List.flatMap_nil])))) | ((with_reducible apply i_Vq); (focus rfl); (focus rfl)) | ((with_reducible apply i_Vp); (focus rfl); (focus rfl); (focus rfl)) | (with_reducible first | apply i_Gb | apply i_cond)); (focus (simp (disch := (first | omega | (simp only [push_cast]; done) | (simp only [push_cast]; omega) | ((try simp only [push_cast]); (with_reducible first | apply sel_lt | apply sel_ge); (focus decide); (focus (simp only [push_cast]; omega))))) only [push_cast, ↓reduceIte, Nat.reduceEqDiff, Nat.reduceBEq, Nat.reduceAdd, Nat.reduceSub, Int.reduceToNat, *] <;> with_reducible exact rfl)); all_goals try (intro hX; first | (cases hX; done) | ((with_reducible first | have hX0 : true = true := hX | have hX0 : false = false := hX); clear hX0 hX) | ((try simp only [decide_eq_true_eq, decide_eq_false_iff_not, Bool.not_eq_true', Bool.not_eq_false'] at hX); (try have hXb := inB_iff.1 hX)))))); all_goals try (exfalso; omega)
          refine i_drawFS 10 (by simp only [List.map_cons, List.map_nil] <;> exact rfl) (by simp only [List.take_succ_cons, List.take_zero] <;> exact rfl) (by simp only [List.drop_succ_cons, List.drop_zero] <;> exact rfl) ze_26 (by decide +kernel) (by decide +kernel) ?_
          (repeat' (first | (with_reducible first | apply i_seq | apply i_block | apply i_skip | apply i_exit | apply i_ret | apply i_kS | apply i_kSx | apply i_kSr | apply i_kL | apply i_kLx | apply i_kLr | apply i_kB | apply i_kBr | apply i_kBs | apply i_nil) | ((with_reducible apply i_region); (focus (simp only [List.map_cons, List.map_nil] <;> exact rfl))) | ((with_reducible apply i_draw); (focus (simp only [List.map_cons, List.map_nil] <;> exact rfl)); (focus (decide +kernel))) | ((with_reducible apply i_kBo); (focus rfl)) | ((first | ((with_reducible apply i_V); (focus rfl); (focus rfl); (focus rfl)) | ((with_reducible apply i_E); (focus rfl); (focus (first | rfl | (simp only [push_cast, ↓reduceIte, effOk, touch, refsOf, List.flatMap_cons, List.flatMap_nil])))) | ((with_reducible apply i_S); (focus rfl); (focus (first | rfl | (simp only [push_cast, ↓reduceIte, effOk, touch, refsOf, List.flatMap_cons, List.flatMap_nil])))) | ((with_reducible apply i_Vq); (focus rfl); (focus rfl)) | ((with_reducible apply i_Vp); (focus rfl); (focus rfl); (focus rfl)) | (with_reducible first | apply i_Gb | apply i_cond)); (focus (simp (disch := (first | omega | (simp only [push_cast]; done) | (simp only [push_cast]; omega) | ((try simp only [push_cast]); (with_reducible first | apply sel_lt | apply sel_ge); (focus decide); (focus (simp only [push_cast]; omega))))) only [push_cast, ↓reduceIte, Nat.reduceEqDiff, Nat.reduceBEq, Nat.reduceAdd, Nat.reduceSub, Int.reduceToNat, *] <;> with_reducible exact rfl)); all_goals try (intro hX; first | (cases hX; done) | ((with_reducible first | have hX0 : true = true := hX | have hX0 : false = false := hX); clear hX0 hX) | ((try simp only [decide_eq_true_eq, decide_eq_false_iff_not, Bool.not_eq_true', Bool.not_eq_false'] at hX); (try have hXb := inB_iff.1 hX)))))); all_goals try (exfalso; omega)
          refine i_kF (by (simp (disch := (first | omega | (simp only [push_cast]; done) | (simp only [push_cast]; omega) | ((try simp only [push_cast]); (with_reducible first | apply sel_lt | apply sel_ge); (focus decide); (focus (simp only [push_cast]; omega))))) only [push_cast, ↓reduceIte, Nat.reduceEqDiff, Nat.reduceBEq, Nat.reduceAdd, Nat.reduceSub, Int.reduceToNat, *] <;> with_reducible exact rfl)) ?_
          (repeat' (first | (with_reducible first | apply i_seq | apply i_block | apply i_skip | apply i_exit | apply i_ret | apply i_kS | apply i_kSx | apply i_kSr | apply i_kL | apply i_kLx | apply i_kLr | apply i_kB | apply i_kBr | apply i_kBs | apply i_nil) | ((with_reducible apply i_region); (focus (simp only [List.map_cons, List.map_nil] <;> exact rfl))) | ((with_reducible apply i_draw); (focus (simp only [List.map_cons, List.map_nil] <;> exact rfl)); (focus (decide +kernel))) | ((with_reducible apply i_kBo); (focus rfl)) | ((first | ((with_reducible apply i_V); (focus rfl); (focus rfl); (focus rfl)) | ((with_reducible apply i_E); (focus rfl); (focus (first | rfl | (simp only [push_cast, ↓reduceIte, effOk, touch, refsOf, List.flatMap_cons, List.flatMap_nil])))) | ((with_reducible apply i_S); (focus rfl); (focus (first | rfl | (simp only [push_cast, ↓reduceIte, effOk, touch, refsOf, List.flatMap_cons, List.flatMap_nil])))) | ((with_reducible apply i_Vq); (focus rfl); (focus rfl)) | ((with_reducible apply i_Vp); (focus rfl); (focus rfl); (focus rfl)) | (with_reducible first | apply i_Gb | apply i_cond)); (focus (simp (disch := (first | omega | (simp only [push_cast]; done) | (simp only [push_cast]; omega) | ((try simp only [push_cast]); (with_reducible first | apply sel_lt | apply sel_ge); (focus decide); (focus (simp only [push_cast]; omega))))) only [push_cast, ↓reduceIte, Nat.reduceEqDiff, Nat.reduceBEq, Nat.reduceAdd, Nat.reduceSub, Int.reduceToNat, *] <;> with_reducible exact rfl)); all_goals try (intro hX; first | (cases hX; done) | ((with_reducible first | have hX0 : true = true := hX | have hX0 : false = false := hX); clear hX0 hX) | ((try simp only [decide_eq_true_eq, decide_eq_false_iff_not, Bool.not_eq_true', Bool.not_eq_false'] at hX); (try have hXb := inB_iff.1 hX)))))); all_goals try (exfalso; omega)
          refine ⟨(k + 1, putL wd g 0 k (l[k]?.getD ByteArray.empty), y + 1), ⟨by dsimp only; omega, hG2.out, by rw [← hgl]; exact hl2.out, hst.out.symm, by dsimp only; omega⟩, by dsimp only; omega, ?_, ?_, rfl⟩
          · simp (disch := (first | omega | (simp only [push_cast]; done) | (simp only [push_cast]; omega) | ((try simp only [push_cast]); (with_reducible first | apply sel_lt | apply sel_ge); (focus decide); (focus (simp only [push_cast]; omega))))) only [push_cast, ↓reduceIte, Nat.reduceEqDiff, Nat.reduceBEq, Nat.reduceAdd, Nat.reduceSub, Int.reduceToNat, List.length_append, *]
          · simp (disch := (first | omega | (simp only [push_cast]; done) | (simp only [push_cast]; omega) | ((try simp only [push_cast]); (with_reducible first | apply sel_lt | apply sel_ge); (focus decide); (focus (simp only [push_cast]; omega))))) only [push_cast, ↓reduceIte, Nat.reduceEqDiff, Nat.reduceBEq, Nat.reduceAdd, Nat.reduceSub, Int.reduceToNat, List.length_append, *]
        | false =>
          unfold putR at ap5
          rw [hp, if_neg (by simp)] at ap5
          rw [hp, if_neg (by simp), hF] at hst
          have hz2 : (PV.tup [.agg [.val (.int .i64 0), .val (.slice none 0 0)], .val (.bool false)]) = r := by
            have h := hz.out
            rw [hst] at h
            exact h
          clear hz
          subst hz2
          clear hp hF hG hU hsz hst
          (repeat' (first | (with_reducible first | apply i_seq | apply i_block | apply i_skip | apply i_exit | apply i_ret | apply i_kS | apply i_kSx | apply i_kSr | apply i_kL | apply i_kLx | apply i_kLr | apply i_kB | apply i_kBr | apply i_kBs | apply i_nil) | ((with_reducible apply i_region); (focus (simp only [List.map_cons, List.map_nil] <;> exact rfl))) | ((with_reducible apply i_draw); (focus (simp only [List.map_cons, List.map_nil] <;> exact rfl)); (focus (decide +kernel))) | ((with_reducible apply i_kBo); (focus rfl)) | ((first | ((with_reducible apply i_V); (focus rfl); (focus rfl); (focus rfl)) | ((with_reducible apply i_E); (focus rfl); (focus (first | rfl | (simp only [push_cast, ↓reduceIte, effOk, touch, refsOf, List.flatMap_cons, List.flatMap_nil])))) | ((with_reducible apply i_S); (focus rfl); (focus (first | rfl | (simp only [push_cast, ↓reduceIte, effOk, touch, refsOf, List.flatMap_cons, List.flatMap_nil])))) | ((with_reducible apply i_Vq); (focus rfl); (focus rfl)) | ((with_reducible apply i_Vp); (focus rfl); (focus rfl); (focus rfl)) | (with_reducible first | apply i_Gb | apply i_cond)); (focus (simp (disch := (first | omega | (simp only [push_cast]; done) | (simp only [push_cast]; omega) | ((try simp only [push_cast]); (with_reducible first | apply sel_lt | apply sel_ge); (focus decide); (focus (simp only [push_cast]; omega))))) only [push_cast, ↓reduceIte, Nat.reduceEqDiff, Nat.reduceBEq, Nat.reduceAdd, Nat.reduceSub, Int.reduceToNat, *] <;> with_reducible exact rfl)); all_goals try (intro hX; first | (cases hX; done) | ((with_reducible first | have hX0 : true = true := hX | have hX0 : false = false := hX); clear hX0 hX) | ((try simp only [decide_eq_true_eq, decide_eq_false_iff_not, Bool.not_eq_true', Bool.not_eq_false'] at hX); (try have hXb := inB_iff.1 hX)))))); all_goals try (exfalso; omega)
          refine i_drawFS 10 (by simp only [List.map_cons, List.map_nil] <;> exact rfl) (by simp only [List.take_succ_cons, List.take_zero] <;> exact rfl) (by simp only [List.drop_succ_cons, List.drop_zero] <;> exact rfl) ze_26 (by decide +kernel) (by decide +kernel) ?_
          (repeat' (first | (with_reducible first | apply i_seq | apply i_block | apply i_skip | apply i_exit | apply i_ret | apply i_kS | apply i_kSx | apply i_kSr | apply i_kL | apply i_kLx | apply i_kLr | apply i_kB | apply i_kBr | apply i_kBs | apply i_nil) | ((with_reducible apply i_region); (focus (simp only [List.map_cons, List.map_nil] <;> exact rfl))) | ((with_reducible apply i_draw); (focus (simp only [List.map_cons, List.map_nil] <;> exact rfl)); (focus (decide +kernel))) | ((with_reducible apply i_kBo); (focus rfl)) | ((first | ((with_reducible apply i_V); (focus rfl); (focus rfl); (focus rfl)) | ((with_reducible apply i_E); (focus rfl); (focus (first | rfl | (simp only [push_cast, ↓reduceIte, effOk, touch, refsOf, List.flatMap_cons, List.flatMap_nil])))) | ((with_reducible apply i_S); (focus rfl); (focus (first | rfl | (simp only [push_cast, ↓reduceIte, effOk, touch, refsOf, List.flatMap_cons, List.flatMap_nil])))) | ((with_reducible apply i_Vq); (focus rfl); (focus rfl)) | ((with_reducible apply i_Vp); (focus rfl); (focus rfl); (focus rfl)) | (with_reducible first | apply i_Gb | apply i_cond)); (focus (simp (disch := (first | omega | (simp only [push_cast]; done) | (simp only [push_cast]; omega) | ((try simp only [push_cast]); (with_reducible first | apply sel_lt | apply sel_ge); (focus decide); (focus (simp only [push_cast]; omega))))) only [push_cast, ↓reduceIte, Nat.reduceEqDiff, Nat.reduceBEq, Nat.reduceAdd, Nat.reduceSub, Int.reduceToNat, *] <;> with_reducible exact rfl)); all_goals try (intro hX; first | (cases hX; done) | ((with_reducible first | have hX0 : true = true := hX | have hX0 : false = false := hX); clear hX0 hX) | ((try simp only [decide_eq_true_eq, decide_eq_false_iff_not, Bool.not_eq_true', Bool.not_eq_false'] at hX); (try have hXb := inB_iff.1 hX)))))); all_goals try (exfalso; omega)
          refine i_kF (by (simp (disch := (first | omega | (simp only [push_cast]; done) | (simp only [push_cast]; omega) | ((try simp only [push_cast]); (with_reducible first | apply sel_lt | apply sel_ge); (focus decide); (focus (simp only [push_cast]; omega))))) only [push_cast, ↓reduceIte, Nat.reduceEqDiff, Nat.reduceBEq, Nat.reduceAdd, Nat.reduceSub, Int.reduceToNat, *] <;> with_reducible exact rfl)) ?_
          (repeat' (first | (with_reducible first | apply i_seq | apply i_block | apply i_skip | apply i_exit | apply i_ret | apply i_kS | apply i_kSx | apply i_kSr | apply i_kL | apply i_kLx | apply i_kLr | apply i_kB | apply i_kBr | apply i_kBs | apply i_nil) | ((with_reducible apply i_region); (focus (simp only [List.map_cons, List.map_nil] <;> exact rfl))) | ((with_reducible apply i_draw); (focus (simp only [List.map_cons, List.map_nil] <;> exact rfl)); (focus (decide +kernel))) | ((with_reducible apply i_kBo); (focus rfl)) | ((first | ((with_reducible apply i_V); (focus rfl); (focus rfl); (focus rfl)) | ((with_reducible apply i_E); (focus rfl); (focus (first | rfl | (simp only [push_cast, ↓reduceIte, effOk, touch, refsOf, List.flatMap_cons, List.flatMap_nil])))) | ((with_reducible apply i_S); (focus rfl); (focus (first | rfl | (simp only [push_cast, ↓reduceIte, effOk, touch, refsOf, List.flatMap_cons, List.flatMap_nil])))) | ((with_reducible apply i_Vq); (focus rfl); (focus rfl)) | ((with_reducible apply i_Vp); (focus rfl); (focus rfl); (focus rfl)) | (with_reducible first | apply i_Gb | apply i_cond)); (focus (simp (disch := (first | omega | (simp only [push_cast]; done) | (simp only [push_cast]; omega) | ((try simp only [push_cast]); (with_reducible first | apply sel_lt | apply sel_ge); (focus decide); (focus (simp only [push_cast]; omega))))) only [push_cast, ↓reduceIte, Nat.reduceEqDiff, Nat.reduceBEq, Nat.reduceAdd, Nat.reduceSub, Int.reduceToNat, *] <;> with_reducible exact rfl)); all_goals try (intro hX; first | (cases hX; done) | ((with_reducible first | have hX0 : true = true := hX | have hX0 : false = false := hX); clear hX0 hX) | ((try simp only [decide_eq_true_eq, decide_eq_false_iff_not, Bool.not_eq_true', Bool.not_eq_false'] at hX); (try have hXb := inB_iff.1 hX)))))); all_goals try (exfalso; omega)
          all_goals (first | (exfalso; omega) | ((first | apply i_end | apply i_endN); simp (disch := (first | omega | (simp only [push_cast]; done) | (simp only [push_cast]; omega) | ((try simp only [push_cast]); (with_reducible first | apply sel_lt | apply sel_ge); (focus decide); (focus (simp only [push_cast]; omega))))) only [push_cast, ↓reduceIte, Nat.reduceEqDiff, Nat.reduceBEq, Nat.reduceAdd, Nat.reduceSub, Int.reduceToNat, *]) | skip)
      · obtain rfl : k = l.length := by omega
        rw [List.drop_length] at hF
        have ap5 := φPutS_ap (wd := wd) (col := pgCol wd page) (row := ht - 1) (l := g) (s := itoaS page) ⟨hU, by omega⟩
        unfold putZS at ap5
        rw [if_pos hG] at ap5
        unfold putR at ap5
        have hz2 : (match pgN wd ht page g with
          | some g => PV.tup [.agg [.val (.int .i64 wd), .lst true 1 (g.map fun n => .val (.int .u8 n))], .val (.bool true)]
          | none => PV.tup [.agg [.val (.int .i64 0), .val (.slice none 0 0)], .val (.bool false)]) = r := by
          have h := hz.out
          rw [← hF] at h
          exact h
        clear hz
        unfold pgN at hz2
        have hcol : (if wd - (itoaS page).size > 0 then wd - (itoaS page).size else 0) / 2 = pgCol wd page := by
          unfold pgCol
          congr 1
          split <;> omega
        have hc2 : 0 ≤ pgCol wd page ∧ pgCol wd page ≤ 60 := by unfold pgCol; omega
        generalize itoaS page = num at *
        generalize pgCol wd page = col at *
        cases hp : (putPre wd g col (ht - 1) num && prB num) with
        | true =>
          rw [hp, if_pos rfl] at hz2 ap5
          dsimp only at hz2
          subst hz2
          clear hp hF hG hU hsz
          (repeat' (first | (with_reducible first | apply i_seq | apply i_block | apply i_skip | apply i_exit | apply i_ret | apply i_kS | apply i_kSx | apply i_kSr | apply i_kL | apply i_kLx | apply i_kLr | apply i_kB | apply i_kBr | apply i_kBs | apply i_nil) | ((with_reducible apply i_region); (focus (simp only [List.map_cons, List.map_nil] <;> exact rfl))) | ((with_reducible apply i_draw); (focus (simp only [List.map_cons, List.map_nil] <;> exact rfl)); (focus (decide +kernel))) | ((with_reducible apply i_kBo); (focus rfl)) | ((first | ((with_reducible apply i_V); (focus rfl); (focus rfl); (focus rfl)) | ((with_reducible apply i_E); (focus rfl); (focus (first | rfl | (simp only [push_cast, ↓reduceIte, effOk, touch, refsOf, List.flatMap_cons, List.flatMap_nil])))) | ((with_reducible apply i_S); (focus rfl); (focus (first | rfl | (simp only [push_cast, ↓reduceIte, effOk, touch, refsOf, List.flatMap_cons, List.flatMap_nil])))) | ((with_reducible apply i_Vq); (focus rfl); (focus rfl)) | ((with_reducible apply i_Vp); (focus rfl); (focus rfl); (focus rfl)) | (with_reducible first | apply i_Gb | apply i_cond)); (focus (simp (disch := (first | omega | (simp only [push_cast]; done) | (simp only [push_cast]; omega) | ((try simp only [push_cast]); (with_reducible first | apply sel_lt | apply sel_ge); (focus decide); (focus (simp only [push_cast]; omega))))) only [push_cast, ↓reduceIte, Nat.reduceEqDiff, Nat.reduceBEq, Nat.reduceAdd, Nat.reduceSub, Int.reduceToNat, *] <;> with_reducible exact rfl)); all_goals try (intro hX; first | (cases hX; done) | ((with_reducible first | have hX0 : true = true := hX | have hX0 : false = false := hX); clear hX0 hX) | ((try simp only [decide_eq_true_eq, decide_eq_false_iff_not, Bool.not_eq_true', Bool.not_eq_false'] at hX); (try have hXb := inB_iff.1 hX)))))); all_goals try (exfalso; omega)
          all_goals (first | (exfalso; omega) | ((first | apply i_end | apply i_endN); simp (disch := (first | omega | (simp only [push_cast]; done) | (simp only [push_cast]; omega) | ((try simp only [push_cast]); (with_reducible first | apply sel_lt | apply sel_ge); (focus decide); (focus (simp only [push_cast]; omega))))) only [push_cast, ↓reduceIte, Nat.reduceEqDiff, Nat.reduceBEq, Nat.reduceAdd, Nat.reduceSub, Int.reduceToNat, *]) | skip)
        | false =>
          rw [hp, if_neg (by simp)] at hz2 ap5
          dsimp only at hz2
          subst hz2
          clear hp hF hG hU hsz
          (repeat' (first | (with_reducible first | apply i_seq | apply i_block | apply i_skip | apply i_exit | apply i_ret | apply i_kS | apply i_kSx | apply i_kSr | apply i_kL | apply i_kLx | apply i_kLr | apply i_kB | apply i_kBr | apply i_kBs | apply i_nil) | ((with_reducible apply i_region); (focus (simp only [List.map_cons, List.map_nil] <;> exact rfl))) | ((with_reducible apply i_draw); (focus (simp only [List.map_cons, List.map_nil] <;> exact rfl)); (focus (decide +kernel))) | ((with_reducible apply i_kBo); (focus rfl)) | ((first | ((with_reducible apply i_V); (focus rfl); (focus rfl); (focus rfl)) | ((with_reducible apply i_E); (focus rfl); (focus (first | rfl | (simp only [push_cast, ↓reduceIte, effOk, touch, refsOf, List.flatMap_cons, List.flatMap_nil])))) | ((with_reducible apply i_S); (focus rfl); (focus (first | rfl | (simp only [push_cast, ↓reduceIte, effOk, touch, refsOf, List.flatMap_cons, List.flatMap_nil])))) | ((with_reducible apply i_Vq); (focus rfl); (focus rfl)) | ((with_reducible apply i_Vp); (focus rfl); (focus rfl); (focus rfl)) | (with_reducible first | apply i_Gb | apply i_cond)); (focus (simp (disch := (first | omega | (simp only [push_cast]; done) | (simp only [push_cast]; omega) | ((try simp only [push_cast]); (with_reducible first | apply sel_lt | apply sel_ge); (focus decide); (focus (simp only [push_cast]; omega))))) only [push_cast, ↓reduceIte, Nat.reduceEqDiff, Nat.reduceBEq, Nat.reduceAdd, Nat.reduceSub, Int.reduceToNat, *] <;> with_reducible exact rfl)); all_goals try (intro hX; first | (cases hX; done) | ((with_reducible first | have hX0 : true = true := hX | have hX0 : false = false := hX); clear hX0 hX) | ((try simp only [decide_eq_true_eq, decide_eq_false_iff_not, Bool.not_eq_true', Bool.not_eq_false'] at hX); (try have hXb := inB_iff.1 hX)))))); all_goals try (exfalso; omega)
          all_goals (first | (exfalso; omega) | ((first | apply i_end | apply i_endN); simp (disch := (first | omega | (simp only [push_cast]; done) | (simp only [push_cast]; omega) | ((try simp only [push_cast]); (with_reducible first | apply sel_lt | apply sel_ge); (focus decide); (focus (simp only [push_cast]; omega))))) only [push_cast, ↓reduceIte, Nat.reduceEqDiff, Nat.reduceBEq, Nat.reduceAdd, Nat.reduceSub, Int.reduceToNat, *]) | skip)
    · rw [if_neg (fun h => hA (pgA_iff.1 h).2)] at hz
      subst hz
      have hd : ht - 1 < l.length ∨ inB page 1 999 = false := by
        by_cases h1 : ht - 1 < l.length
        · exact .inl h1
        · right
          cases h2 : inB page 1 999 with
          | false => rfl
          | true => exact absurd ⟨by omega, h2⟩ hA
      clear hA hO hG0 hsz hok
      rcases hd with hd | hd <;>
      · have gspg_c47 := GSpg_47; have gspg_c48 := GSpg_48; have gspg_c49 := GSpg_49; have gspg_c50 := GSpg_50
        (repeat' (first | (with_reducible first | apply i_seq | apply i_block | apply i_skip | apply i_exit | apply i_ret | apply i_kS | apply i_kSx | apply i_kSr | apply i_kL | apply i_kLx | apply i_kLr | apply i_kB | apply i_kBr | apply i_kBs | apply i_nil) | ((with_reducible apply i_region); (focus (simp only [List.map_cons, List.map_nil] <;> exact rfl))) | ((with_reducible apply i_draw); (focus (simp only [List.map_cons, List.map_nil] <;> exact rfl)); (focus (decide +kernel))) | ((with_reducible apply i_kBo); (focus rfl)) | ((first | ((with_reducible apply i_V); (focus rfl); (focus rfl); (focus rfl)) | ((with_reducible apply i_E); (focus rfl); (focus (first | rfl | (simp only [push_cast, ↓reduceIte, effOk, touch, refsOf, List.flatMap_cons, List.flatMap_nil])))) | ((with_reducible apply i_S); (focus rfl); (focus (first | rfl | (simp only [push_cast, ↓reduceIte, effOk, touch, refsOf, List.flatMap_cons, List.flatMap_nil])))) | ((with_reducible apply i_Vq); (focus rfl); (focus rfl)) | ((with_reducible apply i_Vp); (focus rfl); (focus rfl); (focus rfl)) | (with_reducible first | apply i_Gb | apply i_cond)); (focus (simp (disch := (first | omega | (simp only [push_cast]; done) | (simp only [push_cast]; omega) | ((try simp only [push_cast]); (with_reducible first | apply sel_lt | apply sel_ge); (focus decide); (focus (simp only [push_cast]; omega))))) only [push_cast, ↓reduceIte, Nat.reduceEqDiff, Nat.reduceBEq, Nat.reduceAdd, Nat.reduceSub, Int.reduceToNat, *] <;> with_reducible exact rfl)); all_goals try (intro hX; first | (cases hX; done) | ((with_reducible first | have hX0 : true = true := hX | have hX0 : false = false := hX); clear hX0 hX) | ((try simp only [decide_eq_true_eq, decide_eq_false_iff_not, Bool.not_eq_true', Bool.not_eq_false'] at hX); (try have hXb := inB_iff.1 hX)))))); all_goals try (exfalso; omega)
        all_goals (first | (exfalso; omega) | ((first | apply i_end | apply i_endN); simp (disch := (first | omega | (simp only [push_cast]; done) | (simp only [push_cast]; omega) | ((try simp only [push_cast]); (with_reducible first | apply sel_lt | apply sel_ge); (focus decide); (focus (simp only [push_cast]; omega))))) only [push_cast, ↓reduceIte, Nat.reduceEqDiff, Nat.reduceBEq, Nat.reduceAdd, Nat.reduceSub, Int.reduceToNat, *]) | skip)
end Go.Proofs.YtpggpdbipajchaaDoor
namespace Go.Proofs.YtpggpdbipajchaaDoor
open Go.RowKit
set_option linter.all false
theorem tdiv2 {x : Int} (h : -60 ≤ x) (h2 : x ≤ 60) : -60 ≤ x.tdiv 2 ∧ x.tdiv 2 ≤ 60 := by
  by_cases h0 : 0 ≤ x
  · rw [Int.tdiv_eq_ediv_of_nonneg h0]; omega
  · rw [show x = -(-x) by omega, Int.neg_tdiv, Int.tdiv_eq_ediv_of_nonneg (by omega)]; omega
def pgZI (l : LS) (wd ht page : Int) : PV × List CellIO := match pgR l wd ht page with
  | some g => (.tup [.agg [.val (.int .i64 wd), .row 0 1 0 g.length], .val (.bool true)], [(5, 1, g.map fun n => .val (.int .u8 n))])
  | none => (.tup [.agg [.val (.int .i64 0), .val (.slice none 0 0)], .val (.bool false)], [])
noncomputable def ΨPg : FunN := G4 dSs dI dI dI fun l wd ht page => if okSs l ∧ okI wd ∧ okI ht ∧ okI page then some (pgZI l wd ht page) else none
theorem gOf_rowI {w h : Int} (hG : gridO w h = true) : liftN ΨGridOf [.val (.int .i64 w), .val (.int .i64 h)] [] = some (.agg [.val (.int .i64 w), .row 0 1 0 (List.replicate (w * h).toNat (32 : Int)).length], [(5, 1, (List.replicate (w * h).toNat (32 : Int)).map fun n => .val (.int .u8 n))]) := by
  rw [List.length_replicate]
  exact gOf_lift hG
noncomputable def GPgI : Ctx := ⟨fun f => if f = 51 then some φSide else if f = 52 then some φPage else if f = 55 then some φItoa else none, fun f => if f = 53 then some (liftN ΨGridOf) else if f = 54 then some (liftN ΨPut) else none⟩
theorem GPgI_ok : SoundΓ Tryd.prog GPgI := ⟨(fun f φ h => by
  unfold GPgI at h
  dsimp only at h
  split at h
  · rename_i hf; cases h; subst hf; exact ⟨⟨_, Tryd.func51, rfl, rfl⟩, isSide_ok⟩
  split at h
  · rename_i hf; cases h; subst hf; exact ⟨⟨_, Tryd.func52, rfl, rfl⟩, isPage_ok⟩
  split at h
  · rename_i hf; cases h; subst hf; exact ⟨⟨_, Tryd.func55, rfl, rfl⟩, itoa_ok⟩
  cases h), (fun f φ h => by
  unfold GPgI at h
  dsimp only at h
  split at h
  · rename_i hf; cases h; subst hf; exact ⟨⟨_, Tryd.func53, rfl, rfl⟩, implGridOfN.lift⟩
  split at h
  · rename_i hf; cases h; subst hf; exact ⟨⟨_, Tryd.func54, rfl, rfl⟩, implPutN.lift⟩
  cases h)⟩
theorem GPgI_51 (ob : Objs) (ps : List PV) : evCall GPgI ob 51 ps = (ps.mapM (reify false 0 ob fuel)).bind φSide := by
  have h : GPgI.fn 51 = some φSide := by simp [GPgI]
  unfold evCall
  rw [h]
  cases ps.mapM (reify false 0 ob fuel) <;> rfl
theorem GPgI_52 (ob : Objs) (ps : List PV) : evCall GPgI ob 52 ps = (ps.mapM (reify false 0 ob fuel)).bind φPage := by
  have h : GPgI.fn 52 = some φPage := by simp [GPgI]
  unfold evCall
  rw [h]
  cases ps.mapM (reify false 0 ob fuel) <;> rfl
theorem GPgI_55 (ob : Objs) (ps : List PV) : evCall GPgI ob 55 ps = (ps.mapM (reify false 0 ob fuel)).bind φItoa := by
  have h : GPgI.fn 55 = some φItoa := by simp [GPgI]
  unfold evCall
  rw [h]
  cases ps.mapM (reify false 0 ob fuel) <;> rfl
theorem GPgI_53 : GPgI.io 53 = some (liftN ΨGridOf) := by simp [GPgI]
theorem GPgI_54 : GPgI.io 54 = some (liftN ΨPut) := by simp [GPgI]
set_option maxHeartbeats 16000000 in
theorem implPgN : SoundN Tryd.prog 14 ΨPg := by
  refine sound_pqN mixed GPgI_ok Tryd.func14 rfl 82 rfl [.cell 8 26, .tmp 9] rfl (by kernel_rfl) fun ps r cs' hr => ?_
  obtain ⟨l, wd, ht, page, rfl, hq⟩ := G4_some hr
  clear hr
  split at hq
  case isFalse => cases hq
  case isTrue hpre =>
  have hz : pgZI l wd ht page = (r, cs') := by simpa using hq
  clear hq
  refine ⟨by simp, ?_⟩
  simp only [dIs, dUs, dSs, dI_e, dU_e, dB_e, dS_e, dFn_e, dL_e, dA2_e, dA3_e, dA4_e, dA5_e]
  obtain ⟨hok, ho1, ho2, ho3⟩ := hpre
  have hlen := hok.1
  have hsz := hok.2
  have aps := φSide_ap
  have app := φPage_ap
  by_cases hA : pgA l.length wd ht page = true
  · obtain ⟨hO, hA1, hA2⟩ := pgA_iff.1 hA
    obtain ⟨hw, hh⟩ := gridO_iff.1 hO
    have hwi := inB_iff.2 hw
    have hhi := inB_iff.2 hh
    have hpb := inB_iff.1 hA2
    have har := area_rng hO
    have hG0 := gridB_sp hO
    have ap1 := gOf_rowI hO
    have ap4 := φItoa_ap (n := page) ho3
    have his := itoaS_size (n := page) (by omega) (by omega)
    unfold pgZI pgR at hz
    rw [if_pos hA] at hz
    replace hz := Lib.hid hz
    have hgl0 : (List.replicate (wd * ht).toNat (32 : Int)).length = (wd * ht).toNat := List.length_replicate
    generalize hg0 : List.replicate (wd * ht).toNat (32 : Int) = g0 at *
    replace hG0 := Lib.hid hG0
    clear hO hok hA hg0
    have gpgi_c51 := GPgI_51; have gpgi_c52 := GPgI_52; have gpgi_c53 := GPgI_53; have gpgi_c54 := GPgI_54; have gpgi_c55 := GPgI_55
    (repeat' (first | (with_reducible first | apply i_seq | apply i_block | apply i_skip | apply i_exit | apply i_ret | apply i_kS | apply i_kSx | apply i_kSr | apply i_kL | apply i_kLx | apply i_kLr | apply i_kB | apply i_kBr | apply i_kBs | apply i_nil) | ((with_reducible apply i_region); (focus (simp only [List.map_cons, List.map_nil] <;> exact rfl))) | ((with_reducible apply i_draw); (focus (simp only [List.map_cons, List.map_nil] <;> exact rfl)); (focus (decide +kernel))) | ((with_reducible apply i_kBo); (focus rfl)) | ((first | ((with_reducible apply i_V); (focus rfl); (focus rfl); (focus rfl)) | ((with_reducible apply i_E); (focus rfl); (focus (first | rfl | (simp only [push_cast, ↓reduceIte, effOk, touch, refsOf, List.flatMap_cons, List.flatMap_nil])))) | ((with_reducible apply i_S); (focus rfl); (focus (first | rfl | (simp only [push_cast, ↓reduceIte, effOk, touch, refsOf, List.flatMap_cons, List.flatMap_nil])))) | ((with_reducible apply i_Vq); (focus rfl); (focus rfl)) | ((with_reducible apply i_Vp); (focus rfl); (focus rfl); (focus rfl)) | (with_reducible first | apply i_Gb | apply i_cond)); (focus (simp (disch := (first | omega | (simp only [push_cast]; done) | (simp only [push_cast]; omega) | ((try simp only [push_cast]); (with_reducible first | apply sel_lt | apply sel_ge); (focus decide); (focus (simp only [push_cast]; omega))))) only [push_cast, ↓reduceIte, Nat.reduceEqDiff, Nat.reduceBEq, Nat.reduceAdd, Nat.reduceSub, Int.reduceToNat, *] <;> with_reducible exact rfl)); all_goals try (intro hX; first | (cases hX; done) | ((with_reducible first | have hX0 : true = true := hX | have hX0 : false = false := hX); clear hX0 hX) | ((try simp only [decide_eq_true_eq, decide_eq_false_iff_not, Bool.not_eq_true', Bool.not_eq_false'] at hX); (try have hXb := inB_iff.1 hX)))))); all_goals try (exfalso; omega)
    refine i_loop (α := Nat × List Int × Nat × Nat) mixed (fun s => [(1, iv wd), (2, iv ht), (3, iv page), (8, .own 0 2 0 0), (10, .own 2 2 0 0), (39, .lst false 1 (l.map fun s => .val (.string s))), (40, iv l.length), (41, iv s.1)])
      (fun s => [(0, 26, 2, [PV.agg [.val (.int .i64 0), .val (.slice none 0 0)]]), (s.2.2.1, 5, 1, s.2.1.map fun n => .val (.int .u8 n)), (2, 26, 2, [PV.agg [.val (.int .i64 wd), .row s.2.2.1 1 0 s.2.1.length]])]) (fun s => s.2.2.2)
      (fun s => s.1 ≤ l.length ∧ gridB wd s.2.1 = true ∧ s.2.1.length = (wd * ht).toNat ∧ pgF wd s.2.1 s.1 (l.drop s.1) = pgF wd g0 0 l ∧ (s.2.2.1 = 1 ∨ 2 < s.2.2.1) ∧ s.2.2.1 < s.2.2.2 ∧ 2 < s.2.2.2) (fun s => l.length - s.1) (by kernel_rfl) (0, g0, 1, 3) ⟨Nat.zero_le _, hG0.out, hgl0, by rw [List.drop_zero], .inl rfl, by simp, by simp⟩ ?_ ?_ rfl ?_
    · simp (disch := (first | omega | (simp only [push_cast]; done) | (simp only [push_cast]; omega) | ((try simp only [push_cast]); (with_reducible first | apply sel_lt | apply sel_ge); (focus decide); (focus (simp only [push_cast]; omega))))) only [push_cast, ↓reduceIte, Nat.reduceEqDiff, Nat.reduceBEq, Nat.reduceAdd, Nat.reduceSub, Int.reduceToNat, List.length_append, *]
    · simp (disch := (first | omega | (simp only [push_cast]; done) | (simp only [push_cast]; omega) | ((try simp only [push_cast]); (with_reducible first | apply sel_lt | apply sel_ge); (focus decide); (focus (simp only [push_cast]; omega))))) only [push_cast, ↓reduceIte, Nat.reduceEqDiff, Nat.reduceBEq, Nat.reduceAdd, Nat.reduceSub, Int.reduceToNat, List.length_append, *]
    rintro ⟨k, g, x, y⟩ ⟨hk, hG, hgl, hF, hx, hxy, hy⟩
    dsimp only at hk hG hgl hF hx hxy hy
    have hU := gridB_okU hG
    replace hgl := Lib.hid hgl
    by_cases hkl : k < l.length
    · have ap5 := put_lift (wd := wd) (col := 0) (row := k) (l := g) (s := l[k]?.getD .empty) ⟨hU, by have := hsz k; omega⟩ hG
      have hst := pgF_step (wd := wd) (g := g) hkl
      cases hp : (putPre wd g 0 k (l[k]?.getD .empty) && prB (l[k]?.getD .empty)) with
      | true =>
        obtain ⟨hG2, hl2⟩ := put_keeps hG hp
        unfold putR at ap5
        rw [hp, if_pos rfl, ← hl2] at ap5
        rw [hp, if_pos rfl, hF] at hst
        rw [hl2] at ap5
        replace hG2 := Lib.hid hG2
        replace hl2 := Lib.hid hl2
        replace hst := Lib.hid hst
        clear hp hF hG hU hsz
        (repeat' (first | (with_reducible first | apply i_seq | apply i_block | apply i_skip | apply i_exit | apply i_ret | apply i_kS | apply i_kSx | apply i_kSr | apply i_kL | apply i_kLx | apply i_kLr | apply i_kB | apply i_kBr | apply i_kBs | apply i_nil) | ((with_reducible apply i_region); (focus (simp only [List.map_cons, List.map_nil] <;> exact rfl))) | ((with_reducible apply i_draw); (focus (simp only [List.map_cons, List.map_nil] <;> exact rfl)); (focus (decide +kernel))) | ((with_reducible apply i_kBo); (focus rfl)) | ((first | ((with_reducible apply i_V); (focus rfl); (focus rfl); (focus rfl)) | ((with_reducible apply i_E); (focus rfl); (focus (first | rfl | (simp only [push_cast, ↓reduceIte, effOk, touch, refsOf, List.flatMap_cons, List.flatMap_nil])))) | ((with_reducible apply i_S); (focus rfl); (focus (first | rfl | (simp only [push_cast, ↓reduceIte, effOk, touch, refsOf, List.flatMap_cons, List.flatMap_nil])))) | ((with_reducible apply i_Vq); (focus rfl); (focus rfl)) | ((with_reducible apply i_Vp); (focus rfl); (focus rfl); (focus rfl)) | (with_reducible first | apply i_Gb | apply i_cond)); (focus (simp (disch := (first | omega | (simp only [push_cast]; done) | (simp only [push_cast]; omega) | ((try simp only [push_cast]); (with_reducible first | apply sel_lt | apply sel_ge); (focus decide); (focus (simp only [push_cast]; omega))))) only [push_cast, ↓reduceIte, Nat.reduceEqDiff, Nat.reduceBEq, Nat.reduceAdd, Nat.reduceSub, Int.reduceToNat, *] <;> with_reducible exact rfl)); all_goals try (intro hX; first | (cases hX; done) | ((with_reducible first | have hX0 : true = true := hX | have hX0 : false = false := hX); clear hX0 hX) | ((try simp only [decide_eq_true_eq, decide_eq_false_iff_not, Bool.not_eq_true', Bool.not_eq_false'] at hX); (try have hXb := inB_iff.1 hX)))))); all_goals try (exfalso; omega)
        refine ⟨(k + 1, putL wd g 0 k (l[k]?.getD ByteArray.empty), y, y + 1), ⟨by dsimp only; omega, hG2.out, by rw [← hgl.out]; exact hl2.out, hst.out.symm, by dsimp only; omega, by dsimp only; omega, by dsimp only; omega⟩, by dsimp only; omega, ?_, ?_, rfl⟩
        · simp (disch := (first | omega | (simp only [push_cast]; done) | (simp only [push_cast]; omega) | ((try simp only [push_cast]); (with_reducible first | apply sel_lt | apply sel_ge); (focus decide); (focus (simp only [push_cast]; omega))))) only [push_cast, ↓reduceIte, Nat.reduceEqDiff, Nat.reduceBEq, Nat.reduceAdd, Nat.reduceSub, Int.reduceToNat, List.length_append, *]
        · simp (disch := (first | omega | (simp only [push_cast]; done) | (simp only [push_cast]; omega) | ((try simp only [push_cast]); (with_reducible first | apply sel_lt | apply sel_ge); (focus decide); (focus (simp only [push_cast]; omega))))) only [push_cast, ↓reduceIte, Nat.reduceEqDiff, Nat.reduceBEq, Nat.reduceAdd, Nat.reduceSub, Int.reduceToNat, List.length_append, hl2.out, *]
      | false =>
        unfold putR at ap5
        rw [hp, if_neg (by simp)] at ap5
        rw [hp, if_neg (by simp), hF] at hst
        have hz2 : ((PV.tup [.agg [.val (.int .i64 0), .val (.slice none 0 0)], .val (.bool false)], []) : PV × List CellIO) = (r, cs') := by
          have h := hz.out
          rw [hst] at h
          exact h
        clear hz
        cases hz2
        clear hp hF hG hU hsz hst
        (repeat' (first | (with_reducible first | apply i_seq | apply i_block | apply i_skip | apply i_exit | apply i_ret | apply i_kS | apply i_kSx | apply i_kSr | apply i_kL | apply i_kLx | apply i_kLr | apply i_kB | apply i_kBr | apply i_kBs | apply i_nil) | ((with_reducible apply i_region); (focus (simp only [List.map_cons, List.map_nil] <;> exact rfl))) | ((with_reducible apply i_draw); (focus (simp only [List.map_cons, List.map_nil] <;> exact rfl)); (focus (decide +kernel))) | ((with_reducible apply i_kBo); (focus rfl)) | ((first | ((with_reducible apply i_V); (focus rfl); (focus rfl); (focus rfl)) | ((with_reducible apply i_E); (focus rfl); (focus (first | rfl | (simp only [push_cast, ↓reduceIte, effOk, touch, refsOf, List.flatMap_cons, List.flatMap_nil])))) | ((with_reducible apply i_S); (focus rfl); (focus (first | rfl | (simp only [push_cast, ↓reduceIte, effOk, touch, refsOf, List.flatMap_cons, List.flatMap_nil])))) | ((with_reducible apply i_Vq); (focus rfl); (focus rfl)) | ((with_reducible apply i_Vp); (focus rfl); (focus rfl); (focus rfl)) | (with_reducible first | apply i_Gb | apply i_cond)); (focus (simp (disch := (first | omega | (simp only [push_cast]; done) | (simp only [push_cast]; omega) | ((try simp only [push_cast]); (with_reducible first | apply sel_lt | apply sel_ge); (focus decide); (focus (simp only [push_cast]; omega))))) only [push_cast, ↓reduceIte, Nat.reduceEqDiff, Nat.reduceBEq, Nat.reduceAdd, Nat.reduceSub, Int.reduceToNat, *] <;> with_reducible exact rfl)); all_goals try (intro hX; first | (cases hX; done) | ((with_reducible first | have hX0 : true = true := hX | have hX0 : false = false := hX); clear hX0 hX) | ((try simp only [decide_eq_true_eq, decide_eq_false_iff_not, Bool.not_eq_true', Bool.not_eq_false'] at hX); (try have hXb := inB_iff.1 hX)))))); all_goals try (exfalso; omega)
        all_goals ((with_reducible apply i_endN0 (by first | exact .inl rfl | exact .inr rfl)); (focus (simp (disch := (first | omega | (simp only [push_cast]; done) | (simp only [push_cast]; omega) | ((try simp only [push_cast]); (with_reducible first | apply sel_lt | apply sel_ge); (focus decide); (focus (simp only [push_cast]; omega))))) only [push_cast, ↓reduceIte, Nat.reduceEqDiff, Nat.reduceBEq, Nat.reduceAdd, Nat.reduceSub, Int.reduceToNat, *] <;> with_reducible exact rfl)))
    · obtain rfl : k = l.length := by omega
      rw [List.drop_length] at hF
      have hcolE : ∃ col : Int, (wd - (itoaS page).size).tdiv 2 = col ∧ (putPre wd g col (ht - 1) (itoaS page) = putPre wd g (pgCol wd page) (ht - 1) (itoaS page)) ∧ (((itoaS page).size : Int) ≤ wd → col = pgCol wd page) ∧ -60 ≤ col ∧ col ≤ 60 := by
        refine ⟨_, rfl, ?_, ?_, ?_, ?_⟩
        · by_cases h1 : ((itoaS page).size : Int) ≤ wd
          · have : (wd - (itoaS page).size).tdiv 2 = pgCol wd page := by
              unfold pgCol
              rw [Int.tdiv_eq_ediv_of_nonneg (by omega), Int.max_eq_right (by omega)]
            rw [this]
          · have e1 : putPre wd g ((wd - (itoaS page).size).tdiv 2) (ht - 1) (itoaS page) = false := by
              unfold putPre
              by_cases h2 : 0 ≤ (wd - (itoaS page).size).tdiv 2
              · rw [decide_eq_false (by omega), Bool.and_false, Bool.and_false]
              · rw [show inB ((wd - (itoaS page).size).tdiv 2) 0 wd = false from by
                  rw [Bool.eq_false_iff]
                  intro q
                  exact h2 (inB_iff.1 q).1, Bool.false_and]
            have e2 : putPre wd g (pgCol wd page) (ht - 1) (itoaS page) = false := by
              unfold putPre
              rw [decide_eq_false (by unfold pgCol; omega), Bool.and_false, Bool.and_false]
            rw [e1, e2]
        · intro h1
          unfold pgCol
          rw [Int.tdiv_eq_ediv_of_nonneg (by omega), Int.max_eq_right (by omega)]
        · exact (tdiv2 (by omega) (by omega)).1
        · exact (tdiv2 (by omega) (by omega)).2
      obtain ⟨col, hc1, hc2, hc3, hc4, hc5⟩ := hcolE
      have ap5 := put_lift (wd := wd) (col := col) (row := ht - 1) (l := g) (s := itoaS page) ⟨hU, by omega⟩ hG
      unfold putR at ap5
      have hz2 : (match pgN wd ht page g with
        | some g => ((PV.tup [.agg [.val (.int .i64 wd), .row 0 1 0 g.length], .val (.bool true)], [(5, 1, g.map fun n => PV.val (.int .u8 n))]) : PV × List CellIO)
        | none => (PV.tup [.agg [.val (.int .i64 0), .val (.slice none 0 0)], .val (.bool false)], [])) = (r, cs') := by
        have h := hz.out
        rw [← hF] at h
        exact h
      clear hz
      unfold pgN at hz2
      rw [← hc2] at hz2
      cases hp : (putPre wd g col (ht - 1) (itoaS page) && prB (itoaS page)) with
      | true =>
        have hsw : ((itoaS page).size : Int) ≤ wd := by
          have := (Bool.and_eq_true_iff.1 hp).1
          rw [hc2] at this
          unfold putPre at this
          simp only [Bool.and_eq_true, decide_eq_true_eq] at this
          have h0 := (inB_iff.1 this.1).1
          omega
        rw [← hc3 hsw] at hz2
        have hlz := (put_keeps hG hp).2
        rw [hp, if_pos rfl] at hz2 ap5
        dsimp only at hz2
        rw [hlz] at hz2
        cases hz2
        clear hp hF hG hU hsz hc3 hc2
        generalize itoaS page = num at *
        (repeat' (first | (with_reducible first | apply i_seq | apply i_block | apply i_skip | apply i_exit | apply i_ret | apply i_kS | apply i_kSx | apply i_kSr | apply i_kL | apply i_kLx | apply i_kLr | apply i_kB | apply i_kBr | apply i_kBs | apply i_nil) | ((with_reducible apply i_region); (focus (simp only [List.map_cons, List.map_nil] <;> exact rfl))) | ((with_reducible apply i_draw); (focus (simp only [List.map_cons, List.map_nil] <;> exact rfl)); (focus (decide +kernel))) | ((with_reducible apply i_kBo); (focus rfl)) | ((first | ((with_reducible apply i_V); (focus rfl); (focus rfl); (focus rfl)) | ((with_reducible apply i_E); (focus rfl); (focus (first | rfl | (simp only [push_cast, ↓reduceIte, effOk, touch, refsOf, List.flatMap_cons, List.flatMap_nil])))) | ((with_reducible apply i_S); (focus rfl); (focus (first | rfl | (simp only [push_cast, ↓reduceIte, effOk, touch, refsOf, List.flatMap_cons, List.flatMap_nil])))) | ((with_reducible apply i_Vq); (focus rfl); (focus rfl)) | ((with_reducible apply i_Vp); (focus rfl); (focus rfl); (focus rfl)) | (with_reducible first | apply i_Gb | apply i_cond)); (focus (simp (disch := (first | omega | (simp only [push_cast]; done) | (simp only [push_cast]; omega) | ((try simp only [push_cast]); (with_reducible first | apply sel_lt | apply sel_ge); (focus decide); (focus (simp only [push_cast]; omega))))) only [push_cast, ↓reduceIte, Nat.reduceEqDiff, Nat.reduceBEq, Nat.reduceAdd, Nat.reduceSub, Int.reduceToNat, *] <;> with_reducible exact rfl)); all_goals try (intro hX; first | (cases hX; done) | ((with_reducible first | have hX0 : true = true := hX | have hX0 : false = false := hX); clear hX0 hX) | ((try simp only [decide_eq_true_eq, decide_eq_false_iff_not, Bool.not_eq_true', Bool.not_eq_false'] at hX); (try have hXb := inB_iff.1 hX)))))); all_goals try (exfalso; omega)
        ((with_reducible apply i_endN1 (y) (by first | exact .inl rfl | exact .inr rfl)); (focus (simp (disch := (first | omega | (simp only [push_cast]; done) | (simp only [push_cast]; omega) | ((try simp only [push_cast]); (with_reducible first | apply sel_lt | apply sel_ge); (focus decide); (focus (simp only [push_cast]; omega))))) only [push_cast, ↓reduceIte, Nat.reduceEqDiff, Nat.reduceBEq, Nat.reduceAdd, Nat.reduceSub, Int.reduceToNat, *] <;> with_reducible exact rfl)); (focus (simp (disch := (first | omega | (simp only [push_cast]; done) | (simp only [push_cast]; omega) | ((try simp only [push_cast]); (with_reducible first | apply sel_lt | apply sel_ge); (focus decide); (focus (simp only [push_cast]; omega))))) only [push_cast, ↓reduceIte, Nat.reduceEqDiff, Nat.reduceBEq, Nat.reduceAdd, Nat.reduceSub, Int.reduceToNat, *] <;> with_reducible exact rfl)))
      | false =>
        rw [hp, if_neg (by simp)] at hz2 ap5
        dsimp only at hz2
        cases hz2
        clear hp hF hG hU hsz hc3 hc2
        generalize itoaS page = num at *
        (repeat' (first | (with_reducible first | apply i_seq | apply i_block | apply i_skip | apply i_exit | apply i_ret | apply i_kS | apply i_kSx | apply i_kSr | apply i_kL | apply i_kLx | apply i_kLr | apply i_kB | apply i_kBr | apply i_kBs | apply i_nil) | ((with_reducible apply i_region); (focus (simp only [List.map_cons, List.map_nil] <;> exact rfl))) | ((with_reducible apply i_draw); (focus (simp only [List.map_cons, List.map_nil] <;> exact rfl)); (focus (decide +kernel))) | ((with_reducible apply i_kBo); (focus rfl)) | ((first | ((with_reducible apply i_V); (focus rfl); (focus rfl); (focus rfl)) | ((with_reducible apply i_E); (focus rfl); (focus (first | rfl | (simp only [push_cast, ↓reduceIte, effOk, touch, refsOf, List.flatMap_cons, List.flatMap_nil])))) | ((with_reducible apply i_S); (focus rfl); (focus (first | rfl | (simp only [push_cast, ↓reduceIte, effOk, touch, refsOf, List.flatMap_cons, List.flatMap_nil])))) | ((with_reducible apply i_Vq); (focus rfl); (focus rfl)) | ((with_reducible apply i_Vp); (focus rfl); (focus rfl); (focus rfl)) | (with_reducible first | apply i_Gb | apply i_cond)); (focus (simp (disch := (first | omega | (simp only [push_cast]; done) | (simp only [push_cast]; omega) | ((try simp only [push_cast]); (with_reducible first | apply sel_lt | apply sel_ge); (focus decide); (focus (simp only [push_cast]; omega))))) only [push_cast, ↓reduceIte, Nat.reduceEqDiff, Nat.reduceBEq, Nat.reduceAdd, Nat.reduceSub, Int.reduceToNat, *] <;> with_reducible exact rfl)); all_goals try (intro hX; first | (cases hX; done) | ((with_reducible first | have hX0 : true = true := hX | have hX0 : false = false := hX); clear hX0 hX) | ((try simp only [decide_eq_true_eq, decide_eq_false_iff_not, Bool.not_eq_true', Bool.not_eq_false'] at hX); (try have hXb := inB_iff.1 hX)))))); all_goals try (exfalso; omega)
        all_goals ((with_reducible apply i_endN0 (by first | exact .inl rfl | exact .inr rfl)); (focus (simp (disch := (first | omega | (simp only [push_cast]; done) | (simp only [push_cast]; omega) | ((try simp only [push_cast]); (with_reducible first | apply sel_lt | apply sel_ge); (focus decide); (focus (simp only [push_cast]; omega))))) only [push_cast, ↓reduceIte, Nat.reduceEqDiff, Nat.reduceBEq, Nat.reduceAdd, Nat.reduceSub, Int.reduceToNat, *] <;> with_reducible exact rfl)))
  · have hz2 : ((PV.tup [.agg [.val (.int .i64 0), .val (.slice none 0 0)], .val (.bool false)], []) : PV × List CellIO) = (r, cs') := by
      unfold pgZI pgR at hz
      rw [if_neg hA] at hz
      exact hz
    cases hz2
    have hd : inB wd 1 60 = false ∨ inB ht 1 60 = false ∨ inB page 1 999 = false ∨ ht - 1 < l.length := by
      cases h1 : inB wd 1 60 with
      | false => exact .inl rfl
      | true =>
        cases h2 : inB ht 1 60 with
        | false => exact .inr (.inl rfl)
        | true =>
          cases h3 : inB page 1 999 with
          | false => exact .inr (.inr (.inl rfl))
          | true =>
            refine .inr (.inr (.inr ?_))
            by_cases h4 : ht - 1 < l.length
            · exact h4
            · exact absurd (pgA_iff.2 ⟨by unfold gridO; rw [h1, h2]; rfl, by omega, h3⟩) hA
    clear hA hsz hok hz
    rcases hd with hd | hd | hd | hd <;>
    · have gpgi_c51 := GPgI_51; have gpgi_c52 := GPgI_52; have gpgi_c53 := GPgI_53; have gpgi_c54 := GPgI_54; have gpgi_c55 := GPgI_55
      (repeat' (first | (with_reducible first | apply i_seq | apply i_block | apply i_skip | apply i_exit | apply i_ret | apply i_kS | apply i_kSx | apply i_kSr | apply i_kL | apply i_kLx | apply i_kLr | apply i_kB | apply i_kBr | apply i_kBs | apply i_nil) | ((with_reducible apply i_region); (focus (simp only [List.map_cons, List.map_nil] <;> exact rfl))) | ((with_reducible apply i_draw); (focus (simp only [List.map_cons, List.map_nil] <;> exact rfl)); (focus (decide +kernel))) | ((with_reducible apply i_kBo); (focus rfl)) | ((first | ((with_reducible apply i_V); (focus rfl); (focus rfl); (focus rfl)) | ((with_reducible apply i_E); (focus rfl); (focus (first | rfl | (simp only [push_cast, ↓reduceIte, effOk, touch, refsOf, List.flatMap_cons, List.flatMap_nil])))) | ((with_reducible apply i_S); (focus rfl); (focus (first | rfl | (simp only [push_cast, ↓reduceIte, effOk, touch, refsOf, List.flatMap_cons, List.flatMap_nil])))) | ((with_reducible apply i_Vq); (focus rfl); (focus rfl)) | ((with_reducible apply i_Vp); (focus rfl); (focus rfl); (focus rfl)) | (with_reducible first | apply i_Gb | apply i_cond)); (focus (simp (disch := (first | omega | (simp only [push_cast]; done) | (simp only [push_cast]; omega) | ((try simp only [push_cast]); (with_reducible first | apply sel_lt | apply sel_ge); (focus decide); (focus (simp only [push_cast]; omega))))) only [push_cast, ↓reduceIte, Nat.reduceEqDiff, Nat.reduceBEq, Nat.reduceAdd, Nat.reduceSub, Int.reduceToNat, *] <;> with_reducible exact rfl)); all_goals try (intro hX; first | (cases hX; done) | ((with_reducible first | have hX0 : true = true := hX | have hX0 : false = false := hX); clear hX0 hX) | ((try simp only [decide_eq_true_eq, decide_eq_false_iff_not, Bool.not_eq_true', Bool.not_eq_false'] at hX); (try have hXb := inB_iff.1 hX)))))); all_goals try (exfalso; omega)
      all_goals (first | (exfalso; omega) | ((with_reducible apply i_endN0 (by first | exact .inl rfl | exact .inr rfl)); (focus (simp (disch := (first | omega | (simp only [push_cast]; done) | (simp only [push_cast]; omega) | ((try simp only [push_cast]); (with_reducible first | apply sel_lt | apply sel_ge); (focus decide); (focus (simp only [push_cast]; omega))))) only [push_cast, ↓reduceIte, Nat.reduceEqDiff, Nat.reduceBEq, Nat.reduceAdd, Nat.reduceSub, Int.reduceToNat, *] <;> with_reducible exact rfl))))
end Go.Proofs.YtpggpdbipajchaaDoor
namespace Go.Proofs.YtpggpdbipajchaaDoor
open Go.RowKit
set_option linter.all false
theorem pgF_keeps {wd : Int} : ∀ (l : LS) (k : Nat) (g G : List Int), gridB wd g = true → pgF wd g k l = some G → gridB wd G = true
  | [], k, g, G, hG, h => by
    have : g = G := by simpa [pgF] using h
    exact this ▸ hG
  | s :: l, k, g, G, hG, h => by
    unfold pgF at h
    split at h
    · exact pgF_keeps l _ _ G (put_keeps hG (by assumption)).1 h
    · cases h
theorem pgR_len {l : LS} {wd ht page : Int} {G : List Int} (h : pgR l wd ht page = some G) : G.length ≤ 3600 := by
  unfold pgR at h
  split at h
  case isFalse => cases h
  case isTrue hA =>
  rw [Option.bind_eq_some_iff] at h
  obtain ⟨g, h1, h2⟩ := h
  have hg := pgF_keeps _ _ _ _ (gridB_sp (pgA_iff.1 hA).1) h1
  unfold pgN at h2
  split at h2
  case isFalse => cases h2
  case isTrue hp =>
  cases h2
  exact (gridB_facts (put_keeps hg hp).1).2.2.2.2.2.1
section
variable {Φ : FunIO} {ob : Objs} {nx : Nat}
theorem io_r4 {o sz i c : Nat} {v v2 v3 : Value} : ioEv Φ ob nx [.row o sz i c, .val v, .val v2, .val v3] = ioOne Φ ob nx o [.row 0 sz i c, .val v, .val v2, .val v3] (ob o) := ioOne_of (by simp [refsOf, dedup]) (by simp only [mapM_cons', mapM_nil', renS_fuel, renS_row, renS_val, inn_self]; rfl)
end
attribute [push_cast]
  io_r4
theorem Pg_lift {l : LS} {wd ht page : Int} {g : List Int} (h : okSs l ∧ okI wd ∧ okI ht ∧ okI page) (hR : pgR l wd ht page = some g) : liftN ΨPg [.row 0 1 0 l.length, .val (.int .i64 wd), .val (.int .i64 ht), .val (.int .i64 page)] [(9, 1, l.map fun s => .val (.string s))] =
    some (.tup [.agg [.val (.int .i64 wd), .row 1 1 0 g.length], .val (.bool true)], [(9, 1, l.map fun s => .val (.string s)), (5, 1, g.map fun n => .val (.int .u8 n))]) :=
  (liftN_of (qs := [.lst false 1 (l.map fun s => .val (.string s)), .val (.int .i64 wd), .val (.int .i64 ht), .val (.int .i64 page)]) (cs1 := [(5, 1, g.map fun n => .val (.int .u8 n))]) (r := .tup [.agg [.val (.int .i64 wd), .row 0 1 0 g.length], .val (.bool true)]) (cs0 := [(5, 1, g.map fun n => .val (.int .u8 n))]) (by
    rw [mapM_cons', reify_row rfl, Option.bind_some]; rfl) ((G4_ap (A := dSs) (B := dI) (C := dI) (D := dI) l wd ht page).trans ((if_pos h).trans (by unfold pgZI; rw [hR]))) rfl (by rw [mapM_cons', mapM_nil', renCT_vals]; rfl)).trans rfl
theorem Pg_lift0 {l : LS} {wd ht page : Int} (h : okSs l ∧ okI wd ∧ okI ht ∧ okI page) (hR : pgR l wd ht page = none) : liftN ΨPg [.row 0 1 0 l.length, .val (.int .i64 wd), .val (.int .i64 ht), .val (.int .i64 page)] [(9, 1, l.map fun s => .val (.string s))] =
    some (.tup [.agg [.val (.int .i64 0), .val (.slice none 0 0)], .val (.bool false)], [(9, 1, l.map fun s => .val (.string s))]) :=
  (liftN_of (qs := [.lst false 1 (l.map fun s => .val (.string s)), .val (.int .i64 wd), .val (.int .i64 ht), .val (.int .i64 page)]) (cs1 := []) (r := .tup [.agg [.val (.int .i64 0), .val (.slice none 0 0)], .val (.bool false)]) (cs0 := []) (by
    rw [mapM_cons', reify_row rfl, Option.bind_some]; rfl) ((G4_ap (A := dSs) (B := dI) (C := dI) (D := dI) l wd ht page).trans ((if_pos h).trans (by unfold pgZI; rw [hR]))) rfl rfl).trans rfl
noncomputable def φLawPgE : Fun := F4 dSs dI dI dI fun l wd ht page => if okSL l ∧ okI wd ∧ okI ht ∧ okI page then some (bv true) else none
noncomputable def GLpgE : Ctx := ⟨fun f => if f = 11 then some φSzS else if f = 12 then some φPg else if f = 15 then some φEqGn else if f = 16 then some φEqS else if f = 19 then some φHeldG else none, fun f => if f = 13 then some (liftN ΨToS) else if f = 14 then some (liftN ΨPg) else if f = 17 then some ΦmarkS else if f = 18 then some ΦmarkG else none⟩
theorem GLpgE_ok : SoundΓ Tryd.prog GLpgE := ⟨(fun f φ h => by
  unfold GLpgE at h
  dsimp only at h
  split at h
  · rename_i hf; cases h; subst hf; exact ⟨⟨_, Tryd.func11, rfl, rfl⟩, szStringS_ok⟩
  split at h
  · rename_i hf; cases h; subst hf; exact ⟨⟨_, Tryd.func12, rfl, rfl⟩, specPg_ok⟩
  split at h
  · rename_i hf; cases h; subst hf; exact ⟨⟨_, Tryd.func15, rfl, rfl⟩, (eqGrid_ok.nilG 1)⟩
  split at h
  · rename_i hf; cases h; subst hf; exact ⟨⟨_, Tryd.func16, rfl, rfl⟩, eqStringS_ok⟩
  split at h
  · rename_i hf; cases h; subst hf; exact ⟨⟨_, Tryd.func19, rfl, rfl⟩, heldGrid_ok⟩
  cases h), (fun f φ h => by
  unfold GLpgE at h
  dsimp only at h
  split at h
  · rename_i hf; cases h; subst hf; exact ⟨⟨_, Tryd.func13, rfl, rfl⟩, toStringSN.lift⟩
  split at h
  · rename_i hf; cases h; subst hf; exact ⟨⟨_, Tryd.func14, rfl, rfl⟩, implPgN.lift⟩
  split at h
  · rename_i hf; cases h; subst hf; exact ⟨⟨_, Tryd.func17, rfl, rfl⟩, markS_io⟩
  split at h
  · rename_i hf; cases h; subst hf; exact ⟨⟨_, Tryd.func18, rfl, rfl⟩, markG_io⟩
  cases h)⟩
theorem GLpgE_11 (ob : Objs) (ps : List PV) : evCall GLpgE ob 11 ps = (ps.mapM (reify false 0 ob fuel)).bind φSzS := by
  have h : GLpgE.fn 11 = some φSzS := by simp [GLpgE]
  unfold evCall
  rw [h]
  cases ps.mapM (reify false 0 ob fuel) <;> rfl
theorem GLpgE_12 (ob : Objs) (ps : List PV) : evCall GLpgE ob 12 ps = (ps.mapM (reify false 0 ob fuel)).bind φPg := by
  have h : GLpgE.fn 12 = some φPg := by simp [GLpgE]
  unfold evCall
  rw [h]
  cases ps.mapM (reify false 0 ob fuel) <;> rfl
theorem GLpgE_15 (ob : Objs) (ps : List PV) : evCall GLpgE ob 15 ps = (ps.mapM (reify false 0 ob fuel)).bind φEqGn := by
  have h : GLpgE.fn 15 = some φEqGn := by simp [GLpgE]
  unfold evCall
  rw [h]
  cases ps.mapM (reify false 0 ob fuel) <;> rfl
theorem GLpgE_16 (ob : Objs) (ps : List PV) : evCall GLpgE ob 16 ps = (ps.mapM (reify false 0 ob fuel)).bind φEqS := by
  have h : GLpgE.fn 16 = some φEqS := by simp [GLpgE]
  unfold evCall
  rw [h]
  cases ps.mapM (reify false 0 ob fuel) <;> rfl
theorem GLpgE_19 (ob : Objs) (ps : List PV) : evCall GLpgE ob 19 ps = (ps.mapM (reify false 0 ob fuel)).bind φHeldG := by
  have h : GLpgE.fn 19 = some φHeldG := by simp [GLpgE]
  unfold evCall
  rw [h]
  cases ps.mapM (reify false 0 ob fuel) <;> rfl
theorem GLpgE_13 : GLpgE.io 13 = some (liftN ΨToS) := by simp [GLpgE]
theorem GLpgE_14 : GLpgE.io 14 = some (liftN ΨPg) := by simp [GLpgE]
theorem GLpgE_17 : GLpgE.io 17 = some ΦmarkS := by simp [GLpgE]
theorem GLpgE_18 : GLpgE.io 18 = some ΦmarkG := by simp [GLpgE]
set_option maxHeartbeats 16000000 in
theorem lawPgE_ok : Sound Tryd.prog 3 φLawPgE := by
  refine sound_pq mixed GLpgE_ok Tryd.func3 rfl 111 rfl [.tmp 8] rfl (by kernel_rfl) fun ps r hr => ?_
  obtain ⟨l, wd, ht, page, rfl, hq⟩ := F4_some hr
  clear hr
  split at hq
  case isFalse => cases hq
  case isTrue hpre =>
  cases hq
  refine ⟨by simp, ?_⟩
  simp only [dIs, dUs, dSs, dI_e, dU_e, dB_e, dS_e, dFn_e, dL_e, dA2_e, dA3_e, dA4_e, dA5_e]
  obtain ⟨hpre, hi1, hi2, hi3⟩ := hpre
  have ap1 := φSzS_ap hpre (left := 1048576) (by omega) (by omega)
  by_cases hneg : szS 1048576 l < 0
  · have glpge_c11 := GLpgE_11; have glpge_c13 := GLpgE_13; have glpge_c12 := GLpgE_12; have glpge_c14 := GLpgE_14; have glpge_c15 := GLpgE_15; have glpge_c16 := GLpgE_16; have glpge_c17 := GLpgE_17; have glpge_c18 := GLpgE_18; have glpge_c19 := GLpgE_19
    (repeat' (first | (with_reducible first | apply i_seq | apply i_block | apply i_skip | apply i_exit | apply i_ret | apply i_kS | apply i_kSx | apply i_kSr | apply i_kL | apply i_kLx | apply i_kLr | apply i_kB | apply i_kBr | apply i_kBs | apply i_nil) | ((with_reducible apply i_region); (focus (simp only [List.map_cons, List.map_nil] <;> exact rfl))) | ((with_reducible apply i_draw); (focus (simp only [List.map_cons, List.map_nil] <;> exact rfl)); (focus (decide +kernel))) | ((with_reducible apply i_kBo); (focus rfl)) | ((first | ((with_reducible apply i_V); (focus rfl); (focus rfl); (focus rfl)) | ((with_reducible apply i_E); (focus rfl); (focus (first | rfl | (simp only [push_cast, ↓reduceIte, effOk, touch, refsOf, List.flatMap_cons, List.flatMap_nil])))) | ((with_reducible apply i_S); (focus rfl); (focus (first | rfl | (simp only [push_cast, ↓reduceIte, effOk, touch, refsOf, List.flatMap_cons, List.flatMap_nil])))) | ((with_reducible apply i_Vq); (focus rfl); (focus rfl)) | ((with_reducible apply i_Vp); (focus rfl); (focus rfl); (focus rfl)) | (with_reducible first | apply i_Gb | apply i_cond)); (focus (simp (disch := (first | omega | (simp only [push_cast]; done) | (simp only [push_cast]; omega) | ((try simp only [push_cast]); (with_reducible first | apply sel_lt | apply sel_ge); (focus decide); (focus (simp only [push_cast]; omega))))) only [push_cast, ↓reduceIte, Nat.reduceEqDiff, Nat.reduceBEq, Nat.reduceAdd, Nat.reduceSub, Int.reduceToNat, *] <;> with_reducible exact rfl)); all_goals try (intro hX; first | (cases hX; done) | ((with_reducible first | have hX0 : true = true := hX | have hX0 : false = false := hX); clear hX0 hX) | ((try simp only [decide_eq_true_eq, decide_eq_false_iff_not, Bool.not_eq_true', Bool.not_eq_false'] at hX); (try have hXb := inB_iff.1 hX)))))); all_goals try (exfalso; omega)
    all_goals ((first | apply i_end | apply i_endN); simp (disch := (first | omega | (simp only [push_cast]; done) | (simp only [push_cast]; omega) | ((try simp only [push_cast]); (with_reducible first | apply sel_lt | apply sel_ge); (focus decide); (focus (simp only [push_cast]; omega))))) only [push_cast, ↓reduceIte, Nat.reduceEqDiff, Nat.reduceBEq, Nat.reduceAdd, Nat.reduceSub, Int.reduceToNat, *])
  have hok : okSs l := szS_ok (left := 1048576) (by omega) (by omega) (by omega)
  have ap2 := toS_lift hok.1
  have ap3 := φPg_ap ⟨hok, hi1, hi2, hi3⟩
  have hlen := hok.1
  have ap5 := φEqS_ap (a := l) (b := l) hok.1 hok.1
  have ap6 := markS_mk.1 l 1 hok.1 (by omega) (by omega)
  unfold pgZS at ap3
  cases hR : pgR l wd ht page with
  | none =>
    have ap4 := Pg_lift0 ⟨hok, hi1, hi2, hi3⟩ hR
    rw [hR] at ap3
    dsimp only at ap3
    have ap7 := φEqGn_nil
    have ap8 := markG_nil 0 1
    have ap9 := φHeldG_nil (wd := 0)
    clear hpre hok hR
    have glpge_c11 := GLpgE_11; have glpge_c13 := GLpgE_13; have glpge_c12 := GLpgE_12; have glpge_c14 := GLpgE_14; have glpge_c15 := GLpgE_15; have glpge_c16 := GLpgE_16; have glpge_c17 := GLpgE_17; have glpge_c18 := GLpgE_18; have glpge_c19 := GLpgE_19
    (repeat' (first | (with_reducible first | apply i_seq | apply i_block | apply i_skip | apply i_exit | apply i_ret | apply i_kS | apply i_kSx | apply i_kSr | apply i_kL | apply i_kLx | apply i_kLr | apply i_kB | apply i_kBr | apply i_kBs | apply i_nil) | ((with_reducible apply i_region); (focus (simp only [List.map_cons, List.map_nil] <;> exact rfl))) | ((with_reducible apply i_draw); (focus (simp only [List.map_cons, List.map_nil] <;> exact rfl)); (focus (decide +kernel))) | ((with_reducible apply i_kBo); (focus rfl)) | ((first | ((with_reducible apply i_V); (focus rfl); (focus rfl); (focus rfl)) | ((with_reducible apply i_E); (focus rfl); (focus (first | rfl | (simp only [push_cast, ↓reduceIte, effOk, touch, refsOf, List.flatMap_cons, List.flatMap_nil])))) | ((with_reducible apply i_S); (focus rfl); (focus (first | rfl | (simp only [push_cast, ↓reduceIte, effOk, touch, refsOf, List.flatMap_cons, List.flatMap_nil])))) | ((with_reducible apply i_Vq); (focus rfl); (focus rfl)) | ((with_reducible apply i_Vp); (focus rfl); (focus rfl); (focus rfl)) | (with_reducible first | apply i_Gb | apply i_cond)); (focus (simp (disch := (first | omega | (simp only [push_cast]; done) | (simp only [push_cast]; omega) | ((try simp only [push_cast]); (with_reducible first | apply sel_lt | apply sel_ge); (focus decide); (focus (simp only [push_cast]; omega))))) only [push_cast, ↓reduceIte, Nat.reduceEqDiff, Nat.reduceBEq, Nat.reduceAdd, Nat.reduceSub, Int.reduceToNat, *] <;> with_reducible exact rfl)); all_goals try (intro hX; first | (cases hX; done) | ((with_reducible first | have hX0 : true = true := hX | have hX0 : false = false := hX); clear hX0 hX) | ((try simp only [decide_eq_true_eq, decide_eq_false_iff_not, Bool.not_eq_true', Bool.not_eq_false'] at hX); (try have hXb := inB_iff.1 hX)))))); all_goals try (exfalso; omega)
    all_goals (first | (exfalso; omega) | ((first | apply i_end | apply i_endN); simp (disch := (first | omega | (simp only [push_cast]; done) | (simp only [push_cast]; omega) | ((try simp only [push_cast]); (with_reducible first | apply sel_lt | apply sel_ge); (focus decide); (focus (simp only [push_cast]; omega))))) only [push_cast, ↓reduceIte, Nat.reduceEqDiff, Nat.reduceBEq, Nat.reduceAdd, Nat.reduceSub, Int.reduceToNat, *]) | skip)
  | some g =>
    have ap4 := Pg_lift ⟨hok, hi1, hi2, hi3⟩ hR
    have hgl := pgR_len hR
    rw [hR] at ap3
    dsimp only at ap3
    have ap7 := φEqGn_ap (wd := wd) (wd' := wd) (zs := g) (zs' := g) (by omega) (by omega)
    have ap8 := markG_row (wd := wd) (l := g) (k := 1) (by omega) (by omega) (by omega)
    have ap9 := φHeldG_row (wd := wd) (k := 1) (n := g.length) (by omega) (by omega) (by omega)
    have hml := marksU_length 1 g.length
    clear hpre hok hR
    have glpge_c11 := GLpgE_11; have glpge_c13 := GLpgE_13; have glpge_c12 := GLpgE_12; have glpge_c14 := GLpgE_14; have glpge_c15 := GLpgE_15; have glpge_c16 := GLpgE_16; have glpge_c17 := GLpgE_17; have glpge_c18 := GLpgE_18; have glpge_c19 := GLpgE_19
    (repeat' (first | (with_reducible first | apply i_seq | apply i_block | apply i_skip | apply i_exit | apply i_ret | apply i_kS | apply i_kSx | apply i_kSr | apply i_kL | apply i_kLx | apply i_kLr | apply i_kB | apply i_kBr | apply i_kBs | apply i_nil) | ((with_reducible apply i_region); (focus (simp only [List.map_cons, List.map_nil] <;> exact rfl))) | ((with_reducible apply i_draw); (focus (simp only [List.map_cons, List.map_nil] <;> exact rfl)); (focus (decide +kernel))) | ((with_reducible apply i_kBo); (focus rfl)) | ((first | ((with_reducible apply i_V); (focus rfl); (focus rfl); (focus rfl)) | ((with_reducible apply i_E); (focus rfl); (focus (first | rfl | (simp only [push_cast, ↓reduceIte, effOk, touch, refsOf, List.flatMap_cons, List.flatMap_nil])))) | ((with_reducible apply i_S); (focus rfl); (focus (first | rfl | (simp only [push_cast, ↓reduceIte, effOk, touch, refsOf, List.flatMap_cons, List.flatMap_nil])))) | ((with_reducible apply i_Vq); (focus rfl); (focus rfl)) | ((with_reducible apply i_Vp); (focus rfl); (focus rfl); (focus rfl)) | (with_reducible first | apply i_Gb | apply i_cond)); (focus (simp (disch := (first | omega | (simp only [push_cast]; done) | (simp only [push_cast]; omega) | ((try simp only [push_cast]); (with_reducible first | apply sel_lt | apply sel_ge); (focus decide); (focus (simp only [push_cast]; omega))))) only [push_cast, ↓reduceIte, Nat.reduceEqDiff, Nat.reduceBEq, Nat.reduceAdd, Nat.reduceSub, Int.reduceToNat, *] <;> with_reducible exact rfl)); all_goals try (intro hX; first | (cases hX; done) | ((with_reducible first | have hX0 : true = true := hX | have hX0 : false = false := hX); clear hX0 hX) | ((try simp only [decide_eq_true_eq, decide_eq_false_iff_not, Bool.not_eq_true', Bool.not_eq_false'] at hX); (try have hXb := inB_iff.1 hX)))))); all_goals try (exfalso; omega)
    all_goals (first | (exfalso; omega) | ((first | apply i_end | apply i_endN); simp (disch := (first | omega | (simp only [push_cast]; done) | (simp only [push_cast]; omega) | ((try simp only [push_cast]); (with_reducible first | apply sel_lt | apply sel_ge); (focus decide); (focus (simp only [push_cast]; omega))))) only [push_cast, ↓reduceIte, Nat.reduceEqDiff, Nat.reduceBEq, Nat.reduceAdd, Nat.reduceSub, Int.reduceToNat, *]) | skip)
end Go.Proofs.YtpggpdbipajchaaDoor
namespace Go.Proofs.YtpggpdbipajchaaDoor
open Go.ChangeShapes Go.WideShapes Go.ChangeAt Go.RowKit
open Go.ChangeMaps (open_string shut_string)
set_option linter.all false
theorem own : ownKnob Tryd.prog.godebug = none := by kernel_rfl
theorem laidOut : laidOutB Tryd.prog = true := by kernel_rfl
theorem wf_bounds {x : Int} (h : (Lit.int .i64 x).wf = true) : -9223372036854775808 ≤ x ∧ x ≤ 9223372036854775807 := by
  simpa [Lit.wf, IntKind.min, IntKind.max, IntKind.signed, IntKind.bits] using h
theorem addr_add (b off i : Nat) : (⟨b, off, none⟩ : Addr).add i = ⟨b, off + i, none⟩ := by
  unfold Addr.add
  by_cases h : i = 0 <;> simp [h]
theorem cell_lt {w : World} {a : Addr} {v : Value} (h : w.cell? a = some v) : a.block < w.heap.size := by
  unfold World.cell? at h
  by_cases hb : a.block < w.heap.size
  · exact hb
  · rw [Array.getElem?_eq_none (by omega)] at h
    cases a.spot <;> simp at h
theorem tab_of {P : Program} {W : World} {name : String} {k : IntKind} {zs : List Int} {g : Nat} (hg : P.globalNamed name = some g) (h : Lib.TabIs P W name k zs) : ∃ T k', W.heap[g]? = some (.cells ((zs.map fun z => Value.int k z).toArray) T k') := by
  unfold Lib.TabIs World.var? at h
  rw [hg, Option.bind_some] at h
  split at h
  · rename_i cs T k' hc
    cases h
    exact ⟨_, _, hc⟩
  · cases h
theorem laid_tail {P : Program} {x : String × DataW Unit} {r : List (String × DataW Unit)} {w : World} (h : laidMet P (x :: r) w) : laidMet P r w := by
  obtain ⟨ps, hv, hnd, hc⟩ := h
  obtain ⟨g, t, cs, fuel, p, q, h1, h2, h3, h4, h5, rfl⟩ := hv
  exact ⟨q, h5, (List.nodup_append.1 hnd).2.1, fun b off hm => hc b off (List.mem_append_right _ hm)⟩
abbrev gW (W : World) : Gh := argG fun b => b < W.heap.size
section
variable {H : Type} {enc : TypeId × Value → H} {P : Program} {W : World} {base : Nat} {α β γ δ ε : Type}
def OpC (enc : TypeId × Value → H) (P : Program) (W : World) (base : Nat) (t : TypeId) (A : Dec α) (ok : α → Prop) : Prop :=
  ∀ fuel cs x, DataW.trod enc P W base (fun _ => true) true fuel t cs = some x → ∃ a v, ok a ∧ Rep (gW W) W (A.e a) v ∧ v.cells.toList = cs ∧ v.cells.all (·.oneCell') = true
theorem opI {t : TypeId} (ht : P.underlying t = some (.int .i64)) : OpC enc P W base t dI okI := fun fuel cs x h => by
  obtain ⟨n, rfl, _, hw⟩ := DataW.trod_int ht h
  exact ⟨n, .int .i64 n, wf_bounds hw, rfl, rfl, by simp [Value.cells, Value.oneCell']⟩
theorem opS {t : TypeId} (ht : P.underlying t = some .string) : OpC enc P W base t dS okS := fun fuel cs x h => by
  obtain ⟨s, rfl, _, hs⟩ := DataW.trod_string ht h
  exact ⟨s, .string s, hs, rfl, rfl, by simp [Value.cells, Value.oneCell']⟩
theorem list_of {n : Nat} {p : Nat → α → Prop} (h : ∀ i, i < n → ∃ x, p i x) : ∃ l : List α, l.length = n ∧ ∀ i a, l[i]? = some a → p i a := by
  induction n with
  | zero => exact ⟨[], rfl, fun i a h => by simp at h⟩
  | succ n ih =>
    obtain ⟨l, hl, hp⟩ := ih fun i hi => h i (by omega)
    obtain ⟨x, hx⟩ := h n (by omega)
    refine ⟨l ++ [x], by simp [hl], fun i a hi => ?_⟩
    rw [List.getElem?_append] at hi
    split at hi
    · exact hp i a hi
    · rename_i hlt
      have : i - l.length = 0 := by
        by_cases h0 : i - l.length = 0
        · exact h0
        · rw [List.getElem?_eq_none (by simp; omega)] at hi
          cases hi
      rw [this] at hi
      simp at hi
      subst hi
      have : i = n := by omega
      subst this
      exact hx
theorem opL {t e : TypeId} {A : Dec α} {ok : α → Prop} (sz : Nat) (ht : P.underlying t = some (.slice e)) (hs : P.cellsOf e = sz) (h0 : 0 < sz) (hA : OpC enc P W base e A ok) : OpC enc P W base t (dL sz A) (okL ok) := fun fuel cs x h => by
  rcases Go.Deep.open_slice ht h with ⟨rfl, _⟩ | ⟨x, len, cap, m, n, D, Pl, rfl, hb, hl, hm, hmm, _, hx⟩
  · exact ⟨[], .slice none 0 0, ⟨by simp, by simp⟩, ⟨none, 0, rfl, by simp, by simp, .inl rfl⟩, rfl, by simp [Value.cells, Value.oneCell']⟩
  have hm2 : m = cap := by simpa using hmm
  have hcap : cap ≤ 9223372036854775807 := hm
  obtain ⟨l, hlen, hp⟩ := list_of (n := len) (p := fun i a => ok a ∧ ∃ v, Rep (gW W) W (A.e a) v ∧ v.cells.size = sz ∧ v.cells.all (·.oneCell') = true ∧ ∀ j, j < sz → W.cell? ((x.add (i * sz)).add j) = v.cells[j]?) (fun i hi => by
    obtain ⟨cs', h1, h2⟩ := hx i (by omega)
    obtain ⟨a, v, h3, h4, h5, h6⟩ := hA _ _ _ h2
    obtain ⟨_, h7, h8⟩ := World.cells?_some h1
    rw [hs] at h7 h8
    refine ⟨a, h3, v, h4, ?_, h6, fun j hj => ?_⟩
    · rw [← h7, ← h5]; simp
    · rw [h8 j hj, ← h5]; simp)
  refine ⟨l, .slice (some x) len cap, ⟨by omega, fun a ha => ?_⟩, ?_, rfl, by simp [Value.cells, Value.oneCell']⟩
  · obtain ⟨i, hi, rfl⟩ := List.getElem_of_mem ha
    exact (hp i _ (by simp [hi])).1
  · refine ⟨some x, cap, by simp [hlen], by simp [hlen]; omega, hcap, ?_⟩
    by_cases hn : l = []
    · exact .inl (by simp [hn])
    right
    have hl0 : 0 < l.length := List.length_pos_iff.2 hn
    obtain ⟨_, v, h4, h5, h6, h7⟩ := hp 0 l[0] (by simp [hl0])
    have h8 := h7 0 h0
    have h9 : v.cells[0]? = some v.cells[0] := by simp
    rw [h9] at h8
    have hspot := World.cell?_spot h8
    have hlt := cell_lt h8
    obtain ⟨b, off, spot⟩ := x
    simp only [Nat.zero_mul, Addr.add, if_true] at hspot hlt
    subst hspot
    refine ⟨b, off, rfl, ⟨rfl, hlt⟩, RepEs.of fun i p hi => ?_⟩
    rw [List.getElem?_map, Option.map_eq_some_iff] at hi
    obtain ⟨a, ha, rfl⟩ := hi
    obtain ⟨_, v, h4, h5, h6, h7⟩ := hp i a ha
    refine ⟨v, h4, ⟨h6, fun j hj => ?_⟩, h5⟩
    have := h7 j (by omega)
    rwa [addr_add, addr_add] at this
theorem opF {t : TypeId} {A : Dec α} {ok : α → Prop} {n : Nat} {cs : List Value} {y : DataW H × List MemPlace} (hA : OpC enc P W base t A ok) (h1 : ∀ a, oneP (A.e a) = true)
    (h : DataW.trod enc P W base (fun _ => true) true n t cs = some y) : ∃ a v, ok a ∧ Rep (gW W) W (A.e a) v ∧ v.oneCell' = true ∧ cs = [v] := by
  obtain ⟨a, v, h3, h4, h5, h6⟩ := hA _ _ _ h
  have := oneP_rep h4 (h1 a)
  exact ⟨a, v, h3, h4, this, by rw [← h5, oneCell_cells this]⟩
theorem op1 {t : TypeId} {A : Dec α} {ok : α → Prop} {v : Value} {d : DataW H} {p : List MemPlace} (hA : OpC enc P W base t A ok) (h1 : ∀ a, oneP (A.e a) = true) (hv : v.cells = #[v])
    (h : DataW.Trod enc P W base (fun _ => true) true t v d p) : ∃ a, ok a ∧ Rep (gW W) W (A.e a) v := by
  obtain ⟨fuel, hf⟩ := h
  obtain ⟨a, u, h3, h4, h5, h6⟩ := opF hA h1 hf
  rw [hv] at h6
  have : v = u := by simpa using h6
  subst this
  exact ⟨a, h3, h4⟩
theorem walk_of {f : Nat} {φ : Fun} {ps : List PV} {args : Array Value} (h : Sound P f φ) (hT : TabF W fun _ => False) (ha : φ ps = some (bv true)) (hr : RepL (gW W) W ps args.toList) :
    Calls P f args W fun e w' => e = .returned (.bool true) ∧ Below W.heap.size W w' := by
  refine (h W (fun b => b < W.heap.size) ps args _ ha (fun b hb => hb) hT hr).mono ?_
  rintro e w' ⟨v, rfl, hb, hv⟩
  have := hv { I := fun _ _ => True, β := fun _ => 0, κ := fun _ => 0, nx := 0 } fun b _ _ => trivial
  have hv2 : v = .bool true := this
  subst hv2
  exact ⟨rfl, hb⟩
end
theorem shape_cell {P : Program} {w : World} {g : Nat} {t : TypeId} {zero : Array Value} (h : w.ShapedOpen P) (hg : g < P.globals.size)
    (h0 : ((begin P (fun _ _ => 0) default).world.heap[g]?).bind Obj.row? = some (zero, t)) (hz : zero.size = 1) : ∃ v, w.cell? ⟨g, 0, none⟩ = some v := by
  obtain ⟨cs, hh, hs, _⟩ := h.1 g zero t hg h0
  have h1 : 0 < cs.size := by omega
  exact ⟨cs[0], by simp [World.cell?, hh, h1]⟩
theorem returns_and_shaped {H : Type} {enc : TypeId × Value → H} {a : Assume} {C : Checked} {os : Os} {f : FuncId} {fn : Func} {s : ChangeSpec} {conds : List PathCond} {apart fresh handsOn again : Bool} {X : World → Array Value → Prop}
    (hX : ∀ (w w' : World) (args : Array Value), w.heap = w'.heap → X w args → X w' args)
    (own : ownKnob C.prog.godebug = none) (started : os.Started) (noInit : C.prog.inits.idxOf? f = none) (hfn : C.prog.funcs[f]? = some fn)
    (witness : ∃ (w : World) (tape : Tape) (i : Input), w.os = os ∧ (w.forCall tape i).Shaped C.prog ∧ i.vars = [] ∧ Input.okWide C.prog (w.forCall tape i) .any w.heap.size f i ∧
      ((s.pre enc C.prog fn conds apart (w.forCall tape i).memory i.args ∧ X (w.forCall tape i).memory i.args) ∧ sizedMet enc C.prog fn (OpenSpec.ofChange s) apart (w.forCall tape i).memory i.args) ∧ a.holds C.prog (lone (Frame.enter C.prog f i.args .normal) [] (w.forCall tape i)))
    (contract : ∀ (W : World) (base : Nat) (args : Array Value) (ds gs : List (DataW H)) (before : List MemPlace),
      (∀ (j : Nat) t v, fn.params[j]? = some t → args[j]? = some v → Value.okWide C.prog W .any base t v) →
      DataW.Whole enc C.prog fn.params.toList s.vars apart W args.toList ds gs before →
      conds.all (PathCond.test C.prog ⟨fn.params.toList, ds, s.plain.varTypes C.prog, gs⟩) = true →
      (DataW.weightsEach C.prog (fn.params.toList ++ s.plain.varTypes C.prog) (ds ++ gs)).all (· ≤ reachBytes) = true → X W args → W.ShapedOpen C.prog →
      a.holds C.prog (lone (Frame.enter C.prog f args .normal) [] W) →
      Calls C.prog f args W fun e W' => ∃ v, e = .returned v ∧ s.post enc C.prog fn apart fresh handsOn again W args v W') :
    ReturnsInHanded a C os f .any (fun w args => (s.pre enc C.prog fn conds apart w args ∧ X w args) ∧ sizedMet enc C.prog fn (OpenSpec.ofChange s) apart w args) (s.post enc C.prog fn apart fresh handsOn again) := by
  refine returnsInHanded_of_calls own started noInit witness ?_
  intro w tape i _ hsh _ hok hpre hholds
  obtain ⟨_, _, _, fn', hfn', _, _, _, _, hval⟩ := hok
  have e : fn' = fn := Option.some.inj (hfn'.symm.trans hfn)
  subst e
  obtain ⟨⟨⟨ds, gs, before, hw, hc⟩, hx⟩, hz⟩ := hpre
  have hw' := DataW.Whole.of_heap (w' := w.forCall tape i) (by rfl) hw
  refine (contract (w.forCall tape i) w.heap.size i.args ds gs before hval hw' hc (hz.weights hw) (hX _ _ _ (by rfl) hx) hsh hholds).mono fun e W' ⟨v, he, hp⟩ => ?_
  subst he
  exact ChangeSpec.post_blind hp
end Go.Proofs.YtpggpdbipajchaaDoor
