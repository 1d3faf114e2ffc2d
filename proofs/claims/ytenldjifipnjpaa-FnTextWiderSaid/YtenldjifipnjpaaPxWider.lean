/- Wider lines are not more. -/
import Derived.Test.YtenldjifipnjpaaPxLinesS
import Derived.Test.YtenldjifipnjpaaPxWords
import Derived.Test.YtenldjifipnjpaaPxSame
namespace Go.Proofs.Ytenldjifipnjpaa
open Go.RowKit
set_option linter.all false
theorem sumS_app (a b : LS) : sumS (a ++ b) = sumS a + sumS b := by simp [sumS]
theorem natN_sub {l : LS} {a a' e : Nat} (h : a ≤ a') (h2 : a' ≤ e) : natN ((l.drop a').take (e - a')) ≤ natN ((l.drop a).take (e - a)) := by
  have e1 : (l.drop a).take (e - a) = ((l.drop a).take (a' - a)) ++ ((l.drop a').take (e - a')) := by
    have h3 : l.drop a' = (l.drop a).drop (a' - a) := by rw [List.drop_drop]; congr 1; omega
    rw [h3, ← List.take_add]
    congr 1
    omega
  unfold natN
  rw [e1, sumS_app, List.length_append]
  omega
theorem fitF_facts {l : LS} {wd : Int} : ∀ f k, k + f = l.length → k ≤ fitF l wd f k ∧ fitF l wd f k ≤ l.length ∧ (∀ m, k ≤ m → m < fitF l wd f k → fits l wd m = true) ∧ (fitF l wd f k < l.length → fits l wd (fitF l wd f k) = false)
  | 0, k, h => ⟨Nat.le_refl _, by show k ≤ _; omega, fun m h1 h2 => by have : m < k := h2; omega, fun h2 => by have : k < _ := h2; omega⟩
  | f + 1, k, h => by
    unfold fitF
    split
    · rename_i hf
      obtain ⟨h1, h2, h3, h4⟩ := fitF_facts (l := l) (wd := wd) f (k + 1) (by omega)
      refine ⟨by omega, h2, fun m h5 h6 => ?_, h4⟩
      by_cases hm : m = k
      · subst hm; exact hf
      · exact h3 m (by omega) h6
    · rename_i hf
      exact ⟨Nat.le_refl _, by omega, fun m h1 h2 => by omega, fun _ => by simpa using hf⟩
theorem fitN_facts (l : LS) (wd : Int) : fitN l wd ≤ l.length ∧ (∀ m, m < fitN l wd → fits l wd m = true) ∧ (fitN l wd < l.length → fits l wd (fitN l wd) = false) := by
  obtain ⟨h1, h2, h3, h4⟩ := fitF_facts (l := l) (wd := wd) l.length 0 (by omega)
  exact ⟨h2, fun m hm => h3 m (Nat.zero_le _) hm, h4⟩
/-- A line that begins later, in a greater width, ends later. -/
theorem fit_later {l : LS} {wd : Int} {a a' : Nat} (h : a ≤ a') (ha : a' ≤ l.length) : a + fitN (l.drop a) wd ≤ a' + fitN (l.drop a') (wd + 1) := by
  obtain ⟨h1, h2, h3⟩ := fitN_facts (l.drop a) wd
  obtain ⟨g1, g2, g3⟩ := fitN_facts (l.drop a') (wd + 1)
  generalize fitN (l.drop a) wd = n at *
  generalize fitN (l.drop a') (wd + 1) = n' at *
  by_cases hlt : a' + n' < a + n
  · exfalso
    have hl1 : (l.drop a).length = l.length - a := List.length_drop
    have hl2 : (l.drop a').length = l.length - a' := List.length_drop
    have k1 := g3 (by omega)
    have k2 := h2 (a' + n' - a) (by omega)
    have k3 := natN_sub (l := l) (a := a) (a' := a') (e := a' + n' + 1) h (by omega)
    unfold fits at k1 k2
    rw [show a' + n' + 1 - a' = n' + 1 by omega, show a' + n' + 1 - a = a' + n' - a + 1 by omega] at k3
    simp only [decide_eq_true_eq, decide_eq_false_iff_not] at k1 k2
    omega
  · omega
theorem linesF_ge {wd : Int} : ∀ (g : Nat) (ws ac L : LS), linesF wd g ws ac = some L → ac.length ≤ L.length
  | 0, ws, ac, L, h => by
    have : ac = L := by simpa [linesF] using h
    rw [this]
    exact Nat.le_refl _
  | g + 1, ws, ac, L, h => by
    unfold linesF at h
    split at h
    · have : ac = L := by simpa using h
      rw [this]
      exact Nat.le_refl _
    · split at h
      · cases h
      · have := linesF_ge g _ _ _ h
        simp only [List.length_append, List.length_cons, List.length_nil] at this
        omega
theorem words_fit {l : LS} {wd : Int} : ∀ (k a f : Nat) (acc L : LS), l.length - a ≤ k → (l.drop a).length ≤ f → linesF wd f (l.drop a) acc = some L → ∀ j, a ≤ j → j < l.length → (natN ((l.drop j).take 1) : Int) ≤ wd
  | k, a, f, acc, L, hk, hf, hL, j, hj, hjl => by
    have hl1 : (l.drop a).length = l.length - a := List.length_drop
    have hal : 0 < (l.drop a).length := by omega
    obtain ⟨b1, b2, b3⟩ := fitN_facts (l.drop a) wd
    generalize hn : fitN (l.drop a) wd = n at *
    have hn0 : 0 < n := by
      rcases Nat.eq_zero_or_pos n with hz | hz
      · rw [linesF_none hf hal (hn.trans hz)] at hL; cases hL
      · exact hz
    by_cases hjn : j < a + n
    · have h1 := b2 (j - a) (by omega)
      have h2 := natN_sub (l := l) (a := a) (a' := j) (e := j + 1) hj (by omega)
      unfold fits at h1
      rw [show j + 1 - j = 1 by omega, show j + 1 - a = j - a + 1 by omega] at h2
      simp only [decide_eq_true_eq] at h1
      omega
    · obtain ⟨g, h1, h2⟩ := linesF_step (acc := acc) hf hal hn hn0
      rw [List.drop_drop] at h1 h2
      rw [h2] at hL
      match k, hk with
      | 0, hk => omega
      | k + 1, hk => exact words_fit k (a + n) g _ _ (by omega) h1 hL j (by omega) hjl
/-- Wider lines are not more. -/
theorem wider {l : LS} {wd : Int} (hall : ∀ j, j < l.length → (natN ((l.drop j).take 1) : Int) ≤ wd) : ∀ (k a a' f f' : Nat) (acc acc' L : LS), l.length - a ≤ k → a ≤ a' → a' ≤ l.length → acc'.length ≤ acc.length → (l.drop a).length ≤ f → (l.drop a').length ≤ f' → linesF wd f (l.drop a) acc = some L → ∃ L', linesF (wd + 1) f' (l.drop a') acc' = some L' ∧ L'.length ≤ L.length
  | k, a, a', f, f', acc, acc', L, hk, h, ha, hacc, hf, hf', hL => by
    have hl1 : (l.drop a).length = l.length - a := List.length_drop
    have hl2 : (l.drop a').length = l.length - a' := List.length_drop
    by_cases h0 : l.length - a' = 0
    · refine ⟨acc', linesF_nil (by omega), ?_⟩
      have := linesF_ge _ _ _ _ hL
      omega
    · have hal : 0 < (l.drop a).length := by omega
      have hal' : 0 < (l.drop a').length := by omega
      have hlater := fit_later (wd := wd) h ha
      obtain ⟨b1, b2, b3⟩ := fitN_facts (l.drop a) wd
      obtain ⟨c1, c2, c3⟩ := fitN_facts (l.drop a') (wd + 1)
      generalize hn : fitN (l.drop a) wd = n at *
      generalize hn' : fitN (l.drop a') (wd + 1) = n' at *
      have hn0 : 0 < n := by
        rcases Nat.eq_zero_or_pos n with hz | hz
        · rw [linesF_none hf hal (hn.trans hz)] at hL; cases hL
        · exact hz
      have hn0' : 0 < n' := by
        rcases Nat.eq_zero_or_pos n' with hz | hz
        · exfalso
          have h1 := c3 (by omega)
          have h2 := hall a' (by omega)
          subst hz
          unfold fits at h1
          rw [Nat.zero_add] at h1
          simp only [decide_eq_false_iff_not] at h1
          omega
        · exact hz
      obtain ⟨g, h1, h2⟩ := linesF_step (acc := acc) hf hal hn hn0
      obtain ⟨g', h1', h2'⟩ := linesF_step (acc := acc') hf' hal' hn' hn0'
      rw [List.drop_drop] at h1 h2 h1' h2'
      rw [h2] at hL
      rw [h2']
      match k, hk with
      | 0, hk => omega
      | k + 1, hk => exact wider hall k (a + n) (a' + n') g g' _ _ _ (by omega) hlater (by omega) (by simp; omega) h1 h1' hL
theorem tlR_wider {l L : LS} {wd : Int} (h : tlR l wd = some L) (hwd : wd ≠ 60) : ∃ L', tlR l (wd + 1) = some L' ∧ L'.length ≤ L.length := by
  unfold tlR at h ⊢
  split at h
  · rename_i hA
    have hb := inB_iff.1 hA.2
    rw [if_pos ⟨hA.1, inB_iff.2 (by omega)⟩]
    have e : l = l.drop 0 := rfl
    have hall := words_fit (l := l) (wd := wd) l.length 0 l.length [] L (by omega) (by simp) h
    exact wider (fun j hj => hall j (Nat.zero_le _) hj) l.length 0 0 l.length l.length [] [] L (by omega) (Nat.le_refl _) (Nat.zero_le _) (Nat.le_refl _) (by simp) (by simp) h
  · cases h
def φSameT : Fun := F2 dSs dSs fun a b => if a.length ≤ 1048576 ∧ b.length ≤ 1048576 then some (bv (decide (a = b))) else none
theorem φSameT_ap {a b : LS} (h : a.length ≤ 1048576) (h2 : b.length ≤ 1048576) : φSameT [.lst false 1 (a.map fun s => .val (.string s)), .lst false 1 (b.map fun s => .val (.string s))] = some (.val (.bool (decide (a = b)))) :=
  (F2_ap (A := dSs) (B := dSs) a b).trans (if_pos ⟨h, h2⟩)
set_option maxHeartbeats 4000000 in
theorem sameTexts_ok : Sound Try.prog 22 φSameT := by
  refine sound_pq mixed GE_ok Try.func22 rfl 26 rfl [.tmp 4] rfl (by kernel_rfl) fun ps r hr => ?_
  obtain ⟨xs, ys, rfl, hq⟩ := F2_some hr
  clear hr
  split at hq
  case isFalse => cases hq
  case isTrue hpre =>
  cases hq
  refine ⟨by simp, ?_⟩
  simp only [dIs, dUs, dSs, dI_e, dU_e, dB_e, dS_e, dFn_e, dL_e, dA2_e, dA3_e, dA4_e, dA5_e]
  obtain ⟨hl1, hl2⟩ := hpre
  repeat' (first | (with_reducible first | apply i_seq | apply i_block | apply i_skip | apply i_exit | apply i_ret | apply i_kS | apply i_kSx | apply i_kSr | apply i_kL | apply i_kLx | apply i_kLr | apply i_kB | apply i_kBr | apply i_kBs | apply i_nil) | ((with_reducible apply i_region); (focus (simp only [List.map_cons, List.map_nil] <;> exact rfl))) | ((with_reducible apply i_draw); (focus (simp only [List.map_cons, List.map_nil] <;> exact rfl)); (focus (decide +kernel))) | ((with_reducible apply i_kBo); (focus rfl)) | ((first | ((with_reducible apply i_V); (focus rfl); (focus rfl); (focus rfl)) | ((with_reducible apply i_E); (focus rfl); (focus (first | rfl | (simp only [push_cast, ↓reduceIte, effOk, touch, refsOf, List.flatMap_cons, List.flatMap_nil])))) | ((with_reducible apply i_S); (focus rfl); (focus (first | rfl | (simp only [push_cast, ↓reduceIte, effOk, touch, refsOf, List.flatMap_cons, List.flatMap_nil])))) | ((with_reducible apply i_Vq); (focus rfl); (focus rfl)) | ((with_reducible apply i_Vp); (focus rfl); (focus rfl); (focus rfl))); (focus (simp (disch := (first | omega | (simp only [push_cast]; done) | (simp only [push_cast]; omega) | ((try simp only [push_cast]); (with_reducible first | apply sel_lt | apply sel_ge); (focus decide); (focus (simp only [push_cast]; omega))))) only [push_cast, ↓reduceIte, Nat.reduceEqDiff, Nat.reduceBEq, Nat.reduceAdd, Nat.reduceSub, Int.reduceToNat, *] <;> with_reducible exact rfl))) | ((with_reducible first | apply i_Gb | apply i_cond); (focus (simp (disch := (first | omega | (simp only [push_cast]; done) | (simp only [push_cast]; omega) | ((try simp only [push_cast]); (with_reducible first | apply sel_lt | apply sel_ge); (focus decide); (focus (simp only [push_cast]; omega))))) only [push_cast, ↓reduceIte, Nat.reduceEqDiff, Nat.reduceBEq, Nat.reduceAdd, Nat.reduceSub, Int.reduceToNat, *] <;> with_reducible exact rfl)); all_goals (intro hX; first | (cases hX; done) | ((with_reducible first | have hX0 : true = true := hX | have hX0 : false = false := hX); clear hX0 hX) | ((try simp only [decide_eq_true_eq, decide_eq_false_iff_not, Bool.not_eq_true', Bool.not_eq_false'] at hX); (try have hXb := inB_iff.1 hX)))))
  · ((first | apply i_end | apply i_endN); simp (disch := (first | omega | (simp only [push_cast]; done) | (simp only [push_cast]; omega) | ((try simp only [push_cast]); (with_reducible first | apply sel_lt | apply sel_ge); (focus decide); (focus (simp only [push_cast]; omega))))) only [push_cast, ↓reduceIte, Nat.reduceEqDiff, Nat.reduceBEq, Nat.reduceAdd, Nat.reduceSub, Int.reduceToNat, *])
    have : ¬ xs = ys := fun h => by subst h; simp_all
    simp [this]
  refine i_loop (α := Nat) mixed (fun k => [(0, .lst false 1 (xs.map fun s => .val (.string s))), (1, .lst false 1 (ys.map fun s => .val (.string s))), (5, iv k)]) (fun k => []) (fun _ => 0)
    (fun k => k ≤ xs.length ∧ ∀ j, j < k → xs[j]?.getD .empty = ys[j]?.getD .empty) (fun k => xs.length - k) (by kernel_rfl) 0 ⟨Nat.zero_le _, fun j hj => by omega⟩ ?_ trivial rfl ?_
  · simp only [push_cast, ↓reduceIte, Nat.reduceEqDiff, Nat.reduceBEq, Nat.reduceAdd, Nat.reduceSub, Int.reduceToNat]
  · intro k ⟨hk, hok⟩
    repeat' (first | (with_reducible first | apply i_seq | apply i_block | apply i_skip | apply i_exit | apply i_ret | apply i_kS | apply i_kSx | apply i_kSr | apply i_kL | apply i_kLx | apply i_kLr | apply i_kB | apply i_kBr | apply i_kBs | apply i_nil) | ((with_reducible apply i_region); (focus (simp only [List.map_cons, List.map_nil] <;> exact rfl))) | ((with_reducible apply i_draw); (focus (simp only [List.map_cons, List.map_nil] <;> exact rfl)); (focus (decide +kernel))) | ((with_reducible apply i_kBo); (focus rfl)) | ((first | ((with_reducible apply i_V); (focus rfl); (focus rfl); (focus rfl)) | ((with_reducible apply i_E); (focus rfl); (focus (first | rfl | (simp only [push_cast, ↓reduceIte, effOk, touch, refsOf, List.flatMap_cons, List.flatMap_nil])))) | ((with_reducible apply i_S); (focus rfl); (focus (first | rfl | (simp only [push_cast, ↓reduceIte, effOk, touch, refsOf, List.flatMap_cons, List.flatMap_nil])))) | ((with_reducible apply i_Vq); (focus rfl); (focus rfl)) | ((with_reducible apply i_Vp); (focus rfl); (focus rfl); (focus rfl))); (focus (simp (disch := (first | omega | (simp only [push_cast]; done) | (simp only [push_cast]; omega) | ((try simp only [push_cast]); (with_reducible first | apply sel_lt | apply sel_ge); (focus decide); (focus (simp only [push_cast]; omega))))) only [push_cast, ↓reduceIte, Nat.reduceEqDiff, Nat.reduceBEq, Nat.reduceAdd, Nat.reduceSub, Int.reduceToNat, *] <;> with_reducible exact rfl))) | ((with_reducible first | apply i_Gb | apply i_cond); (focus (simp (disch := (first | omega | (simp only [push_cast]; done) | (simp only [push_cast]; omega) | ((try simp only [push_cast]); (with_reducible first | apply sel_lt | apply sel_ge); (focus decide); (focus (simp only [push_cast]; omega))))) only [push_cast, ↓reduceIte, Nat.reduceEqDiff, Nat.reduceBEq, Nat.reduceAdd, Nat.reduceSub, Int.reduceToNat, *] <;> with_reducible exact rfl)); all_goals (intro hX; first | (cases hX; done) | ((with_reducible first | have hX0 : true = true := hX | have hX0 : false = false := hX); clear hX0 hX) | ((try simp only [decide_eq_true_eq, decide_eq_false_iff_not, Bool.not_eq_true', Bool.not_eq_false'] at hX); (try have hXb := inB_iff.1 hX)))))
    all_goals try ((first | apply i_end | apply i_endN); simp (disch := (first | omega | (simp only [push_cast]; done) | (simp only [push_cast]; omega) | ((try simp only [push_cast]); (with_reducible first | apply sel_lt | apply sel_ge); (focus decide); (focus (simp only [push_cast]; omega))))) only [push_cast, ↓reduceIte, Nat.reduceEqDiff, Nat.reduceBEq, Nat.reduceAdd, Nat.reduceSub, Int.reduceToNat, *])
    · have : ¬ xs = ys := fun h => by subst h; simp_all
      simp [this]
    · refine ⟨k + 1, ⟨by omega, fun j hj => ?_⟩, by dsimp only; omega, by simp only [push_cast, ↓reduceIte, Nat.reduceEqDiff, Nat.reduceBEq, Nat.reduceAdd, Nat.reduceSub, Int.reduceToNat], trivial, rfl⟩
      by_cases h1 : j < k
      · exact hok j h1
      · have : j = k := by omega
        subst this
        assumption
    · have : xs = ys := eq_of_getDK (d := .empty) (by omega) fun j hj => hok j (by omega)
      simp [this]
abbrev ETl (p : LS × Int) : PV := .tup [.lst true 1 (p.1.map fun s => PV.val (.string s)), .val (.int .i64 p.2)]
def okTl (p : LS × Int) : Prop := okT 13 p.1 ∧ -100 ≤ p.2 ∧ p.2 ≤ 100000
noncomputable def GDtl : Ctx := ⟨fun f => none, fun f => if f = 41 then some ΦOpen else if f = 42 then some Φwords else if f = 43 then some Φpick else none⟩
theorem GDtl_ok : SoundΓ Try.prog GDtl := ⟨(fun f φ h => by
  unfold GDtl at h
  dsimp only at h
  cases h), (fun f φ h => by
  unfold GDtl at h
  dsimp only at h
  split at h
  · rename_i hf; cases h; subst hf; exact ⟨⟨_, Try.func41, rfl, rfl⟩, open_io⟩
  split at h
  · rename_i hf; cases h; subst hf; exact ⟨⟨_, Try.func42, rfl, rfl⟩, words_io⟩
  split at h
  · rename_i hf; cases h; subst hf; exact ⟨⟨_, Try.func43, rfl, rfl⟩, pick_io⟩
  cases h)⟩
theorem GDtl_41 : GDtl.io 41 = some ΦOpen := by simp [GDtl]
theorem GDtl_42 : GDtl.io 42 = some Φwords := by simp [GDtl]
theorem GDtl_43 : GDtl.io 43 = some Φpick := by simp [GDtl]
set_option maxHeartbeats 8000000 in
theorem drawTl_ex : ∃ φ : Fun, Sound Try.prog 21 φ ∧ Drw0 φ ETl okTl := by
  refine drw0_of mixed GDtl_ok Try.func21 rfl 25 rfl [.tmp 2, .tmp 3] rfl (by kernel_rfl) (by simp) _ _ fun code hbyte hlen => ?_
  have hok := okRd_take hbyte
  have apo := @ΦOpen_ap
  have gdtl_c41 := GDtl_41; have gdtl_c42 := GDtl_42; have gdtl_c43 := GDtl_43
  repeat' (first | (first | (with_reducible first | apply i_seq | apply i_block | apply i_skip | apply i_exit | apply i_ret | apply i_kS | apply i_kSx | apply i_kSr | apply i_kL | apply i_kLx | apply i_kLr | apply i_kB | apply i_kBr | apply i_kBs | apply i_nil) | ((with_reducible apply i_region); (focus (simp only [List.map_cons, List.map_nil] <;> exact rfl))) | ((with_reducible apply i_draw); (focus (simp only [List.map_cons, List.map_nil] <;> exact rfl)); (focus (decide +kernel))) | ((with_reducible apply i_kBo); (focus rfl)) | ((first | ((with_reducible apply i_V); (focus rfl); (focus rfl); (focus rfl)) | ((with_reducible apply i_E); (focus rfl); (focus (first | rfl | (simp only [push_cast, ↓reduceIte, effOk, touch, refsOf, List.flatMap_cons, List.flatMap_nil])))) | ((with_reducible apply i_S); (focus rfl); (focus (first | rfl | (simp only [push_cast, ↓reduceIte, effOk, touch, refsOf, List.flatMap_cons, List.flatMap_nil])))) | ((with_reducible apply i_Vq); (focus rfl); (focus rfl)) | ((with_reducible apply i_Vp); (focus rfl); (focus rfl); (focus rfl))); (focus (simp (disch := (first | omega | (simp only [push_cast]; done) | (simp only [push_cast]; omega) | ((try simp only [push_cast]); (with_reducible first | apply sel_lt | apply sel_ge); (focus decide); (focus (simp only [push_cast]; omega))))) only [push_cast, ↓reduceIte, Nat.reduceEqDiff, Nat.reduceBEq, Nat.reduceAdd, Nat.reduceSub, Int.reduceToNat, *] <;> with_reducible exact rfl))) | ((with_reducible first | apply i_Gb | apply i_cond); (focus (simp (disch := (first | omega | (simp only [push_cast]; done) | (simp only [push_cast]; omega) | ((try simp only [push_cast]); (with_reducible first | apply sel_lt | apply sel_ge); (focus decide); (focus (simp only [push_cast]; omega))))) only [push_cast, ↓reduceIte, Nat.reduceEqDiff, Nat.reduceBEq, Nat.reduceAdd, Nat.reduceSub, Int.reduceToNat, *] <;> with_reducible exact rfl)); all_goals (intro hX; first | (cases hX; done) | ((with_reducible first | have hX0 : true = true := hX | have hX0 : false = false := hX); clear hX0 hX) | ((try simp only [decide_eq_true_eq, decide_eq_false_iff_not, Bool.not_eq_true', Bool.not_eq_false'] at hX); (try have hXb := inB_iff.1 hX))))) | ((with_reducible apply i_drw2 words_drw (fun _ _ => by simp only [push_cast, ↓reduceIte, Nat.reduceEqDiff, Nat.reduceBEq, Nat.reduceAdd, Nat.reduceSub, Int.reduceToNat])); (focus rfl); (focus (simp (disch := (first | omega | (simp only [push_cast]; done) | (simp only [push_cast]; omega) | ((try simp only [push_cast]); (with_reducible first | apply sel_lt | apply sel_ge); (focus decide); (focus (simp only [push_cast]; omega))))) only [push_cast, ↓reduceIte, Nat.reduceEqDiff, Nat.reduceBEq, Nat.reduceAdd, Nat.reduceSub, Int.reduceToNat, *] <;> with_reducible exact rfl)); (focus (simp (disch := (first | omega | (simp only [push_cast]; done) | (simp only [push_cast]; omega) | ((try simp only [push_cast]); (with_reducible first | apply sel_lt | apply sel_ge); (focus decide); (focus (simp only [push_cast]; omega))))) only [push_cast, ↓reduceIte, Nat.reduceEqDiff, Nat.reduceBEq, Nat.reduceAdd, Nat.reduceSub, Int.reduceToNat, *] <;> with_reducible exact rfl)); (focus (simp (disch := (first | omega | (simp only [push_cast]; done) | (simp only [push_cast]; omega) | ((try simp only [push_cast]); (with_reducible first | apply sel_lt | apply sel_ge); (focus decide); (focus (simp only [push_cast]; omega))))) only [push_cast, ↓reduceIte, Nat.reduceEqDiff, Nat.reduceBEq, Nat.reduceAdd, Nat.reduceSub, Int.reduceToNat, *] <;> with_reducible exact rfl)); (focus assumption); (focus omega); (focus (first | trivial | omega)); (focus (first | rfl | (simp only [push_cast, ↓reduceIte, effOk, touch, refsOf, List.flatMap_cons, List.flatMap_nil]))); intro v pp hv hok hpp1 hpp2) | ((with_reducible apply i_drw2 pick_drw (fun _ _ => rfl)); (focus rfl); (focus (simp (disch := (first | omega | (simp only [push_cast]; done) | (simp only [push_cast]; omega) | ((try simp only [push_cast]); (with_reducible first | apply sel_lt | apply sel_ge); (focus decide); (focus (simp only [push_cast]; omega))))) only [push_cast, ↓reduceIte, Nat.reduceEqDiff, Nat.reduceBEq, Nat.reduceAdd, Nat.reduceSub, Int.reduceToNat, *] <;> with_reducible exact rfl)); (focus (simp (disch := (first | omega | (simp only [push_cast]; done) | (simp only [push_cast]; omega) | ((try simp only [push_cast]); (with_reducible first | apply sel_lt | apply sel_ge); (focus decide); (focus (simp only [push_cast]; omega))))) only [push_cast, ↓reduceIte, Nat.reduceEqDiff, Nat.reduceBEq, Nat.reduceAdd, Nat.reduceSub, Int.reduceToNat, *] <;> with_reducible exact rfl)); (focus (simp (disch := (first | omega | (simp only [push_cast]; done) | (simp only [push_cast]; omega) | ((try simp only [push_cast]); (with_reducible first | apply sel_lt | apply sel_ge); (focus decide); (focus (simp only [push_cast]; omega))))) only [push_cast, ↓reduceIte, Nat.reduceEqDiff, Nat.reduceBEq, Nat.reduceAdd, Nat.reduceSub, Int.reduceToNat, *] <;> with_reducible exact rfl)); (focus assumption); (focus omega); (focus (first | trivial | omega)); (focus (first | rfl | (simp only [push_cast, ↓reduceIte, effOk, touch, refsOf, List.flatMap_cons, List.flatMap_nil]))); intro v pp hv hok hpp1 hpp2))
  all_goals ((with_reducible apply i_fin0 (a := (_, _)) (by first | exact .inl rfl | exact .inr rfl)); (focus (simp (disch := (first | omega | (simp only [push_cast]; done) | (simp only [push_cast]; omega) | ((try simp only [push_cast]); (with_reducible first | apply sel_lt | apply sel_ge); (focus decide); (focus (simp only [push_cast]; omega))))) only [push_cast, ↓reduceIte, Nat.reduceEqDiff, Nat.reduceBEq, Nat.reduceAdd, Nat.reduceSub, Int.reduceToNat, rep_iv, rep_sv, rep_w, rep_i3, rep_i4, *] <;> with_reducible exact rfl)))
  all_goals refine ⟨by assumption, sel_rng ?_ (by omega) (by omega)⟩
  all_goals intro x hx
  all_goals simp only [List.mem_cons, List.not_mem_nil, or_false] at hx
  all_goals omega
noncomputable def φdrawTl : Fun := Classical.choose drawTl_ex
theorem drawTl_ok : Sound Try.prog 21 φdrawTl := (Classical.choose_spec drawTl_ex).1
theorem drawTl_drw : Drw0 φdrawTl ETl okTl := (Classical.choose_spec drawTl_ex).2
noncomputable def φTLI : Fun := pureN ΨTL
theorem φTLI_some {l L : LS} {wd : Int} (h : okSs l) (hR : tlR l wd = some L) (h0 : 0 < L.length) : φTLI [.lst false 1 (l.map fun s => .val (.string s)), .val (.int .i64 wd)] = some (.tup [.lst true 1 (L.map fun s => .val (.string s)), .val (.bool true)]) := by
  have hp : 0 < (L.map fun s => PV.val (.string s)).length := by simpa using h0
  refine pureN_of (r := .tup [.row 0 1 0 L.length, .val (.bool true)]) (cs0 := [(9, 1, L.map fun s => .val (.string s))]) ((G2_ap (A := dSs) (B := dI) l wd).trans ((if_pos h).trans (by rw [hR]; dsimp only; rw [nP_pos hp, nC_pos hp, List.length_map]))) ?_
  rw [ls_one]
  (simp (disch := (first | omega | (simp only [push_cast]; done) | (simp only [push_cast]; omega) | ((try simp only [push_cast]); (with_reducible first | apply sel_lt | apply sel_ge); (focus decide); (focus (simp only [push_cast]; omega))))) only [push_cast, ↓reduceIte, Nat.reduceEqDiff, Nat.reduceBEq, Nat.reduceAdd, Nat.reduceSub, Int.reduceToNat, *] <;> with_reducible exact rfl)
theorem φTLI_nil {l : LS} {wd : Int} {b : Bool} (h : okSs l) (hR : tlR l wd = if b = true then some [] else none) : φTLI [.lst false 1 (l.map fun s => .val (.string s)), .val (.int .i64 wd)] = some (.tup [.val (.slice none 0 0), .val (.bool b)]) :=
  pureN_of (r := .tup [.val (.slice none 0 0), .val (.bool b)]) (cs0 := []) ((G2_ap (A := dSs) (B := dI) l wd).trans ((if_pos h).trans (by rw [hR]; cases b <;> rfl))) rfl
theorem tlR_cases (l : LS) (wd : Int) : (∃ b : Bool, tlR l wd = if b = true then some [] else none) ∨ ∃ L, tlR l wd = some L ∧ 0 < L.length := by
  cases hR : tlR l wd with
  | none => exact .inl ⟨false, rfl⟩
  | some L =>
    cases L with
    | nil => exact .inl ⟨true, rfl⟩
    | cons z L => exact .inr ⟨_, rfl, by simp⟩
theorem okT_ss {n : Nat} {l : LS} (h : okT n l) (hn : n ≤ 1000) : okSs l := ⟨by have := h.1; omega, fun i => by
  by_cases hk : i < l.length
  · rw [List.getElem?_eq_getElem hk, Option.getD_some]
    have := h.2 _ (List.getElem_mem hk)
    omega
  · rw [List.getElem?_eq_none (by omega)]
    decide⟩
noncomputable def φLawWi : Fun := F1 dUs fun code => if okL okB8 code then some (bv true) else none
noncomputable def φSameTn : Fun := nilF 1 φSameT
theorem φSameTn_ap {a b : LS} (h : a.length ≤ 1048576) (h2 : b.length ≤ 1048576) : φSameTn [.lst false 1 (a.map fun s => .val (.string s)), .lst false 1 (b.map fun s => .val (.string s))] = some (.val (.bool (decide (a = b)))) := φSameT_ap h h2
theorem φSameTn_nil : φSameTn [.val (.slice none 0 0), .lst false 1 []] = some (.val (.bool true)) := φSameT_ap (a := []) (b := []) (by simp) (by simp)
noncomputable def GLwi : Ctx := ⟨fun f => if f = 21 then some φdrawTl else if f = 18 then some φTLI else if f = 17 then some φTL else if f = 22 then some φSameTn else if f = 23 then some φTrue else none, fun f => none⟩
theorem GLwi_ok : SoundΓ Try.prog GLwi := ⟨(fun f φ h => by
  unfold GLwi at h
  dsimp only at h
  split at h
  · rename_i hf; cases h; subst hf; exact ⟨⟨_, Try.func21, rfl, rfl⟩, drawTl_ok⟩
  split at h
  · rename_i hf; cases h; subst hf; exact ⟨⟨_, Try.func18, rfl, rfl⟩, implTLN.pure⟩
  split at h
  · rename_i hf; cases h; subst hf; exact ⟨⟨_, Try.func17, rfl, rfl⟩, specTL_ok⟩
  split at h
  · rename_i hf; cases h; subst hf; exact ⟨⟨_, Try.func22, rfl, rfl⟩, (sameTexts_ok.nil 1)⟩
  split at h
  · rename_i hf; cases h; subst hf; exact ⟨⟨_, Try.func23, rfl, rfl⟩, alive_ok⟩
  cases h), (fun f φ h => by
  unfold GLwi at h
  dsimp only at h
  cases h)⟩
theorem GLwi_21 (ob : Objs) (ps : List PV) : evCall GLwi ob 21 ps = (ps.mapM (reify false 0 ob fuel)).bind φdrawTl := by
  have h : GLwi.fn 21 = some φdrawTl := by simp [GLwi]
  unfold evCall
  rw [h]
  cases ps.mapM (reify false 0 ob fuel) <;> rfl
theorem GLwi_18 (ob : Objs) (ps : List PV) : evCall GLwi ob 18 ps = (ps.mapM (reify false 0 ob fuel)).bind φTLI := by
  have h : GLwi.fn 18 = some φTLI := by simp [GLwi]
  unfold evCall
  rw [h]
  cases ps.mapM (reify false 0 ob fuel) <;> rfl
theorem GLwi_17 (ob : Objs) (ps : List PV) : evCall GLwi ob 17 ps = (ps.mapM (reify false 0 ob fuel)).bind φTL := by
  have h : GLwi.fn 17 = some φTL := by simp [GLwi]
  unfold evCall
  rw [h]
  cases ps.mapM (reify false 0 ob fuel) <;> rfl
theorem GLwi_22 (ob : Objs) (ps : List PV) : evCall GLwi ob 22 ps = (ps.mapM (reify false 0 ob fuel)).bind φSameTn := by
  have h : GLwi.fn 22 = some φSameTn := by simp [GLwi]
  unfold evCall
  rw [h]
  cases ps.mapM (reify false 0 ob fuel) <;> rfl
theorem GLwi_23 (ob : Objs) (ps : List PV) : evCall GLwi ob 23 ps = (ps.mapM (reify false 0 ob fuel)).bind φTrue := by
  have h : GLwi.fn 23 = some φTrue := by simp [GLwi]
  unfold evCall
  rw [h]
  cases ps.mapM (reify false 0 ob fuel) <;> rfl
set_option maxHeartbeats 16000000 in
theorem lawWi_ok : Sound Try.prog 6 φLawWi := by
  refine sound_pq mixed GLwi_ok Try.func6 rfl 62 rfl [.tmp 2] rfl (by kernel_rfl) fun ps r hr => ?_
  obtain ⟨code, rfl, hq⟩ := F1_some hr
  clear hr
  split at hq
  case isFalse => cases hq
  case isTrue hpre =>
  cases hq
  refine ⟨by simp, ?_⟩
  simp only [dIs, dUs, dSs, dI_e, dU_e, dB_e, dS_e, dFn_e, dL_e, dA2_e, dA3_e, dA4_e, dA5_e]
  have hbyte := bytes_ok hpre
  by_cases hlen : code.length ≤ 1048576
  · obtain ⟨⟨l, wd⟩, e, hl, hwd⟩ := drawTl_drw code hbyte hlen
    unfold ETl at e
    dsimp only at e hl hwd
    have hok := okT_ss hl (by omega)
    have hl13 := hl.1
    have apt := φTrue_ap
    have ap1 := φTL_ap (wd := wd) hok
    rcases tlR_cases l wd with ⟨b, hR⟩ | ⟨L, hR, hL0⟩
    · have ap2 := φTLI_nil hok hR
      have ap3 := φSameTn_nil
      rw [hR] at ap1
      have hnext : b = true → wd ≠ 60 → φTLI [.lst false 1 (l.map fun s => .val (.string s)), .val (.int .i64 (wd + 1))] = some (.tup [.val (.slice none 0 0), .val (.bool true)]) := fun hb h60 => by
        subst hb
        obtain ⟨L', h1, h2⟩ := tlR_wider hR h60
        have : L' = [] := List.eq_nil_of_length_eq_zero (by simpa using h2)
        subst this
        exact φTLI_nil (b := true) hok h1
      clear hok hl hR
      cases b with
      | false =>
        simp only [if_true, Bool.false_eq_true, if_false, Option.getD_some, Option.getD_none, Option.isSome_some, Option.isSome_none] at ap1
        clear hnext
        have glwi_c21 := GLwi_21; have glwi_c18 := GLwi_18; have glwi_c17 := GLwi_17; have glwi_c22 := GLwi_22; have glwi_c23 := GLwi_23
        (repeat' (first | (with_reducible first | apply i_seq | apply i_block | apply i_skip | apply i_exit | apply i_ret | apply i_kS | apply i_kSx | apply i_kSr | apply i_kL | apply i_kLx | apply i_kLr | apply i_kB | apply i_kBr | apply i_kBs | apply i_nil) | ((with_reducible apply i_region); (focus (simp only [List.map_cons, List.map_nil] <;> exact rfl))) | ((with_reducible apply i_draw); (focus (simp only [List.map_cons, List.map_nil] <;> exact rfl)); (focus (decide +kernel))) | ((with_reducible apply i_kBo); (focus rfl)) | ((first | ((with_reducible apply i_V); (focus rfl); (focus rfl); (focus rfl)) | ((with_reducible apply i_E); (focus rfl); (focus (first | rfl | (simp only [push_cast, ↓reduceIte, effOk, touch, refsOf, List.flatMap_cons, List.flatMap_nil])))) | ((with_reducible apply i_S); (focus rfl); (focus (first | rfl | (simp only [push_cast, ↓reduceIte, effOk, touch, refsOf, List.flatMap_cons, List.flatMap_nil])))) | ((with_reducible apply i_Vq); (focus rfl); (focus rfl)) | ((with_reducible apply i_Vp); (focus rfl); (focus rfl); (focus rfl))); (focus (simp (disch := (first | omega | (simp only [push_cast]; done) | (simp only [push_cast]; omega) | ((try simp only [push_cast]); (with_reducible first | apply sel_lt | apply sel_ge); (focus decide); (focus (simp only [push_cast]; omega))))) only [push_cast, ↓reduceIte, Nat.reduceEqDiff, Nat.reduceBEq, Nat.reduceAdd, Nat.reduceSub, Int.reduceToNat, *] <;> with_reducible exact rfl))) | ((with_reducible first | apply i_Gb | apply i_cond); (focus (simp (disch := (first | omega | (simp only [push_cast]; done) | (simp only [push_cast]; omega) | ((try simp only [push_cast]); (with_reducible first | apply sel_lt | apply sel_ge); (focus decide); (focus (simp only [push_cast]; omega))))) only [push_cast, ↓reduceIte, Nat.reduceEqDiff, Nat.reduceBEq, Nat.reduceAdd, Nat.reduceSub, Int.reduceToNat, *] <;> with_reducible exact rfl)); all_goals (intro hX; first | (cases hX; done) | ((with_reducible first | have hX0 : true = true := hX | have hX0 : false = false := hX); clear hX0 hX) | ((try simp only [decide_eq_true_eq, decide_eq_false_iff_not, Bool.not_eq_true', Bool.not_eq_false'] at hX); (try have hXb := inB_iff.1 hX)))))); all_goals try (exfalso; omega)
        all_goals (first | (exfalso; omega) | ((first | apply i_end | apply i_endN); simp (disch := (first | omega | (simp only [push_cast]; done) | (simp only [push_cast]; omega) | ((try simp only [push_cast]); (with_reducible first | apply sel_lt | apply sel_ge); (focus decide); (focus (simp only [push_cast]; omega))))) only [push_cast, ↓reduceIte, Nat.reduceEqDiff, Nat.reduceBEq, Nat.reduceAdd, Nat.reduceSub, Int.reduceToNat, *]) | skip)
      | true =>
        simp only [if_true, Bool.false_eq_true, if_false, Option.getD_some, Option.getD_none, Option.isSome_some, Option.isSome_none] at ap1
        by_cases h60 : wd = 60
        · clear hnext
          subst h60
          have glwi_c21 := GLwi_21; have glwi_c18 := GLwi_18; have glwi_c17 := GLwi_17; have glwi_c22 := GLwi_22; have glwi_c23 := GLwi_23
          (repeat' (first | (with_reducible first | apply i_seq | apply i_block | apply i_skip | apply i_exit | apply i_ret | apply i_kS | apply i_kSx | apply i_kSr | apply i_kL | apply i_kLx | apply i_kLr | apply i_kB | apply i_kBr | apply i_kBs | apply i_nil) | ((with_reducible apply i_region); (focus (simp only [List.map_cons, List.map_nil] <;> exact rfl))) | ((with_reducible apply i_draw); (focus (simp only [List.map_cons, List.map_nil] <;> exact rfl)); (focus (decide +kernel))) | ((with_reducible apply i_kBo); (focus rfl)) | ((first | ((with_reducible apply i_V); (focus rfl); (focus rfl); (focus rfl)) | ((with_reducible apply i_E); (focus rfl); (focus (first | rfl | (simp only [push_cast, ↓reduceIte, effOk, touch, refsOf, List.flatMap_cons, List.flatMap_nil])))) | ((with_reducible apply i_S); (focus rfl); (focus (first | rfl | (simp only [push_cast, ↓reduceIte, effOk, touch, refsOf, List.flatMap_cons, List.flatMap_nil])))) | ((with_reducible apply i_Vq); (focus rfl); (focus rfl)) | ((with_reducible apply i_Vp); (focus rfl); (focus rfl); (focus rfl))); (focus (simp (disch := (first | omega | (simp only [push_cast]; done) | (simp only [push_cast]; omega) | ((try simp only [push_cast]); (with_reducible first | apply sel_lt | apply sel_ge); (focus decide); (focus (simp only [push_cast]; omega))))) only [push_cast, ↓reduceIte, Nat.reduceEqDiff, Nat.reduceBEq, Nat.reduceAdd, Nat.reduceSub, Int.reduceToNat, *] <;> with_reducible exact rfl))) | ((with_reducible first | apply i_Gb | apply i_cond); (focus (simp (disch := (first | omega | (simp only [push_cast]; done) | (simp only [push_cast]; omega) | ((try simp only [push_cast]); (with_reducible first | apply sel_lt | apply sel_ge); (focus decide); (focus (simp only [push_cast]; omega))))) only [push_cast, ↓reduceIte, Nat.reduceEqDiff, Nat.reduceBEq, Nat.reduceAdd, Nat.reduceSub, Int.reduceToNat, *] <;> with_reducible exact rfl)); all_goals (intro hX; first | (cases hX; done) | ((with_reducible first | have hX0 : true = true := hX | have hX0 : false = false := hX); clear hX0 hX) | ((try simp only [decide_eq_true_eq, decide_eq_false_iff_not, Bool.not_eq_true', Bool.not_eq_false'] at hX); (try have hXb := inB_iff.1 hX)))))); all_goals try (exfalso; omega)
          all_goals (first | (exfalso; omega) | ((first | apply i_end | apply i_endN); simp (disch := (first | omega | (simp only [push_cast]; done) | (simp only [push_cast]; omega) | ((try simp only [push_cast]); (with_reducible first | apply sel_lt | apply sel_ge); (focus decide); (focus (simp only [push_cast]; omega))))) only [push_cast, ↓reduceIte, Nat.reduceEqDiff, Nat.reduceBEq, Nat.reduceAdd, Nat.reduceSub, Int.reduceToNat, *]) | skip)
        · have ap4 := hnext rfl h60
          clear hnext
          have glwi_c21 := GLwi_21; have glwi_c18 := GLwi_18; have glwi_c17 := GLwi_17; have glwi_c22 := GLwi_22; have glwi_c23 := GLwi_23
          (repeat' (first | (with_reducible first | apply i_seq | apply i_block | apply i_skip | apply i_exit | apply i_ret | apply i_kS | apply i_kSx | apply i_kSr | apply i_kL | apply i_kLx | apply i_kLr | apply i_kB | apply i_kBr | apply i_kBs | apply i_nil) | ((with_reducible apply i_region); (focus (simp only [List.map_cons, List.map_nil] <;> exact rfl))) | ((with_reducible apply i_draw); (focus (simp only [List.map_cons, List.map_nil] <;> exact rfl)); (focus (decide +kernel))) | ((with_reducible apply i_kBo); (focus rfl)) | ((first | ((with_reducible apply i_V); (focus rfl); (focus rfl); (focus rfl)) | ((with_reducible apply i_E); (focus rfl); (focus (first | rfl | (simp only [push_cast, ↓reduceIte, effOk, touch, refsOf, List.flatMap_cons, List.flatMap_nil])))) | ((with_reducible apply i_S); (focus rfl); (focus (first | rfl | (simp only [push_cast, ↓reduceIte, effOk, touch, refsOf, List.flatMap_cons, List.flatMap_nil])))) | ((with_reducible apply i_Vq); (focus rfl); (focus rfl)) | ((with_reducible apply i_Vp); (focus rfl); (focus rfl); (focus rfl))); (focus (simp (disch := (first | omega | (simp only [push_cast]; done) | (simp only [push_cast]; omega) | ((try simp only [push_cast]); (with_reducible first | apply sel_lt | apply sel_ge); (focus decide); (focus (simp only [push_cast]; omega))))) only [push_cast, ↓reduceIte, Nat.reduceEqDiff, Nat.reduceBEq, Nat.reduceAdd, Nat.reduceSub, Int.reduceToNat, *] <;> with_reducible exact rfl))) | ((with_reducible first | apply i_Gb | apply i_cond); (focus (simp (disch := (first | omega | (simp only [push_cast]; done) | (simp only [push_cast]; omega) | ((try simp only [push_cast]); (with_reducible first | apply sel_lt | apply sel_ge); (focus decide); (focus (simp only [push_cast]; omega))))) only [push_cast, ↓reduceIte, Nat.reduceEqDiff, Nat.reduceBEq, Nat.reduceAdd, Nat.reduceSub, Int.reduceToNat, *] <;> with_reducible exact rfl)); all_goals (intro hX; first | (cases hX; done) | ((with_reducible first | have hX0 : true = true := hX | have hX0 : false = false := hX); clear hX0 hX) | ((try simp only [decide_eq_true_eq, decide_eq_false_iff_not, Bool.not_eq_true', Bool.not_eq_false'] at hX); (try have hXb := inB_iff.1 hX)))))); all_goals try (exfalso; omega)
          all_goals (first | (exfalso; omega) | ((first | apply i_end | apply i_endN); simp (disch := (first | omega | (simp only [push_cast]; done) | (simp only [push_cast]; omega) | ((try simp only [push_cast]); (with_reducible first | apply sel_lt | apply sel_ge); (focus decide); (focus (simp only [push_cast]; omega))))) only [push_cast, ↓reduceIte, Nat.reduceEqDiff, Nat.reduceBEq, Nat.reduceAdd, Nat.reduceSub, Int.reduceToNat, *]) | skip)
          all_goals first | rfl | skip
    · have ap2 := φTLI_some hok hR hL0
      have hLl := tlR_len hR
      have ap3 := φSameTn_ap (a := L) (b := L) (by omega) (by omega)
      rw [hR, Option.getD_some, Option.isSome_some] at ap1
      by_cases h60 : wd = 60
      · clear hok hl hR
        subst h60
        have glwi_c21 := GLwi_21; have glwi_c18 := GLwi_18; have glwi_c17 := GLwi_17; have glwi_c22 := GLwi_22; have glwi_c23 := GLwi_23
        (repeat' (first | (with_reducible first | apply i_seq | apply i_block | apply i_skip | apply i_exit | apply i_ret | apply i_kS | apply i_kSx | apply i_kSr | apply i_kL | apply i_kLx | apply i_kLr | apply i_kB | apply i_kBr | apply i_kBs | apply i_nil) | ((with_reducible apply i_region); (focus (simp only [List.map_cons, List.map_nil] <;> exact rfl))) | ((with_reducible apply i_draw); (focus (simp only [List.map_cons, List.map_nil] <;> exact rfl)); (focus (decide +kernel))) | ((with_reducible apply i_kBo); (focus rfl)) | ((first | ((with_reducible apply i_V); (focus rfl); (focus rfl); (focus rfl)) | ((with_reducible apply i_E); (focus rfl); (focus (first | rfl | (simp only [push_cast, ↓reduceIte, effOk, touch, refsOf, List.flatMap_cons, List.flatMap_nil])))) | ((with_reducible apply i_S); (focus rfl); (focus (first | rfl | (simp only [push_cast, ↓reduceIte, effOk, touch, refsOf, List.flatMap_cons, List.flatMap_nil])))) | ((with_reducible apply i_Vq); (focus rfl); (focus rfl)) | ((with_reducible apply i_Vp); (focus rfl); (focus rfl); (focus rfl))); (focus (simp (disch := (first | omega | (simp only [push_cast]; done) | (simp only [push_cast]; omega) | ((try simp only [push_cast]); (with_reducible first | apply sel_lt | apply sel_ge); (focus decide); (focus (simp only [push_cast]; omega))))) only [push_cast, ↓reduceIte, Nat.reduceEqDiff, Nat.reduceBEq, Nat.reduceAdd, Nat.reduceSub, Int.reduceToNat, *] <;> with_reducible exact rfl))) | ((with_reducible first | apply i_Gb | apply i_cond); (focus (simp (disch := (first | omega | (simp only [push_cast]; done) | (simp only [push_cast]; omega) | ((try simp only [push_cast]); (with_reducible first | apply sel_lt | apply sel_ge); (focus decide); (focus (simp only [push_cast]; omega))))) only [push_cast, ↓reduceIte, Nat.reduceEqDiff, Nat.reduceBEq, Nat.reduceAdd, Nat.reduceSub, Int.reduceToNat, *] <;> with_reducible exact rfl)); all_goals (intro hX; first | (cases hX; done) | ((with_reducible first | have hX0 : true = true := hX | have hX0 : false = false := hX); clear hX0 hX) | ((try simp only [decide_eq_true_eq, decide_eq_false_iff_not, Bool.not_eq_true', Bool.not_eq_false'] at hX); (try have hXb := inB_iff.1 hX)))))); all_goals try (exfalso; omega)
        all_goals (first | (exfalso; omega) | ((first | apply i_end | apply i_endN); simp (disch := (first | omega | (simp only [push_cast]; done) | (simp only [push_cast]; omega) | ((try simp only [push_cast]); (with_reducible first | apply sel_lt | apply sel_ge); (focus decide); (focus (simp only [push_cast]; omega))))) only [push_cast, ↓reduceIte, Nat.reduceEqDiff, Nat.reduceBEq, Nat.reduceAdd, Nat.reduceSub, Int.reduceToNat, *]) | skip)
      · obtain ⟨L', h1, h2⟩ := tlR_wider hR h60
        rcases tlR_cases l (wd + 1) with ⟨b, hR'⟩ | ⟨L2, hR', hL0'⟩
        · rw [h1] at hR'
          have hb : b = true := by cases b with | true => rfl | false => cases hR'
          have ap4 := φTLI_nil (wd := wd + 1) (b := b) hok (by rw [h1, hR'])
          rw [hb] at ap4
          clear hok hl hR hR' h1
          have glwi_c21 := GLwi_21; have glwi_c18 := GLwi_18; have glwi_c17 := GLwi_17; have glwi_c22 := GLwi_22; have glwi_c23 := GLwi_23
          (repeat' (first | (with_reducible first | apply i_seq | apply i_block | apply i_skip | apply i_exit | apply i_ret | apply i_kS | apply i_kSx | apply i_kSr | apply i_kL | apply i_kLx | apply i_kLr | apply i_kB | apply i_kBr | apply i_kBs | apply i_nil) | ((with_reducible apply i_region); (focus (simp only [List.map_cons, List.map_nil] <;> exact rfl))) | ((with_reducible apply i_draw); (focus (simp only [List.map_cons, List.map_nil] <;> exact rfl)); (focus (decide +kernel))) | ((with_reducible apply i_kBo); (focus rfl)) | ((first | ((with_reducible apply i_V); (focus rfl); (focus rfl); (focus rfl)) | ((with_reducible apply i_E); (focus rfl); (focus (first | rfl | (simp only [push_cast, ↓reduceIte, effOk, touch, refsOf, List.flatMap_cons, List.flatMap_nil])))) | ((with_reducible apply i_S); (focus rfl); (focus (first | rfl | (simp only [push_cast, ↓reduceIte, effOk, touch, refsOf, List.flatMap_cons, List.flatMap_nil])))) | ((with_reducible apply i_Vq); (focus rfl); (focus rfl)) | ((with_reducible apply i_Vp); (focus rfl); (focus rfl); (focus rfl))); (focus (simp (disch := (first | omega | (simp only [push_cast]; done) | (simp only [push_cast]; omega) | ((try simp only [push_cast]); (with_reducible first | apply sel_lt | apply sel_ge); (focus decide); (focus (simp only [push_cast]; omega))))) only [push_cast, ↓reduceIte, Nat.reduceEqDiff, Nat.reduceBEq, Nat.reduceAdd, Nat.reduceSub, Int.reduceToNat, *] <;> with_reducible exact rfl))) | ((with_reducible first | apply i_Gb | apply i_cond); (focus (simp (disch := (first | omega | (simp only [push_cast]; done) | (simp only [push_cast]; omega) | ((try simp only [push_cast]); (with_reducible first | apply sel_lt | apply sel_ge); (focus decide); (focus (simp only [push_cast]; omega))))) only [push_cast, ↓reduceIte, Nat.reduceEqDiff, Nat.reduceBEq, Nat.reduceAdd, Nat.reduceSub, Int.reduceToNat, *] <;> with_reducible exact rfl)); all_goals (intro hX; first | (cases hX; done) | ((with_reducible first | have hX0 : true = true := hX | have hX0 : false = false := hX); clear hX0 hX) | ((try simp only [decide_eq_true_eq, decide_eq_false_iff_not, Bool.not_eq_true', Bool.not_eq_false'] at hX); (try have hXb := inB_iff.1 hX)))))); all_goals try (exfalso; omega)
          all_goals (first | (exfalso; omega) | ((first | apply i_end | apply i_endN); simp (disch := (first | omega | (simp only [push_cast]; done) | (simp only [push_cast]; omega) | ((try simp only [push_cast]); (with_reducible first | apply sel_lt | apply sel_ge); (focus decide); (focus (simp only [push_cast]; omega))))) only [push_cast, ↓reduceIte, Nat.reduceEqDiff, Nat.reduceBEq, Nat.reduceAdd, Nat.reduceSub, Int.reduceToNat, *]) | skip)
          all_goals first | rfl | (simp only [decide_eq_true_eq]; omega) | skip
        · have ap4 := φTLI_some hok hR' hL0'
          have e : L' = L2 := by rw [h1] at hR'; exact Option.some.inj hR'
          subst e
          clear hok hl hR hR' h1
          have glwi_c21 := GLwi_21; have glwi_c18 := GLwi_18; have glwi_c17 := GLwi_17; have glwi_c22 := GLwi_22; have glwi_c23 := GLwi_23
          (repeat' (first | (with_reducible first | apply i_seq | apply i_block | apply i_skip | apply i_exit | apply i_ret | apply i_kS | apply i_kSx | apply i_kSr | apply i_kL | apply i_kLx | apply i_kLr | apply i_kB | apply i_kBr | apply i_kBs | apply i_nil) | ((with_reducible apply i_region); (focus (simp only [List.map_cons, List.map_nil] <;> exact rfl))) | ((with_reducible apply i_draw); (focus (simp only [List.map_cons, List.map_nil] <;> exact rfl)); (focus (decide +kernel))) | ((with_reducible apply i_kBo); (focus rfl)) | ((first | ((with_reducible apply i_V); (focus rfl); (focus rfl); (focus rfl)) | ((with_reducible apply i_E); (focus rfl); (focus (first | rfl | (simp only [push_cast, ↓reduceIte, effOk, touch, refsOf, List.flatMap_cons, List.flatMap_nil])))) | ((with_reducible apply i_S); (focus rfl); (focus (first | rfl | (simp only [push_cast, ↓reduceIte, effOk, touch, refsOf, List.flatMap_cons, List.flatMap_nil])))) | ((with_reducible apply i_Vq); (focus rfl); (focus rfl)) | ((with_reducible apply i_Vp); (focus rfl); (focus rfl); (focus rfl))); (focus (simp (disch := (first | omega | (simp only [push_cast]; done) | (simp only [push_cast]; omega) | ((try simp only [push_cast]); (with_reducible first | apply sel_lt | apply sel_ge); (focus decide); (focus (simp only [push_cast]; omega))))) only [push_cast, ↓reduceIte, Nat.reduceEqDiff, Nat.reduceBEq, Nat.reduceAdd, Nat.reduceSub, Int.reduceToNat, *] <;> with_reducible exact rfl))) | ((with_reducible first | apply i_Gb | apply i_cond); (focus (simp (disch := (first | omega | (simp only [push_cast]; done) | (simp only [push_cast]; omega) | ((try simp only [push_cast]); (with_reducible first | apply sel_lt | apply sel_ge); (focus decide); (focus (simp only [push_cast]; omega))))) only [push_cast, ↓reduceIte, Nat.reduceEqDiff, Nat.reduceBEq, Nat.reduceAdd, Nat.reduceSub, Int.reduceToNat, *] <;> with_reducible exact rfl)); all_goals (intro hX; first | (cases hX; done) | ((with_reducible first | have hX0 : true = true := hX | have hX0 : false = false := hX); clear hX0 hX) | ((try simp only [decide_eq_true_eq, decide_eq_false_iff_not, Bool.not_eq_true', Bool.not_eq_false'] at hX); (try have hXb := inB_iff.1 hX)))))); all_goals try (exfalso; omega)
          all_goals (first | (exfalso; omega) | ((first | apply i_end | apply i_endN); simp (disch := (first | omega | (simp only [push_cast]; done) | (simp only [push_cast]; omega) | ((try simp only [push_cast]); (with_reducible first | apply sel_lt | apply sel_ge); (focus decide); (focus (simp only [push_cast]; omega))))) only [push_cast, ↓reduceIte, Nat.reduceEqDiff, Nat.reduceBEq, Nat.reduceAdd, Nat.reduceSub, Int.reduceToNat, *]) | skip)
          all_goals rw [decide_eq_true (by omega)]
  · have glwi_c21 := GLwi_21; have glwi_c18 := GLwi_18; have glwi_c17 := GLwi_17; have glwi_c22 := GLwi_22; have glwi_c23 := GLwi_23
    (repeat' (first | (with_reducible first | apply i_seq | apply i_block | apply i_skip | apply i_exit | apply i_ret | apply i_kS | apply i_kSx | apply i_kSr | apply i_kL | apply i_kLx | apply i_kLr | apply i_kB | apply i_kBr | apply i_kBs | apply i_nil) | ((with_reducible apply i_region); (focus (simp only [List.map_cons, List.map_nil] <;> exact rfl))) | ((with_reducible apply i_draw); (focus (simp only [List.map_cons, List.map_nil] <;> exact rfl)); (focus (decide +kernel))) | ((with_reducible apply i_kBo); (focus rfl)) | ((first | ((with_reducible apply i_V); (focus rfl); (focus rfl); (focus rfl)) | ((with_reducible apply i_E); (focus rfl); (focus (first | rfl | (simp only [push_cast, ↓reduceIte, effOk, touch, refsOf, List.flatMap_cons, List.flatMap_nil])))) | ((with_reducible apply i_S); (focus rfl); (focus (first | rfl | (simp only [push_cast, ↓reduceIte, effOk, touch, refsOf, List.flatMap_cons, List.flatMap_nil])))) | ((with_reducible apply i_Vq); (focus rfl); (focus rfl)) | ((with_reducible apply i_Vp); (focus rfl); (focus rfl); (focus rfl))); (focus (simp (disch := (first | omega | (simp only [push_cast]; done) | (simp only [push_cast]; omega) | ((try simp only [push_cast]); (with_reducible first | apply sel_lt | apply sel_ge); (focus decide); (focus (simp only [push_cast]; omega))))) only [push_cast, ↓reduceIte, Nat.reduceEqDiff, Nat.reduceBEq, Nat.reduceAdd, Nat.reduceSub, Int.reduceToNat, *] <;> with_reducible exact rfl))) | ((with_reducible first | apply i_Gb | apply i_cond); (focus (simp (disch := (first | omega | (simp only [push_cast]; done) | (simp only [push_cast]; omega) | ((try simp only [push_cast]); (with_reducible first | apply sel_lt | apply sel_ge); (focus decide); (focus (simp only [push_cast]; omega))))) only [push_cast, ↓reduceIte, Nat.reduceEqDiff, Nat.reduceBEq, Nat.reduceAdd, Nat.reduceSub, Int.reduceToNat, *] <;> with_reducible exact rfl)); all_goals (intro hX; first | (cases hX; done) | ((with_reducible first | have hX0 : true = true := hX | have hX0 : false = false := hX); clear hX0 hX) | ((try simp only [decide_eq_true_eq, decide_eq_false_iff_not, Bool.not_eq_true', Bool.not_eq_false'] at hX); (try have hXb := inB_iff.1 hX)))))); all_goals try (exfalso; omega)
    all_goals (first | (exfalso; omega) | ((first | apply i_end | apply i_endN); simp (disch := (first | omega | (simp only [push_cast]; done) | (simp only [push_cast]; omega) | ((try simp only [push_cast]); (with_reducible first | apply sel_lt | apply sel_ge); (focus decide); (focus (simp only [push_cast]; omega))))) only [push_cast, ↓reduceIte, Nat.reduceEqDiff, Nat.reduceBEq, Nat.reduceAdd, Nat.reduceSub, Int.reduceToNat, *]) | skip)
end Go.Proofs.Ytenldjifipnjpaa
