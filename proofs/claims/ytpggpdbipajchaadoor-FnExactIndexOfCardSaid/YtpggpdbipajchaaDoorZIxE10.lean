/- What the proof rests on, part 10: contracts of functions. No condition beyond what each states. -/
import Derived.Test.YtpggpdbipajchaaDoorZIxE9
namespace Go.Proofs.YtpggpdbipajchaaDoor
open Go.RowKit
set_option linter.all false
def rn0 : Rn := (0, 0)
section
variable {β : Type} {i : Nat}
theorem get_rn {g : Rn → PV} {l : List Rn} (h : i < l.length) : ((l[i]?).map g).getD .dead = g ((l[i]?).getD rn0) := by simp [h]
theorem omg_rn {g : Rn → β} {l : List Rn} (h : i < l.length) : Option.map g l[i]? = some (g ((l[i]?).getD rn0)) := by simp [h]
theorem set_rn {l : List Rn} {a b : Int} : (l.map fun x => PV.agg [.val (.int .i64 x.1), .val (.int .i64 x.2)]).set i (.agg [.val (.int .i64 a), .val (.int .i64 b)]) = (l.set i (a, b)).map fun x => PV.agg [.val (.int .i64 x.1), .val (.int .i64 x.2)] := by rw [List.map_set]
end
attribute [push_cast]
  get_rn omg_rn set_rn
abbrev pvR (x : Rn) : PV := .agg [.val (.int .i64 x.1), .val (.int .i64 x.2)]
def RunI (l : List Int) (k : Nat) (R : List Rn) : Prop := R = runsR (l.take k)
theorem pages_at {l : List Int} (h : pagesB l = true) {i : Nat} (hi : i < l.length) : 1 ≤ l[i]?.getD 0 ∧ l[i]?.getD 0 ≤ 999 := ((pagesB_iff.1 h).1 i hi).1
theorem pages_len {l : List Int} (h : pagesB l = true) : l.length ≤ 30 := (pagesB_iff.1 h).2
theorem RunI.zero (l : List Int) : RunI l 0 [] := rfl
theorem RunI.last {l : List Int} {k : Nat} {R : List Rn} (h : RunI l k R) (h0 : 0 < k) (hk : k ≤ l.length) : 0 < R.length ∧ ∃ a, R[R.length - 1]?.getD rn0 = (a, l[k - 1]?.getD 0) := by
  obtain ⟨R0, a, hR⟩ := runs_last (l.take (k - 1)) (l[k - 1]?.getD 0)
  rw [← take_snoc (show k - 1 < l.length by omega), show k - 1 + 1 = k by omega] at hR
  unfold RunI at h
  rw [h, hR]
  simp
theorem RunI.start {l : List Int} {R : List Rn} (h : RunI l 0 R) (h0 : 0 < l.length) : RunI l 1 ([] ++ [(l[0]?.getD 0, l[0]?.getD 0)]) := by
  unfold RunI
  rw [take_snoc h0]
  rfl
theorem RunI.next {l : List Int} {k : Nat} {R : List Rn} (h : RunI l k R) (h0 : 0 < k) (hk : k < l.length) :
    RunI l (k + 1) (if l[k - 1]?.getD 0 + 1 = l[k]?.getD 0 then R.set (R.length - 1) ((R[R.length - 1]?.getD rn0).1, l[k]?.getD 0) else R ++ [(l[k]?.getD 0, l[k]?.getD 0)]) := by
  obtain ⟨R0, a, hR⟩ := runs_last (l.take (k - 1)) (l[k - 1]?.getD 0)
  rw [← take_snoc (show k - 1 < l.length by omega), show k - 1 + 1 = k by omega] at hR
  unfold RunI at h ⊢
  rw [take_snoc hk, runsR_snoc, hR, runStep_snoc, h, hR]
  dsimp only
  split
  · simp
  · rfl
theorem runs_le (l : List Int) : (runsR l).length ≤ l.length := by
  have key : ∀ n, ∀ l : List Int, l.length = n → (runsR l).length ≤ l.length := by
    intro n
    induction n with
    | zero => intro l h; rw [List.eq_nil_of_length_eq_zero h]; exact Nat.le_refl _
    | succ n ih =>
      intro l h
      rcases List.eq_nil_or_concat l with h1 | ⟨l0, x, h1⟩
      · subst h1; exact Nat.le_refl _
      · rw [List.concat_eq_append] at h1
        subst h1
        rw [List.length_append, List.length_singleton] at h ⊢
        have := ih l0 (by omega)
        rw [runsR_snoc]
        unfold runStep
        split
        · rename_i r hr
          split
          · rw [List.length_append, List.length_dropLast, List.length_singleton]; omega
          · rw [List.length_append, List.length_singleton]; omega
        · simp
  exact key _ l rfl
theorem runs_rng {l : List Int} (h : ∀ x ∈ l, 1 ≤ x ∧ x ≤ 999) : ∀ r ∈ runsR l, (1 ≤ r.1 ∧ r.1 ≤ 999) ∧ (1 ≤ r.2 ∧ r.2 ≤ 999) := by
  have key : ∀ n, ∀ l : List Int, l.length = n → (∀ x ∈ l, 1 ≤ x ∧ x ≤ 999) → ∀ r ∈ runsR l, (1 ≤ r.1 ∧ r.1 ≤ 999) ∧ (1 ≤ r.2 ∧ r.2 ≤ 999) := by
    intro n
    induction n with
    | zero => intro l h _ r hr; rw [List.eq_nil_of_length_eq_zero h] at hr; simp [runsR] at hr
    | succ n ih =>
      intro l h hx r hr
      rcases List.eq_nil_or_concat l with h1 | ⟨l0, x, h1⟩
      · subst h1; simp [runsR] at hr
      · rw [List.concat_eq_append] at h1
        subst h1
        rw [List.length_append, List.length_singleton] at h
        have ih := ih l0 (by omega) fun y hy => hx y (List.mem_append.2 (.inl hy))
        have hxx := hx x (by simp)
        rw [runsR_snoc] at hr
        rcases List.eq_nil_or_concat (runsR l0) with h2 | ⟨R, z, h2⟩
        · rw [h2] at hr
          simp only [runStep, List.getLast?_nil, List.mem_singleton] at hr
          subst hr
          exact ⟨hxx, hxx⟩
        · rw [List.concat_eq_append] at h2
          rw [h2] at hr ih
          rw [runStep_snoc] at hr
          have hz := ih z (by simp)
          split at hr
          · rcases List.mem_append.1 hr with hr | hr
            · exact ih r (List.mem_append.2 (.inl hr))
            · simp only [List.mem_singleton] at hr
              subst hr
              exact ⟨hz.1, hxx⟩
          · rcases List.mem_append.1 hr with hr | hr
            · exact ih r hr
            · simp only [List.mem_singleton] at hr
              subst hr
              exact ⟨hxx, hxx⟩
  exact key _ l rfl h
theorem itoaS_size4 {n : Int} (h : 0 ≤ n) (h2 : n ≤ 9999) : (itoaS n).size ≤ 4 := by
  have e : (itoaS n).size = Lib.nDigits n.toNat := by
    unfold itoaS Lib.itoa
    rw [if_neg (by omega), ← Lib.decDigits_length]
    rfl
  rw [e]
  by_cases h1 : n.toNat < 10
  · rw [Lib.nDigits_small h1]; omega
  · rw [Lib.nDigits_big h1]
    by_cases h3 : n.toNat / 10 < 10
    · rw [Lib.nDigits_small h3]; omega
    · rw [Lib.nDigits_big h3]
      by_cases h4 : n.toNat / 10 / 10 < 10
      · rw [Lib.nDigits_small h4]; omega
      · rw [Lib.nDigits_big h4, Lib.nDigits_small (by omega)]; omega
theorem runT_size {a b : Int} (h : (0 ≤ a ∧ a ≤ 9999) ∧ 0 ≤ b ∧ b ≤ 9999) : (runT (a, b)).size ≤ 9 := by
  have h1 := itoaS_size4 h.1.1 h.1.2
  have h2 := itoaS_size4 h.2.1 h.2.2
  unfold runT
  split
  · dsimp only; omega
  · rw [ByteArray.size_append, ByteArray.size_append]
    have : (⟨#[45]⟩ : ByteArray).size = 1 := rfl
    dsimp only
    omega
theorem runT_sizeR {r : Rn} (h : (0 ≤ r.1 ∧ r.1 ≤ 9999) ∧ 0 ≤ r.2 ∧ r.2 ≤ 9999) : (runT r).size ≤ 9 := runT_size h
def φRunT : Fun := F2 dI dI fun a b => if (0 ≤ a ∧ a ≤ 9999) ∧ 0 ≤ b ∧ b ≤ 9999 then some (.val (.string (runT (a, b)))) else none
theorem φRunT_ap {a b : Int} (h : (0 ≤ a ∧ a ≤ 9999) ∧ 0 ≤ b ∧ b ≤ 9999) : φRunT [.val (.int .i64 a), .val (.int .i64 b)] = some (.val (.string (runT (a, b)))) := (F2_ap (A := dI) (B := dI) a b).trans (if_pos h)
noncomputable def GRt : Ctx := { fn := fun f => if f = 55 then some φItoa else none, io := fun f => none }
theorem GRt_ok : SoundΓ Tryd.prog GRt := ⟨(fun f φ h => by
  unfold GRt at h
  dsimp only at h
  split at h
  · rename_i hf; cases h; subst hf; exact ⟨⟨_, Tryd.func55, rfl, rfl⟩, itoa_ok⟩
  cases h), (fun f φ h => by
  unfold GRt at h
  dsimp only at h
  cases h), rfl⟩
theorem GRt_55 (ob : Objs) (ps : List PV) : evCall GRt ob 55 ps = (ps.mapM (reify false 0 ob fuel)).bind φItoa := by
  have h : GRt.fn 55 = some φItoa := by simp [GRt]
  unfold evCall
  rw [h]
  cases ps.mapM (reify false 0 ob fuel) <;> rfl
theorem runText_ok : Sound Tryd.prog 68 φRunT := by
  refine sound_pq mixed GRt_ok Tryd.func68 rfl 16 rfl [.tmp 4] rfl (by kernel_rfl) fun ps r hr => ?_
  obtain ⟨a, b, rfl, hq⟩ := F2_some hr
  clear hr
  split at hq
  case isFalse => cases hq
  case isTrue hpre =>
  cases hq
  refine ⟨by simp, ?_⟩
  simp only [dIs, dUs, dSs, dI_e, dU_e, dB_e, dS_e, dFn_e, dL_e, dA2_e, dA3_e, dA4_e, dA5_e]
  have ap1 := φItoa_ap (n := a) ⟨by omega, by omega⟩
  have ap2 := φItoa_ap (n := b) ⟨by omega, by omega⟩
  have h1 := itoaS_size4 hpre.1.1 hpre.1.2
  have h2 := itoaS_size4 hpre.2.1 hpre.2.2
  have hone : (⟨#[45]⟩ : ByteArray).size = 1 := rfl
  unfold runT
  by_cases hab : a = b
  · rw [if_pos hab]
    have grt_c55 := GRt_55
    exact wlkF
  · rw [if_neg hab]
    have grt_c55 := GRt_55
    exact wlkF
def φRuns : Fun := F1 dIs fun l => if pagesB l = true then some (.lst true 2 ((runsR l).map pvR)) else none
theorem φRuns_ap {l : List Int} (h : pagesB l = true) : φRuns [.lst false 1 (l.map fun n => .val (.int .i64 n))] = some (.lst true 2 ((runsR l).map pvR)) := (F1_ap (A := dIs) l).trans (if_pos h)
set_option maxHeartbeats 16000000 in
theorem runsOf_ok : Sound Tryd.prog 67 φRuns := by
  refine sound_pqW mixed GE_ok Tryd.func67 rfl 41 rfl [.tmp 2] rfl (by kernel_rfl) fun ps r hr => ?_
  obtain ⟨l, rfl, hq⟩ := F1_some hr
  clear hr
  split at hq
  case isFalse => cases hq
  case isTrue hpre =>
  cases hq
  refine ⟨by simp, ?_⟩
  simp only [dIs, dUs, dSs, dI_e, dU_e, dB_e, dS_e, dFn_e, dL_e, dA2_e, dA3_e, dA4_e, dA5_e]
  have hlen := pages_len hpre
  have hat := fun i hi => pages_at hpre (i := i) hi
  clear hpre
  (refine wlk ?_; intros)
  refine i_loop (α := Nat × List Rn × Nat × Nat) mixed (fun s => [(3, nP 2 (s.2.1.map pvR) s.2.2.1), (7, .lst false 1 (l.map fun n => .val (.int .i64 n))), (8, iv l.length), (9, iv s.1)])
    (fun s => nO 80 2 (s.2.1.map pvR) s.2.2.1) (fun s => s.2.2.2)
    (fun s => s.1 ≤ l.length ∧ RunI l s.1 s.2.1 ∧ (0 < s.2.1.length → s.2.2.1 < s.2.2.2)) (fun s => l.length - s.1) (by kernel_rfl) (0, [], 0, 0) ⟨Nat.zero_le _, RunI.zero l, by simp⟩ ?_ ?_ rfl ?_
  · exact agr
  · exact agr
  rintro ⟨k, R, x, y⟩ ⟨hk, hI, hxy⟩
  dsimp only at hk hI hxy
  have hRl : R.length ≤ 30 := by
    have := runs_le (l.take k)
    rw [← show R = runsR (l.take k) from hI, List.length_take] at this
    omega
  by_cases h0 : k < l.length
  · have hak := hat k h0
    have hak1 := hat (k - 1)
    clear hat
    by_cases hk0 : k = 0
    · subst hk0
      have hst := Lib.hid (hI.start h0)
      have hR0 : R = [] := hI
      subst hR0
      clear hI hak1
      (refine wlk ?_; intros)
      refine ⟨(1, [] ++ [(l[0]?.getD 0, l[0]?.getD 0)], y + 1, y + 2), ⟨by dsimp only; omega, hst.out, fun _ => by dsimp only; omega⟩, by dsimp only; omega, ?_, ?_, rfl⟩
      · exact agr
      · exact agr
    · have hnx := hI.next (by omega) h0
      obtain ⟨hp, a, hla⟩ := hI.last (by omega) hk
      rw [hla] at hnx
      have hxy := hxy hp
      have hak1 := hak1 (by omega)
      have hap : 0 < (R.map pvR).length := by rw [List.length_map]; exact hp
      have hap2 : 0 < ((R.set (R.length - 1) (a, l[k]?.getD 0)).map pvR).length := by rw [List.length_map, List.length_set]; exact hp
      have hap3 : 0 < ((R ++ [(l[k]?.getD 0, l[k]?.getD 0)]).map pvR).length := by simp
      replace hI := Lib.hid hI
      by_cases hc : l[k - 1]?.getD 0 + 1 = l[k]?.getD 0
      · rw [if_pos hc] at hnx
        replace hnx := Lib.hid hnx
        simp only [nP_pos hap, nO_pos hap, List.length_map]
        (refine wlk ?_; intros)
        refine ⟨(k + 1, R.set (R.length - 1) (a, l[k]?.getD 0), x, y), ⟨by dsimp only; omega, hnx.out, fun _ => hxy⟩, by dsimp only; omega, ?_, ?_, rfl⟩
        · simp (disch := (first | omega | (simp only [push_cast]; first | done | omega))) only [push_cast, ↓reduceIte, Nat.reduceEqDiff, Nat.reduceBEq, Nat.reduceAdd, Nat.reduceSub, Int.reduceToNat, nP_pos hap2, List.length_set, List.length_map, *]
        · simp (disch := (first | omega | (simp only [push_cast]; first | done | omega))) only [push_cast, ↓reduceIte, Nat.reduceEqDiff, Nat.reduceBEq, Nat.reduceAdd, Nat.reduceSub, Int.reduceToNat, nO_pos hap2, *]
      · rw [if_neg hc] at hnx
        replace hnx := Lib.hid hnx
        simp only [nP_pos hap, nO_pos hap, List.length_map]
        (refine wlk ?_; intros)
        refine ⟨(k + 1, R ++ [(l[k]?.getD 0, l[k]?.getD 0)], y + 1, y + 2), ⟨by dsimp only; omega, hnx.out, fun _ => by dsimp only; omega⟩, by dsimp only; omega, ?_, ?_, rfl⟩
        · simp (disch := (first | omega | (simp only [push_cast]; first | done | omega))) only [push_cast, ↓reduceIte, Nat.reduceEqDiff, Nat.reduceBEq, Nat.reduceAdd, Nat.reduceSub, Int.reduceToNat, nP_pos hap3, List.length_append, *]
        · simp (disch := (first | omega | (simp only [push_cast]; first | done | omega))) only [push_cast, ↓reduceIte, Nat.reduceEqDiff, Nat.reduceBEq, Nat.reduceAdd, Nat.reduceSub, Int.reduceToNat, nO_pos hap3, List.map_append, List.map_cons, List.map_nil, *]
  · obtain rfl : k = l.length := by omega
    have hR : runsR l = R := by
      unfold RunI at hI
      rw [hI, List.take_of_length_le (Nat.le_refl _)]
    rw [hR]
    clear hI hR hat
    by_cases hR0 : R.length = 0
    · obtain rfl : R = [] := List.eq_nil_of_length_eq_zero hR0
      (refine wlk ?_; intros)
      all_goals ((with_reducible apply i_endW (by first | exact .inl rfl | exact .inr rfl)); (simp (disch := (first | omega | (simp only [push_cast]; first | done | omega))) only [push_cast, ↓reduceIte, Nat.reduceEqDiff, Nat.reduceBEq, Nat.reduceAdd, Nat.reduceSub, Int.reduceToNat, *] <;> with_reducible exact rfl))
      all_goals exact nil_le _ _
    · have hap : 0 < (R.map pvR).length := by rw [List.length_map]; omega
      have hxy := hxy (by omega)
      simp only [nP_pos hap, nO_pos hap, List.length_map]
      (refine wlk ?_; intros)
      all_goals ((with_reducible apply i_endW (by first | exact .inl rfl | exact .inr rfl)); (simp (disch := (first | omega | (simp only [push_cast]; first | done | omega))) only [push_cast, ↓reduceIte, Nat.reduceEqDiff, Nat.reduceBEq, Nat.reduceAdd, Nat.reduceSub, Int.reduceToNat, *] <;> with_reducible exact rfl))
      all_goals exact PV.le_refl _
theorem textR_size {l : List Int} (h : ∀ x ∈ l, 1 ≤ x ∧ x ≤ 999) : (textR l).size ≤ 11 * l.length := by
  have h1 := runs_le l
  unfold textR
  rw [joinB_size, List.length_map]
  have h2 : sumS ((runsR l).map runT) ≤ 9 * ((runsR l).map runT).length := by
    have := sumS_le (l := (runsR l).map runT) (c := 9) fun i => by
      by_cases hi : i < ((runsR l).map runT).length
      · rw [List.getElem?_eq_getElem hi, Option.getD_some, List.getElem_map]
        have hr := runs_rng h _ (List.getElem_mem (l := runsR l) (n := i) (by simpa using hi))
        exact runT_sizeR ⟨⟨by omega, by omega⟩, by omega, by omega⟩
      · rw [List.getElem?_eq_none (by omega)]
        decide
    omega
  rw [List.length_map] at h2
  have h3 : csB.size = 2 := rfl
  rw [h3]
  omega
theorem pages_mem {l : List Int} (h : pagesB l = true) : ∀ x ∈ l, 1 ≤ x ∧ x ≤ 999 := fun x hx => by
  obtain ⟨i, hi, rfl⟩ := List.getElem_of_mem hx
  have := pages_at h hi
  rwa [List.getElem?_eq_getElem hi, Option.getD_some] at this
def φPt : Fun := F1 dIs fun l => if l.length ≤ 1099511627776 then some (.val (.string (pagesT l))) else none
theorem φPt_ap {l : List Int} (h : l.length ≤ 1099511627776) : φPt [.lst false 1 (l.map fun n => .val (.int .i64 n))] = some (.val (.string (pagesT l))) := (F1_ap (A := dIs) l).trans (if_pos h)
noncomputable def φJoinN : Fun := nilF 1 φJoin
theorem φJoinN_ap {l : List ByteArray} {sep : ByteArray} (h : l.length ≤ 1048576) (h2 : (joinB l sep).size ≤ 140737488355328) : φJoinN [.lst false 1 (l.map fun s => .val (.string s)), .val (.string sep)] = some (.val (.string (joinB l sep))) := φJoin_ap h h2
theorem φJoinN_nil : φJoinN [.val (.slice none 0 0), .val (.string csB)] = some (.val (.string ⟨#[]⟩)) := φJoin_ap (l := []) (by simp) (by rw [show joinB [] csB = ⟨#[]⟩ from rfl]; simp [ByteArray.size])
noncomputable def GPt : Ctx := { fn := fun f => if f = 37 then some φPagesV else if f = 67 then some φRuns else if f = 68 then some φRunT else if f = 69 then some φJoinN else none, io := fun f => none }
theorem GPt_ok : SoundΓ Tryd.prog GPt := ⟨(fun f φ h => by
  unfold GPt at h
  dsimp only at h
  split at h
  · rename_i hf; cases h; subst hf; exact ⟨⟨_, Tryd.func37, rfl, rfl⟩, implPagesV_ok⟩
  split at h
  · rename_i hf; cases h; subst hf; exact ⟨⟨_, Tryd.func67, rfl, rfl⟩, runsOf_ok⟩
  split at h
  · rename_i hf; cases h; subst hf; exact ⟨⟨_, Tryd.func68, rfl, rfl⟩, runText_ok⟩
  split at h
  · rename_i hf; cases h; subst hf; exact ⟨⟨_, Tryd.func69, rfl, rfl⟩, (join_ok.nil 1)⟩
  cases h), (fun f φ h => by
  unfold GPt at h
  dsimp only at h
  cases h), rfl⟩
theorem GPt_37 (ob : Objs) (ps : List PV) : evCall GPt ob 37 ps = (ps.mapM (reify false 0 ob fuel)).bind φPagesV := by
  have h : GPt.fn 37 = some φPagesV := by simp [GPt]
  unfold evCall
  rw [h]
  cases ps.mapM (reify false 0 ob fuel) <;> rfl
theorem GPt_67 (ob : Objs) (ps : List PV) : evCall GPt ob 67 ps = (ps.mapM (reify false 0 ob fuel)).bind φRuns := by
  have h : GPt.fn 67 = some φRuns := by simp [GPt]
  unfold evCall
  rw [h]
  cases ps.mapM (reify false 0 ob fuel) <;> rfl
theorem GPt_68 (ob : Objs) (ps : List PV) : evCall GPt ob 68 ps = (ps.mapM (reify false 0 ob fuel)).bind φRunT := by
  have h : GPt.fn 68 = some φRunT := by simp [GPt]
  unfold evCall
  rw [h]
  cases ps.mapM (reify false 0 ob fuel) <;> rfl
theorem GPt_69 (ob : Objs) (ps : List PV) : evCall GPt ob 69 ps = (ps.mapM (reify false 0 ob fuel)).bind φJoinN := by
  have h : GPt.fn 69 = some φJoinN := by simp [GPt]
  unfold evCall
  rw [h]
  cases ps.mapM (reify false 0 ob fuel) <;> rfl
set_option maxHeartbeats 16000000 in
theorem implPt_ok : Sound Tryd.prog 27 φPt := by
  refine sound_pq mixed GPt_ok Tryd.func27 rfl 27 rfl [.tmp 2] rfl (by kernel_rfl) fun ps r hr => ?_
  obtain ⟨l, rfl, hq⟩ := F1_some hr
  clear hr
  split at hq
  case isFalse => cases hq
  case isTrue hpre =>
  cases hq
  refine ⟨by simp, ?_⟩
  simp only [dIs, dUs, dSs, dI_e, dU_e, dB_e, dS_e, dFn_e, dL_e, dA2_e, dA3_e, dA4_e, dA5_e]
  have ap1 := φPagesV_ap hpre
  unfold pagesT
  cases hB : pagesB l with
  | false =>
    rw [hB] at ap1
    rw [if_neg (by decide)]
    clear hB
    have gpt_c37 := GPt_37; have gpt_c67 := GPt_67; have gpt_c68 := GPt_68; have gpt_c69 := GPt_69
    exact wlkF
  | true =>
    have ap2 := φRuns_ap hB
    have hlen := pages_len hB
    have hmem := pages_mem hB
    have hsz := textR_size hmem
    have hrl := runs_le l
    have hrn : ∀ i, i < (runsR l).length → (0 ≤ ((runsR l)[i]?.getD rn0).1 ∧ ((runsR l)[i]?.getD rn0).1 ≤ 9999) ∧ 0 ≤ ((runsR l)[i]?.getD rn0).2 ∧ ((runsR l)[i]?.getD rn0).2 ≤ 9999 := fun i hi => by
      rw [List.getElem?_eq_getElem hi, Option.getD_some]
      have := runs_rng hmem _ (List.getElem_mem hi)
      omega
    rw [hB] at ap1
    rw [if_pos rfl]
    unfold textR at hsz ⊢
    generalize runsR l = R at *
    have hcs : csB = ⟨#[44, 32]⟩ := rfl
    rw [hcs] at hsz ⊢
    have apn := φJoinN_nil
    rw [hcs] at apn
    have apj := φJoinN_ap (l := R.map runT) (sep := ⟨#[44, 32]⟩) (by rw [List.length_map]; omega) (by omega)
    have hJ0 : R.length = 0 → joinB (R.map runT) ⟨#[44, 32]⟩ = ⟨#[]⟩ := fun h => by rw [List.eq_nil_of_length_eq_zero h]; rfl
    replace hJ0 := Lib.hid hJ0
    generalize joinB (R.map runT) ⟨#[44, 32]⟩ = J at *
    clear hB hmem hcs
    have gpt_c37 := GPt_37; have gpt_c67 := GPt_67; have gpt_c68 := GPt_68; have gpt_c69 := GPt_69
    (refine wlk ?_; intros)
    refine i_loop (α := Nat × Nat × Nat) mixed (fun s => [(3, nP 1 (((R.take s.1).map runT).map fun s => .val (.string s)) s.2.1), (10, .lst true 2 (R.map pvR)), (11, iv R.length), (12, iv s.1)])
      (fun s => nO 9 1 (((R.take s.1).map runT).map fun s => .val (.string s)) s.2.1) (fun s => s.2.2)
      (fun s => s.1 ≤ R.length ∧ (0 < s.1 → s.2.1 < s.2.2)) (fun s => R.length - s.1) (by kernel_rfl) (0, 0, 0) ⟨Nat.zero_le _, by simp⟩ ?_ ?_ rfl ?_
    · exact agr
    · exact agr
    rintro ⟨k, x, y⟩ ⟨hk, hxy⟩
    dsimp only at hk hxy
    by_cases hkl : k < R.length
    · have hr := hrn k hkl
      have ap3 := φRunT_ap hr
      have htk : (R.take (k + 1)).map runT = (R.take k).map runT ++ [runT (R[k]?.getD rn0)] := by
        rw [List.take_succ_eq_append_getElem hkl, List.map_append, List.getElem?_eq_getElem hkl]
        rfl
      have hts := runT_size hr
      have hp2 : 0 < (((R.take (k + 1)).map runT).map fun s => PV.val (.string s)).length := by rw [htk]; simp
      have hln : ((R.take k).map runT).length = k := by rw [List.length_map, List.length_take]; omega
      clear hrn
      generalize hre : (R[k]?.getD rn0) = r at *
      obtain ⟨a, b⟩ := r
      dsimp only at hr ap3
      replace htk := Lib.hid htk
      have hln2 : (((R.take (k + 1)).map runT).map fun s => PV.val (.string s)).length = k + 1 := by rw [List.length_map, List.length_map, List.length_take]; omega
      replace hln2 := Lib.hid hln2
      have hes := Lib.hid (show (((R.take (k + 1)).map runT).map fun s => PV.val (.string s)) = (((R.take k).map runT).map fun s => PV.val (.string s)) ++ [PV.val (.string (runT (a, b)))] from by rw [htk.out, List.map_append]; rfl)
      by_cases hk0 : k = 0
      · subst hk0
        simp only [List.take_zero, List.map_nil, nP_nil, nO_nil]
        (refine wlk ?_; intros)
        refine ⟨(1, y + 2, y + 3), ⟨by dsimp only; omega, fun _ => by dsimp only; omega⟩, by dsimp only; omega, ?_, ?_, rfl⟩
        · simp (disch := (first | omega | (simp only [push_cast]; first | done | omega))) only [push_cast, ↓reduceIte, Nat.reduceEqDiff, Nat.reduceBEq, Nat.reduceAdd, Nat.reduceSub, Int.reduceToNat, nP_pos hp2, hln2.out, *]
        · simp (disch := (first | omega | (simp only [push_cast]; first | done | omega))) only [push_cast, ↓reduceIte, Nat.reduceEqDiff, Nat.reduceBEq, Nat.reduceAdd, Nat.reduceSub, Int.reduceToNat, nO_pos hp2, htk.out, List.take_zero, List.map_nil, List.map_cons, List.nil_append, *]
      · have hxy := hxy (by omega)
        have hap : 0 < (((R.take k).map runT).map fun s => PV.val (.string s)).length := by rw [List.length_map, hln]; omega
        have hln3 : (((R.take k).map runT).map fun s => PV.val (.string s)).length = k := by rw [List.length_map, hln]
        simp only [nP_pos hap, nO_pos hap, hln3]
        (refine wlk ?_; intros)
        refine ⟨(k + 1, y + 2, y + 3), ⟨by dsimp only; omega, fun _ => by dsimp only; omega⟩, by dsimp only; omega, ?_, ?_, rfl⟩
        · simp (disch := (first | omega | (simp only [push_cast]; first | done | omega))) only [push_cast, ↓reduceIte, Nat.reduceEqDiff, Nat.reduceBEq, Nat.reduceAdd, Nat.reduceSub, Int.reduceToNat, nP_pos hp2, hln2.out, *]
        · clear hre hln hln3
          simp (disch := (first | omega | (simp only [push_cast]; first | done | omega))) only [push_cast, ↓reduceIte, Nat.reduceEqDiff, Nat.reduceBEq, Nat.reduceAdd, Nat.reduceSub, Int.reduceToNat, nO_pos hp2, hes.out, *]
    · obtain rfl : k = R.length := by omega
      rw [List.take_of_length_le (Nat.le_refl _)]
      by_cases hR0 : R.length = 0
      · have hJ := hJ0.out hR0
        subst hJ
        obtain rfl : R = [] := List.eq_nil_of_length_eq_zero hR0
        simp only [List.map_nil, nP_nil, nO_nil]
        exact wlkF
      · have hxy := hxy (by omega)
        have hap : 0 < ((R.map runT).map fun s => PV.val (.string s)).length := by rw [List.length_map, List.length_map]; omega
        simp only [nP_pos hap, nO_pos hap]
        rw [List.length_map]
        exact wlkF
end Go.Proofs.YtpggpdbipajchaaDoor
namespace Go.Proofs.YtpggpdbipajchaaDoor
open Go.RowKit
set_option linter.all false
theorem chain_up {l : List Int} {k : Nat} : ∀ e, k ≤ e → (∀ j, k ≤ j → j < e → l[j + 1]?.getD 0 = l[j]?.getD 0 + 1) → l[e]?.getD 0 = l[k]?.getD 0 + (e - k : Nat)
  | 0, h, _ => by
    obtain rfl : k = 0 := by omega
    simp
  | e + 1, h, hc => by
    by_cases hk : k = e + 1
    · subst hk; simp
    · rw [hc e (by omega) (by omega), chain_up e (by omega) fun j h1 h2 => hc j h1 (by omega)]
      omega
theorem runT_one (a : Int) : runT (a, a) = itoaS a := if_pos rfl
theorem runT_two {a b : Int} (h : ¬ a = b) : runT (a, b) = (itoaS a ++ ⟨#[45]⟩) ++ itoaS b := if_neg h
theorem ba_assoc (a b c : ByteArray) : a ++ (b ++ c) = (a ++ b) ++ c := gl_ext (by simp [ByteArray.data_append])
theorem textR_le {l : List Int} (h : ∀ x ∈ l, 1 ≤ x ∧ x ≤ 999) (k : Nat) : (textR (l.take k)).size ≤ 11 * l.length := by
  have := textR_size (l := l.take k) fun x hx => h x (List.mem_of_mem_take hx)
  rw [List.length_take] at this
  omega
noncomputable def GSPt : Ctx := { fn := fun f => if f = 30 then some φPagesV else if f = 50 then some φNum else none, io := fun f => none }
theorem GSPt_ok : SoundΓ Tryd.prog GSPt := ⟨(fun f φ h => by
  unfold GSPt at h
  dsimp only at h
  split at h
  · rename_i hf; cases h; subst hf; exact ⟨⟨_, Tryd.func30, rfl, rfl⟩, specPagesV_ok⟩
  split at h
  · rename_i hf; cases h; subst hf; exact ⟨⟨_, Tryd.func50, rfl, rfl⟩, num_ok⟩
  cases h), (fun f φ h => by
  unfold GSPt at h
  dsimp only at h
  cases h), rfl⟩
theorem GSPt_30 (ob : Objs) (ps : List PV) : evCall GSPt ob 30 ps = (ps.mapM (reify false 0 ob fuel)).bind φPagesV := by
  have h : GSPt.fn 30 = some φPagesV := by simp [GSPt]
  unfold evCall
  rw [h]
  cases ps.mapM (reify false 0 ob fuel) <;> rfl
theorem GSPt_50 (ob : Objs) (ps : List PV) : evCall GSPt ob 50 ps = (ps.mapM (reify false 0 ob fuel)).bind φNum := by
  have h : GSPt.fn 50 = some φNum := by simp [GSPt]
  unfold evCall
  rw [h]
  cases ps.mapM (reify false 0 ob fuel) <;> rfl
set_option maxHeartbeats 16000000 in
theorem specPt_ok : Sound Tryd.prog 25 φPt := by
  refine sound_pq mixed GSPt_ok Tryd.func25 rfl 60 rfl [.tmp 2] rfl (by kernel_rfl) fun ps r hr => ?_
  obtain ⟨l, rfl, hq⟩ := F1_some hr
  clear hr
  split at hq
  case isFalse => cases hq
  case isTrue hpre =>
  cases hq
  refine ⟨by simp, ?_⟩
  simp only [dIs, dUs, dSs, dI_e, dU_e, dB_e, dS_e, dFn_e, dL_e, dA2_e, dA3_e, dA4_e, dA5_e]
  have ap1 := φPagesV_ap hpre
  unfold pagesT
  cases hB : pagesB l with
  | false =>
    rw [hB] at ap1
    rw [if_neg (by decide)]
    clear hB
    have gspt_c30 := GSPt_30; have gspt_c50 := GSPt_50
    (refine wlk ?_; intros)
    refine i_loop (α := Unit) mixed (fun s => [(0, .lst false 1 (l.map fun n => .val (.int .i64 n))), (3, .val (.string ⟨#[]⟩)), (4, iv 0)]) (fun _ => []) (fun _ => 0)
      (fun _ => True) (fun _ => 0) (by kernel_rfl) () trivial ?_ trivial rfl ?_
    · exact agr
    rintro - -
    exact wlkF
  | true =>
    have hlen := pages_len hB
    have hmem := pages_mem hB
    have hat := fun i hi => pages_at hB (i := i) hi
    have hszk := textR_le hmem
    rw [hB] at ap1
    rw [if_pos rfl]
    clear hB
    have hrun := fun (k e : Nat) => textR_run (l := l) (k := k) (e := e)
    have hpos := fun (k : Nat) (h1 : 0 < k) (h2 : k ≤ l.length) => textR_pos (l := l) (k := k) h1 h2 fun j hj => by have := hat j hj; omega
    have htr : textR l = textR (l.take l.length) := by rw [List.take_of_length_le (Nat.le_refl _)]
    have ht0 : textR [] = ⟨#[]⟩ := rfl
    rw [htr]
    replace hrun := Lib.hid hrun
    replace hpos := Lib.hid hpos
    clear htr hmem
    have gspt_c30 := GSPt_30; have gspt_c50 := GSPt_50
    (refine wlk ?_; intros)
    refine i_loop (α := Nat) mixed (fun k => [(0, .lst false 1 (l.map fun n => .val (.int .i64 n))), (3, .val (.string (textR (l.take k)))), (4, iv k)]) (fun _ => []) (fun _ => 0)
      (fun k => k ≤ l.length ∧ (0 < k → k < l.length → ¬ l[k - 1]?.getD 0 + 1 = l[k]?.getD 0)) (fun k => l.length - k) (by kernel_rfl) 0 ⟨Nat.zero_le _, fun h => by omega⟩ ?_ trivial rfl ?_
    · simp (disch := (first | omega | (simp only [push_cast]; first | done | omega))) only [push_cast, ↓reduceIte, Nat.reduceEqDiff, Nat.reduceBEq, Nat.reduceAdd, Nat.reduceSub, Int.reduceToNat, ht0, *]
    clear ht0
    rintro k ⟨hk, hb⟩
    have hsk := hszk k
    replace hb := Lib.hid hb
    have hout0 : k = 0 → textR (l.take k) = ⟨#[]⟩ := fun h => by subst h; rfl
    have houtp : 0 < k → ¬ textR (l.take k) = ⟨#[]⟩ := fun h e => by
      have := hpos.out k h hk
      rw [e] at this
      simp [ByteArray.size] at this
    have hrk := hrun.out k
    replace hrk := Lib.hid hrk
    by_cases hkl : k < l.length
    · have hak := hat k hkl
      generalize textR (l.take k) = out at *
      replace hout0 := Lib.hid hout0
      replace houtp := Lib.hid houtp
      (refine wlk ?_; intros)
      refine i_loop (α := Nat) mixed (fun e => [(0, .lst false 1 (l.map fun n => .val (.int .i64 n))), (3, .val (.string out)), (4, iv k), (5, iv e)]) (fun _ => []) (fun _ => 0)
        (fun e => k ≤ e ∧ e < l.length ∧ ∀ j, k ≤ j → j < e → l[j + 1]?.getD 0 = l[j]?.getD 0 + 1) (fun e => l.length - e) (by kernel_rfl) k ⟨Nat.le_refl _, hkl, fun j h1 h2 => by omega⟩ ?_ trivial rfl ?_
      · exact agr
      rintro e ⟨he1, he2, hc⟩
      have hae := hat e he2
      have hae1 := hat (e + 1)
      clear hat
      replace hc := Lib.hid hc
      by_cases hst : e + 1 < l.length ∧ l[e + 1]?.getD 0 = l[e]?.getD 0 + 1
      · obtain ⟨hst1, hst2⟩ := hst
        have hae1 := hae1 hst1
        have hc2 := Lib.hid (show ∀ j, k ≤ j → j < e + 1 → l[j + 1]?.getD 0 = l[j]?.getD 0 + 1 from fun j h1 h2 => by
          by_cases hj : j < e
          · exact hc.out j h1 hj
          · obtain rfl : j = e := by omega
            exact hst2)
        have hst3 : decide (l[e + 1]?.getD 0 = l[e]?.getD 0 + 1) = true := decide_eq_true hst2
        clear hst2
        (refine wlk ?_; intros)
        refine ⟨e + 1, ⟨by omega, hst1, hc2.out⟩, by dsimp only; omega, ?_, trivial, rfl⟩
        exact agr
      · have hex := hrk.out e hkl (fun h => hb.out h hkl) he1 he2 hc.out
        have hsz2 := hszk (e + 1)
        have hup := chain_up e he1 hc.out
        have hbn := Lib.hid (show 0 < e + 1 → e + 1 < l.length → ¬ l[e + 1 - 1]?.getD 0 + 1 = l[e + 1]?.getD 0 from fun _ h1 h2 => hst ⟨h1, by rw [← h2]; rfl⟩)
        have ap2 := φNum_ap (n := l[k]?.getD 0) (by omega) (by omega)
        have ap3 := φNum_ap (n := l[e]?.getD 0) (by omega) (by omega)
        have hz1 := itoaS_size4 (n := l[k]?.getD 0) (by omega) (by omega)
        have hz2 := itoaS_size4 (n := l[e]?.getD 0) (by omega) (by omega)
        have hstop : e + 1 < l.length → ¬ l[e + 1]?.getD 0 = l[e]?.getD 0 + 1 := fun h1 h2 => hst ⟨h1, h2⟩
        have hae2 : e + 1 < l.length → (1 ≤ l[e + 1]?.getD 0 ∧ l[e + 1]?.getD 0 ≤ 999) := hae1
        clear hst hae1 hc hszk
        have hcs : csB = ⟨#[44, 32]⟩ := rfl
        have hcz : (⟨#[44, 32]⟩ : ByteArray).size = 2 := rfl
        have hone : (⟨#[45]⟩ : ByteArray).size = 1 := rfl
        rw [hcs] at hex
        clear hcs
        by_cases hke : e = k
        · subst hke
          rw [runT_one] at hex
          clear hup
          by_cases hk0 : e = 0
          · have h0 := hout0.out hk0
            subst h0
            rw [if_pos hk0] at hex
            clear hk0
            replace hex := Lib.hid hex
            by_cases hle : e + 1 < l.length
            · have hs := hstop hle
              have ha2 := hae2 hle
              clear hstop hae2
              (refine wlk ?_; intros)
              refine ⟨e + 1, ⟨by omega, hbn.out⟩, by dsimp only; omega, ?_, trivial, rfl⟩
              simp (disch := (first | omega | (simp only [push_cast]; first | done | omega))) only [push_cast, ↓reduceIte, Nat.reduceEqDiff, Nat.reduceBEq, Nat.reduceAdd, Nat.reduceSub, Int.reduceToNat, hex.out, *]
            · clear hstop hae2
              (refine wlk ?_; intros)
              refine ⟨e + 1, ⟨by omega, hbn.out⟩, by dsimp only; omega, ?_, trivial, rfl⟩
              simp (disch := (first | omega | (simp only [push_cast]; first | done | omega))) only [push_cast, ↓reduceIte, Nat.reduceEqDiff, Nat.reduceBEq, Nat.reduceAdd, Nat.reduceSub, Int.reduceToNat, hex.out, *]
          · have h0 := houtp.out (by omega)
            rw [if_neg hk0] at hex
            replace hex := Lib.hid hex
            by_cases hle : e + 1 < l.length
            · have hs := hstop hle
              have ha2 := hae2 hle
              clear hstop hae2
              (refine wlk ?_; intros)
              refine ⟨e + 1, ⟨by omega, hbn.out⟩, by dsimp only; omega, ?_, trivial, rfl⟩
              simp (disch := (first | omega | (simp only [push_cast]; first | done | omega))) only [push_cast, ↓reduceIte, Nat.reduceEqDiff, Nat.reduceBEq, Nat.reduceAdd, Nat.reduceSub, Int.reduceToNat, hex.out, *]
            · clear hstop hae2
              (refine wlk ?_; intros)
              refine ⟨e + 1, ⟨by omega, hbn.out⟩, by dsimp only; omega, ?_, trivial, rfl⟩
              simp (disch := (first | omega | (simp only [push_cast]; first | done | omega))) only [push_cast, ↓reduceIte, Nat.reduceEqDiff, Nat.reduceBEq, Nat.reduceAdd, Nat.reduceSub, Int.reduceToNat, hex.out, *]
        · rw [runT_two (by omega), ba_assoc, ba_assoc] at hex
          have hkz : k < e := by omega
          replace hup := Lib.hid hup
          by_cases hk0 : k = 0
          · have h0 := hout0.out hk0
            subst h0
            rw [if_pos hk0] at hex
            clear hk0
            replace hex := Lib.hid hex
            by_cases hle : e + 1 < l.length
            · have hs := hstop hle
              have ha2 := hae2 hle
              clear hstop hae2
              (refine wlk ?_; intros)
              refine ⟨e + 1, ⟨by omega, hbn.out⟩, by dsimp only; omega, ?_, trivial, rfl⟩
              simp (disch := (first | omega | (simp only [push_cast]; first | done | omega))) only [push_cast, ↓reduceIte, Nat.reduceEqDiff, Nat.reduceBEq, Nat.reduceAdd, Nat.reduceSub, Int.reduceToNat, hex.out, *]
            · clear hstop hae2
              (refine wlk ?_; intros)
              refine ⟨e + 1, ⟨by omega, hbn.out⟩, by dsimp only; omega, ?_, trivial, rfl⟩
              simp (disch := (first | omega | (simp only [push_cast]; first | done | omega))) only [push_cast, ↓reduceIte, Nat.reduceEqDiff, Nat.reduceBEq, Nat.reduceAdd, Nat.reduceSub, Int.reduceToNat, hex.out, *]
          · have h0 := houtp.out (by omega)
            rw [if_neg hk0] at hex
            replace hex := Lib.hid hex
            by_cases hle : e + 1 < l.length
            · have hs := hstop hle
              have ha2 := hae2 hle
              clear hstop hae2
              (refine wlk ?_; intros)
              refine ⟨e + 1, ⟨by omega, hbn.out⟩, by dsimp only; omega, ?_, trivial, rfl⟩
              simp (disch := (first | omega | (simp only [push_cast]; first | done | omega))) only [push_cast, ↓reduceIte, Nat.reduceEqDiff, Nat.reduceBEq, Nat.reduceAdd, Nat.reduceSub, Int.reduceToNat, hex.out, *]
            · clear hstop hae2
              (refine wlk ?_; intros)
              refine ⟨e + 1, ⟨by omega, hbn.out⟩, by dsimp only; omega, ?_, trivial, rfl⟩
              simp (disch := (first | omega | (simp only [push_cast]; first | done | omega))) only [push_cast, ↓reduceIte, Nat.reduceEqDiff, Nat.reduceBEq, Nat.reduceAdd, Nat.reduceSub, Int.reduceToNat, hex.out, *]
    · obtain rfl : k = l.length := by omega
      exact wlkF
end Go.Proofs.YtpggpdbipajchaaDoor
namespace Go.Proofs.YtpggpdbipajchaaDoor
open Go.RowKit
set_option linter.all false
theorem wordB_letters {s : ByteArray} (h : wordB s = true) : (∀ j, j < s.size → 97 ≤ at8 s j ∧ at8 s j ≤ 122) ∧ 1 ≤ s.size ∧ s.size ≤ 20 := by
  unfold wordB at h
  rw [Bool.and_eq_true, List.all_eq_true] at h
  refine ⟨fun j hj => inB_iff.1 (h.1 j (List.mem_range.2 hj)), ?_⟩
  have := inB_iff.1 h.2
  omega
end Go.Proofs.YtpggpdbipajchaaDoor
namespace Go.Proofs.YtpggpdbipajchaaDoor
open Go.RowKit
set_option linter.all false
def insU (x : ByteArray) : LS → LS
  | [] => [x]
  | y :: r => if ltB x y = true then x :: y :: r else if ltB y x = true then y :: insU x r else y :: r
theorem insU_mem {x z : ByteArray} : ∀ {r : LS}, z ∈ insU x r ↔ z = x ∨ z ∈ r
  | [] => by simp [insU]
  | y :: r => by
    unfold insU
    split
    · simp
    · split
      · rw [List.mem_cons, insU_mem (r := r), List.mem_cons]
        constructor
        · rintro (h | h | h)
          · exact .inr (.inl h)
          · exact .inl h
          · exact .inr (.inr h)
        · rintro (h | h | h)
          · exact .inr (.inl h)
          · exact .inl h
          · exact .inr (.inr h)
      · rename_i h1 h2
        have : x = y := by
          rcases ltB_tri x y with h | h | h
          · exact absurd h h1
          · exact h
          · exact absurd h h2
        subst this
        simp
abbrev Asc (l : LS) : Prop := l.Pairwise fun a b => ltB a b = true
theorem insU_asc {x : ByteArray} : ∀ {r : LS}, Asc r → Asc (insU x r)
  | [], _ => List.pairwise_singleton _ _
  | y :: r, h => by
    obtain ⟨h1, h2⟩ := List.pairwise_cons.1 h
    unfold insU
    split
    · rename_i hx
      refine List.pairwise_cons.2 ⟨fun z hz => ?_, h⟩
      rcases List.mem_cons.1 hz with rfl | hz
      · exact hx
      · exact ltB_trans hx (h1 z hz)
    · split
      · rename_i hx hy
        refine List.pairwise_cons.2 ⟨fun z hz => ?_, insU_asc h2⟩
        rcases insU_mem.1 hz with rfl | hz
        · exact hy
        · exact h1 z hz
      · exact h
def wordsU (l : List W2) : LS := l.foldr (fun x r => insU x.1 r) []
theorem wordsU_mem {l : List W2} {z : ByteArray} : z ∈ wordsU l ↔ ∃ x ∈ l, x.1 = z := by
  unfold wordsU
  induction l with
  | nil => simp
  | cons y l ih =>
    rw [List.foldr_cons, insU_mem, ih]
    simp only [List.mem_cons]
    constructor
    · rintro (h | ⟨x, h1, h2⟩)
      · exact ⟨y, .inl rfl, h.symm⟩
      · exact ⟨x, .inr h1, h2⟩
    · rintro ⟨x, h1 | h1, h2⟩
      · exact .inl (by rw [← h2, h1])
      · exact .inr ⟨x, h1, h2⟩
theorem wordsU_asc (l : List W2) : Asc (wordsU l) := by
  unfold wordsU
  induction l with
  | nil => exact List.Pairwise.nil
  | cons y l ih => exact insU_asc ih
theorem asc_eq {l l' : LS} (h : Asc l) (h' : Asc l') (hm : ∀ x, x ∈ l ↔ x ∈ l') : l = l' :=
  asc_unique (R := fun a b : ByteArray => ltB a b = true) (fun a q => by rw [ltB_irr] at q; cases q) (fun _ _ _ => ltB_trans) h h' hm
theorem insU_len (x : ByteArray) : ∀ r : LS, (insU x r).length ≤ r.length + 1
  | [] => Nat.le_refl _
  | y :: r => by
    unfold insU
    split
    · simp
    · split
      · have := insU_len x r
        simp only [List.length_cons]
        omega
      · simp
theorem wordsU_len (l : List W2) : (wordsU l).length ≤ l.length := by
  unfold wordsU
  induction l with
  | nil => exact Nat.le_refl _
  | cons y l ih =>
    have := insU_len y.1 (l.foldr (fun x r => insU x.1 r) [])
    rw [List.foldr_cons, List.length_cons]
    omega
def hasP (l : List W2) (w : ByteArray) (p : Int) : Bool := l.any fun x => decide (x.1 = w ∧ x.2 = p)
def pagesN (l : List W2) (w : ByteArray) (n : Nat) : List Int := ((List.range n).filter fun k : Nat => hasP l w ((k : Int) + 1)).map fun k : Nat => (k : Int) + 1
def pagesU (l : List W2) (w : ByteArray) : List Int := pagesN l w 999
theorem pagesN_yes {l : List W2} {w : ByteArray} {n : Nat} (h : hasP l w ((n : Int) + 1) = true) : pagesN l w (n + 1) = pagesN l w n ++ [(n : Int) + 1] := by
  simp [pagesN, List.range_succ, List.filter_append, h]
theorem pagesN_no {l : List W2} {w : ByteArray} {n : Nat} (h : hasP l w ((n : Int) + 1) = false) : pagesN l w (n + 1) = pagesN l w n := by
  simp [pagesN, List.range_succ, List.filter_append, h]
theorem pagesN_mem {l : List W2} {w : ByteArray} {n : Nat} {p : Int} : p ∈ pagesN l w n ↔ (1 ≤ p ∧ p ≤ n) ∧ ∃ x ∈ l, x.1 = w ∧ x.2 = p := by
  unfold pagesN hasP
  simp only [List.mem_map, List.mem_filter, List.mem_range, List.any_eq_true, decide_eq_true_eq]
  constructor
  · rintro ⟨k, ⟨h1, x, h2, h3, h4⟩, rfl⟩
    exact ⟨by omega, x, h2, h3, h4⟩
  · rintro ⟨h1, x, h2, h3, h4⟩
    exact ⟨p.toNat - 1, ⟨by omega, x, h2, h3, by omega⟩, by omega⟩
theorem pagesN_asc (l : List W2) (w : ByteArray) : ∀ n, (pagesN l w n).Pairwise (· < ·)
  | 0 => List.Pairwise.nil
  | n + 1 => by
    cases h : hasP l w ((n : Int) + 1) with
    | true =>
      rw [pagesN_yes h, List.pairwise_append]
      refine ⟨pagesN_asc l w n, List.pairwise_singleton _ _, fun a ha b hb => ?_⟩
      rw [List.mem_singleton.1 hb]
      have := (pagesN_mem.1 ha).1
      omega
    | false =>
      rw [pagesN_no h]
      exact pagesN_asc l w n
theorem ascI_eq {l l' : List Int} (h : l.Pairwise (· < ·)) (h' : l'.Pairwise (· < ·)) (hm : ∀ x, x ∈ l ↔ x ∈ l') : l = l' :=
  asc_unique (R := fun a b : Int => a < b) (fun a => Int.lt_irrefl a) (fun _ _ _ => Int.lt_trans) h h' hm
theorem nodup_len : ∀ {l m : List Int}, l.Nodup → (∀ x ∈ l, x ∈ m) → l.length ≤ m.length
  | [], m, _, _ => Nat.zero_le _
  | x :: l, m, h, hm => by
    obtain ⟨a, b, rfl⟩ := List.append_of_mem (hm x (by simp))
    obtain ⟨h1, h2⟩ := List.nodup_cons.1 h
    have := nodup_len (m := a ++ b) h2 fun y hy => by
      have h3 := hm y (by simp [hy])
      rcases List.mem_append.1 h3 with h4 | h4
      · exact List.mem_append.2 (.inl h4)
      · rcases List.mem_cons.1 h4 with h5 | h5
        · subst h5; exact absurd hy h1
        · exact List.mem_append.2 (.inr h5)
    simp only [List.length_append, List.length_cons] at this ⊢
    omega
theorem asc_len : ∀ {l : List Int} {m : List Int}, l.Pairwise (· < ·) → (∀ x ∈ l, x ∈ m) → l.length ≤ m.length := by
  intro l m h hm
  have hn : l.Nodup := h.imp fun {a b} h e => by omega
  exact nodup_len hn hm
theorem pagesN_len {l : List W2} {w : ByteArray} {n : Nat} : (pagesN l w n).length ≤ l.length := by
  have := asc_len (m := l.map (·.2)) (pagesN_asc l w n) fun x hx => by
    obtain ⟨-, y, h1, -, h2⟩ := pagesN_mem.1 hx
    exact List.mem_map.2 ⟨y, h1, h2⟩
  simpa using this
theorem pagesU_valid {l : List W2} (h : l.length ≤ 30) (w : ByteArray) : pagesB (pagesU l w) = true := by
  rw [pagesB_iff]
  have hl := @pagesN_len l w 999
  have ha := pagesN_asc l w 999
  have hm : ∀ p ∈ pagesN l w 999, 1 ≤ p ∧ p ≤ 999 := fun p hp => by have := (pagesN_mem.1 hp).1; omega
  unfold pagesU
  generalize pagesN l w 999 = P at *
  refine ⟨fun i hi => ⟨?_, fun h0 => ?_⟩, by omega⟩
  · rw [List.getElem?_eq_getElem hi, Option.getD_some]
    exact hm _ (List.getElem_mem hi)
  · rw [List.getElem?_eq_getElem hi, List.getElem?_eq_getElem (show i - 1 < P.length by omega), Option.getD_some, Option.getD_some]
    exact List.pairwise_iff_getElem.1 ha (i - 1) i (by omega) hi (by omega)
def lineU (l : List W2) (w : ByteArray) : ByteArray := (w ++ ⟨#[32]⟩) ++ pagesT (pagesU l w)
def idxR (l : List W2) : LS := (wordsU l).map (lineU l)
def indexR (l : List W2) : LS := if indexB l = true then idxR l else []
theorem indexB_iff {l : List W2} : indexB l = true ↔ l.length ≤ 30 ∧ ∀ x ∈ l, wordB x.1 = true ∧ 1 ≤ x.2 ∧ x.2 ≤ 999 := by
  unfold indexB badW
  simp only [Bool.and_eq_true, decide_eq_true_eq, Bool.not_eq_true', List.any_eq_false, Bool.or_eq_true, Bool.not_eq_true', not_or, Bool.not_eq_false, inB_iff]
structure NextI (l : List W2) (last next : ByteArray) (k : Nat) : Prop where
  none : next = ⟨#[]⟩ → ∀ j, j < k → ltB last (l[j]?.getD w0).1 = false
  some : ¬ next = ⟨#[]⟩ → ltB last next = true ∧ (∃ j, j < k ∧ (l[j]?.getD w0).1 = next) ∧ ∀ j, j < k → ltB last (l[j]?.getD w0).1 = true → ltB (l[j]?.getD w0).1 next = false
theorem NextI.zero (l : List W2) (last : ByteArray) : NextI l last ⟨#[]⟩ 0 := ⟨fun _ j hj => by omega, fun h => absurd rfl h⟩
theorem NextI.keep {l : List W2} {last next : ByteArray} {k : Nat} (h : NextI l last next k) (hc : ltB last (l[k]?.getD w0).1 = false ∨ (¬ next = ⟨#[]⟩ ∧ ltB (l[k]?.getD w0).1 next = false)) : NextI l last next (k + 1) := by
  refine ⟨fun e j hj => ?_, fun e => ?_⟩
  · by_cases h1 : j < k
    · exact h.none e j h1
    · obtain rfl : j = k := by omega
      rcases hc with hc | hc
      · exact hc
      · exact absurd e hc.1
  · obtain ⟨h1, ⟨i, h2, h3⟩, h4⟩ := h.some e
    refine ⟨h1, ⟨i, by omega, h3⟩, fun j hj hl => ?_⟩
    by_cases h5 : j < k
    · exact h4 j h5 hl
    · obtain rfl : j = k := by omega
      rcases hc with hc | hc
      · rw [hc] at hl; cases hl
      · exact hc.2
theorem NextI.take {l : List W2} {last next : ByteArray} {k : Nat} (h : NextI l last next k) (h0 : ¬ (l[k]?.getD w0).1 = ⟨#[]⟩) (h1 : ltB last (l[k]?.getD w0).1 = true) (h2 : next = ⟨#[]⟩ ∨ ltB (l[k]?.getD w0).1 next = true) : NextI l last (l[k]?.getD w0).1 (k + 1) := by
  refine ⟨fun e => absurd e h0, fun _ => ⟨h1, ⟨k, by omega, rfl⟩, fun j hj hl => ?_⟩⟩
  by_cases h5 : j < k
  · rcases h2 with h2 | h2
    · have := h.none h2 j h5
      rw [this] at hl; cases hl
    · by_cases hn : next = ⟨#[]⟩
      · have := h.none hn j h5
        rw [this] at hl; cases hl
      · have h6 := (h.some hn).2.2 j h5 hl
        cases h7 : ltB (l[j]?.getD w0).1 (l[k]?.getD w0).1 with
        | false => rfl
        | true => rw [ltB_trans h7 h2] at h6; cases h6
  · obtain rfl : j = k := by omega
    exact ltB_irr _
theorem ltB_nil {a : ByteArray} (h : ¬ a = ⟨#[]⟩) : ltB ⟨#[]⟩ a = true := by
  rcases ltB_tri ⟨#[]⟩ a with h1 | h1 | h1
  · exact h1
  · exact absurd h1.symm h
  · unfold ltB at h1
    rw [show (⟨#[]⟩ : ByteArray).data.toList = [] from rfl, bl_nil] at h1
    cases h1
theorem getW {l : List W2} {j : Nat} (h : j < l.length) : l[j]?.getD w0 ∈ l := by
  rw [List.getElem?_eq_getElem h, Option.getD_some]
  exact List.getElem_mem h
theorem NextI.done {l : List W2} {k : Nat} {next : ByteArray} (hv : ∀ x ∈ l, ¬ x.1 = ⟨#[]⟩) (h : NextI l (if k = 0 then ⟨#[]⟩ else (wordsU l)[k - 1]?.getD ⟨#[]⟩) next l.length) (hk : k ≤ (wordsU l).length) :
    (next = ⟨#[]⟩ ↔ k = (wordsU l).length) ∧ (k < (wordsU l).length → next = (wordsU l)[k]?.getD ⟨#[]⟩) := by
  have ha := wordsU_asc l
  have hm : ∀ z, z ∈ wordsU l ↔ ∃ x ∈ l, x.1 = z := fun z => wordsU_mem
  generalize wordsU l = W at *
  have hlast : ∀ i, k ≤ i → (hi : i < W.length) → ltB (if k = 0 then ⟨#[]⟩ else W[k - 1]?.getD ⟨#[]⟩) W[i] = true := fun i h1 hi => by
    split
    · obtain ⟨x, hx, he⟩ := (hm _).1 (List.getElem_mem hi)
      exact ltB_nil (by rw [← he]; exact hv x hx)
    · rw [List.getElem?_eq_getElem (show k - 1 < W.length by omega), Option.getD_some]
      exact List.pairwise_iff_getElem.1 ha (k - 1) i (by omega) hi (by omega)
  have hfind : ∀ i, (hi : i < W.length) → ∃ j, j < l.length ∧ (l[j]?.getD w0).1 = W[i] := fun i hi => by
    obtain ⟨x, hx, he⟩ := (hm _).1 (List.getElem_mem hi)
    obtain ⟨j, hj, rfl⟩ := List.getElem_of_mem hx
    exact ⟨j, hj, by rw [List.getElem?_eq_getElem hj, Option.getD_some]; exact he⟩
  by_cases hn : next = ⟨#[]⟩
  · have hk2 : k = W.length := by
      rcases Nat.lt_or_ge k W.length with hlt | hge
      · obtain ⟨j, hj, he⟩ := hfind k hlt
        have h1 := h.none hn j hj
        rw [he, hlast k (Nat.le_refl _) hlt] at h1
        cases h1
      · omega
    exact ⟨⟨fun _ => hk2, fun _ => hn⟩, fun q => by omega⟩
  · obtain ⟨h1, ⟨j, hj, h2⟩, h3⟩ := h.some hn
    have hmem : next ∈ W := (hm _).2 ⟨_, getW hj, h2⟩
    obtain ⟨i, hi, he⟩ := List.getElem_of_mem hmem
    have hki : k ≤ i := by
      rcases Nat.lt_or_ge i k with hlt | hge
      · rw [if_neg (by omega), List.getElem?_eq_getElem (show k - 1 < W.length by omega), Option.getD_some, ← he] at h1
        by_cases e : i = k - 1
        · subst e
          rw [ltB_irr] at h1; cases h1
        · have := List.pairwise_iff_getElem.1 ha i (k - 1) hi (by omega) (by omega)
          rw [ltB_asymm this] at h1; cases h1
      · exact hge
    have hik : i = k := by
      rcases Nat.lt_or_ge k i with hlt | hge
      · obtain ⟨j2, hj2, he2⟩ := hfind k (by omega)
        have h4 := h3 j2 hj2 (by rw [he2]; exact hlast k (Nat.le_refl _) (by omega))
        have := List.pairwise_iff_getElem.1 ha k i (by omega) hi hlt
        rw [he2, ← he, this] at h4
        cases h4
      · omega
    subst hik
    refine ⟨⟨fun q => absurd q hn, fun q => by omega⟩, fun _ => ?_⟩
    rw [List.getElem?_eq_getElem hi, Option.getD_some, he]
end Go.Proofs.YtpggpdbipajchaaDoor
namespace Go.Proofs.YtpggpdbipajchaaDoor
open Go.RowKit
set_option linter.all false
theorem wordsU_word {l : List W2} (h : indexB l = true) : ∀ w ∈ wordsU l, wordB w = true := fun w hw => by
  obtain ⟨x, hx, rfl⟩ := wordsU_mem.1 hw
  exact ((indexB_iff.1 h).2 x hx).1
theorem idxR_len (l : List W2) : (idxR l).length ≤ l.length := by
  unfold idxR
  rw [List.length_map]
  exact wordsU_len l
theorem pagesT_size30 {P : List Int} (h : pagesB P = true) : (pagesT P).size ≤ 330 := by
  unfold pagesT
  rw [if_pos h]
  have := textR_size (pages_mem h)
  have := pages_len h
  omega
theorem lineU_size {l : List W2} (h : indexB l = true) {w : ByteArray} (hw : w ∈ wordsU l) : (lineU l w).size ≤ 360 := by
  have h1 := (wordB_letters (wordsU_word h w hw)).2.2
  have h2 := pagesT_size30 (pagesU_valid (indexB_iff.1 h).1 w)
  unfold lineU
  rw [ByteArray.size_append, ByteArray.size_append, show (⟨#[32]⟩ : ByteArray).size = 1 from rfl]
  omega
end Go.Proofs.YtpggpdbipajchaaDoor
namespace Go.Proofs.YtpggpdbipajchaaDoor
open Go.RowKit
set_option linter.all false
noncomputable def φIx : Fun := F1 dWs fun l => if okW l then some (.lst true 1 ((indexR l).map fun s => .val (.string s))) else none
theorem φIx_ap {l : List W2} (h : okW l) : φIx [.lst false 2 (l.map fun x => .agg [.val (.string x.1), .val (.int .i64 x.2)])] = some (.lst true 1 ((indexR l).map fun s => .val (.string s))) := (F1_ap (A := dWs) l).trans (if_pos h)
def lastU (l : List W2) (k : Nat) : ByteArray := if k = 0 then ⟨#[]⟩ else (wordsU l)[k - 1]?.getD ⟨#[]⟩
theorem idx_take {l : List W2} {k : Nat} (h : k < (wordsU l).length) : (idxR l).take (k + 1) = (idxR l).take k ++ [lineU l ((wordsU l)[k]?.getD ⟨#[]⟩)] := by
  unfold idxR
  rw [List.map_take.symm, List.map_take.symm, List.take_succ_eq_append_getElem h, List.map_append, List.getElem?_eq_getElem h, Option.getD_some]
  rfl
def fndU (l : List W2) (w : ByteArray) (p : Int) (j : Nat) : Bool := hasP (l.take j) w p
theorem fndU_succ {l : List W2} {w : ByteArray} {p : Int} {j : Nat} (h : j < l.length) : fndU l w p (j + 1) = (fndU l w p j || decide ((l[j]?.getD w0).1 = w ∧ (l[j]?.getD w0).2 = p)) := by
  unfold fndU hasP
  rw [List.take_succ_eq_append_getElem h, List.any_append, List.getElem?_eq_getElem h, Option.getD_some]
  simp
noncomputable def GIxS : Ctx := { fn := fun f => if f = 76 then some φIndexValid else if f = 25 then some φPt else none, io := fun f => none }
theorem GIxS_ok : SoundΓ Tryd.prog GIxS := ⟨(fun f φ h => by
  unfold GIxS at h
  dsimp only at h
  split at h
  · rename_i hf; cases h; subst hf; exact ⟨⟨_, Tryd.func76, rfl, rfl⟩, specIndexValid_ok⟩
  split at h
  · rename_i hf; cases h; subst hf; exact ⟨⟨_, Tryd.func25, rfl, rfl⟩, specPt_ok⟩
  cases h), (fun f φ h => by
  unfold GIxS at h
  dsimp only at h
  cases h), rfl⟩
theorem GIxS_76 (ob : Objs) (ps : List PV) : evCall GIxS ob 76 ps = (ps.mapM (reify false 0 ob fuel)).bind φIndexValid := by
  have h : GIxS.fn 76 = some φIndexValid := by simp [GIxS]
  unfold evCall
  rw [h]
  cases ps.mapM (reify false 0 ob fuel) <;> rfl
theorem GIxS_25 (ob : Objs) (ps : List PV) : evCall GIxS ob 25 ps = (ps.mapM (reify false 0 ob fuel)).bind φPt := by
  have h : GIxS.fn 25 = some φPt := by simp [GIxS]
  unfold evCall
  rw [h]
  cases ps.mapM (reify false 0 ob fuel) <;> rfl
set_option maxHeartbeats 32000000 in
set_option maxRecDepth 100000 in
theorem specIx_ok : Sound Tryd.prog 39 φIx := by
  refine sound_pq mixed GIxS_ok Tryd.func39 rfl 93 rfl [.tmp 2] rfl (by kernel_rfl) fun ps r hr => ?_
  obtain ⟨l, rfl, hq⟩ := F1_some hr
  clear hr
  split at hq
  case isFalse => cases hq
  case isTrue hpre =>
  cases hq
  refine ⟨by simp, ?_⟩
  simp only [dIs, dUs, dSs, dI_e, dU_e, dB_e, dS_e, dFn_e, dL_e, dA2_e, dA3_e, dA4_e, dA5_e]
  have apv := φIndexValid_ap hpre
  have hl0 := hpre.1
  unfold indexR
  cases hv : indexB l with
  | false =>
    rw [hv] at apv
    clear hpre hv
    rw [if_neg (by decide)]
    have gixs_c76 := GIxS_76; have gixs_c25 := GIxS_25
    (refine wlk ?_; intros)
    refine i_loop (α := Unit) mixed (fun _ => [(0, .lst false 2 (l.map fun x => .agg [.val (.string x.1), .val (.int .i64 x.2)])), (3, .row 0 1 0 0)]) (fun _ => [(0, 9, 1, [])]) (fun _ => 1) (fun _ => True) (fun _ => 0) (by kernel_rfl) () trivial ?_ ?_ rfl ?_
    · exact agr
    · exact agr
    rintro _ _
    exact wlkF
  | true =>
    rw [hv] at apv
    rw [if_pos rfl]
    obtain ⟨hl30, hall⟩ := indexB_iff.1 hv
    have hne : ∀ x ∈ l, ¬ x.1 = ⟨#[]⟩ := fun x hx e => by
      have h1 := (wordB_letters (hall x hx).1).2.1
      rw [e] at h1
      exact absurd h1 (by decide)
    have hwl := wordsU_len l
    have hnx := fun next (k : Nat) hk h => NextI.done (l := l) (k := k) (next := next) hne h hk
    have hsz : ∀ j : Nat, (l[j]?.getD w0).1.size ≤ 20 := fun j => by
      by_cases hj : j < l.length
      · exact (wordB_letters (hall _ (getW hj)).1).2.2
      · rw [List.getElem?_eq_none (by omega)]; decide
    have hne2 : ∀ j : Nat, j < l.length → ¬ (l[j]?.getD w0).1 = ⟨#[]⟩ := fun j hj => hne _ (getW hj)
    have hlz : ∀ k : Nat, k < (wordsU l).length → (lineU l ((wordsU l)[k]?.getD ⟨#[]⟩)).size ≤ 360 ∧ ((wordsU l)[k]?.getD ⟨#[]⟩).size ≤ 20 := fun k hk => by
      rw [List.getElem?_eq_getElem hk, Option.getD_some]
      exact ⟨lineU_size hv (List.getElem_mem hk), (wordB_letters (wordsU_word hv _ (List.getElem_mem hk))).2.2⟩
    have hpz : ∀ w, (pagesT (pagesU l w)).size ≤ 330 := fun w => pagesT_size30 (pagesU_valid hl30 w)
    have apt := fun w => φPt_ap (l := pagesU l w) (by have := @pagesN_len l w 999; show (pagesN l w 999).length ≤ _; omega)
    have hpl := fun w n => @pagesN_len l w n
    clear hpre hv hall hne
    replace hnx := Lib.hid hnx
    replace apt := Lib.hid apt
    replace hlz := Lib.hid hlz
    replace hpz := Lib.hid hpz
    have hil : (idxR l).length = (wordsU l).length := by unfold idxR; rw [List.length_map]
    have gixs_c76 := GIxS_76; have gixs_c25 := GIxS_25
    (refine wlk ?_; intros)
    refine i_loop (α := Nat × Nat × Nat) mixed (fun i => [(0, .lst false 2 (l.map fun x => .agg [.val (.string x.1), .val (.int .i64 x.2)])), (3, .row i.2.1 1 0 i.1), (4, .val (.string (lastU l i.1)))]) (fun i => [(i.2.1, 9, 1, ((idxR l).take i.1).map fun s => .val (.string s))])
      (fun i => i.2.2) (fun i => i.1 ≤ (wordsU l).length ∧ i.2.1 < i.2.2) (fun i => (wordsU l).length + 1 - i.1) (by kernel_rfl) (0, 0, 1) ⟨Nat.zero_le _, by decide⟩ ?_ ?_ rfl ?_
    · have h0 : lastU l 0 = ⟨#[]⟩ := rfl
      exact agi
    · have h0 : (idxR l).take 0 = [] := rfl
      exact agr
    rintro ⟨k, o, nx⟩ ⟨hk, ho⟩
    dsimp only at hk ho
    have hlen : ((idxR l).take k).length = k := by rw [List.length_take]; omega
    generalize hLS : lastU l k = last at *
    replace hLS := Lib.hid hLS
    (refine wlk ?_; intros)
    refine i_loop (α := Nat × ByteArray) mixed (fun i => [(0, .lst false 2 (l.map fun x => .agg [.val (.string x.1), .val (.int .i64 x.2)])), (3, .row o 1 0 k), (4, .val (.string last)), (5, .val (.string i.2)), (6, iv i.1)]) (fun i => [(o, 9, 1, ((idxR l).take k).map fun s => .val (.string s))])
      (fun _ => nx) (fun i => i.1 ≤ l.length ∧ NextI l last i.2 i.1) (fun i => l.length - i.1) (by kernel_rfl) (0, ⟨#[]⟩) ⟨Nat.zero_le _, NextI.zero l last⟩ ?_ ?_ rfl ?_
    · exact agi
    · exact agr
    rintro ⟨j, next⟩ ⟨hj, hN⟩
    dsimp only at hj hN
    replace hN := Lib.hid hN
    by_cases hjl : j < l.length
    · have hnej := hne2 j hjl
      have hkeep := fun h => hN.out.keep (k := j) h
      have htake := fun h1 h2 => hN.out.take (k := j) hnej h1 h2
      replace hkeep := Lib.hid hkeep
      replace htake := Lib.hid htake
      generalize hxx : l[j]?.getD w0 = xx at *
      obtain ⟨x1, x2⟩ := xx
      dsimp only at hnej hkeep htake
      clear hne2 hsz
      cases c1 : ltB last x1 with
      | false =>
        have hr := Lib.hid (hkeep.out (.inl c1))
        (refine wlk ?_; intros)
        refine ⟨(j + 1, next), ⟨by dsimp only; omega, hr.out⟩, by dsimp only; omega, ?_, ?_, rfl⟩
        · exact agi
        · exact agr
      | true =>
        by_cases c2 : next = ⟨#[]⟩
        · have hr := Lib.hid (htake.out c1 (.inl c2))
          subst c2
          (refine wlk ?_; intros)
          refine ⟨(j + 1, x1), ⟨by dsimp only; omega, hr.out⟩, by dsimp only; omega, ?_, ?_, rfl⟩
          · exact agi
          · exact agr
        · cases c3 : ltB x1 next with
          | false =>
            have hr := Lib.hid (hkeep.out (.inr ⟨c2, c3⟩))
            (refine wlk ?_; intros)
            refine ⟨(j + 1, next), ⟨by dsimp only; omega, hr.out⟩, by dsimp only; omega, ?_, ?_, rfl⟩
            · exact agi
            · exact agr
          | true =>
            have hr := Lib.hid (htake.out c1 (.inr c3))
            (refine wlk ?_; intros)
            refine ⟨(j + 1, x1), ⟨by dsimp only; omega, hr.out⟩, by dsimp only; omega, ?_, ?_, rfl⟩
            · exact agi
            · exact agr
    · obtain rfl : j = l.length := by omega
      have hd := hnx.out next k hk (by
        have h1 := hN.out
        rw [← hLS.out] at h1
        exact h1)
      clear hne2
      by_cases hkw : k = (wordsU l).length
      · have hnn := hd.1.2 hkw
        subst hnn
        have ht : (idxR l).take k = idxR l := List.take_of_length_le (by omega)
        rw [ht] at *
        clear hd
        subst hkw
        exact wlkF
      · have hnn := hd.2 (by omega)
        have hn0 : ¬ next = ⟨#[]⟩ := fun e => hkw (hd.1.1 e)
        have hlk := hlz.out k (by omega)
        rw [← hnn] at hlk
        have htk := idx_take (l := l) (k := k) (by omega)
        rw [← hnn] at htk
        have hls : lastU l (k + 1) = next := by
          unfold lastU
          rw [if_neg (by omega), Nat.add_sub_cancel]
          exact hnn.symm
        have hlu : lineU l next = (next ++ ⟨#[32]⟩) ++ pagesT (pagesU l next) := rfl
        have apn := apt.out next
        have hpn := hpz.out next
        have hplen := hpl next 999
        replace htk := Lib.hid htk
        replace hls := Lib.hid hls
        replace hlu := Lib.hid hlu
        clear hd hnn hlz
        (refine wlk ?_; intros)
        refine i_loop (α := Nat × Nat × Nat) mixed (fun i => [(0, .lst false 2 (l.map fun x => .agg [.val (.string x.1), .val (.int .i64 x.2)])), (3, .row o 1 0 k), (5, .val (.string next)), (7, .row i.2.1 1 0 (pagesN l next i.1).length), (8, iv ((i.1 : Int) + 1))]) (fun i => [(o, 9, 1, ((idxR l).take k).map fun s => .val (.string s)), (i.2.1, 3, 1, (pagesN l next i.1).map fun n => .val (.int .i64 n))])
          (fun i => i.2.2) (fun i => i.1 ≤ 999 ∧ o < i.2.1 ∧ i.2.1 < i.2.2) (fun i => 999 - i.1) (by kernel_rfl) (0, nx, nx + 1) ⟨Nat.zero_le _, ho, by dsimp only; omega⟩ ?_ ?_ rfl ?_
        · have h0 : (pagesN l next 0).length = 0 := rfl
          exact agi
        · have h0 : pagesN l next 0 = [] := rfl
          exact agr
        rintro ⟨n, q, ny⟩ ⟨hn, hq, hqn⟩
        dsimp only at hn hq hqn
        have hoq : ¬ o = q := by omega
        have hqo : ¬ q = o := by omega
        have hpn2 := hpl next n
        by_cases hn9 : n < 999
        · have hyes := fun h => pagesN_yes (l := l) (w := next) (n := n) h
          have hno := fun h => pagesN_no (l := l) (w := next) (n := n) h
          replace hyes := Lib.hid hyes
          replace hno := Lib.hid hno
          (refine wlk ?_; intros)
          refine i_loop (α := Nat) mixed (fun j => [(0, .lst false 2 (l.map fun x => .agg [.val (.string x.1), .val (.int .i64 x.2)])), (3, .row o 1 0 k), (5, .val (.string next)), (7, .row q 1 0 (pagesN l next n).length), (8, iv ((n : Int) + 1)), (9, bv (fndU l next ((n : Int) + 1) j)), (10, iv j)]) (fun i => [(o, 9, 1, ((idxR l).take k).map fun s => .val (.string s)), (q, 3, 1, (pagesN l next n).map fun n => .val (.int .i64 n))])
            (fun _ => ny) (fun j => j ≤ l.length) (fun j => l.length - j) (by kernel_rfl) 0 (Nat.zero_le _) ?_ ?_ rfl ?_
          · have h0 : fndU l next ((n : Int) + 1) 0 = false := rfl
            exact agi
          · exact agr
          intro j hj
          by_cases hjl : j < l.length
          · have hfs := fndU_succ (w := next) (p := (n : Int) + 1) hjl
            replace hfs := Lib.hid hfs
            generalize hxx : l[j]?.getD w0 = xx at *
            obtain ⟨x1, x2⟩ := xx
            generalize fndU l next ((n : Int) + 1) j = F at *
            cases F with
            | true =>
              (refine wlk ?_; intros)
              refine ⟨j + 1, by dsimp only; omega, by dsimp only; omega, ?_, ?_, rfl⟩
              · dsimp only
                rw [hfs.out, Bool.true_or]
                exact agi
              · exact agr
            | false =>
              by_cases c1 : x1 = next
              · by_cases c2 : x2 = (n : Int) + 1
                · have hdd : decide (x1 = next ∧ x2 = (n : Int) + 1) = true := decide_eq_true ⟨c1, c2⟩
                  replace hdd := Lib.hid hdd
                  (refine wlk ?_; intros)
                  refine ⟨j + 1, by dsimp only; omega, by dsimp only; omega, ?_, ?_, rfl⟩
                  · dsimp only
                    rw [hfs.out, Bool.false_or]
                    dsimp only
                    rw [hdd.out]
                    exact agi
                  · exact agr
                · have hdd : decide (x1 = next ∧ x2 = (n : Int) + 1) = false := decide_eq_false fun e => c2 e.2
                  replace hdd := Lib.hid hdd
                  (refine wlk ?_; intros)
                  refine ⟨j + 1, by dsimp only; omega, by dsimp only; omega, ?_, ?_, rfl⟩
                  · dsimp only
                    rw [hfs.out, Bool.false_or]
                    dsimp only
                    rw [hdd.out]
                    exact agi
                  · exact agr
              · have hdd : decide (x1 = next ∧ x2 = (n : Int) + 1) = false := decide_eq_false fun e => c1 e.1
                replace hdd := Lib.hid hdd
                (refine wlk ?_; intros)
                refine ⟨j + 1, by dsimp only; omega, by dsimp only; omega, ?_, ?_, rfl⟩
                · dsimp only
                  rw [hfs.out, Bool.false_or]
                  dsimp only
                  rw [hdd.out]
                  exact agi
                · exact agr
          · obtain rfl : j = l.length := by omega
            have hfa : fndU l next ((n : Int) + 1) l.length = hasP l next ((n : Int) + 1) := by unfold fndU; rw [List.take_length]
            rw [hfa]
            cases hH : hasP l next ((n : Int) + 1) with
            | true =>
              have hy := hyes.out hH
              replace hy := Lib.hid hy
              clear hyes hno hH hfa
              (refine wlk ?_; intros)
              refine ⟨(n + 1, ny + 1, ny + 2), ⟨by dsimp only; omega, by dsimp only; omega, by dsimp only; omega⟩, by dsimp only; omega, ?_, ?_, rfl⟩
              · dsimp only
                rw [hy.out]
                exact agi
              · dsimp only
                rw [hy.out]
                exact agr
            | false =>
              have hy := hno.out hH
              replace hy := Lib.hid hy
              clear hyes hno hH hfa
              (refine wlk ?_; intros)
              refine ⟨(n + 1, q, ny), ⟨by dsimp only; omega, by dsimp only; omega, by dsimp only; omega⟩, by dsimp only; omega, ?_, ?_, rfl⟩
              · dsimp only
                rw [hy.out]
                exact agi
              · dsimp only
                rw [hy.out]
                exact agr
        · obtain rfl : n = 999 := by omega
          have hpU : pagesN l next 999 = pagesU l next := rfl
          rw [hpU] at *
          clear hpU
          generalize pagesU l next = PU at *
          have h32 : (⟨#[32]⟩ : ByteArray).size = 1 := rfl
          (refine wlk ?_; intros)
          refine ⟨(k + 1, ny + 1, ny + 2), ⟨by dsimp only; omega, by dsimp only; omega⟩, by dsimp only; omega, ?_, ?_, rfl⟩
          · dsimp only
            rw [hls.out]
            exact agi
          · dsimp only
            rw [htk.out, hlu.out]
            exact agr
end Go.Proofs.YtpggpdbipajchaaDoor
namespace Go.Proofs.YtpggpdbipajchaaDoor
open Go.RowKit
set_option linter.all false
structure Fgn where
  bk : Nat → Prop
  at_ : World → Prop
  keep : ∀ w w' : World, (∀ i, bk i → w'.heap[i]? = w.heap[i]?) → at_ w → at_ w'
def Fgn.no : Fgn := ⟨fun _ => False, fun _ => True, fun _ _ _ _ => trivial⟩
structure HzC (io : IoS) (w00 w0 : World) (B : Nat) (bk : Nat → Prop) : Prop where
  ne : ∀ i, io.wr i ∨ io.im i ∨ io.it i → ¬ bk i
  lo : ∀ i, io.wr i ∨ io.it i → B ≤ i
  lt : ∀ i, io.wr i → i < w0.heap.size
  hb : ∀ b, bk b → b < w0.heap.size
  sz : B ≤ w0.heap.size
  fr : Fr (fun i => bk i ∨ B ≤ i) w00 w0
  tk : ∀ t ∈ tks, t < B ∧ ¬ bk t
def Zt (P : Program) (N B : Nat) (w00 : World) (s : AS) (σ : Fgn) (a : Act) (w : World) : Prop :=
  (∃ io w0 g, Rel io w0 N g s a w ∧ HzC io w00 w0 B σ.bk) ∧ σ.at_ w
section
variable {P : Program} {N B : Nat} {w00 : World}
theorem HzC.apartI {io : IoS} {w0 : World} {bk : Nat → Prop} (h : HzC io w00 w0 B bk) {g : Gh} {s : AS} {a : Act} {w : World} (hr : Rel io w0 N g s a w) {kk : Bool} {i : Nat} (hi : g.I kk i) : i < w.heap.size ∧ ¬ bk i := by
  refine ⟨hr.lt _ _ hi, ?_⟩
  cases kk with
  | false => exact h.ne i (.inr (.inl (hr.old i hi)))
  | true =>
    rcases hr.new i hi with ⟨h1, _⟩ | h1
    · exact fun e => by have := h.hb i e; omega
    · exact h.ne i (.inr (.inr h1))
theorem HzC.apartO {io : IoS} {w0 : World} {bk : Nat → Prop} (h : HzC io w00 w0 B bk) {g : Gh} {s : AS} {a : Act} {w : World} (hr : Rel io w0 N g s a w) {o : Nat} {c : Nat × Nat × List PV} (ho : s.ob o = some c) : g.β o < w.heap.size ∧ ¬ bk (g.β o) ∧ B ≤ g.β o := by
  obtain ⟨h1, h2, h3, h4⟩ := hr.ob o c ho
  obtain ⟨arr, ha, _⟩ := h4.1
  refine ⟨lt_of_heap ha, ?_, ?_⟩
  · rcases h2 with h2 | h2
    · exact fun e => by have := h.hb _ e; omega
    · exact h.ne _ (.inl h2)
  · rcases h2 with h2 | h2
    · have := h.sz; omega
    · exact h.lo _ (.inl h2)
theorem Rel.rebaseZ {io : IoS} {w0 w w' : World} {bk bk' : Nat → Prop} {g : Gh} {s : AS} {a : Act} (hr : Rel io w0 N g s a w) (hC : HzC io w00 w0 B bk) (hf : Fr bk' w w')
    (h1 : ∀ i, i < w.heap.size → bk' i → bk i) (h2 : ∀ i, bk i → bk' i) (h3 : ∀ b, bk' b → b < w'.heap.size) : ∃ io', Rel io' w' N g s a w' ∧ HzC io' w00 w' B bk' := by
  have hI : ∀ kk i, g.I kk i → w'.heap[i]? = w.heap[i]? := fun kk i hi => by
    obtain ⟨q1, q2⟩ := hC.apartI hr hi
    exact hf.block i q1 fun e => q2 (h1 i q1 e)
  have hsz : B ≤ w.heap.size := Nat.le_trans hC.sz hr.fr.size
  have htk : ∀ t ∈ tks, ¬ bk' t := fun t ht e => (hC.tk t ht).2 (h1 t (by have := (hC.tk t ht).1; omega) e)
  refine ⟨{ wr := fun i => ∃ o, (s.ob o).isSome ∧ i = g.β o, im := g.I false, m := 0, β0 := fun _ => 0, κ0 := fun _ => 0, it := g.I true }, ⟨hr.nt, hr.df, fun t => (hr.tm t).mono (Gh.le_refl g) hI, fun o c ho => ?_, hr.inj, hr.nx, fun kk i hi => Nat.lt_of_lt_of_le (hr.lt kk i hi) hf.size, fun i hi => .inr hi, Fr.refl _ _, fun i hi => hi, ⟨fun o ho => (Nat.not_lt_zero o ho).elim, fun o ho => (Nat.not_lt_zero o ho).elim⟩, fun o ho => False.elim ho, ?_⟩, ⟨fun i hi => ?_, fun i hi => ?_, fun i hi => ?_, h3, Nat.le_trans hsz hf.size, ?_, fun t ht => ⟨(hC.tk t ht).1, htk t ht⟩⟩⟩
  · obtain ⟨k1, k2, k3, k4⟩ := hr.ob o c ho
    obtain ⟨q1, q2, q3⟩ := hC.apartO hr ho
    exact ⟨k1, .inr ⟨o, by simp [ho], rfl⟩, k3, k4.mono (Gh.le_refl g) k1 hI (hf.block _ q1 fun e => q2 (h1 _ q1 e))⟩
  · have t1 : TabF w (fun i => bk' i) := hr.tab.keep hr.fr fun t ht e => htk t ht e
    refine t1.keep hf ?_
    rintro t ht ⟨o, ho, rfl⟩
    obtain ⟨c, hc⟩ := Option.isSome_iff_exists.1 ho
    have := (hC.apartO hr hc).2.2
    have := (hC.tk _ ht).1
    omega
  · rcases hi with ⟨o, ho, rfl⟩ | hi | hi
    · obtain ⟨c, hc⟩ := Option.isSome_iff_exists.1 ho
      obtain ⟨q1, q2, q3⟩ := hC.apartO hr hc
      exact fun e => q2 (h1 _ q1 e)
    · obtain ⟨q1, q2⟩ := hC.apartI hr hi
      exact fun e => q2 (h1 _ q1 e)
    · obtain ⟨q1, q2⟩ := hC.apartI hr hi
      exact fun e => q2 (h1 _ q1 e)
  · rcases hi with ⟨o, ho, rfl⟩ | hi
    · obtain ⟨c, hc⟩ := Option.isSome_iff_exists.1 ho
      exact (hC.apartO hr hc).2.2
    · rcases hr.new i hi with ⟨q, _⟩ | q
      · exact Nat.le_trans hC.sz q
      · exact hC.lo i (.inr q)
  · obtain ⟨o, ho, rfl⟩ := hi
    obtain ⟨c, hc⟩ := Option.isSome_iff_exists.1 ho
    exact Nat.lt_of_lt_of_le (hC.apartO hr hc).1 hf.size
  · have hf1 : Fr (fun i => bk' i ∨ B ≤ i) w0 w := ⟨hr.fr.os, hr.fr.tape, hr.fr.output, hr.fr.size, fun i hi hn => hr.fr.block i hi fun q => hn (.inr (hC.lo i (.inl q)))⟩
    refine ⟨hf.os.trans (hf1.os.trans hC.fr.os), hf.tape.trans (hf1.tape.trans hC.fr.tape), hf.output.trans (hf1.output.trans hC.fr.output), Nat.le_trans hC.fr.size (Nat.le_trans hf1.size hf.size), fun i hi hn => ?_⟩
    have g1 := hC.fr.block i hi fun q => hn (q.imp (h2 i) id)
    have g2 := hf1.block i (Nat.lt_of_lt_of_le hi hC.fr.size) hn
    have g3 := hf.block i (Nat.lt_of_lt_of_le hi (Nat.le_trans hC.fr.size hf1.size)) fun q => hn (.inl q)
    exact g3.trans (g2.trans g1)
theorem Fgn.same {io : IoS} {w0 : World} {σ : Fgn} {g g' : Gh} {s s' : AS} {a a' : Act} {w w' : World} (hC : HzC io w00 w0 B σ.bk) (h1 : Rel io w0 N g s a w) (h2 : Rel io w0 N g' s' a' w') (hM : σ.at_ w) : σ.at_ w' :=
  σ.keep w w' (fun i hi => by
    have q : ∀ {g : Gh} {s : AS} {a : Act} {w : World}, Rel io w0 N g s a w → w.heap[i]? = w0.heap[i]? := fun hr => hr.fr.block i (hC.hb i hi) fun q => hC.ne i (.inl q) hi
    rw [q h1, q h2]) hM
structure HZ (P : Program) (N B : Nat) (w00 : World) (c : Code) (K : X → AS → Fgn → Prop) (s : AS) (σ : Fgn) : Prop where
  go : ∀ a w, Zt P N B w00 s σ a w → ∀ Q : Exit → Act → World → Prop, (∀ x s' σ' a' w', Zt P N B w00 s' σ' a' w' → K x s' σ' → Q x.toExit a' w') → CWp P c Q a w
variable {c c1 c2 : Code} {K : X → AS → Fgn → Prop} {s s' : AS} {σ : Fgn}
theorem HZ.seq (h : HZ P N B w00 c1 (fun x s' σ' => match x with | .normal => HZ P N B w00 c2 K s' σ' | .exit id => K (.exit id) s' σ' | .ret => K .ret s' σ') s σ) : HZ P N B w00 (.seq c1 c2) K s σ := HZ.mk fun a w hs Q hQ => by
  refine wp_seq (CWp.wp (h.go a w hs _ fun x s' σ' a' w' hs' hk => ?_))
  cases x with
  | normal => exact (hk.go a' w' hs' Q hQ).wp
  | exit id => exact hQ _ s' σ' a' w' hs' hk
  | ret => exact hQ _ s' σ' a' w' hs' hk
theorem HZ.block {id : Nat} (h : HZ P N B w00 c (fun x s' σ' => K (x.out id) s' σ') s σ) : HZ P N B w00 (.block id c) K s σ := HZ.mk fun a w hs Q hQ => by
  refine wp_block (CWp.wp (h.go a w hs _ fun x s' σ' a' w' hs' hk => ?_))
  have := hQ _ s' σ' a' w' hs' hk
  cases x with
  | normal => exact this
  | ret => exact this
  | exit id' =>
    simp only [X.toExit, Exit.inBlock, X.out] at this ⊢
    split
    · rename_i hid; simpa [hid] using this
    · rename_i hid; simpa [hid] using this
theorem HZ.cond {x : Operand} {b : Bool} (hc : look s.tm x = .val (.bool b)) (ht : b = true → HZ P N B w00 c1 K s σ) (hf : b = false → HZ P N B w00 c2 K s σ) : HZ P N B w00 (.cond x c1 c2) K s σ := HZ.mk fun a w hs Q hQ => by
  obtain ⟨⟨io, w0, g, hr, hC⟩, hM⟩ := hs
  have hx := hr.look x
  rw [hc] at hx
  simp only [Rep] at hx
  refine wp_cond hx ?_
  cases b with
  | true => exact ((ht rfl).go a w ⟨⟨io, w0, g, hr, hC⟩, hM⟩ Q hQ).wp
  | false => exact ((hf rfl).go a w ⟨⟨io, w0, g, hr, hC⟩, hM⟩ Q hQ).wp
theorem HZ.skip (h : K .normal s σ) : HZ P N B w00 .skip K s σ := HZ.mk fun a w hs Q hQ => wp_skip (hQ .normal s σ a w hs h)
theorem HZ.exit {id : Nat} (h : K (.exit id) s σ) : HZ P N B w00 (.exit id) K s σ := HZ.mk fun a w hs Q hQ => wp_exit (hQ (.exit id) s σ a w hs h)
theorem HZ.ret (h : K .ret s σ) : HZ P N B w00 .ret K s σ := HZ.mk fun a w hs Q hQ => wp_ret (hQ .ret s σ a w hs h)
theorem Zt.forget {a : Act} {w : World} (h : Zt P N B w00 s σ a w) (hf : s.forget s') : Zt P N B w00 s' σ a w := by
  obtain ⟨⟨io, w0, g, hr, hC⟩, hM⟩ := h
  exact ⟨⟨io, w0, g, hr.forget hf, hC⟩, hM⟩
theorem HZ.mono {K1 : X → AS → Fgn → Prop} (h : HZ P N B w00 c K1 s σ) (hk : ∀ x s' σ', K1 x s' σ' → K x s' σ') : HZ P N B w00 c K s σ := ⟨fun a w hs Q hQ => h.go a w hs Q fun x s' σ' a' w' hs' h1 => hQ x s' σ' a' w' hs' (hk x s' σ' h1)⟩
theorem HZ.forget (hf : s.forget s') (h : HZ P N B w00 c K s' σ) : HZ P N B w00 c K s σ := HZ.mk fun a w hs Q hQ => h.go a w (hs.forget hf) Q hQ
theorem HZ.loop {α : Type} (S : α → AS) (I : α → Fgn → Prop) (μ : α → Nat) (i : α) (hi : I i σ) (hs : s.forget (S i))
    (h : ∀ i σ, I i σ → HZ P N B w00 c (fun x s' σ' => match x with | .normal => ∃ j, I j σ' ∧ μ j < μ i ∧ s'.forget (S j) | .exit id => K (.exit id) s' σ' | .ret => K .ret s' σ') (S i) σ) : HZ P N B w00 (.loop c) K s σ := by
  have key : ∀ n i σ, μ i = n → I i σ → ∀ a w, Zt P N B w00 (S i) σ a w → ∀ Q : Exit → Act → World → Prop, (∀ x s' σ' a' w', Zt P N B w00 s' σ' a' w' → K x s' σ' → Q x.toExit a' w') → LoopWp P c Q a w := by
    intro n
    induction n using Nat.strongRecOn with
    | _ n ih =>
      intro i σ hn hi a w hst Q hQ
      refine LoopWp.step (CWp.wp ((h i σ hi).go a w hst _ fun x s' σ' a' w' hst' hk => ?_))
      cases x with
      | normal =>
        obtain ⟨j, hj, hlt, hf⟩ := hk
        exact ih (μ j) (hn ▸ hlt) j σ' rfl hj a' w' (hst'.forget hf) Q hQ
      | exit id => exact hQ _ s' σ' a' w' hst' hk
      | ret => exact hQ _ s' σ' a' w' hst' hk
  exact HZ.mk fun a w hst Q hQ => key _ i σ rfl hi a w (hst.forget hs) Q hQ
theorem HZ.eng {Γ : Ctx} (hm : P.follows .mixedOrders = true) (hΓ : SoundΓ P Γ) (hc : codeOk Γ true N c = true) (hp : pq P Γ N c (fun x s' => K x s' σ) s.tm s.ob s.nx) : HZ P N B w00 c K s σ := HZ.mk fun a w hs Q hQ => by
  obtain ⟨⟨io, w0, g, hr, hC⟩, hM⟩ := hs
  obtain ⟨x, s', h1, h2⟩ := pw_ok (fun _ => hm) c _ _ hc hp
  exact h1.cwp hΓ.w (fun b hb => hC.lt b hb) g a w Q hr fun g' a' w' hr' => hQ x s' σ a' w' ⟨⟨io, w0, g', hr', hC⟩, Fgn.same hC hr hr' hM⟩ h2
structure ZO (P : Program) (N B : Nat) (w00 : World) (ops : Array Oper) (j : Nat) (l : List Oper) (K : AS → Fgn → Prop) (s : AS) (σ : Fgn) : Prop where
  go : ops.toList.drop j = l → ∀ a w, Zt P N B w00 s σ a w → ∀ Q : Exit → Act → World → Prop, (∀ s' σ' a' w', Zt P N B w00 s' σ' a' w' → K s' σ' → Q .normal a' w') → wpOps P ops Q (List.range' j l.length) a w
variable {ops : Array Oper} {J : AS → Fgn → Prop} {j : Nat} {o : Oper} {l l1 l2 : List Oper}
theorem HZ.each {id : Nat} {os : List Oper} (h : ZO P N B w00 os.toArray 0 os (K .normal) s σ) : HZ P N B w00 (.region id os.toArray false) K s σ := HZ.mk fun a w hs Q hQ => by
  refine wp_region ?_
  have := h.go (by simp) a w hs Q fun s' σ' a' w' hs' hk => hQ .normal s' σ' a' w' hs' hk
  rw [List.range_eq_range']
  simpa using this
theorem ZO.nil (h : J s σ) : ZO P N B w00 ops j [] J s σ := ZO.mk fun _ a w hs Q hQ => hQ s σ a w hs h
theorem seqPreZ {Γ : Ctx} {imm : Md} {io : IoS} {w0 : World} {Q : Exit → Act → World → Prop} {s1 : AS} (hΓ : SoundW P Γ io.wr w0) (hio : ∀ b, io b → b < w0.heap.size) (hd : ∀ o ∈ ops.toList, dstOk N o = true) : ∀ (l1 : List Oper) (j : Nat) {g : Gh} {s : AS} {a : Act} {w : World}, ops.toList.drop j = l1 ++ l2 → Rel io w0 N g s a w →
    evSeq P Γ imm ops l1 s = some s1 → (∀ g' a' w', Rel io w0 N g' s1 a' w' → wpOps P ops Q (List.range' (j + l1.length) l2.length) a' w') → wpOps P ops Q (List.range' j (l1 ++ l2).length) a w
  | [], j, g, s, a, w, hl, h, he, hQ => by
    simp only [evSeq, Option.some.injEq] at he
    subst he
    exact hQ g a w h
  | o :: l, j, g, s, a, w, hl, h, he, hQ => by
    have hk : ops.toList[j]? = some o := by
      have := congrArg (·[0]?) hl
      simpa using this
    have hk' : ops[j]? = some o := by simpa using hk
    have hl' : ops.toList.drop (j + 1) = l ++ l2 := by
      rw [← List.drop_drop, hl]
      rfl
    simp only [evSeq] at he
    split at he
    · rename_i s2 h2
      simp only [List.cons_append, List.length_cons, List.range'_succ]
      rw [wpOps_cons]
      exact op_ok h hΓ hio (hd o (List.mem_of_getElem? hk)) h2 hk' fun g' a' w' hr => seqPreZ hΓ hio hd l (j + 1) hl' hr he fun g2 a2 w2 hr2 => by
        have := hQ g2 a2 w2 hr2
        rwa [List.length_cons, show j + (l.length + 1) = j + 1 + l.length by omega] at this
    · cases he
theorem ZO.pre {Γ : Ctx} {imm : Md} {os : List Oper} (n : Nat) (hΓ : SoundΓ P Γ) (hd : os.toArray.all (dstOk N) = true) (h1 : l.take n = l1) (h2 : l.drop n = l2) {gs : List (Option Nat)} (hg : os.map (·.dst) = gs) (hp : wq P Γ imm gs l1 (fun s1 => ZO P N B w00 os.toArray (j + l1.length) l2 J s1 σ) s.tm s.ob s.nx) : ZO P N B w00 os.toArray j l J s σ := ZO.mk fun hl a w hs Q hQ => by
  obtain ⟨⟨io, w0, g, hr, hC⟩, hM⟩ := hs
  have hl12 : l = l1 ++ l2 := by rw [← h1, ← h2, List.take_append_drop]
  subst hg
  rw [show os.map (·.dst) = os.toArray.toList.map (·.dst) by simp, ← evQ_wq] at hp
  obtain ⟨s1, e1, e2⟩ := evQ_ok _ _ hp
  rw [hl12] at hl ⊢
  refine seqPreZ hΓ.w (fun b hb => hC.lt b hb) (fun o ho => (Array.all_eq_true_iff_forall_mem.1 hd) o (by simpa using ho)) l1 j hl hr e1 fun g' a' w' hr' => ?_
  refine e2.go ?_ a' w' ⟨⟨io, w0, g', hr', hC⟩, Fgn.same hC hr hr' hM⟩ Q hQ
  rw [← List.drop_drop, hl]
  simp
theorem ZO.one (hg : o.guard = none) (h : ∀ a w, Zt P N B w00 s σ a w → ∀ (Kn : Act → World → Prop) (Q : Exit → Act → World → Prop), (∀ s' σ' a' w', Zt P N B w00 s' σ' a' w' → ZO P N B w00 ops (j + 1) l J s' σ' → Kn a' w') → o.wp P a w Kn Q) : ZO P N B w00 ops j (o :: l) J s σ := ZO.mk fun hl a w hs Q hQ => by
  have hk : ops.toList[j]? = some o := by
    have := congrArg (·[0]?) hl
    simpa using this
  have hk' : ops[j]? = some o := by simpa using hk
  have hl' : ops.toList.drop (j + 1) = l := by
    rw [← List.drop_drop, hl]
    rfl
  simp only [List.length_cons, List.range'_succ]
  rw [wpOps_cons]
  unfold wpOp
  simp only [hk']
  have hw : Region.wanted o (yielded ops a.tmps) = true := by simp [Region.wanted, hg]
  rw [hw]
  simp only [if_true]
  left
  exact h a w hs _ _ fun s' σ' a' w' hs' hh => hh.go hl' a' w' hs' Q hQ
theorem Zt.put {a : Act} {w : World} (h : Zt P N B w00 s σ a w) {d : Option Nat} (hd : ∀ x, d = some x → x < N) {p : PV} {v : Value} (hv : ∀ (g : Gh) (w : World), Rep g w p v) : Zt P N B w00 (s.put d p) σ (a.put d v) w := by
  obtain ⟨⟨io, w0, g, hr, hC⟩, hM⟩ := h
  exact ⟨⟨io, w0, g, hr.put hd (hv g w), hC⟩, hM⟩
theorem Zt.rebase {a : Act} {w w' : World} {σ' : Fgn} (h : Zt P N B w00 s σ a w) (hf : Fr σ'.bk w w') (h1 : ∀ i, i < w.heap.size → σ'.bk i → σ.bk i) (h2 : ∀ i, σ.bk i → σ'.bk i) (h3 : ∀ b, σ'.bk b → b < w'.heap.size) (hM : σ'.at_ w') : Zt P N B w00 s σ' a w' := by
  obtain ⟨⟨io, w0, g, hr, hC⟩, _⟩ := h
  obtain ⟨io', k1, k2⟩ := hr.rebaseZ hC hf h1 h2 h3
  exact ⟨⟨io', w', g, k1, k2⟩, hM⟩
theorem Zt.drop {a : Act} {w : World} (h : Zt P N B w00 s σ a w) (h1 : ∀ i, σ.bk i → B ≤ i) : Zt P N B w00 s Fgn.no a w := by
  obtain ⟨⟨io, w0, g, hr, hC⟩, _⟩ := h
  exact ⟨⟨io, w0, g, hr, ⟨fun i _ q => q, hC.lo, hC.lt, fun b q => False.elim q, hC.sz, ⟨hC.fr.os, hC.fr.tape, hC.fr.output, hC.fr.size, fun i hi hn => hC.fr.block i hi fun q => hn (.inr (q.elim (h1 i) id))⟩, fun t ht => ⟨(hC.tk t ht).1, fun q => q⟩⟩⟩, trivial⟩
theorem HZ.drop (h1 : ∀ i, σ.bk i → B ≤ i) (h : HZ P N B w00 c K s Fgn.no) : HZ P N B w00 c K s σ := HZ.mk fun a w hs Q hQ => h.go a w (hs.drop h1) Q hQ
theorem HZ.cut {Lf : List (Nat × PV)} {O : List (Nat × Nat × Nat × List PV)} {x : Nat} (h1 : agree s.tm Lf) (h2 : agreeO s.ob O) (h3 : s.nx = x) (h : HZ P N B w00 c K ⟨lk Lf, lo O, x⟩ σ) : HZ P N B w00 c K s σ :=
  HZ.forget (s' := mkS Lf O x) (forget_mk (agree_all h1) (agreeO_all h2) h3) h
theorem HZ.loopA {α : Type} (Lf : α → List (Nat × PV)) (O : α → List (Nat × Nat × Nat × List PV)) (XX : α → Nat) (I : α → Fgn → Prop) (μ : α → Nat) (i : α) (hi : I i σ) (h1 : agree s.tm (Lf i)) (h2 : agreeO s.ob (O i)) (h3 : s.nx = XX i)
    (h : ∀ i σ, I i σ → HZ P N B w00 c (fun x s' σ' => match x with | .normal => ∃ j, I j σ' ∧ μ j < μ i ∧ agree s'.tm (Lf j) ∧ agreeO s'.ob (O j) ∧ s'.nx = XX j | .exit id => K (.exit id) s' σ' | .ret => K .ret s' σ') ⟨lk (Lf i), lo (O i), XX i⟩ σ) : HZ P N B w00 (.loop c) K s σ := by
  refine HZ.loop (fun i => mkS (Lf i) (O i) (XX i)) I μ i hi (forget_mk (agree_all h1) (agreeO_all h2) h3) fun i σ hi => ⟨fun a w hs Q hQ => (h i σ hi).go a w hs Q fun x s' σ' a' w' hs' hk => hQ x s' σ' a' w' hs' ?_⟩
  cases x with
  | normal =>
    obtain ⟨j, k1, k2, k3, k4, k5⟩ := hk
    exact ⟨j, k1, k2, forget_mk (agree_all k3) (agreeO_all k4) k5⟩
  | exit id => exact hk
  | ret => exact hk
theorem HZ.start {ps : List PV} (h : HZ P N B w00 c K ⟨(initS ps).tm, fun _ => none, 0⟩ σ) : HZ P N B w00 c K (initS ps) σ := h
end
end Go.Proofs.YtpggpdbipajchaaDoor
