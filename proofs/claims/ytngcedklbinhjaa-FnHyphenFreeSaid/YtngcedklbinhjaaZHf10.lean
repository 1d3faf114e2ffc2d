/- What the proof rests on, part 10: contracts of functions. No condition beyond what each states. -/
import Derived.Test.YtngcedklbinhjaaZHf9
namespace Go.Proofs.Ytngcedklbinhjaa
open Go.RowKit
set_option linter.all false
abbrev pvS (s : ByteArray) : PV := .val (.string s)
noncomputable def φSg : Fun := F1 dS fun s => if wordB s = true then some (.lst true 1 ((signs s).map fun s => .val (.string s))) else none
theorem φSg_ap {s : ByteArray} (h : wordB s = true) : φSg [.val (.string s)] = some (.lst true 1 ((signs s).map fun s => .val (.string s))) := (F1_ap (A := dS) s).trans (if_pos h)
def signsV (s : ByteArray) : LS := if wordB s = true then signs s else []
def φSgS : Fun := F1 dS fun s => if s.size ≤ 1048576 then some (.lst true 1 ((signsV s).map fun s => .val (.string s))) else none
theorem φSgS_ap {s : ByteArray} (h : s.size ≤ 1048576) : φSgS [.val (.string s)] = some (.lst true 1 ((signsV s).map fun s => .val (.string s))) := (F1_ap (A := dS) s).trans (if_pos h)
noncomputable def GSg : Ctx := { fn := fun f => if f = 110 then some φJoinI else none, io := fun f => none }
theorem GSg_ok : SoundΓ Try.prog GSg := ⟨(fun f φ h => by
  unfold GSg at h
  dsimp only at h
  split at h
  · rename_i hf; cases h; subst hf; exact ⟨⟨_, Try.func110, rfl, rfl⟩, implJoinQ_ok⟩
  cases h), (fun f φ h => by
  unfold GSg at h
  dsimp only at h
  cases h), rfl⟩
theorem GSg_110 (ob : Objs) (ps : List PV) : evCall GSg ob 110 ps = (ps.mapM (reify false 0 ob fuel)).bind φJoinI := by
  have h : GSg.fn 110 = some φJoinI := by simp [GSg]
  unfold evCall
  rw [h]
  cases ps.mapM (reify false 0 ob fuel) <;> rfl
set_option maxHeartbeats 8000000 in
theorem signsI_ok : Sound Try.prog 92 φSg := by
  refine sound_pq mixed GSg_ok Try.func92 rfl 38 rfl [.tmp 2] rfl (by kernel_rfl) fun ps r hr => ?_
  obtain ⟨s, rfl, hq⟩ := F1_some hr
  clear hr
  split at hq
  case isFalse => cases hq
  case isTrue hpre =>
  cases hq
  refine ⟨by simp, ?_⟩
  simp only [dIs, dUs, dSs, dI_e, dU_e, dB_e, dS_e, dFn_e, dL_e, dA2_e, dA3_e, dA4_e, dA5_e]
  obtain ⟨-, hs1, hs2⟩ := wordB_letters hpre
  have hsg1 := (signs_ok hpre).2.1
  have apj := fun i => φJoinI_ap (at8_rng s i) (at8_rng s (i + 1))
  have hI0 : [] ++ sgF s s.size 0 = signs s := rfl
  replace hI0 := Lib.hid hI0
  generalize signs s = R at *
  clear hpre
  have gsg_c110 := GSg_110
  (refine wlk ?_; intros)
  refine i_loop (α := Nat × Nat × LS × Nat × Nat) mixed (fun z => [(0, .val (.string s)), (3, nP 1 (z.2.2.1.map pvS) z.2.2.2.1), (4, iv z.2.1)])
    (fun z => nO 9 1 (z.2.2.1.map pvS) z.2.2.2.1) (fun z => z.2.2.2.2)
    (fun z => z.2.2.1 ++ sgF s z.1 z.2.1 = R ∧ s.size ≤ z.2.1 + z.1 ∧ z.2.1 ≤ s.size ∧ z.2.2.1.length ≤ z.2.1 ∧ (0 < z.2.2.1.length → z.2.2.2.1 < z.2.2.2.2)) (fun z => z.1) (by kernel_rfl) (s.size, 0, [], 0, 0) ⟨hI0.out, by simp, by simp, by simp, by simp⟩ ?_ ?_ rfl ?_
  · exact agr
  · exact agr
  rintro ⟨f, i, out, x, y⟩ ⟨hI, hf, hi, ho, hxy⟩
  dsimp only at hI hf hi ho hxy
  clear hI0
  by_cases h0 : i < s.size
  · cases f with
    | zero => omega
    | succ f =>
    rw [sgF_step h0] at hI
    have hI2 : (out ++ [s.extract i (i + sgN s i)]) ++ sgF s f (i + sgN s i) = R := by rw [List.append_assoc]; exact hI
    clear hI
    replace apj := apj i
    by_cases hj : i + 1 < s.size ∧ joinQ (at8 s i) (at8 s (i + 1)) = true
    · have hn : sgN s i = 2 := if_pos hj
      rw [hn] at hI2
      replace hI2 := Lib.hid hI2
      obtain ⟨hj1, hj2⟩ := hj
      rw [hj2] at apj
      have e3 : ((i : Int) + 2).toNat = i + 2 := by omega
      clear hn
      by_cases hz : out.length = 0
      · obtain rfl : out = [] := List.eq_nil_of_length_eq_zero hz
        (refine wlk ?_; intros)
        refine ⟨(f, i + 2, [] ++ [s.extract i (i + 2)], y + 1, y + 2), ⟨hI2.out, by dsimp only; omega, by dsimp only; omega, by simp, fun _ => by dsimp only; omega⟩, by dsimp only; omega, ?_, ?_, rfl⟩
        · exact agi
        · exact agr
      · have hxy := hxy (by omega)
        have hap : 0 < (out.map pvS).length := by rw [List.length_map]; omega
        clear hz
        have hap3 : 0 < ((out ++ [s.extract i (i + 2)]).map pvS).length := by simp
        simp only [nP_pos hap, nO_pos hap, List.length_map]
        (refine wlk ?_; intros)
        refine ⟨(f, i + 2, out ++ [s.extract i (i + 2)], y + 1, y + 2), ⟨hI2.out, by dsimp only; omega, by dsimp only; omega, by simp; omega, fun _ => by dsimp only; omega⟩, by dsimp only; omega, ?_, ?_, rfl⟩
        · simp (disch := (first | omega | (simp only [push_cast]; first | done | omega))) only [push_cast, ↓reduceIte, Nat.reduceEqDiff, Nat.reduceBEq, Nat.reduceAdd, Nat.reduceSub, Int.reduceToNat, nP_pos hap3, List.length_append, *]
          try exact congrArg (fun z => PV.val (Value.int IntKind.i64 z)) (by omega)
        · simp (disch := (first | omega | (simp only [push_cast]; first | done | omega))) only [push_cast, ↓reduceIte, Nat.reduceEqDiff, Nat.reduceBEq, Nat.reduceAdd, Nat.reduceSub, Int.reduceToNat, nO_pos hap3, *]
    · have hn : sgN s i = 1 := if_neg hj
      rw [hn] at hI2
      replace hI2 := Lib.hid hI2
      clear hn
      have hj3 : i + 1 < s.size → joinQ (at8 s i) (at8 s (i + 1)) = false := fun h => by
        cases hq : joinQ (at8 s i) (at8 s (i + 1)) with
        | false => rfl
        | true => exact absurd ⟨h, hq⟩ hj
      clear hj
      by_cases hz : out.length = 0
      · obtain rfl : out = [] := List.eq_nil_of_length_eq_zero hz
        by_cases h1 : i + 1 < s.size
        · rw [hj3 h1] at apj
          clear hj3
          (refine wlk ?_; intros)
          refine ⟨(f, i + 1, [] ++ [s.extract i (i + 1)], y + 1, y + 2), ⟨hI2.out, by dsimp only; omega, by dsimp only; omega, by simp, fun _ => by dsimp only; omega⟩, by dsimp only; omega, ?_, ?_, rfl⟩
          · exact agr
          · exact agr
        · clear hj3
          (refine wlk ?_; intros)
          refine ⟨(f, i + 1, [] ++ [s.extract i (i + 1)], y + 1, y + 2), ⟨hI2.out, by dsimp only; omega, by dsimp only; omega, by simp, fun _ => by dsimp only; omega⟩, by dsimp only; omega, ?_, ?_, rfl⟩
          · exact agr
          · exact agr
      · have hxy := hxy (by omega)
        have hap : 0 < (out.map pvS).length := by rw [List.length_map]; omega
        clear hz
        have hap3 : 0 < ((out ++ [s.extract i (i + 1)]).map pvS).length := by simp
        simp only [nP_pos hap, nO_pos hap, List.length_map]
        by_cases h1 : i + 1 < s.size
        · rw [hj3 h1] at apj
          clear hj3
          (refine wlk ?_; intros)
          refine ⟨(f, i + 1, out ++ [s.extract i (i + 1)], y + 1, y + 2), ⟨hI2.out, by dsimp only; omega, by dsimp only; omega, by simp; omega, fun _ => by dsimp only; omega⟩, by dsimp only; omega, ?_, ?_, rfl⟩
          · simp (disch := (first | omega | (simp only [push_cast]; first | done | omega))) only [push_cast, ↓reduceIte, Nat.reduceEqDiff, Nat.reduceBEq, Nat.reduceAdd, Nat.reduceSub, Int.reduceToNat, nP_pos hap3, List.length_append, *]
            try exact congrArg (fun z => PV.val (Value.int IntKind.i64 z)) (by omega)
          · simp (disch := (first | omega | (simp only [push_cast]; first | done | omega))) only [push_cast, ↓reduceIte, Nat.reduceEqDiff, Nat.reduceBEq, Nat.reduceAdd, Nat.reduceSub, Int.reduceToNat, nO_pos hap3, *]
        · clear hj3
          (refine wlk ?_; intros)
          refine ⟨(f, i + 1, out ++ [s.extract i (i + 1)], y + 1, y + 2), ⟨hI2.out, by dsimp only; omega, by dsimp only; omega, by simp; omega, fun _ => by dsimp only; omega⟩, by dsimp only; omega, ?_, ?_, rfl⟩
          · simp (disch := (first | omega | (simp only [push_cast]; first | done | omega))) only [push_cast, ↓reduceIte, Nat.reduceEqDiff, Nat.reduceBEq, Nat.reduceAdd, Nat.reduceSub, Int.reduceToNat, nP_pos hap3, List.length_append, *]
            try exact congrArg (fun z => PV.val (Value.int IntKind.i64 z)) (by omega)
          · simp (disch := (first | omega | (simp only [push_cast]; first | done | omega))) only [push_cast, ↓reduceIte, Nat.reduceEqDiff, Nat.reduceBEq, Nat.reduceAdd, Nat.reduceSub, Int.reduceToNat, nO_pos hap3, *]
  · rw [sgF_end (by omega), List.append_nil] at hI
    subst hI
    have hxy := hxy (by omega)
    have hap : 0 < (out.map pvS).length := by rw [List.length_map]; omega
    simp only [nP_pos hap, nO_pos hap, List.length_map]
    clear apj
    exact wlkF
noncomputable def GSgS : Ctx := { fn := fun f => if f = 116 then some φJoinQ else if f = 69 then some φWord else none, io := fun f => none }
theorem GSgS_ok : SoundΓ Try.prog GSgS := ⟨(fun f φ h => by
  unfold GSgS at h
  dsimp only at h
  split at h
  · rename_i hf; cases h; subst hf; exact ⟨⟨_, Try.func116, rfl, rfl⟩, specJoinQ_ok⟩
  split at h
  · rename_i hf; cases h; subst hf; exact ⟨⟨_, Try.func69, rfl, rfl⟩, specWordValid_ok⟩
  cases h), (fun f φ h => by
  unfold GSgS at h
  dsimp only at h
  cases h), rfl⟩
theorem GSgS_116 (ob : Objs) (ps : List PV) : evCall GSgS ob 116 ps = (ps.mapM (reify false 0 ob fuel)).bind φJoinQ := by
  have h : GSgS.fn 116 = some φJoinQ := by simp [GSgS]
  unfold evCall
  rw [h]
  cases ps.mapM (reify false 0 ob fuel) <;> rfl
theorem GSgS_69 (ob : Objs) (ps : List PV) : evCall GSgS ob 69 ps = (ps.mapM (reify false 0 ob fuel)).bind φWord := by
  have h : GSgS.fn 69 = some φWord := by simp [GSgS]
  unfold evCall
  rw [h]
  cases ps.mapM (reify false 0 ob fuel) <;> rfl
set_option maxHeartbeats 8000000 in
theorem signsS_ok : Sound Try.prog 100 φSgS := by
  refine sound_pq mixed GSgS_ok Try.func100 rfl 50 rfl [.tmp 2] rfl (by kernel_rfl) fun ps r hr => ?_
  obtain ⟨s, rfl, hq⟩ := F1_some hr
  clear hr
  split at hq
  case isFalse => cases hq
  case isTrue hpre =>
  cases hq
  refine ⟨by simp, ?_⟩
  simp only [dIs, dUs, dSs, dI_e, dU_e, dB_e, dS_e, dFn_e, dL_e, dA2_e, dA3_e, dA4_e, dA5_e]
  have apw := φWord_ap (s := s) (by omega)
  unfold signsV
  cases hw : wordB s with
  | false =>
    rw [hw] at apw
    rw [if_neg (by decide)]
    clear hw
    have gsgs_c116 := GSgS_116; have gsgs_c69 := GSgS_69
    (refine wlk ?_; intros)
    refine i_loop (α := Unit) mixed (fun z => [(0, .val (.string s)), (3, .row 0 1 0 0), (4, iv 0)]) (fun z => [(0, 9, 1, [])]) (fun z => 1) (fun _ => True) (fun _ => 0) (by kernel_rfl) () trivial ?_ ?_ rfl ?_
    · exact agr
    · exact agr
    rintro ⟨⟩ -
    exact wlkF
  | true =>
    rw [hw] at apw
    rw [if_pos rfl]
    obtain ⟨-, hs1, hs2⟩ := wordB_letters hw
    have apj := fun i => φJoinQ_ap (at8 s i) (at8 s (i + 1))
    have hI0 : [] ++ sgF s s.size 0 = signs s := rfl
    replace hI0 := Lib.hid hI0
    generalize signs s = R at *
    clear hpre hw
    have gsgs_c116 := GSgS_116; have gsgs_c69 := GSgS_69
    (refine wlk ?_; intros)
    refine i_loop (α := Nat × Nat × LS × Nat × Nat) mixed (fun z => [(0, .val (.string s)), (3, .row z.2.2.2.1 1 0 z.2.2.1.length), (4, iv z.2.1)])
      (fun z => [(z.2.2.2.1, 9, 1, z.2.2.1.map pvS)]) (fun z => z.2.2.2.2)
      (fun z => z.2.2.1 ++ sgF s z.1 z.2.1 = R ∧ s.size ≤ z.2.1 + z.1 ∧ z.2.1 ≤ s.size ∧ z.2.2.1.length ≤ z.2.1 ∧ z.2.2.2.1 < z.2.2.2.2) (fun z => z.1) (by kernel_rfl) (s.size, 0, [], 0, 1) ⟨hI0.out, by simp, by simp, by simp, by simp⟩ ?_ ?_ rfl ?_
    · exact agr
    · exact agr
    rintro ⟨f, i, out, x, y⟩ ⟨hI, hf, hi, ho, hxy⟩
    dsimp only at hI hf hi ho hxy
    clear hI0
    by_cases h0 : i < s.size
    · cases f with
      | zero => omega
      | succ f =>
      rw [sgF_step h0] at hI
      have hI2 : (out ++ [s.extract i (i + sgN s i)]) ++ sgF s f (i + sgN s i) = R := by rw [List.append_assoc]; exact hI
      clear hI
      replace apj := apj i
      by_cases hj : i + 1 < s.size ∧ joinQ (at8 s i) (at8 s (i + 1)) = true
      · have hn : sgN s i = 2 := if_pos hj
        rw [hn] at hI2
        replace hI2 := Lib.hid hI2
        obtain ⟨hj1, hj2⟩ := hj
        rw [hj2] at apj
        have e3 : ((i : Int) + 2).toNat = i + 2 := by omega
        clear hn
        (refine wlk ?_; intros)
        refine ⟨(f, i + 2, out ++ [s.extract i (i + 2)], y + 1, y + 2), ⟨hI2.out, by dsimp only; omega, by dsimp only; omega, by simp; omega, by dsimp only; omega⟩, by dsimp only; omega, ?_, ?_, rfl⟩
        · exact agi
        · exact agr
      · have hn : sgN s i = 1 := if_neg hj
        rw [hn] at hI2
        replace hI2 := Lib.hid hI2
        clear hn
        have hj3 : i + 1 < s.size → joinQ (at8 s i) (at8 s (i + 1)) = false := fun h => by
          cases hq : joinQ (at8 s i) (at8 s (i + 1)) with
          | false => rfl
          | true => exact absurd ⟨h, hq⟩ hj
        clear hj
        by_cases h1 : i + 1 < s.size
        · rw [hj3 h1] at apj
          clear hj3
          (refine wlk ?_; intros)
          refine ⟨(f, i + 1, out ++ [s.extract i (i + 1)], y + 1, y + 2), ⟨hI2.out, by dsimp only; omega, by dsimp only; omega, by simp; omega, by dsimp only; omega⟩, by dsimp only; omega, ?_, ?_, rfl⟩
          · exact agr
          · exact agr
        · clear hj3
          (refine wlk ?_; intros)
          refine ⟨(f, i + 1, out ++ [s.extract i (i + 1)], y + 1, y + 2), ⟨hI2.out, by dsimp only; omega, by dsimp only; omega, by simp; omega, by dsimp only; omega⟩, by dsimp only; omega, ?_, ?_, rfl⟩
          · exact agr
          · exact agr
    · rw [sgF_end (by omega), List.append_nil] at hI
      subst hI
      clear apj
      exact wlkF
def φWw : Fun := F1 dS fun s => if s.size ≤ 1048576 then some (iv (wordW s)) else none
theorem φWw_ap {s : ByteArray} (h : s.size ≤ 1048576) : φWw [.val (.string s)] = some (.val (.int .i64 (wordW s))) := (F1_ap (A := dS) s).trans (if_pos h)
noncomputable def GWwI : Ctx := { fn := fun f => if f = 89 then some φWord else if f = 92 then some φSg else if f = 93 then some φLetWI else if f = 94 then some φNearI else none, io := fun f => none }
theorem GWwI_ok : SoundΓ Try.prog GWwI := ⟨(fun f φ h => by
  unfold GWwI at h
  dsimp only at h
  split at h
  · rename_i hf; cases h; subst hf; exact ⟨⟨_, Try.func89, rfl, rfl⟩, implWordValid_ok⟩
  split at h
  · rename_i hf; cases h; subst hf; exact ⟨⟨_, Try.func92, rfl, rfl⟩, signsI_ok⟩
  split at h
  · rename_i hf; cases h; subst hf; exact ⟨⟨_, Try.func93, rfl, rfl⟩, implLetW_ok⟩
  split at h
  · rename_i hf; cases h; subst hf; exact ⟨⟨_, Try.func94, rfl, rfl⟩, implNear_ok⟩
  cases h), (fun f φ h => by
  unfold GWwI at h
  dsimp only at h
  cases h), rfl⟩
theorem GWwI_89 (ob : Objs) (ps : List PV) : evCall GWwI ob 89 ps = (ps.mapM (reify false 0 ob fuel)).bind φWord := by
  have h : GWwI.fn 89 = some φWord := by simp [GWwI]
  unfold evCall
  rw [h]
  cases ps.mapM (reify false 0 ob fuel) <;> rfl
theorem GWwI_92 (ob : Objs) (ps : List PV) : evCall GWwI ob 92 ps = (ps.mapM (reify false 0 ob fuel)).bind φSg := by
  have h : GWwI.fn 92 = some φSg := by simp [GWwI]
  unfold evCall
  rw [h]
  cases ps.mapM (reify false 0 ob fuel) <;> rfl
theorem GWwI_93 (ob : Objs) (ps : List PV) : evCall GWwI ob 93 ps = (ps.mapM (reify false 0 ob fuel)).bind φLetWI := by
  have h : GWwI.fn 93 = some φLetWI := by simp [GWwI]
  unfold evCall
  rw [h]
  cases ps.mapM (reify false 0 ob fuel) <;> rfl
theorem GWwI_94 (ob : Objs) (ps : List PV) : evCall GWwI ob 94 ps = (ps.mapM (reify false 0 ob fuel)).bind φNearI := by
  have h : GWwI.fn 94 = some φNearI := by simp [GWwI]
  unfold evCall
  rw [h]
  cases ps.mapM (reify false 0 ob fuel) <;> rfl
set_option maxHeartbeats 16000000 in
theorem implWw_ok : Sound Try.prog 74 φWw := by
  refine sound_pq mixed GWwI_ok Try.func74 rfl 58 rfl [.tmp 2] rfl (by kernel_rfl) fun ps r hr => ?_
  obtain ⟨s, rfl, hq⟩ := F1_some hr
  clear hr
  split at hq
  case isFalse => cases hq
  case isTrue hpre =>
  cases hq
  refine ⟨by simp, ?_⟩
  simp only [dIs, dUs, dSs, dI_e, dU_e, dB_e, dS_e, dFn_e, dL_e, dA2_e, dA3_e, dA4_e, dA5_e]
  have apw := φWord_ap (s := s) (by omega)
  unfold wordW
  cases hw : wordB s with
  | false =>
    rw [hw] at apw
    rw [if_neg (by decide)]
    clear hw
    have gwwi_c89 := GWwI_89; have gwwi_c92 := GWwI_92; have gwwi_c93 := GWwI_93; have gwwi_c94 := GWwI_94
    exact wlkF
  | true =>
    rw [hw] at apw
    rw [if_pos rfl]
    have aps := φSg_ap hw
    have hat := fun k hk => signs_at hw (k := k) hk
    have hlen := (signs_ok hw).2
    have hrg := wdK_rng hat
    generalize signs s = g at *
    clear hw hpre
    have gwwi_c89 := GWwI_89; have gwwi_c92 := GWwI_92; have gwwi_c93 := GWwI_93; have gwwi_c94 := GWwI_94
    (refine wlk ?_; intros)
    refine i_loop (α := Nat) mixed (fun k => [(3, iv (wdK g k)), (4, .lst true 1 (g.map pvS)), (13, .lst true 1 (g.map pvS)), (14, iv g.length), (15, iv k)]) (fun _ => []) (fun _ => 0)
      (fun k => k ≤ g.length) (fun k => g.length - k) (by kernel_rfl) 0 (Nat.zero_le _) ?_ ?_ rfl ?_
    · simp only [push_cast, ↓reduceIte, Nat.reduceEqDiff, Nat.reduceBEq, Nat.reduceAdd, Nat.reduceSub, Int.reduceToNat, wdK]
    · exact agr
    intro k hk
    have hrk := hrg k hk
    by_cases hkl : k < g.length
    · have hsg := hat k hkl
      have hnx := fun h => hat (k + 1) h
      have hfl := sgW_full hsg
      have hsn : wdK g (k + 1) = wdK g k + sgW (g[k]?.getD .empty) (g[k]?.getD .empty).size - ((g[k]?.getD .empty).size - 1) - nearK g k := rfl
      have hne : nearK g k = if k + 1 < g.length then nearI (at8 (g[k]?.getD .empty) ((g[k]?.getD .empty).size - 1)) (at8 (g[k + 1]?.getD .empty) 0) else 0 := rfl
      replace hsn := Lib.hid hsn
      replace hne := Lib.hid hne
      clear hat hrg
      generalize hx9 : g[k]?.getD ByteArray.empty = x at *
      obtain ⟨hx1, hx2, -⟩ := hsg
      generalize hw9 : wdK g k = w9 at *
      (refine wlk ?_; intros)
      refine i_loop (α := Nat) mixed (fun j => [(3, iv (w9 + sgW x j)), (4, .lst true 1 (g.map pvS)), (13, .lst true 1 (g.map pvS)), (14, iv g.length), (15, iv k), (5, iv k), (6, .val (.string x)), (21, iv x.size), (22, iv j)]) (fun _ => []) (fun _ => 0)
        (fun j => j ≤ x.size) (fun j => x.size - j) (by kernel_rfl) 0 (Nat.zero_le _) ?_ ?_ rfl ?_
      · simp (disch := (first | omega | (simp only [push_cast]; first | done | omega))) only [push_cast, ↓reduceIte, Nat.reduceEqDiff, Nat.reduceBEq, Nat.reduceAdd, Nat.reduceSub, Int.reduceToNat, sgW, Int.add_zero, *]
      · exact agr
      intro j hj
      have hfj := hfl j hj
      have apl := φLetWI_ap (at8_rng x j)
      have hlw := letW_rng (at8 x j)
      have hsj : sgW x (j + 1) = sgW x j + letW (at8 x j) := rfl
      replace hsj := Lib.hid hsj
      by_cases hjl : j < x.size
      · clear hfl hnx
        generalize letW (at8 x j) = lw at *
        (refine wlk ?_; intros)
        refine ⟨j + 1, by omega, by dsimp only; omega, ?_, ?_, rfl⟩
        · dsimp only
          rw [hsj.out, ← Int.add_assoc]
          exact agr
        · exact agr
      · obtain rfl : j = x.size := by omega
        clear apl hlw hsj hfl
        by_cases h1 : k + 1 < g.length
        · have hn1 := hnx h1
          clear hnx
          obtain ⟨hy1, -, -⟩ := hn1
          have apn := φNearI_ap (at8_rng x (x.size - 1)) (at8_rng (g[k + 1]?.getD .empty) 0)
          have hnr := nearI_rng (at8 x (x.size - 1)) (at8 (g[k + 1]?.getD .empty) 0)
          have hne := hne.out
          rw [if_pos h1] at hne
          have hsn := hsn.out
          rw [hne] at hsn
          replace hsn := Lib.hid hsn
          clear hne
          generalize nearI (at8 x (x.size - 1)) (at8 (g[k + 1]?.getD .empty) 0) = nr at *
          generalize sgW x x.size = sw at *
          (refine wlk ?_; intros)
          refine ⟨k + 1, by omega, by dsimp only; omega, ?_, ?_, rfl⟩
          · dsimp only
            rw [hsn.out]
            exact agr
          · exact agr
        · have hne := hne.out
          rw [if_neg h1] at hne
          have hsn := hsn.out
          rw [hne, Int.sub_zero] at hsn
          replace hsn := Lib.hid hsn
          clear hne hnx
          generalize sgW x x.size = sw at *
          (refine wlk ?_; intros)
          refine ⟨k + 1, by omega, by dsimp only; omega, ?_, ?_, rfl⟩
          · dsimp only
            rw [hsn.out]
            exact agr
          · exact agr
    · obtain rfl : k = g.length := by omega
      clear hat hrg
      generalize wdK g g.length = w9 at *
      exact wlkF
noncomputable def GWwS : Ctx := { fn := fun f => if f = 100 then some φSgS else if f = 101 then some φLetW else if f = 102 then some φNear else none, io := fun f => none }
theorem GWwS_ok : SoundΓ Try.prog GWwS := ⟨(fun f φ h => by
  unfold GWwS at h
  dsimp only at h
  split at h
  · rename_i hf; cases h; subst hf; exact ⟨⟨_, Try.func100, rfl, rfl⟩, signsS_ok⟩
  split at h
  · rename_i hf; cases h; subst hf; exact ⟨⟨_, Try.func101, rfl, rfl⟩, specLetW_ok⟩
  split at h
  · rename_i hf; cases h; subst hf; exact ⟨⟨_, Try.func102, rfl, rfl⟩, specNear_ok⟩
  cases h), (fun f φ h => by
  unfold GWwS at h
  dsimp only at h
  cases h), rfl⟩
theorem GWwS_100 (ob : Objs) (ps : List PV) : evCall GWwS ob 100 ps = (ps.mapM (reify false 0 ob fuel)).bind φSgS := by
  have h : GWwS.fn 100 = some φSgS := by simp [GWwS]
  unfold evCall
  rw [h]
  cases ps.mapM (reify false 0 ob fuel) <;> rfl
theorem GWwS_101 (ob : Objs) (ps : List PV) : evCall GWwS ob 101 ps = (ps.mapM (reify false 0 ob fuel)).bind φLetW := by
  have h : GWwS.fn 101 = some φLetW := by simp [GWwS]
  unfold evCall
  rw [h]
  cases ps.mapM (reify false 0 ob fuel) <;> rfl
theorem GWwS_102 (ob : Objs) (ps : List PV) : evCall GWwS ob 102 ps = (ps.mapM (reify false 0 ob fuel)).bind φNear := by
  have h : GWwS.fn 102 = some φNear := by simp [GWwS]
  unfold evCall
  rw [h]
  cases ps.mapM (reify false 0 ob fuel) <;> rfl
set_option maxHeartbeats 16000000 in
theorem specWw_ok : Sound Try.prog 82 φWw := by
  refine sound_pq mixed GWwS_ok Try.func82 rfl 70 rfl [.tmp 2] rfl (by kernel_rfl) fun ps r hr => ?_
  obtain ⟨s, rfl, hq⟩ := F1_some hr
  clear hr
  split at hq
  case isFalse => cases hq
  case isTrue hpre =>
  cases hq
  refine ⟨by simp, ?_⟩
  simp only [dIs, dUs, dSs, dI_e, dU_e, dB_e, dS_e, dFn_e, dL_e, dA2_e, dA3_e, dA4_e, dA5_e]
  have aps := φSgS_ap (s := s) hpre
  unfold wordW
  unfold signsV at aps
  cases hw : wordB s with
  | false =>
    rw [hw, if_neg (by decide)] at aps
    rw [if_neg (by decide)]
    clear hw
    have gwws_c100 := GWwS_100; have gwws_c101 := GWwS_101; have gwws_c102 := GWwS_102
    exact wlkF
  | true =>
    rw [hw, if_pos rfl] at aps
    rw [if_pos rfl]
    have hat := fun k hk => signs_at hw (k := k) hk
    have hlen := (signs_ok hw).2
    have hrg := wdK_rng hat
    generalize signs s = g at *
    clear hw hpre
    have gwws_c100 := GWwS_100; have gwws_c101 := GWwS_101; have gwws_c102 := GWwS_102
    (refine wlk ?_; intros)
    refine i_loop (α := Nat) mixed (fun k => [(3, .lst true 1 (g.map pvS)), (4, iv (wdK g k)), (5, iv k)]) (fun _ => []) (fun _ => 0)
      (fun k => k ≤ g.length) (fun k => g.length - k) (by kernel_rfl) 0 (Nat.zero_le _) ?_ ?_ rfl ?_
    · simp only [push_cast, ↓reduceIte, Nat.reduceEqDiff, Nat.reduceBEq, Nat.reduceAdd, Nat.reduceSub, Int.reduceToNat, wdK]
    · exact agr
    intro k hk
    have hrk := hrg k hk
    by_cases hkl : k < g.length
    · have hsg := hat k hkl
      have hnx := fun h => hat (k + 1) h
      have hfl := sgW_full hsg
      have hsn : wdK g (k + 1) = wdK g k + sgW (g[k]?.getD .empty) (g[k]?.getD .empty).size - ((g[k]?.getD .empty).size - 1) - nearK g k := rfl
      have hne : nearK g k = if k + 1 < g.length then nearI (at8 (g[k]?.getD .empty) ((g[k]?.getD .empty).size - 1)) (at8 (g[k + 1]?.getD .empty) 0) else 0 := rfl
      replace hsn := Lib.hid hsn
      replace hne := Lib.hid hne
      clear hat hrg
      generalize hx9 : g[k]?.getD ByteArray.empty = x at *
      obtain ⟨hx1, hx2, -⟩ := hsg
      generalize hw9 : wdK g k = w9 at *
      (refine wlk ?_; intros)
      refine i_loop (α := Nat) mixed (fun j => [(3, .lst true 1 (g.map pvS)), (4, iv (w9 + sgW x j)), (5, iv k), (6, iv j)]) (fun _ => []) (fun _ => 0)
        (fun j => j ≤ x.size) (fun j => x.size - j) (by kernel_rfl) 0 (Nat.zero_le _) ?_ ?_ rfl ?_
      · simp (disch := (first | omega | (simp only [push_cast]; first | done | omega))) only [push_cast, ↓reduceIte, Nat.reduceEqDiff, Nat.reduceBEq, Nat.reduceAdd, Nat.reduceSub, Int.reduceToNat, sgW, Int.add_zero, *]
      · exact agr
      intro j hj
      have hfj := hfl j hj
      have apl := φLetW_ap (at8 x j)
      have hlw := letW_rng (at8 x j)
      have hsj : sgW x (j + 1) = sgW x j + letW (at8 x j) := rfl
      replace hsj := Lib.hid hsj
      by_cases hjl : j < x.size
      · clear hfl hnx
        generalize letW (at8 x j) = lw at *
        (refine wlk ?_; intros)
        refine ⟨j + 1, by omega, by dsimp only; omega, ?_, ?_, rfl⟩
        · dsimp only
          rw [hsj.out, ← Int.add_assoc]
          exact agr
        · exact agr
      · obtain rfl : j = x.size := by omega
        clear apl hlw hsj hfl
        by_cases h1 : k + 1 < g.length
        · have hn1 := hnx h1
          clear hnx
          obtain ⟨hy1, -, -⟩ := hn1
          have apn := φNear_ap (at8 x (x.size - 1)) (at8 (g[k + 1]?.getD .empty) 0)
          have hnr := nearI_rng (at8 x (x.size - 1)) (at8 (g[k + 1]?.getD .empty) 0)
          have hne := hne.out
          rw [if_pos h1] at hne
          have hsn := hsn.out
          rw [hne] at hsn
          replace hsn := Lib.hid hsn
          clear hne
          generalize nearI (at8 x (x.size - 1)) (at8 (g[k + 1]?.getD .empty) 0) = nr at *
          generalize sgW x x.size = sw at *
          (refine wlk ?_; intros)
          refine ⟨k + 1, by omega, by dsimp only; omega, ?_, ?_, rfl⟩
          · dsimp only
            rw [hsn.out, show w9 + sw - ((x.size : Int) - 1) - nr = w9 + sw - x.size + 1 - nr by omega]
            exact agr
          · exact agr
        · have hne := hne.out
          rw [if_neg h1] at hne
          have hsn := hsn.out
          rw [hne, Int.sub_zero] at hsn
          replace hsn := Lib.hid hsn
          clear hne hnx
          generalize sgW x x.size = sw at *
          (refine wlk ?_; intros)
          refine ⟨k + 1, by omega, by dsimp only; omega, ?_, ?_, rfl⟩
          · dsimp only
            rw [hsn.out, show w9 + sw - ((x.size : Int) - 1) = w9 + sw - x.size + 1 by omega]
            exact agr
          · exact agr
    · obtain rfl : k = g.length := by omega
      clear hat hrg
      generalize wdK g g.length = w9 at *
      exact wlkF
end Go.Proofs.Ytngcedklbinhjaa
namespace Go.Proofs.Ytngcedklbinhjaa
open Go.RowKit
set_option linter.all false
abbrev pvN (n : Int) : PV := .val (.int .i64 n)
theorem patB_size {p : ByteArray} (h : patB p = true) : 1 ≤ p.size ∧ p.size ≤ 12 := by
  unfold patB at h
  simp only [Bool.and_eq_true, decide_eq_true_eq] at h
  obtain ⟨-, h1, h2⟩ := h
  refine ⟨?_, h2⟩
  rcases Nat.eq_zero_or_pos p.size with h0 | h0
  · rw [h0] at h1
    simp [anyS] at h1
  · exact h0
def φPp : Fun := F1 dS fun p => if p.size ≤ 12 then some (.tup [.val (.string (lettersP p)), .lst true 1 ((levelsP p).map fun n => .val (.int .i64 n))]) else none
theorem φPp_ap {p : ByteArray} (h : p.size ≤ 12) : φPp [.val (.string p)] = some (.tup [.val (.string (lettersP p)), .lst true 1 ((levelsP p).map fun n => .val (.int .i64 n))]) := (F1_ap (A := dS) p).trans (if_pos h)
noncomputable def GPp : Ctx := { fn := fun f => if f = 108 then some φDig else none, io := fun f => none }
theorem GPp_ok : SoundΓ Try.prog GPp := ⟨(fun f φ h => by
  unfold GPp at h
  dsimp only at h
  split at h
  · rename_i hf; cases h; subst hf; exact ⟨⟨_, Try.func108, rfl, rfl⟩, isDigit_ok⟩
  cases h), (fun f φ h => by
  unfold GPp at h
  dsimp only at h
  cases h), rfl⟩
theorem GPp_108 (ob : Objs) (ps : List PV) : evCall GPp ob 108 ps = (ps.mapM (reify false 0 ob fuel)).bind φDig := by
  have h : GPp.fn 108 = some φDig := by simp [GPp]
  unfold evCall
  rw [h]
  cases ps.mapM (reify false 0 ob fuel) <;> rfl
theorem set_last {o : List Int} {v x : Int} : (o ++ [v]).set o.length x = o ++ [x] := by simp
set_option maxHeartbeats 8000000 in
theorem implPp_ok : Sound Try.prog 122 φPp := by
  refine sound_pq mixed GPp_ok Try.func122 rfl 40 rfl [.tmp 2, .tmp 3] rfl (by kernel_rfl) fun ps r hr => ?_
  obtain ⟨p, rfl, hq⟩ := F1_some hr
  clear hr
  split at hq
  case isFalse => cases hq
  case isTrue hpre =>
  cases hq
  refine ⟨by simp, ?_⟩
  simp only [dIs, dUs, dSs, dI_e, dU_e, dB_e, dS_e, dFn_e, dL_e, dA2_e, dA3_e, dA4_e, dA5_e]
  have hrg := patK_rng p
  unfold lettersP levelsP
  have gpp_c108 := GPp_108
  (refine wlk ?_; intros)
  refine i_loop (α := Nat × Nat × Nat) mixed (fun z => [(0, .val (.string p)), (4, .val (.string (patK p z.1).1)), (5, .row z.2.1 1 0 ((patK p z.1).2.1.length + 1)), (8, .val (.string p)), (9, iv p.size), (10, iv z.1)])
    (fun z => [(z.2.1, 3, 1, ((patK p z.1).2.1 ++ [(patK p z.1).2.2]).map pvN)]) (fun z => z.2.2)
    (fun z => z.1 ≤ p.size ∧ z.2.1 < z.2.2) (fun z => p.size - z.1) (by kernel_rfl) (0, 0, 1) ⟨by simp, by simp⟩ ?_ ?_ rfl ?_
  · simp (disch := (first | omega | (simp only [push_cast]; first | done | omega))) only [push_cast, ↓reduceIte, Nat.reduceEqDiff, Nat.reduceBEq, Nat.reduceAdd, Nat.reduceSub, Int.reduceToNat, patK, List.length_nil, Nat.zero_add, *]
  · simp (disch := (first | omega | (simp only [push_cast]; first | done | omega))) only [push_cast, ↓reduceIte, Nat.reduceEqDiff, Nat.reduceBEq, Nat.reduceAdd, Nat.reduceSub, Int.reduceToNat, patK, List.nil_append, List.map_cons, List.map_nil, *]
  rintro ⟨k, x, y⟩ ⟨hk, hxy⟩
  dsimp only at hk hxy
  obtain ⟨r1, r2, r3, -⟩ := hrg k hk
  by_cases h0 : k < p.size
  · have apd := φDig_ap (at8 p k)
    have hdd : digC (at8 p k) = inB (at8 p k) 48 57 := rfl
    have hb8 := at8_rng p k
    cases hd : inB (at8 p k) 48 57 with
    | true =>
      have hst := patK_dig (hdd.trans hd)
      have hin := inB_iff.1 hd
      have w1 : IntKind.u8.wrap (at8 p k - 48) = at8 p k - 48 := by rw [IntKind.wrap_u8]; omega
      have w3 := wrap_id (n := at8 p k - 48) (by omega) (by omega)
      have hsl := @set_last (patK p k).2.1 (patK p k).2.2 (at8 p k - 48)
      rw [hd] at apd
      replace hst := Lib.hid hst
      clear hrg hdd hd
      generalize (patK p k).2.1 = o at *
      generalize (patK p k).2.2 = v at *
      generalize (patK p k).1 = lt at *
      (refine wlk ?_; intros)
      refine ⟨(k + 1, x, y), ⟨by dsimp only; omega, hxy⟩, by dsimp only; omega, ?_, ?_, rfl⟩
      · dsimp only
        rw [hst.out]
        exact agr
      · dsimp only
        rw [hst.out]
        exact agr
    | false =>
      have hxz : (p.extract k (k + 1)).size = 1 := by rw [ByteArray.size_extract]; omega
      have hst := patK_let (hdd.trans hd)
      rw [hd] at apd
      replace hst := Lib.hid hst
      clear hrg hdd hd
      generalize (patK p k).2.1 = o at *
      generalize (patK p k).2.2 = v at *
      generalize (patK p k).1 = lt at *
      (refine wlk ?_; intros)
      refine ⟨(k + 1, y + 1, y + 2), ⟨by dsimp only; omega, by dsimp only; omega⟩, by dsimp only; omega, ?_, ?_, rfl⟩
      · dsimp only
        rw [hst.out]
        exact agr
      · dsimp only
        rw [hst.out]
        exact agr
  · obtain rfl : k = p.size := by omega
    clear hrg
    exact wlkF
def φPl : Fun := F1 dS fun p => if patB p = true then some (.val (.string (lettersP p))) else none
theorem φPl_ap {p : ByteArray} (h : patB p = true) : φPl [.val (.string p)] = some (.val (.string (lettersP p))) := (F1_ap (A := dS) p).trans (if_pos h)
noncomputable def GPl : Ctx := { fn := fun f => if f = 81 then some φPat else none, io := fun f => none }
theorem GPl_ok : SoundΓ Try.prog GPl := ⟨(fun f φ h => by
  unfold GPl at h
  dsimp only at h
  split at h
  · rename_i hf; cases h; subst hf; exact ⟨⟨_, Try.func81, rfl, rfl⟩, specPatternValid_ok⟩
  cases h), (fun f φ h => by
  unfold GPl at h
  dsimp only at h
  cases h), rfl⟩
theorem GPl_81 (ob : Objs) (ps : List PV) : evCall GPl ob 81 ps = (ps.mapM (reify false 0 ob fuel)).bind φPat := by
  have h : GPl.fn 81 = some φPat := by simp [GPl]
  unfold evCall
  rw [h]
  cases ps.mapM (reify false 0 ob fuel) <;> rfl
set_option maxHeartbeats 8000000 in
theorem specPl_ok : Sound Try.prog 105 φPl := by
  refine sound_pq mixed GPl_ok Try.func105 rfl 33 rfl [.tmp 2] rfl (by kernel_rfl) fun ps r hr => ?_
  obtain ⟨p, rfl, hq⟩ := F1_some hr
  clear hr
  split at hq
  case isFalse => cases hq
  case isTrue hpre =>
  cases hq
  refine ⟨by simp, ?_⟩
  simp only [dIs, dUs, dSs, dI_e, dU_e, dB_e, dS_e, dFn_e, dL_e, dA2_e, dA3_e, dA4_e, dA5_e]
  have hsz := patB_size hpre
  have hrg := patK_rng p
  have apv := φPat_ap (s := p) (by omega)
  rw [hpre] at apv
  unfold lettersP
  clear hpre
  have gpl_c81 := GPl_81
  (refine wlk ?_; intros)
  refine i_loop (α := Nat) mixed (fun k => [(0, .val (.string p)), (3, .val (.string (patK p k).1)), (4, iv k)]) (fun _ => []) (fun _ => 0)
    (fun k => k ≤ p.size) (fun k => p.size - k) (by kernel_rfl) 0 (Nat.zero_le _) ?_ ?_ rfl ?_
  · simp (disch := (first | omega | (simp only [push_cast]; first | done | omega))) only [push_cast, ↓reduceIte, Nat.reduceEqDiff, Nat.reduceBEq, Nat.reduceAdd, Nat.reduceSub, Int.reduceToNat, patK, *]
  · exact agr
  intro k hk
  obtain ⟨r1, r2, r3, -⟩ := hrg k hk
  by_cases h0 : k < p.size
  · have hb8 := at8_rng p k
    cases hd : digC (at8 p k) with
    | true =>
      have hst := patK_dig hd
      have hin := inB_iff.1 hd
      have w1 : IntKind.u8.wrap (at8 p k - 48) = at8 p k - 48 := by rw [IntKind.wrap_u8]; omega
      have w3 := wrap_id (n := at8 p k - 48) (by omega) (by omega)
      replace hst := Lib.hid hst
      clear hrg hd
      generalize (patK p k).1 = lt at *
      (refine wlk ?_; intros)
      refine ⟨k + 1, by omega, by dsimp only; omega, ?_, ?_, rfl⟩
      · dsimp only
        rw [hst.out]
        exact agr
      · exact agr
    | false =>
      have hxz : (p.extract k (k + 1)).size = 1 := by rw [ByteArray.size_extract]; omega
      have hst := patK_let hd
      have hno : at8 p k < 48 ∨ 57 < at8 p k := by
        by_cases hh : 48 ≤ at8 p k ∧ at8 p k ≤ 57
        · have : digC (at8 p k) = true := inB_iff.2 hh
          rw [this] at hd; cases hd
        · omega
      replace hst := Lib.hid hst
      clear hrg hd
      generalize (patK p k).1 = lt at *
      (repeat' (first | (with_reducible first | apply i_seq | apply i_block | apply i_skip | apply i_exit | apply i_ret | apply i_kS | apply i_kSx | apply i_kSr | apply i_kL | apply i_kLx | apply i_kLr | apply i_kB | apply i_kBr | apply i_kBs | apply i_nil) | ((with_reducible apply i_region); (simp only [List.map_cons, List.map_nil] <;> exact rfl)) | ((with_reducible apply i_draw); (simp only [List.map_cons, List.map_nil] <;> exact rfl); decide +kernel) | ((with_reducible apply i_kBo); rfl) | ((first | ((with_reducible apply i_V); rfl; rfl; rfl) | ((first | ((with_reducible apply i_E); rfl) | ((with_reducible apply i_S); rfl)); first | rfl | (simp only [push_cast, ↓reduceIte])) | ((with_reducible apply i_Vq); rfl; rfl) | ((with_reducible apply i_Vp); rfl; rfl; rfl) | (with_reducible first | apply i_Gb | apply i_cond)); (simp (disch := (first | omega | (simp only [push_cast]; first | done | omega))) only [push_cast, ↓reduceIte, Nat.reduceEqDiff, Nat.reduceBEq, Nat.reduceAdd, Nat.reduceSub, Int.reduceToNat, *] <;> with_reducible exact rfl); all_goals try (first | (with_reducible first | refine hyT ?_ | refine hyF ?_ | exact hyA | exact hyB) | (intro hX; first | (cases hX; done) | ((try simp only [decide_eq_true_eq, decide_eq_false_iff_not, Bool.not_eq_true', Bool.not_eq_false'] at hX); (try have hXb := inB_iff.1 hX))))))); all_goals try (exfalso; omega)
      all_goals
        refine ⟨k + 1, by omega, by dsimp only; omega, ?_, ?_, rfl⟩
        · dsimp only
          rw [hst.out]
          exact agr
        · exact agr
  · obtain rfl : k = p.size := by omega
    clear hrg
    exact wlkF
def φPv : Fun := F1 dS fun p => if patB p = true then some (.lst true 1 ((levelsP p).map fun n => .val (.int .i64 n))) else none
theorem φPv_ap {p : ByteArray} (h : patB p = true) : φPv [.val (.string p)] = some (.lst true 1 ((levelsP p).map fun n => .val (.int .i64 n))) := (F1_ap (A := dS) p).trans (if_pos h)
set_option maxHeartbeats 8000000 in
theorem specPv_ok : Sound Try.prog 106 φPv := by
  refine sound_pq mixed GPl_ok Try.func106 rfl 44 rfl [.tmp 2] rfl (by kernel_rfl) fun ps r hr => ?_
  obtain ⟨p, rfl, hq⟩ := F1_some hr
  clear hr
  split at hq
  case isFalse => cases hq
  case isTrue hpre =>
  cases hq
  refine ⟨by simp, ?_⟩
  simp only [dIs, dUs, dSs, dI_e, dU_e, dB_e, dS_e, dFn_e, dL_e, dA2_e, dA3_e, dA4_e, dA5_e]
  have hsz := patB_size hpre
  have hrg := patK_rng p
  have apv := φPat_ap (s := p) (by omega)
  rw [hpre] at apv
  unfold levelsP
  clear hpre
  have gpl_c81 := GPl_81
  (refine wlk ?_; intros)
  refine i_loop (α := Nat × Nat × Nat) mixed (fun z => [(0, .val (.string p)), (3, .row z.2.1 1 0 (patK p z.1).2.1.length), (4, iv (patK p z.1).2.2), (5, iv z.1)])
    (fun z => [(z.2.1, 3, 1, (patK p z.1).2.1.map pvN)]) (fun z => z.2.2)
    (fun z => z.1 ≤ p.size ∧ z.2.1 < z.2.2) (fun z => p.size - z.1) (by kernel_rfl) (0, 0, 1) ⟨by simp, by simp⟩ ?_ ?_ rfl ?_
  · simp (disch := (first | omega | (simp only [push_cast]; first | done | omega))) only [push_cast, ↓reduceIte, Nat.reduceEqDiff, Nat.reduceBEq, Nat.reduceAdd, Nat.reduceSub, Int.reduceToNat, patK, List.length_nil, *]
  · simp (disch := (first | omega | (simp only [push_cast]; first | done | omega))) only [push_cast, ↓reduceIte, Nat.reduceEqDiff, Nat.reduceBEq, Nat.reduceAdd, Nat.reduceSub, Int.reduceToNat, patK, List.map_nil, *]
  rintro ⟨k, x, y⟩ ⟨hk, hxy⟩
  dsimp only at hk hxy
  obtain ⟨r1, r2, r3, -⟩ := hrg k hk
  by_cases h0 : k < p.size
  · have hb8 := at8_rng p k
    cases hd : digC (at8 p k) with
    | true =>
      have hst := patK_dig hd
      have hin := inB_iff.1 hd
      have w1 : IntKind.u8.wrap (at8 p k - 48) = at8 p k - 48 := by rw [IntKind.wrap_u8]; omega
      have w3 := wrap_id (n := at8 p k - 48) (by omega) (by omega)
      replace hst := Lib.hid hst
      clear hrg hd
      generalize (patK p k).2.1 = o at *
      generalize (patK p k).2.2 = v at *
      generalize (patK p k).1 = lt at *
      (refine wlk ?_; intros)
      refine ⟨(k + 1, x, y), ⟨by dsimp only; omega, hxy⟩, by dsimp only; omega, ?_, ?_, rfl⟩
      · dsimp only
        rw [hst.out]
        exact agr
      · dsimp only
        rw [hst.out]
        exact agr
    | false =>
      have hxz : (p.extract k (k + 1)).size = 1 := by rw [ByteArray.size_extract]; omega
      have hst := patK_let hd
      have hno : at8 p k < 48 ∨ 57 < at8 p k := by
        by_cases hh : 48 ≤ at8 p k ∧ at8 p k ≤ 57
        · have : digC (at8 p k) = true := inB_iff.2 hh
          rw [this] at hd; cases hd
        · omega
      replace hst := Lib.hid hst
      clear hrg hd
      generalize (patK p k).2.1 = o at *
      generalize (patK p k).2.2 = v at *
      generalize (patK p k).1 = lt at *
      (repeat' (first | (with_reducible first | apply i_seq | apply i_block | apply i_skip | apply i_exit | apply i_ret | apply i_kS | apply i_kSx | apply i_kSr | apply i_kL | apply i_kLx | apply i_kLr | apply i_kB | apply i_kBr | apply i_kBs | apply i_nil) | ((with_reducible apply i_region); (simp only [List.map_cons, List.map_nil] <;> exact rfl)) | ((with_reducible apply i_draw); (simp only [List.map_cons, List.map_nil] <;> exact rfl); decide +kernel) | ((with_reducible apply i_kBo); rfl) | ((first | ((with_reducible apply i_V); rfl; rfl; rfl) | ((first | ((with_reducible apply i_E); rfl) | ((with_reducible apply i_S); rfl)); first | rfl | (simp only [push_cast, ↓reduceIte])) | ((with_reducible apply i_Vq); rfl; rfl) | ((with_reducible apply i_Vp); rfl; rfl; rfl) | (with_reducible first | apply i_Gb | apply i_cond)); (simp (disch := (first | omega | (simp only [push_cast]; first | done | omega))) only [push_cast, ↓reduceIte, Nat.reduceEqDiff, Nat.reduceBEq, Nat.reduceAdd, Nat.reduceSub, Int.reduceToNat, *] <;> with_reducible exact rfl); all_goals try (first | (with_reducible first | refine hyT ?_ | refine hyF ?_ | exact hyA | exact hyB) | (intro hX; first | (cases hX; done) | ((try simp only [decide_eq_true_eq, decide_eq_false_iff_not, Bool.not_eq_true', Bool.not_eq_false'] at hX); (try have hXb := inB_iff.1 hX))))))); all_goals try (exfalso; omega)
      all_goals
        refine ⟨(k + 1, y + 1, y + 2), ⟨by dsimp only; omega, by dsimp only; omega⟩, by dsimp only; omega, ?_, ?_, rfl⟩
        · dsimp only
          rw [hst.out]
          exact agr
        · dsimp only
          rw [hst.out]
          exact agr
  · obtain rfl : k = p.size := by omega
    clear hrg
    exact wlkF
end Go.Proofs.Ytngcedklbinhjaa
namespace Go.Proofs.Ytngcedklbinhjaa
open Go.RowKit
set_option linter.all false
def hypB (w : ByteArray) (pats : LS) : Bool := wordB w && allPats pats
theorem hypB_iff {w : ByteArray} {pats : LS} : hypB w pats = true ↔ wordB w = true ∧ allPats pats = true := by simp [hypB]
theorem pats_at {pats : LS} (h : allPats pats = true) {k : Nat} (hk : k < pats.length) : patB (pats[k]?.getD .empty) = true := by
  unfold allPats at h
  rw [Bool.and_eq_true, List.all_eq_true] at h
  rw [List.getElem?_eq_getElem hk, Option.getD_some]
  exact h.2 _ (List.getElem_mem hk)
theorem pats_len {pats : LS} (h : allPats pats = true) : pats.length ≤ 20 := by
  unfold allPats at h
  rw [Bool.and_eq_true] at h
  exact of_decide_eq_true h.1
noncomputable def levelsV (w : ByteArray) (pats : LS) : List Int := if hypB w pats = true then levelsR w pats else []
abbrev okHy (w : ByteArray) (pats : LS) : Prop := w.size ≤ 1048576 ∧ okSs pats
noncomputable instance (w : ByteArray) (pats : LS) : Decidable (okHy w pats) := Classical.propDecidable _
noncomputable def φLv : Fun := F2 dS dSs fun w pats => if okHy w pats then some (.lst true 1 ((levelsV w pats).map fun n => .val (.int .i64 n))) else none
theorem φLv_ap {w : ByteArray} {pats : LS} (h : okHy w pats) : φLv [.val (.string w), .lst false 1 (pats.map fun s => .val (.string s))] = some (.lst true 1 ((levelsV w pats).map fun n => .val (.int .i64 n))) := (F2_ap (A := dS) (B := dSs) w pats).trans (if_pos h)
noncomputable def φLvP : Fun := F2 dS dSs fun w pats => if hypB w pats = true then some (.lst true 1 ((levelsR w pats).map fun n => .val (.int .i64 n))) else none
theorem φLvP_ap {w : ByteArray} {pats : LS} (h : hypB w pats = true) : φLvP [.val (.string w), .lst false 1 (pats.map fun s => .val (.string s))] = some (.lst true 1 ((levelsR w pats).map fun n => .val (.int .i64 n))) := (F2_ap (A := dS) (B := dSs) w pats).trans (if_pos h)
theorem lvSet_in {sz a j : Nat} {lv o : List Int} (h : 1 ≤ a + j) (h2 : a + j ≤ sz + 1) : lvSet sz a j lv o = o.set (a + j - 1) (if lv[j]?.getD 0 > o[a + j - 1]?.getD 0 then lv[j]?.getD 0 else o[a + j - 1]?.getD 0) := if_pos ⟨h, h2⟩
theorem lvSet_out {sz a j : Nat} {lv o : List Int} (h : ¬ (1 ≤ a + j ∧ a + j ≤ sz + 1)) : lvSet sz a j lv o = o := if_neg h
theorem lvA_hit {d lt : ByteArray} {sz a : Nat} {lv o : List Int} (h : d.extract a (a + lt.size) = lt) : lvA d sz lt lv o (a + 1) = lvJ sz a lv (lvA d sz lt lv o a) lv.length := by
  rw [lvA, if_pos h]
theorem lvA_miss {d lt : ByteArray} {sz a : Nat} {lv o : List Int} (h : ¬ d.extract a (a + lt.size) = lt) : lvA d sz lt lv o (a + 1) = lvA d sz lt lv o a := by
  rw [lvA, if_neg h]
noncomputable def GLvI : Ctx := { fn := fun f => if f = 122 then some φPp else if f = 57 then some φIn else none, io := fun f => none }
theorem GLvI_ok : SoundΓ Try.prog GLvI := ⟨(fun f φ h => by
  unfold GLvI at h
  dsimp only at h
  split at h
  · rename_i hf; cases h; subst hf; exact ⟨⟨_, Try.func122, rfl, rfl⟩, implPp_ok⟩
  split at h
  · rename_i hf; cases h; subst hf; exact ⟨⟨_, Try.func57, rfl, rfl⟩, in_ok⟩
  cases h), (fun f φ h => by
  unfold GLvI at h
  dsimp only at h
  cases h), rfl⟩
theorem GLvI_122 (ob : Objs) (ps : List PV) : evCall GLvI ob 122 ps = (ps.mapM (reify false 0 ob fuel)).bind φPp := by
  have h : GLvI.fn 122 = some φPp := by simp [GLvI]
  unfold evCall
  rw [h]
  cases ps.mapM (reify false 0 ob fuel) <;> rfl
theorem GLvI_57 (ob : Objs) (ps : List PV) : evCall GLvI ob 57 ps = (ps.mapM (reify false 0 ob fuel)).bind φIn := by
  have h : GLvI.fn 57 = some φIn := by simp [GLvI]
  unfold evCall
  rw [h]
  cases ps.mapM (reify false 0 ob fuel) <;> rfl
set_option maxHeartbeats 16000000 in
theorem implLvP_ok : Sound Try.prog 117 φLvP := by
  refine sound_pq mixed GLvI_ok Try.func117 rfl 78 rfl [.tmp 4] rfl (by kernel_rfl) fun ps r hr => ?_
  obtain ⟨w, pats, rfl, hq⟩ := F2_some hr
  clear hr
  split at hq
  case isFalse => cases hq
  case isTrue hpre =>
  cases hq
  refine ⟨by simp, ?_⟩
  simp only [dIs, dUs, dSs, dI_e, dU_e, dB_e, dS_e, dFn_e, dL_e, dA2_e, dA3_e, dA4_e, dA5_e]
  obtain ⟨hw, hp⟩ := hypB_iff.1 hpre
  obtain ⟨-, hw1, hw2⟩ := wordB_letters hw
  have hpl := pats_len hp
  have hpa := fun k hk => pats_at hp (k := k) hk
  have hds := dotW_size w
  have hlo := lvP_ok w pats
  have hd0 : dotW w = (⟨#[46]⟩ ++ w) ++ ⟨#[46]⟩ := rfl
  have h46 : (⟨#[46]⟩ : ByteArray).size = 1 := rfl
  have api := φIn_ap
  unfold levelsR
  clear hw hp hpre
  have glvi_c122 := GLvI_122; have glvi_c57 := GLvI_57
  (refine wlk ?_; intros)
  rw [← hd0]
  clear hd0 h46
  generalize hdd : dotW w = d at *
  refine i_loop (α := Nat) mixed (fun k => [(0, .val (.string w)), (5, .val (.string d)), (6, .row 0 1 0 (w.size + 1)), (22, .lst false 1 (pats.map fun s => .val (.string s))), (23, iv pats.length), (24, iv k)])
    (fun k => [(0, 3, 1, (lvP w pats k).map pvN)]) (fun _ => 1)
    (fun k => k ≤ pats.length) (fun k => pats.length - k) (by kernel_rfl) 0 (Nat.zero_le _) ?_ ?_ rfl ?_
  · exact agr
  · simp (disch := (first | omega | (simp only [push_cast]; first | done | omega))) only [push_cast, ↓reduceIte, Nat.reduceEqDiff, Nat.reduceBEq, Nat.reduceAdd, Nat.reduceSub, Int.reduceToNat, lvP, List.map_replicate, *]
  intro k hk
  by_cases h0 : k < pats.length
  · have hpk := hpa k h0
    have happ := φPp_ap (p := pats[k]?.getD .empty) (patB_size hpk).2
    obtain ⟨g1, g2, g3⟩ := levelsP_rng (pats[k]?.getD .empty)
    have hps := (patB_size hpk).2
    have hnx : lvP w pats (k + 1) = lvA d w.size (lettersP (pats[k]?.getD .empty)) (levelsP (pats[k]?.getD .empty)) (lvP w pats k) (w.size + 3 - (lettersP (pats[k]?.getD .empty)).size) := by rw [lvP, hdd]
    have ho := hlo k
    replace hnx := Lib.hid hnx
    clear hpa hlo hpk
    generalize hp9 : pats[k]?.getD ByteArray.empty = p at *
    generalize lettersP p = lt at *
    generalize levelsP p = lv at *
    generalize lvP w pats k = o at *
    have hA := fun a => (ho.lvA (d := d) (lt := lt) (lv := lv) g3 a)
    (refine wlk ?_; intros)
    refine i_loop (α := Nat) mixed (fun a => [(0, .val (.string w)), (5, .val (.string d)), (6, .row 0 1 0 (w.size + 1)), (22, .lst false 1 (pats.map fun s => .val (.string s))), (23, iv pats.length), (24, iv k), (9, .val (.string lt)), (10, .lst true 1 (lv.map pvN)), (11, iv a)])
      (fun a => [(0, 3, 1, (lvA d w.size lt lv o a).map pvN)]) (fun _ => 1)
      (fun a => a ≤ w.size + 3 - lt.size) (fun a => w.size + 3 - lt.size - a) (by kernel_rfl) 0 (Nat.zero_le _) ?_ ?_ rfl ?_
    · exact agr
    · simp (disch := (first | omega | (simp only [push_cast]; first | done | omega))) only [push_cast, ↓reduceIte, Nat.reduceEqDiff, Nat.reduceBEq, Nat.reduceAdd, Nat.reduceSub, Int.reduceToNat, lvA, *]
    intro a ha
    by_cases ha0 : a < w.size + 3 - lt.size
    · obtain ⟨oa1, oa2⟩ := hA a
      have hJ := fun j => ((hA a).lvJ (a := a) (lv := lv) g3 j)
      clear hA ho happ
      by_cases hm : d.extract a (a + lt.size) = lt
      · have hn := lvA_hit (sz := w.size) (lv := lv) (o := o) hm
        replace hn := Lib.hid hn
        replace hm := Lib.hid hm
        generalize lvA d w.size lt lv o a = oa at *
        have hm := hm.out
        (refine wlk ?_; intros)
        clear hm
        refine i_loop (α := Nat) mixed (fun j => [(0, .val (.string w)), (5, .val (.string d)), (6, .row 0 1 0 (w.size + 1)), (22, .lst false 1 (pats.map fun s => .val (.string s))), (23, iv pats.length), (24, iv k), (9, .val (.string lt)), (10, .lst true 1 (lv.map pvN)), (11, iv a), (51, .lst true 1 (lv.map pvN)), (52, iv lv.length), (53, iv j)])
          (fun j => [(0, 3, 1, (lvJ w.size a lv oa j).map pvN)]) (fun _ => 1)
          (fun j => j ≤ lv.length) (fun j => lv.length - j) (by kernel_rfl) 0 (Nat.zero_le _) ?_ ?_ rfl ?_
        · exact agr
        · simp (disch := (first | omega | (simp only [push_cast]; first | done | omega))) only [push_cast, ↓reduceIte, Nat.reduceEqDiff, Nat.reduceBEq, Nat.reduceAdd, Nat.reduceSub, Int.reduceToNat, lvJ, *]
        intro j hj
        by_cases hj0 : j < lv.length
        · obtain ⟨oj1, oj2⟩ := hJ j
          clear hJ
          have hs : lvJ w.size a lv oa (j + 1) = lvSet w.size a j lv (lvJ w.size a lv oa j) := rfl
          have hg3 := g3 j
          by_cases hin : 1 ≤ a + j ∧ a + j ≤ w.size + 1
          · rw [lvSet_in hin.1 hin.2] at hs
            replace hs := Lib.hid hs
            have api1 : inB ((a : Int) + j - 1) 0 w.size = true := inB_iff.2 ⟨by omega, by omega⟩
            have hti : ((a : Int) + j - 1).toNat = a + j - 1 := by omega
            generalize lvJ w.size a lv oa j = oj at *
            (refine wlk ?_; intros)
            refine ⟨j + 1, by omega, by dsimp only; omega, ?_, ?_, rfl⟩
            · exact agr
            · dsimp only
              rw [hs.out]
              exact agr
          · rw [lvSet_out hin] at hs
            replace hs := Lib.hid hs
            have api1 : inB ((a : Int) + j - 1) 0 w.size = false := Bool.eq_false_iff.2 fun q => by have := inB_iff.1 q; omega
            generalize lvJ w.size a lv oa j = oj at *
            (refine wlk ?_; intros)
            refine ⟨j + 1, by omega, by dsimp only; omega, ?_, ?_, rfl⟩
            · exact agr
            · dsimp only
              rw [hs.out]
              exact agr
        · obtain rfl : j = lv.length := by omega
          clear hJ
          (refine wlk ?_; intros)
          refine ⟨a + 1, by omega, by dsimp only; omega, ?_, ?_, rfl⟩
          · exact agr
          · dsimp only
            rw [hn.out]
            exact agr
      · have hn := lvA_miss (sz := w.size) (lv := lv) (o := o) hm
        replace hn := Lib.hid hn
        generalize lvA d w.size lt lv o a = oa at *
        (refine wlk ?_; intros)
        refine ⟨a + 1, by omega, by dsimp only; omega, ?_, ?_, rfl⟩
        · exact agr
        · dsimp only
          rw [hn.out]
          exact agr
    · have hae : a = w.size + 3 - lt.size := by omega
      clear hA ho happ
      rw [← hae] at hnx
      generalize lvA d w.size lt lv o a = oa at *
      clear hae
      (refine wlk ?_; intros)
      refine ⟨k + 1, by omega, by dsimp only; omega, ?_, ?_, rfl⟩
      · exact agr
      · dsimp only
        rw [hnx.out]
        exact agr
  · obtain rfl : k = pats.length := by omega
    obtain ⟨o1, o2⟩ := hlo pats.length
    clear hlo hpa
    generalize lvP w pats pats.length = o at *
    exact wlkF
noncomputable def GLvI2 : Ctx := { fn := fun f => if f = 89 then some φWord else if f = 72 then some φPats else if f = 117 then some φLvP else none, io := fun f => none }
theorem GLvI2_ok : SoundΓ Try.prog GLvI2 := ⟨(fun f φ h => by
  unfold GLvI2 at h
  dsimp only at h
  split at h
  · rename_i hf; cases h; subst hf; exact ⟨⟨_, Try.func89, rfl, rfl⟩, implWordValid_ok⟩
  split at h
  · rename_i hf; cases h; subst hf; exact ⟨⟨_, Try.func72, rfl, rfl⟩, implPatternsValid_ok⟩
  split at h
  · rename_i hf; cases h; subst hf; exact ⟨⟨_, Try.func117, rfl, rfl⟩, implLvP_ok⟩
  cases h), (fun f φ h => by
  unfold GLvI2 at h
  dsimp only at h
  cases h), rfl⟩
theorem GLvI2_89 (ob : Objs) (ps : List PV) : evCall GLvI2 ob 89 ps = (ps.mapM (reify false 0 ob fuel)).bind φWord := by
  have h : GLvI2.fn 89 = some φWord := by simp [GLvI2]
  unfold evCall
  rw [h]
  cases ps.mapM (reify false 0 ob fuel) <;> rfl
theorem GLvI2_72 (ob : Objs) (ps : List PV) : evCall GLvI2 ob 72 ps = (ps.mapM (reify false 0 ob fuel)).bind φPats := by
  have h : GLvI2.fn 72 = some φPats := by simp [GLvI2]
  unfold evCall
  rw [h]
  cases ps.mapM (reify false 0 ob fuel) <;> rfl
theorem GLvI2_117 (ob : Objs) (ps : List PV) : evCall GLvI2 ob 117 ps = (ps.mapM (reify false 0 ob fuel)).bind φLvP := by
  have h : GLvI2.fn 117 = some φLvP := by simp [GLvI2]
  unfold evCall
  rw [h]
  cases ps.mapM (reify false 0 ob fuel) <;> rfl
theorem implLv_ok : Sound Try.prog 109 φLv := by
  refine sound_pqW mixed GLvI2_ok Try.func109 rfl 16 rfl [.tmp 4] rfl (by kernel_rfl) fun ps r hr => ?_
  obtain ⟨w, pats, rfl, hq⟩ := F2_some hr
  clear hr
  split at hq
  case isFalse => cases hq
  case isTrue hpre =>
  cases hq
  refine ⟨by simp, ?_⟩
  simp only [dIs, dUs, dSs, dI_e, dU_e, dB_e, dS_e, dFn_e, dL_e, dA2_e, dA3_e, dA4_e, dA5_e]
  have ap1 := φWord_ap (s := w) (by omega)
  have ap2 := φPats_ap hpre.2
  have apl := fun h => φLvP_ap (w := w) (pats := pats) h
  unfold levelsV hypB
  unfold hypB at apl
  cases hw : wordB w with
  | false =>
    rw [hw] at ap1
    clear apl hpre hw
    rw [Bool.false_and, if_neg (by decide)]
    have glvi2_c89 := GLvI2_89; have glvi2_c72 := GLvI2_72; have glvi2_c117 := GLvI2_117
    (refine wlk ?_; intros)
    all_goals ((with_reducible apply i_endW (by first | exact .inl rfl | exact .inr rfl)); (simp (disch := (first | omega | (simp only [push_cast]; first | done | omega))) only [push_cast, ↓reduceIte, Nat.reduceEqDiff, Nat.reduceBEq, Nat.reduceAdd, Nat.reduceSub, Int.reduceToNat, *] <;> with_reducible exact rfl))
    all_goals exact nil_le _ _
  | true =>
    cases hp : allPats pats with
    | false =>
      rw [hw] at ap1
      rw [hp] at ap2
      clear apl hpre hw hp
      rw [Bool.and_false, if_neg (by decide)]
      have glvi2_c89 := GLvI2_89; have glvi2_c72 := GLvI2_72; have glvi2_c117 := GLvI2_117
      (refine wlk ?_; intros)
      all_goals ((with_reducible apply i_endW (by first | exact .inl rfl | exact .inr rfl)); (simp (disch := (first | omega | (simp only [push_cast]; first | done | omega))) only [push_cast, ↓reduceIte, Nat.reduceEqDiff, Nat.reduceBEq, Nat.reduceAdd, Nat.reduceSub, Int.reduceToNat, *] <;> with_reducible exact rfl))
      all_goals exact nil_le _ _
    | true =>
      have apl := apl (by rw [hw, hp]; rfl)
      rw [hw] at ap1
      rw [hp] at ap2
      clear hpre hw hp
      rw [Bool.and_true, if_pos rfl]
      have glvi2_c89 := GLvI2_89; have glvi2_c72 := GLvI2_72; have glvi2_c117 := GLvI2_117
      (refine wlk ?_; intros)
      all_goals ((with_reducible apply i_endW (by first | exact .inl rfl | exact .inr rfl)); (simp (disch := (first | omega | (simp only [push_cast]; first | done | omega))) only [push_cast, ↓reduceIte, Nat.reduceEqDiff, Nat.reduceBEq, Nat.reduceAdd, Nat.reduceSub, Int.reduceToNat, *] <;> with_reducible exact rfl))
      all_goals exact PV.le_refl _
noncomputable def GLvS : Ctx := { fn := fun f => if f = 69 then some φWord else if f = 59 then some φPats else if f = 105 then some φPl else if f = 106 then some φPv else if f = 62 then some φIn else none, io := fun f => none }
theorem GLvS_ok : SoundΓ Try.prog GLvS := ⟨(fun f φ h => by
  unfold GLvS at h
  dsimp only at h
  split at h
  · rename_i hf; cases h; subst hf; exact ⟨⟨_, Try.func69, rfl, rfl⟩, specWordValid_ok⟩
  split at h
  · rename_i hf; cases h; subst hf; exact ⟨⟨_, Try.func59, rfl, rfl⟩, specPatternsValid_ok⟩
  split at h
  · rename_i hf; cases h; subst hf; exact ⟨⟨_, Try.func105, rfl, rfl⟩, specPl_ok⟩
  split at h
  · rename_i hf; cases h; subst hf; exact ⟨⟨_, Try.func106, rfl, rfl⟩, specPv_ok⟩
  split at h
  · rename_i hf; cases h; subst hf; exact ⟨⟨_, Try.func62, rfl, rfl⟩, l1In_ok⟩
  cases h), (fun f φ h => by
  unfold GLvS at h
  dsimp only at h
  cases h), rfl⟩
theorem GLvS_69 (ob : Objs) (ps : List PV) : evCall GLvS ob 69 ps = (ps.mapM (reify false 0 ob fuel)).bind φWord := by
  have h : GLvS.fn 69 = some φWord := by simp [GLvS]
  unfold evCall
  rw [h]
  cases ps.mapM (reify false 0 ob fuel) <;> rfl
theorem GLvS_59 (ob : Objs) (ps : List PV) : evCall GLvS ob 59 ps = (ps.mapM (reify false 0 ob fuel)).bind φPats := by
  have h : GLvS.fn 59 = some φPats := by simp [GLvS]
  unfold evCall
  rw [h]
  cases ps.mapM (reify false 0 ob fuel) <;> rfl
theorem GLvS_105 (ob : Objs) (ps : List PV) : evCall GLvS ob 105 ps = (ps.mapM (reify false 0 ob fuel)).bind φPl := by
  have h : GLvS.fn 105 = some φPl := by simp [GLvS]
  unfold evCall
  rw [h]
  cases ps.mapM (reify false 0 ob fuel) <;> rfl
theorem GLvS_106 (ob : Objs) (ps : List PV) : evCall GLvS ob 106 ps = (ps.mapM (reify false 0 ob fuel)).bind φPv := by
  have h : GLvS.fn 106 = some φPv := by simp [GLvS]
  unfold evCall
  rw [h]
  cases ps.mapM (reify false 0 ob fuel) <;> rfl
theorem GLvS_62 (ob : Objs) (ps : List PV) : evCall GLvS ob 62 ps = (ps.mapM (reify false 0 ob fuel)).bind φIn := by
  have h : GLvS.fn 62 = some φIn := by simp [GLvS]
  unfold evCall
  rw [h]
  cases ps.mapM (reify false 0 ob fuel) <;> rfl
set_option maxHeartbeats 16000000 in
theorem specLv_ok : Sound Try.prog 88 φLv := by
  refine sound_pq mixed GLvS_ok Try.func88 rfl 90 rfl [.tmp 4] rfl (by kernel_rfl) fun ps r hr => ?_
  obtain ⟨w, pats, rfl, hq⟩ := F2_some hr
  clear hr
  split at hq
  case isFalse => cases hq
  case isTrue hpre =>
  cases hq
  refine ⟨by simp, ?_⟩
  simp only [dIs, dUs, dSs, dI_e, dU_e, dB_e, dS_e, dFn_e, dL_e, dA2_e, dA3_e, dA4_e, dA5_e]
  have ap1 := φWord_ap (s := w) (by omega)
  have ap2 := φPats_ap hpre.2
  unfold levelsV hypB
  cases hw : wordB w with
  | false =>
    rw [hw] at ap1
    clear hpre hw
    rw [Bool.false_and, if_neg (by decide)]
    have glvs_c69 := GLvS_69; have glvs_c59 := GLvS_59; have glvs_c105 := GLvS_105; have glvs_c106 := GLvS_106; have glvs_c62 := GLvS_62
    exact wlkF
  | true =>
  cases hp : allPats pats with
  | false =>
    rw [hw] at ap1
    rw [hp] at ap2
    clear hpre hw hp
    rw [Bool.and_false, if_neg (by decide)]
    have glvs_c69 := GLvS_69; have glvs_c59 := GLvS_59; have glvs_c105 := GLvS_105; have glvs_c106 := GLvS_106; have glvs_c62 := GLvS_62
    exact wlkF
  | true =>
  rw [hw] at ap1
  rw [hp] at ap2
  rw [Bool.and_true, if_pos rfl]
  obtain ⟨-, hw1, hw2⟩ := wordB_letters hw
  have hpl := pats_len hp
  have hpa := fun k hk => pats_at hp (k := k) hk
  have hds := dotW_size w
  have hlo := lvP_ok w pats
  have hd0 : dotW w = (⟨#[46]⟩ ++ w) ++ ⟨#[46]⟩ := rfl
  have h46 : (⟨#[46]⟩ : ByteArray).size = 1 := rfl
  have api := φIn_ap
  unfold levelsR
  clear hw hp hpre
  have glvs_c69 := GLvS_69; have glvs_c59 := GLvS_59; have glvs_c105 := GLvS_105; have glvs_c106 := GLvS_106; have glvs_c62 := GLvS_62
  (refine wlk ?_; intros)
  rw [← hd0]
  clear hd0 h46
  generalize hdd : dotW w = d at *
  refine i_loop (α := Nat) mixed (fun k => [(0, .val (.string w)), (1, .lst false 1 (pats.map fun s => .val (.string s))), (5, .row 0 1 0 (w.size + 1)), (6, .val (.string d)), (7, iv k)])
    (fun k => [(0, 3, 1, (lvP w pats k).map pvN)]) (fun _ => 1)
    (fun k => k ≤ pats.length) (fun k => pats.length - k) (by kernel_rfl) 0 (Nat.zero_le _) ?_ ?_ rfl ?_
  · exact agr
  · simp (disch := (first | omega | (simp only [push_cast]; first | done | omega))) only [push_cast, ↓reduceIte, Nat.reduceEqDiff, Nat.reduceBEq, Nat.reduceAdd, Nat.reduceSub, Int.reduceToNat, lvP, List.map_replicate, *]
  intro k hk
  by_cases h0 : k < pats.length
  · have hpk := hpa k h0
    have hap1 := φPl_ap hpk
    have hap2 := φPv_ap hpk
    obtain ⟨g1, g2, g3⟩ := levelsP_rng (pats[k]?.getD .empty)
    have hps := (patB_size hpk).2
    have hnx : lvP w pats (k + 1) = lvA d w.size (lettersP (pats[k]?.getD .empty)) (levelsP (pats[k]?.getD .empty)) (lvP w pats k) (w.size + 3 - (lettersP (pats[k]?.getD .empty)).size) := by rw [lvP, hdd]
    have ho := hlo k
    replace hnx := Lib.hid hnx
    clear hpa hlo hpk
    generalize hp9 : pats[k]?.getD ByteArray.empty = p at *
    generalize lettersP p = lt at *
    generalize levelsP p = lv at *
    generalize lvP w pats k = o at *
    have hA := fun a => (ho.lvA (d := d) (lt := lt) (lv := lv) g3 a)
    (refine wlk ?_; intros)
    refine i_loop (α := Nat) mixed (fun a => [(0, .val (.string w)), (1, .lst false 1 (pats.map fun s => .val (.string s))), (5, .row 0 1 0 (w.size + 1)), (6, .val (.string d)), (7, iv k), (8, .val (.string lt)), (9, .lst true 1 (lv.map pvN)), (10, iv a)])
      (fun a => [(0, 3, 1, (lvA d w.size lt lv o a).map pvN)]) (fun _ => 1)
      (fun a => a ≤ w.size + 3 - lt.size) (fun a => w.size + 3 - lt.size - a) (by kernel_rfl) 0 (Nat.zero_le _) ?_ ?_ rfl ?_
    · exact agr
    · simp (disch := (first | omega | (simp only [push_cast]; first | done | omega))) only [push_cast, ↓reduceIte, Nat.reduceEqDiff, Nat.reduceBEq, Nat.reduceAdd, Nat.reduceSub, Int.reduceToNat, lvA, *]
    intro a ha
    by_cases ha0 : a < w.size + 3 - lt.size
    · obtain ⟨oa1, oa2⟩ := hA a
      have hJ := fun j => ((hA a).lvJ (a := a) (lv := lv) g3 j)
      clear hA ho hap1 hap2
      by_cases hm : d.extract a (a + lt.size) = lt
      · have hn := lvA_hit (sz := w.size) (lv := lv) (o := o) hm
        replace hn := Lib.hid hn
        replace hm := Lib.hid hm
        generalize lvA d w.size lt lv o a = oa at *
        have hm := hm.out
        (refine wlk ?_; intros)
        clear hm
        refine i_loop (α := Nat) mixed (fun j => [(0, .val (.string w)), (1, .lst false 1 (pats.map fun s => .val (.string s))), (5, .row 0 1 0 (w.size + 1)), (6, .val (.string d)), (7, iv k), (8, .val (.string lt)), (9, .lst true 1 (lv.map pvN)), (10, iv a), (11, iv j)])
          (fun j => [(0, 3, 1, (lvJ w.size a lv oa j).map pvN)]) (fun _ => 1)
          (fun j => j ≤ lv.length) (fun j => lv.length - j) (by kernel_rfl) 0 (Nat.zero_le _) ?_ ?_ rfl ?_
        · exact agr
        · simp (disch := (first | omega | (simp only [push_cast]; first | done | omega))) only [push_cast, ↓reduceIte, Nat.reduceEqDiff, Nat.reduceBEq, Nat.reduceAdd, Nat.reduceSub, Int.reduceToNat, lvJ, *]
        intro j hj
        by_cases hj0 : j < lv.length
        · obtain ⟨oj1, oj2⟩ := hJ j
          clear hJ
          have hs : lvJ w.size a lv oa (j + 1) = lvSet w.size a j lv (lvJ w.size a lv oa j) := rfl
          have hg3 := g3 j
          by_cases hin : 1 ≤ a + j ∧ a + j ≤ w.size + 1
          · rw [lvSet_in hin.1 hin.2] at hs
            replace hs := Lib.hid hs
            have api1 : inB ((a : Int) + j - 1) 0 w.size = true := inB_iff.2 ⟨by omega, by omega⟩
            have hti : ((a : Int) + j - 1).toNat = a + j - 1 := by omega
            generalize lvJ w.size a lv oa j = oj at *
            (refine wlk ?_; intros)
            refine ⟨j + 1, by omega, by dsimp only; omega, ?_, ?_, rfl⟩
            · exact agr
            · dsimp only
              rw [hs.out]
              exact agr
          · rw [lvSet_out hin] at hs
            replace hs := Lib.hid hs
            have api1 : inB ((a : Int) + j - 1) 0 w.size = false := Bool.eq_false_iff.2 fun q => by have := inB_iff.1 q; omega
            generalize lvJ w.size a lv oa j = oj at *
            (refine wlk ?_; intros)
            refine ⟨j + 1, by omega, by dsimp only; omega, ?_, ?_, rfl⟩
            · exact agr
            · dsimp only
              rw [hs.out]
              exact agr
        · obtain rfl : j = lv.length := by omega
          clear hJ
          (refine wlk ?_; intros)
          refine ⟨a + 1, by omega, by dsimp only; omega, ?_, ?_, rfl⟩
          · exact agr
          · dsimp only
            rw [hn.out]
            exact agr
      · have hn := lvA_miss (sz := w.size) (lv := lv) (o := o) hm
        replace hn := Lib.hid hn
        generalize lvA d w.size lt lv o a = oa at *
        (refine wlk ?_; intros)
        refine ⟨a + 1, by omega, by dsimp only; omega, ?_, ?_, rfl⟩
        · exact agr
        · dsimp only
          rw [hn.out]
          exact agr
    · have hae : a = w.size + 3 - lt.size := by omega
      clear hA ho hap1 hap2
      rw [← hae] at hnx
      generalize lvA d w.size lt lv o a = oa at *
      clear hae
      (refine wlk ?_; intros)
      refine ⟨k + 1, by omega, by dsimp only; omega, ?_, ?_, rfl⟩
      · exact agr
      · dsimp only
        rw [hnx.out]
        exact agr
  · obtain rfl : k = pats.length := by omega
    obtain ⟨o1, o2⟩ := hlo pats.length
    clear hlo hpa
    generalize lvP w pats pats.length = o at *
    exact wlkF
end Go.Proofs.Ytngcedklbinhjaa
