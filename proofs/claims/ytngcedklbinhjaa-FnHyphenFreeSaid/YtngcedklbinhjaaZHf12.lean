/- What the proof rests on, part 12: contracts of functions. No condition beyond what each states. -/
import Derived.Test.YtngcedklbinhjaaZHf11
namespace Go.Proofs.Ytngcedklbinhjaa
open Go.RowKit
set_option linter.all false
theorem app_it {l : List It} {a b c d e f : Int} {g : Bool} : l.map pvIt ++ [.agg [.val (.int .i64 a), .val (.int .i64 b), .val (.int .i64 c), .val (.int .i64 d), .val (.int .i64 e), .val (.int .i64 f), .val (.bool g)]] = (l ++ [(a, b, c, d, e, f, g)]).map pvIt := by simp
theorem app_it3 {l : List It} {a b c d e f a2 b2 c2 d2 e2 f2 a3 b3 c3 d3 e3 f3 : Int} {g g2 g3 : Bool} : l.map pvIt ++ [.agg [.val (.int .i64 a), .val (.int .i64 b), .val (.int .i64 c), .val (.int .i64 d), .val (.int .i64 e), .val (.int .i64 f), .val (.bool g)], .agg [.val (.int .i64 a2), .val (.int .i64 b2), .val (.int .i64 c2), .val (.int .i64 d2), .val (.int .i64 e2), .val (.int .i64 f2), .val (.bool g2)], .agg [.val (.int .i64 a3), .val (.int .i64 b3), .val (.int .i64 c3), .val (.int .i64 d3), .val (.int .i64 e3), .val (.int .i64 f3), .val (.bool g3)]] = (l ++ [(a, b, c, d, e, f, g), (a2, b2, c2, d2, e2, f2, g2), (a3, b3, c3, d3, e3, f3, g3)]).map pvIt := by simp
theorem app_its {l l' : List It} : l.map pvIt ++ l'.map pvIt = (l ++ l').map pvIt := List.map_append.symm
attribute [push_cast]
  app_it app_it3 app_its
def wiK (ps : LS) : Nat → List It
  | 0 => []
  | k + 1 => (if k = 0 then wiK ps k else wiK ps k ++ [(3, 3, 0, 0, 0, 50, true)]) ++ [(1, wordW (ps[k]?.getD .empty), 0, 0, 0, 0, false)]
noncomputable def wiR (w : ByteArray) (pats : LS) : List It := wiK (partsV w pats) (partsV w pats).length
noncomputable def piK (ws pats : LS) : Nat → List It
  | 0 => []
  | k + 1 => (if k = 0 then piK ws pats k else piK ws pats k ++ [(2, 4, 3, 1, 0, 0, false)]) ++ wiR (ws[k]?.getD .empty) pats
noncomputable def piR (ws pats : LS) : List It := piK ws pats ws.length ++ [(3, 0, 0, 0, 0, 10000, false), (2, 0, 1, 0, 1, 0, false), (3, 0, 0, 0, 0, -10000, false)]
noncomputable def prgB (ws pats : LS) : Bool := allWords ws && (allPats pats && (decide (0 < ws.length) && decide ((piR ws pats).length ≤ 60)))
noncomputable def piV (ws pats : LS) : List It := if prgB ws pats = true then piR ws pats else []
theorem wiK_len (ps : LS) : ∀ k, (wiK ps k).length ≤ 2 * k
  | 0 => by simp [wiK]
  | k + 1 => by
    have := wiK_len ps k
    unfold wiK
    rw [List.length_append, List.length_singleton]
    split
    · omega
    · rw [List.length_append, List.length_singleton]; omega
theorem partsV_len (w : ByteArray) (pats : LS) : (partsV w pats).length ≤ 21 := by
  unfold partsV
  split
  · rename_i h
    have := (places_ok (pats := pats) (hypB_iff.1 h).1).1
    unfold partsR
    rw [ptR_len]
    omega
  · simp
theorem partsV_word {w : ByteArray} {pats : LS} : ∀ x ∈ partsV w pats, wordB x = true := fun x hx => by
  unfold partsV at hx
  split at hx
  · rename_i h
    exact ptR_word (hypB_iff.1 h).1 (places_ok (hypB_iff.1 h).1) x hx
  · simp at hx
theorem partsV_at {w : ByteArray} {pats : LS} {k : Nat} (h : k < (partsV w pats).length) : wordB ((partsV w pats)[k]?.getD .empty) = true := by
  rw [List.getElem?_eq_getElem h, Option.getD_some]
  exact partsV_word _ (List.getElem_mem h)
theorem wiR_len (w : ByteArray) (pats : LS) : (wiR w pats).length ≤ 42 := by
  have h1 := wiK_len (partsV w pats) (partsV w pats).length
  have h2 := partsV_len w pats
  unfold wiR
  omega
theorem piK_len (ws pats : LS) : ∀ k, (piK ws pats k).length ≤ 43 * k
  | 0 => by simp [piK]
  | k + 1 => by
    have := piK_len ws pats k
    have h2 := wiR_len (ws[k]?.getD .empty) pats
    unfold piK
    rw [List.length_append]
    split
    · omega
    · rw [List.length_append, List.length_singleton]; omega
theorem wiK_ok {ps : LS} (h : ∀ x ∈ ps, wordB x = true) : ∀ k, k ≤ ps.length → ∀ x ∈ wiK ps k, itB x = true
  | 0, _ => by simp [wiK]
  | k + 1, hk => fun x hx => by
    have ih := wiK_ok h k (by omega)
    unfold wiK at hx
    rcases List.mem_append.1 hx with hx | hx
    · split at hx
      · exact ih x hx
      · rcases List.mem_append.1 hx with hx | hx
        · exact ih x hx
        · rw [List.mem_singleton.1 hx]; decide
    · rw [List.mem_singleton.1 hx]
      have h1 : wordB (ps[k]?.getD .empty) = true := by
        rw [List.getElem?_eq_getElem (show k < ps.length by omega), Option.getD_some]
        exact h _ (List.getElem_mem _)
      have h2 := wordW_rng h1
      generalize wordW (ps[k]?.getD .empty) = n at *
      simp [itB, glB, rigidB, It.kd, It.gl, It.cost, It.mark, inB_iff]
      omega
theorem piK_ok (ws pats : LS) : ∀ k, ∀ x ∈ piK ws pats k, itB x = true
  | 0 => by simp [piK]
  | k + 1 => fun x hx => by
    have ih := piK_ok ws pats k
    unfold piK at hx
    rcases List.mem_append.1 hx with hx | hx
    · split at hx
      · exact ih x hx
      · rcases List.mem_append.1 hx with hx | hx
        · exact ih x hx
        · rw [List.mem_singleton.1 hx]; decide
    · exact wiK_ok partsV_word _ (Nat.le_refl _) x hx
theorem piR_ok {ws pats : LS} (h : (piR ws pats).length ≤ 60) : itemsB (piR ws pats) = true := by
  unfold itemsB
  rw [Bool.and_eq_true, List.all_eq_true]
  refine ⟨decide_eq_true h, fun x hx => ?_⟩
  unfold piR at hx
  rcases List.mem_append.1 hx with hx | hx
  · exact piK_ok ws pats _ x hx
  · rcases List.mem_cons.1 hx with rfl | hx
    · decide
    · rcases List.mem_cons.1 hx with rfl | hx
      · decide
      · rw [List.mem_singleton.1 hx]; decide
theorem prgB_iff {ws pats : LS} : prgB ws pats = true ↔ allWords ws = true ∧ allPats pats = true ∧ 0 < ws.length ∧ (piR ws pats).length ≤ 60 := by simp [prgB]
theorem piV_ok {ws pats : LS} (h : prgB ws pats = true) : itemsB (piV ws pats) = true := by
  unfold piV
  rw [if_pos h]
  exact piR_ok (prgB_iff.1 h).2.2.2
noncomputable def φL6 : Fun := F2 dS dSs fun w pats => if okHy w pats then some (.lst true 7 ((wiR w pats).map pvIt)) else none
theorem φL6_ap {w : ByteArray} {pats : LS} (h : okHy w pats) : φL6 [.val (.string w), .lst false 1 (pats.map fun s => .val (.string s))] = some (.lst true 7 ((wiR w pats).map pvIt)) := (F2_ap (A := dS) (B := dSs) w pats).trans (if_pos h)
noncomputable def GL6 : Ctx := { fn := fun f => if f = 38 then some φPr else if f = 82 then some φWw else none, io := fun f => none }
theorem GL6_ok : SoundΓ Try.prog GL6 := ⟨(fun f φ h => by
  unfold GL6 at h
  dsimp only at h
  split at h
  · rename_i hf; cases h; subst hf; exact ⟨⟨_, Try.func38, rfl, rfl⟩, specPr_ok⟩
  split at h
  · rename_i hf; cases h; subst hf; exact ⟨⟨_, Try.func82, rfl, rfl⟩, specWw_ok⟩
  cases h), (fun f φ h => by
  unfold GL6 at h
  dsimp only at h
  cases h), rfl⟩
theorem GL6_38 (ob : Objs) (ps : List PV) : evCall GL6 ob 38 ps = (ps.mapM (reify false 0 ob fuel)).bind φPr := by
  have h : GL6.fn 38 = some φPr := by simp [GL6]
  unfold evCall
  rw [h]
  cases ps.mapM (reify false 0 ob fuel) <;> rfl
theorem GL6_82 (ob : Objs) (ps : List PV) : evCall GL6 ob 82 ps = (ps.mapM (reify false 0 ob fuel)).bind φWw := by
  have h : GL6.fn 82 = some φWw := by simp [GL6]
  unfold evCall
  rw [h]
  cases ps.mapM (reify false 0 ob fuel) <;> rfl
set_option maxHeartbeats 16000000 in
theorem specL6_ok : Sound Try.prog 60 φL6 := by
  refine sound_pq mixed GL6_ok Try.func60 rfl 36 rfl [.tmp 4] rfl (by kernel_rfl) fun ps r hr => ?_
  obtain ⟨w, pats, rfl, hq⟩ := F2_some hr
  clear hr
  split at hq
  case isFalse => cases hq
  case isTrue hpre =>
  cases hq
  refine ⟨by simp, ?_⟩
  simp only [dIs, dUs, dSs, dI_e, dU_e, dB_e, dS_e, dFn_e, dL_e, dA2_e, dA3_e, dA4_e, dA5_e]
  have apr := φPr_ap hpre
  have hps : ∀ k, k < (partsV w pats).length → ((partsV w pats)[k]?.getD .empty).size ≤ 1048576 := fun k hk => by
    have := wordB_letters (partsV_at hk)
    omega
  have hpl := partsV_len w pats
  unfold wiR
  generalize partsV w pats = ps at *
  have hwl := wiK_len ps
  clear hpre
  have gl6_c38 := GL6_38; have gl6_c82 := GL6_82
  (refine wlk ?_; intros)
  refine i_loop (α := Nat × Nat × Nat) mixed (fun z => [(0, .val (.string w)), (5, .row z.2.1 7 0 (wiK ps z.1).length), (6, .lst true 1 (ps.map pvS)), (7, iv z.1)])
    (fun z => [(z.2.1, 65, 7, (wiK ps z.1).map pvIt)]) (fun z => z.2.2)
    (fun z => z.1 ≤ ps.length ∧ z.2.1 < z.2.2) (fun z => ps.length - z.1) (by kernel_rfl) (0, 0, 1) ⟨Nat.zero_le _, by simp⟩ ?_ ?_ rfl ?_
  · simp (disch := (first | omega | (simp only [push_cast]; first | done | omega))) only [push_cast, ↓reduceIte, Nat.reduceEqDiff, Nat.reduceBEq, Nat.reduceAdd, Nat.reduceSub, Int.reduceToNat, wiK, List.length_nil, *]
  · simp (disch := (first | omega | (simp only [push_cast]; first | done | omega))) only [push_cast, ↓reduceIte, Nat.reduceEqDiff, Nat.reduceBEq, Nat.reduceAdd, Nat.reduceSub, Int.reduceToNat, wiK, List.map_nil, *]
  rintro ⟨k, x, y⟩ ⟨hk, hxy⟩
  dsimp only at hk hxy
  have hlk := hwl k
  by_cases h0 : k < ps.length
  · have apw := φWw_ap (hps k h0)
    have hn : wiK ps (k + 1) = (if k = 0 then wiK ps k else wiK ps k ++ [(3, 3, 0, 0, 0, 50, true)]) ++ [(1, wordW (ps[k]?.getD .empty), 0, 0, 0, 0, false)] := rfl
    by_cases hz : k = 0
    · rw [if_pos hz] at hn
      replace hn := Lib.hid hn
      replace hz : k < 1 := by omega
      generalize wiK ps k = out at *
      clear hwl hps
      (refine wlk ?_; intros)
      refine ⟨(k + 1, y + 1, y + 2), ⟨by dsimp only; omega, by dsimp only; omega⟩, by dsimp only; omega, ?_, ?_, rfl⟩
      · dsimp only
        rw [hn.out]
        exact agr
      · dsimp only
        rw [hn.out]
        exact agr
    · rw [if_neg hz] at hn
      replace hn := Lib.hid hn
      generalize wiK ps k = out at *
      clear hwl hps
      (refine wlk ?_; intros)
      refine ⟨(k + 1, y + 3, y + 4), ⟨by dsimp only; omega, by dsimp only; omega⟩, by dsimp only; omega, ?_, ?_, rfl⟩
      · dsimp only
        rw [hn.out]
        exact agr
      · dsimp only
        rw [hn.out]
        exact agr
  · obtain rfl : k = ps.length := by omega
    generalize wiK ps ps.length = out at *
    clear hwl hps
    exact wlkF
noncomputable def φPi : Fun := F2 dSs dSs fun ws pats => if okSs ws ∧ okSs pats then some (.tup [.lst true 7 ((piV ws pats).map pvIt), bv (prgB ws pats)]) else none
theorem φPi_ap {ws pats : LS} (h : okSs ws ∧ okSs pats) : φPi [.lst false 1 (ws.map fun s => .val (.string s)), .lst false 1 (pats.map fun s => .val (.string s))] = some (.tup [.lst true 7 ((piV ws pats).map pvIt), .val (.bool (prgB ws pats))]) := (F2_ap (A := dSs) (B := dSs) ws pats).trans (if_pos h)
theorem words_len {ws : LS} (h : allWords ws = true) : ws.length ≤ 12 := by
  unfold allWords at h
  rw [Bool.and_eq_true] at h
  exact of_decide_eq_true h.1
theorem words_at {ws : LS} (h : allWords ws = true) {k : Nat} (hk : k < ws.length) : wordB (ws[k]?.getD .empty) = true := by
  unfold allWords at h
  rw [Bool.and_eq_true, List.all_eq_true] at h
  rw [List.getElem?_eq_getElem hk, Option.getD_some]
  exact h.2 _ (List.getElem_mem hk)
noncomputable def GPi : Ctx := { fn := fun f => if f = 58 then some φWords else if f = 59 then some φPats else if f = 60 then some φL6 else none, io := fun f => none }
theorem GPi_ok : SoundΓ Try.prog GPi := ⟨(fun f φ h => by
  unfold GPi at h
  dsimp only at h
  split at h
  · rename_i hf; cases h; subst hf; exact ⟨⟨_, Try.func58, rfl, rfl⟩, specWordsValid_ok⟩
  split at h
  · rename_i hf; cases h; subst hf; exact ⟨⟨_, Try.func59, rfl, rfl⟩, specPatternsValid_ok⟩
  split at h
  · rename_i hf; cases h; subst hf; exact ⟨⟨_, Try.func60, rfl, rfl⟩, specL6_ok⟩
  cases h), (fun f φ h => by
  unfold GPi at h
  dsimp only at h
  cases h), rfl⟩
theorem GPi_58 (ob : Objs) (ps : List PV) : evCall GPi ob 58 ps = (ps.mapM (reify false 0 ob fuel)).bind φWords := by
  have h : GPi.fn 58 = some φWords := by simp [GPi]
  unfold evCall
  rw [h]
  cases ps.mapM (reify false 0 ob fuel) <;> rfl
theorem GPi_59 (ob : Objs) (ps : List PV) : evCall GPi ob 59 ps = (ps.mapM (reify false 0 ob fuel)).bind φPats := by
  have h : GPi.fn 59 = some φPats := by simp [GPi]
  unfold evCall
  rw [h]
  cases ps.mapM (reify false 0 ob fuel) <;> rfl
theorem GPi_60 (ob : Objs) (ps : List PV) : evCall GPi ob 60 ps = (ps.mapM (reify false 0 ob fuel)).bind φL6 := by
  have h : GPi.fn 60 = some φL6 := by simp [GPi]
  unfold evCall
  rw [h]
  cases ps.mapM (reify false 0 ob fuel) <;> rfl
set_option maxHeartbeats 16000000 in
theorem specPi_ok : Sound Try.prog 36 φPi := by
  refine sound_pq mixed GPi_ok Try.func36 rfl 56 rfl [.tmp 4, .tmp 5] rfl (by kernel_rfl) fun ps r hr => ?_
  obtain ⟨ws, pats, rfl, hq⟩ := F2_some hr
  clear hr
  split at hq
  case isFalse => cases hq
  case isTrue hpre =>
  cases hq
  refine ⟨by simp, ?_⟩
  simp only [dIs, dUs, dSs, dI_e, dU_e, dB_e, dS_e, dFn_e, dL_e, dA2_e, dA3_e, dA4_e, dA5_e]
  have ap1 := φWords_ap hpre.1
  have ap2 := φPats_ap hpre.2
  have hwl0 := hpre.1.1
  unfold piV
  cases hw : allWords ws with
  | false =>
    have hB : prgB ws pats = false := by unfold prgB; rw [hw]; rfl
    rw [hw] at ap1
    rw [hB, if_neg (by decide)]
    clear hpre hw hB
    have gpi_c58 := GPi_58; have gpi_c59 := GPi_59; have gpi_c60 := GPi_60
    exact wlkF
  | true =>
  cases hp : allPats pats with
  | false =>
    have hB : prgB ws pats = false := by unfold prgB; rw [hw, hp]; rfl
    rw [hw] at ap1
    rw [hp] at ap2
    rw [hB, if_neg (by decide)]
    clear hpre hw hp hB
    have gpi_c58 := GPi_58; have gpi_c59 := GPi_59; have gpi_c60 := GPi_60
    exact wlkF
  | true =>
  by_cases hz : ws.length = 0
  · have hB : prgB ws pats = false := by unfold prgB; rw [hw, hp, hz]; rfl
    rw [hw] at ap1
    rw [hp] at ap2
    rw [hB, if_neg (by decide)]
    clear hpre hw hp hB
    have gpi_c58 := GPi_58; have gpi_c59 := GPi_59; have gpi_c60 := GPi_60
    exact wlkF
  · have hB : prgB ws pats = decide ((piR ws pats).length ≤ 60) := by
      unfold prgB
      rw [hw, hp, decide_eq_true (show 0 < ws.length by omega)]
      rfl
    rw [hw] at ap1
    rw [hp] at ap2
    have hwl := words_len hw
    have hap : ∀ k, k < ws.length → φL6 [.val (.string (ws[k]?.getD .empty)), .lst false 1 (pats.map fun s => .val (.string s))] = some (.lst true 7 ((wiR (ws[k]?.getD .empty) pats).map pvIt)) := fun k hk => φL6_ap ⟨hpre.1.2 k, hpre.2⟩
    have hkl := piK_len ws pats
    have hil : ∀ k : Nat, (wiR (ws[k]?.getD .empty) pats).length ≤ 42 := fun k => wiR_len _ _
    rw [hB]
    have hR : piR ws pats = piK ws pats ws.length ++ [(3, 0, 0, 0, 0, 10000, false), (2, 0, 1, 0, 1, 0, false), (3, 0, 0, 0, 0, -10000, false)] := rfl
    rw [hR]
    clear hpre hw hp hB hR
    have gpi_c58 := GPi_58; have gpi_c59 := GPi_59; have gpi_c60 := GPi_60
    (refine wlk ?_; intros)
    refine i_loop (α := Nat × Nat × Nat) mixed (fun z => [(0, .lst false 1 (ws.map pvS)), (1, .lst false 1 (pats.map pvS)), (6, .row z.2.1 7 0 (piK ws pats z.1).length), (7, iv z.1)])
      (fun z => [(z.2.1, 65, 7, (piK ws pats z.1).map pvIt)]) (fun z => z.2.2)
      (fun z => z.1 ≤ ws.length ∧ z.2.1 < z.2.2) (fun z => ws.length - z.1) (by kernel_rfl) (0, 0, 1) ⟨Nat.zero_le _, by simp⟩ ?_ ?_ rfl ?_
    · simp (disch := (first | omega | (simp only [push_cast]; first | done | omega))) only [push_cast, ↓reduceIte, Nat.reduceEqDiff, Nat.reduceBEq, Nat.reduceAdd, Nat.reduceSub, Int.reduceToNat, piK, List.length_nil, *]
    · simp (disch := (first | omega | (simp only [push_cast]; first | done | omega))) only [push_cast, ↓reduceIte, Nat.reduceEqDiff, Nat.reduceBEq, Nat.reduceAdd, Nat.reduceSub, Int.reduceToNat, piK, List.map_nil, *]
    rintro ⟨k, x, y⟩ ⟨hk, hxy⟩
    dsimp only at hk hxy
    have hlk := hkl k
    have hlw := hil k
    by_cases h0 : k < ws.length
    · have apk := hap k h0
      have hn : piK ws pats (k + 1) = (if k = 0 then piK ws pats k else piK ws pats k ++ [(2, 4, 3, 1, 0, 0, false)]) ++ wiR (ws[k]?.getD .empty) pats := rfl
      generalize wiR (ws[k]?.getD .empty) pats = its at *
      by_cases hk0 : k = 0
      · rw [if_pos hk0] at hn
        replace hn := Lib.hid hn
        replace hk0 : k < 1 := by omega
        generalize piK ws pats k = out at *
        clear hkl hil hap
        (refine wlk ?_; intros)
        refine ⟨(k + 1, y, y + 1), ⟨by dsimp only; omega, by dsimp only; omega⟩, by dsimp only; omega, ?_, ?_, rfl⟩
        · dsimp only
          rw [hn.out]
          exact agr
        · dsimp only
          rw [hn.out]
          exact agr
      · rw [if_neg hk0] at hn
        replace hn := Lib.hid hn
        generalize piK ws pats k = out at *
        clear hkl hil hap
        (refine wlk ?_; intros)
        refine ⟨(k + 1, y + 2, y + 3), ⟨by dsimp only; omega, by dsimp only; omega⟩, by dsimp only; omega, ?_, ?_, rfl⟩
        · dsimp only
          rw [hn.out]
          exact agr
        · dsimp only
          rw [hn.out]
          exact agr
    · obtain rfl : k = ws.length := by omega
      generalize piK ws pats ws.length = out at *
      clear hkl hil hap
      by_cases h60 : out.length + 3 ≤ 60
      · rw [decide_eq_true (by simpa using h60), if_pos rfl]
        exact wlkF
      · rw [decide_eq_false (by simpa using h60), if_neg (by decide)]
        exact wlkF
end Go.Proofs.Ytngcedklbinhjaa
namespace Go.Proofs.Ytngcedklbinhjaa
open Go.RowKit
set_option linter.all false
abbrev lsIt (l : List It) : PV := .lst false 7 (l.map pvIt)
theorem brkQ_raw (l : List It) (n : Nat) : brkQ l n = if (l[n]?.getD it0).1 = 2 then decide (0 < n ∧ (l[n - 1]?.getD it0).1 = 1) else decide ((l[n]?.getD it0).1 = 3 ∧ (l[n]?.getD it0).2.2.2.2.2.1 < 10000) := rfl
theorem forced_raw (x : It) : forced x = decide (x.1 = 3 ∧ x.2.2.2.2.2.1 = -10000) := rfl
noncomputable def φBq : Fun := F2 dIts dI fun l n => open Classical in if itemsB l = true ∧ 0 ≤ n ∧ n < l.length then some (bv (brkQ l n.toNat)) else none
theorem φBq_ap {l : List It} {n : Nat} (h : itemsB l = true) (h2 : n < l.length) : φBq [lsIt l, .val (.int .i64 n)] = some (.val (.bool (brkQ l n))) := (F2_ap (A := dIts) (B := dI) l n).trans (if_pos ⟨h, by omega, by omega⟩)
set_option maxHeartbeats 4000000 in
theorem specBq_ok : Sound Try.prog 63 φBq := by
  refine sound_pq mixed GE_ok Try.func63 rfl 36 rfl [.tmp 4] rfl (by kernel_rfl) fun ps r hr => ?_
  obtain ⟨l, n, rfl, hq⟩ := F2_some hr
  clear hr
  split at hq
  case isFalse => cases hq
  case isTrue hpre =>
  cases hq
  refine ⟨by simp, ?_⟩
  simp only [dIs, dUs, dSs, dI_e, dU_e, dB_e, dS_e, dFn_e, dL_e, dA2_e, dA3_e, dA4_e, dA5_e]
  obtain ⟨hB, hn0, hn1⟩ := hpre
  obtain ⟨m, rfl⟩ : ∃ m : Nat, n = m := ⟨n.toNat, by omega⟩
  have hl := items_len hB
  show pq _ _ _ _ _ (initS [lsIt l, .val (.int .i64 m)]).tm _ _
  have hm : m < l.length := by omega
  have e1 : 0 < m → ((m : Int) - 1).toNat = m - 1 := fun h => by omega
  rw [Int.toNat_natCast, brkQ_raw]
  clear hB
  by_cases h0 : 0 < m
  · have e1 := e1 h0
    generalize hx : l[m]?.getD it0 = x at *
    generalize hy : l[m - 1]?.getD it0 = y at *
    obtain ⟨a, b, c, d, e, f, g⟩ := x
    obtain ⟨a', b', c', d', e', f', g'⟩ := y
    dsimp only
    (repeat' (first | (with_reducible first | apply i_seq | apply i_block | apply i_skip | apply i_exit | apply i_ret | apply i_kS | apply i_kSx | apply i_kSr | apply i_kL | apply i_kLx | apply i_kLr | apply i_kB | apply i_kBr | apply i_kBs | apply i_nil) | ((with_reducible apply i_region); (simp only [List.map_cons, List.map_nil] <;> exact rfl)) | ((with_reducible apply i_draw); (simp only [List.map_cons, List.map_nil] <;> exact rfl); decide +kernel) | ((with_reducible apply i_kBo); rfl) | ((first | ((with_reducible apply i_V); rfl; rfl; rfl) | ((first | ((with_reducible apply i_E); rfl) | ((with_reducible apply i_S); rfl)); first | rfl | (simp only [push_cast, ↓reduceIte])) | ((with_reducible apply i_Vq); rfl; rfl) | ((with_reducible apply i_Vp); rfl; rfl; rfl) | (with_reducible first | apply i_Gb | apply i_cond)); (simp (disch := (first | omega | (simp only [push_cast]; first | done | omega))) only [push_cast, ↓reduceIte, Nat.reduceEqDiff, Nat.reduceBEq, Nat.reduceAdd, Nat.reduceSub, Int.reduceToNat, *] <;> with_reducible exact rfl); all_goals try (first | (with_reducible first | refine hyT ?_ | refine hyF ?_ | exact hyA | exact hyB) | (intro hX; first | (cases hX; done) | ((try simp only [decide_eq_true_eq, decide_eq_false_iff_not, Bool.not_eq_true', Bool.not_eq_false'] at hX); (try have hXb := inB_iff.1 hX))))))); all_goals try (exfalso; omega)
    all_goals ((first | apply i_end | apply i_endN); simp (disch := (first | omega | (simp only [push_cast]; first | done | omega))) only [push_cast, ↓reduceIte, Nat.reduceEqDiff, Nat.reduceBEq, Nat.reduceAdd, Nat.reduceSub, Int.reduceToNat, *])
    all_goals ((refine congrArg (fun z => some (PV.val (Value.bool z))) ?_); first | (simp_all; done) | (simp_all; omega))
  · generalize hx : l[m]?.getD it0 = x at *
    obtain ⟨a, b, c, d, e, f, g⟩ := x
    clear e1
    dsimp only
    (repeat' (first | (with_reducible first | apply i_seq | apply i_block | apply i_skip | apply i_exit | apply i_ret | apply i_kS | apply i_kSx | apply i_kSr | apply i_kL | apply i_kLx | apply i_kLr | apply i_kB | apply i_kBr | apply i_kBs | apply i_nil) | ((with_reducible apply i_region); (simp only [List.map_cons, List.map_nil] <;> exact rfl)) | ((with_reducible apply i_draw); (simp only [List.map_cons, List.map_nil] <;> exact rfl); decide +kernel) | ((with_reducible apply i_kBo); rfl) | ((first | ((with_reducible apply i_V); rfl; rfl; rfl) | ((first | ((with_reducible apply i_E); rfl) | ((with_reducible apply i_S); rfl)); first | rfl | (simp only [push_cast, ↓reduceIte])) | ((with_reducible apply i_Vq); rfl; rfl) | ((with_reducible apply i_Vp); rfl; rfl; rfl) | (with_reducible first | apply i_Gb | apply i_cond)); (simp (disch := (first | omega | (simp only [push_cast]; first | done | omega))) only [push_cast, ↓reduceIte, Nat.reduceEqDiff, Nat.reduceBEq, Nat.reduceAdd, Nat.reduceSub, Int.reduceToNat, *] <;> with_reducible exact rfl); all_goals try (first | (with_reducible first | refine hyT ?_ | refine hyF ?_ | exact hyA | exact hyB) | (intro hX; first | (cases hX; done) | ((try simp only [decide_eq_true_eq, decide_eq_false_iff_not, Bool.not_eq_true', Bool.not_eq_false'] at hX); (try have hXb := inB_iff.1 hX))))))); all_goals try (exfalso; omega)
    all_goals ((first | apply i_end | apply i_endN); simp (disch := (first | omega | (simp only [push_cast]; first | done | omega))) only [push_cast, ↓reduceIte, Nat.reduceEqDiff, Nat.reduceBEq, Nat.reduceAdd, Nat.reduceSub, Int.reduceToNat, *])
    all_goals ((refine congrArg (fun z => some (PV.val (Value.bool z))) ?_); first | (simp_all; done) | (simp_all; omega))
noncomputable def φMb : Fun := F2 dIts dI fun l n => open Classical in if itemsB l = true ∧ -1000 ≤ n ∧ n ≤ 1000 then some (bv (decide (0 ≤ n ∧ n < l.length) && brkQ l n.toNat)) else none
theorem φMb_ap {l : List It} {n : Int} (h : itemsB l = true) (h2 : -1000 ≤ n ∧ n ≤ 1000) : φMb [lsIt l, .val (.int .i64 n)] = some (.val (.bool (decide (0 ≤ n ∧ n < l.length) && brkQ l n.toNat))) := (F2_ap (A := dIts) (B := dI) l n).trans (if_pos ⟨h, h2⟩)
noncomputable def GMb : Ctx := { fn := fun f => if f = 57 then some φIn else none, io := fun f => none }
theorem GMb_ok : SoundΓ Try.prog GMb := ⟨(fun f φ h => by
  unfold GMb at h
  dsimp only at h
  split at h
  · rename_i hf; cases h; subst hf; exact ⟨⟨_, Try.func57, rfl, rfl⟩, in_ok⟩
  cases h), (fun f φ h => by
  unfold GMb at h
  dsimp only at h
  cases h), rfl⟩
theorem GMb_57 (ob : Objs) (ps : List PV) : evCall GMb ob 57 ps = (ps.mapM (reify false 0 ob fuel)).bind φIn := by
  have h : GMb.fn 57 = some φIn := by simp [GMb]
  unfold evCall
  rw [h]
  cases ps.mapM (reify false 0 ob fuel) <;> rfl
set_option maxHeartbeats 4000000 in
theorem implMb_ok : Sound Try.prog 97 φMb := by
  refine sound_pq mixed GMb_ok Try.func97 rfl 44 rfl [.tmp 4] rfl (by kernel_rfl) fun ps r hr => ?_
  obtain ⟨l, n, rfl, hq⟩ := F2_some hr
  clear hr
  split at hq
  case isFalse => cases hq
  case isTrue hpre =>
  cases hq
  refine ⟨by simp, ?_⟩
  simp only [dIs, dUs, dSs, dI_e, dU_e, dB_e, dS_e, dFn_e, dL_e, dA2_e, dA3_e, dA4_e, dA5_e]
  obtain ⟨hB, hn0, hn1⟩ := hpre
  have hl := items_len hB
  show pq _ _ _ _ _ (initS [lsIt l, .val (.int .i64 n)]).tm _ _
  have ap := φIn_ap
  clear hB
  by_cases hr : 0 ≤ n ∧ n < l.length
  · obtain ⟨m, rfl⟩ : ∃ m : Nat, n = m := ⟨n.toNat, by omega⟩
    have hm : m < l.length := by omega
    have hin : inB (m : Int) 0 ((l.length : Int) - 1) = true := inB_iff.2 ⟨by omega, by omega⟩
    have e1 : 0 < m → ((m : Int) - 1).toNat = m - 1 := fun h => by omega
    rw [decide_eq_true hr, Bool.true_and, Int.toNat_natCast, brkQ_raw]
    clear hr
    by_cases h0 : 0 < m
    · have e1 := e1 h0
      generalize hx : l[m]?.getD it0 = x at *
      generalize hy : l[m - 1]?.getD it0 = y at *
      obtain ⟨a, b, c, d, e, f, g⟩ := x
      obtain ⟨a', b', c', d', e', f', g'⟩ := y
      dsimp only
      have gmb_c57 := GMb_57
      (repeat' (first | (with_reducible first | apply i_seq | apply i_block | apply i_skip | apply i_exit | apply i_ret | apply i_kS | apply i_kSx | apply i_kSr | apply i_kL | apply i_kLx | apply i_kLr | apply i_kB | apply i_kBr | apply i_kBs | apply i_nil) | ((with_reducible apply i_region); (simp only [List.map_cons, List.map_nil] <;> exact rfl)) | ((with_reducible apply i_draw); (simp only [List.map_cons, List.map_nil] <;> exact rfl); decide +kernel) | ((with_reducible apply i_kBo); rfl) | ((first | ((with_reducible apply i_V); rfl; rfl; rfl) | ((first | ((with_reducible apply i_E); rfl) | ((with_reducible apply i_S); rfl)); first | rfl | (simp only [push_cast, ↓reduceIte])) | ((with_reducible apply i_Vq); rfl; rfl) | ((with_reducible apply i_Vp); rfl; rfl; rfl) | (with_reducible first | apply i_Gb | apply i_cond)); (simp (disch := (first | omega | (simp only [push_cast]; first | done | omega))) only [push_cast, ↓reduceIte, Nat.reduceEqDiff, Nat.reduceBEq, Nat.reduceAdd, Nat.reduceSub, Int.reduceToNat, *] <;> with_reducible exact rfl); all_goals try (first | (with_reducible first | refine hyT ?_ | refine hyF ?_ | exact hyA | exact hyB) | (intro hX; first | (cases hX; done) | ((try simp only [decide_eq_true_eq, decide_eq_false_iff_not, Bool.not_eq_true', Bool.not_eq_false'] at hX); (try have hXb := inB_iff.1 hX))))))); all_goals try (exfalso; omega)
      all_goals ((first | apply i_end | apply i_endN); simp (disch := (first | omega | (simp only [push_cast]; first | done | omega))) only [push_cast, ↓reduceIte, Nat.reduceEqDiff, Nat.reduceBEq, Nat.reduceAdd, Nat.reduceSub, Int.reduceToNat, *])
      all_goals ((refine congrArg (fun z => some (PV.val (Value.bool z))) ?_); first | (simp_all; done) | (simp_all; omega))
    · generalize hx : l[m]?.getD it0 = x at *
      obtain ⟨a, b, c, d, e, f, g⟩ := x
      clear e1
      dsimp only
      have gmb_c57 := GMb_57
      (repeat' (first | (with_reducible first | apply i_seq | apply i_block | apply i_skip | apply i_exit | apply i_ret | apply i_kS | apply i_kSx | apply i_kSr | apply i_kL | apply i_kLx | apply i_kLr | apply i_kB | apply i_kBr | apply i_kBs | apply i_nil) | ((with_reducible apply i_region); (simp only [List.map_cons, List.map_nil] <;> exact rfl)) | ((with_reducible apply i_draw); (simp only [List.map_cons, List.map_nil] <;> exact rfl); decide +kernel) | ((with_reducible apply i_kBo); rfl) | ((first | ((with_reducible apply i_V); rfl; rfl; rfl) | ((first | ((with_reducible apply i_E); rfl) | ((with_reducible apply i_S); rfl)); first | rfl | (simp only [push_cast, ↓reduceIte])) | ((with_reducible apply i_Vq); rfl; rfl) | ((with_reducible apply i_Vp); rfl; rfl; rfl) | (with_reducible first | apply i_Gb | apply i_cond)); (simp (disch := (first | omega | (simp only [push_cast]; first | done | omega))) only [push_cast, ↓reduceIte, Nat.reduceEqDiff, Nat.reduceBEq, Nat.reduceAdd, Nat.reduceSub, Int.reduceToNat, *] <;> with_reducible exact rfl); all_goals try (first | (with_reducible first | refine hyT ?_ | refine hyF ?_ | exact hyA | exact hyB) | (intro hX; first | (cases hX; done) | ((try simp only [decide_eq_true_eq, decide_eq_false_iff_not, Bool.not_eq_true', Bool.not_eq_false'] at hX); (try have hXb := inB_iff.1 hX))))))); all_goals try (exfalso; omega)
      all_goals ((first | apply i_end | apply i_endN); simp (disch := (first | omega | (simp only [push_cast]; first | done | omega))) only [push_cast, ↓reduceIte, Nat.reduceEqDiff, Nat.reduceBEq, Nat.reduceAdd, Nat.reduceSub, Int.reduceToNat, *])
      all_goals ((refine congrArg (fun z => some (PV.val (Value.bool z))) ?_); first | (simp_all; done) | (simp_all; omega))
  · have hin : inB n 0 ((l.length : Int) - 1) = false := Bool.eq_false_iff.2 fun q => by have := inB_iff.1 q; omega
    rw [decide_eq_false hr, Bool.false_and]
    clear hr
    have gmb_c57 := GMb_57
    exact wlkF
noncomputable def φFc : Fun := F1 dIt fun x => some (bv (forced x))
theorem φFc_ap {a b c d e f : Int} {g : Bool} : φFc [.agg [.val (.int .i64 a), .val (.int .i64 b), .val (.int .i64 c), .val (.int .i64 d), .val (.int .i64 e), .val (.int .i64 f), .val (.bool g)]] = some (.val (.bool (forced (a, b, c, d, e, f, g)))) := F1_ap (A := dIt) (a, b, c, d, e, f, g)
theorem implFc_ok : Sound Try.prog 99 φFc := by
  refine sound_pq mixed GE_ok Try.func99 rfl 11 rfl [.tmp 2] rfl (by kernel_rfl) fun ps r hr => ?_
  obtain ⟨⟨a, b, c, d, e, f, g⟩, rfl, hr⟩ := F1_some hr
  cases hr
  refine ⟨by simp, ?_⟩
  simp only [dIs, dUs, dSs, dI_e, dU_e, dB_e, dS_e, dFn_e, dL_e, dA2_e, dA3_e, dA4_e, dA5_e]
  simp only [dA7_e, dI_e, dB_e]
  rw [forced_raw]
  dsimp only
  (repeat' (first | (with_reducible first | apply i_seq | apply i_block | apply i_skip | apply i_exit | apply i_ret | apply i_kS | apply i_kSx | apply i_kSr | apply i_kL | apply i_kLx | apply i_kLr | apply i_kB | apply i_kBr | apply i_kBs | apply i_nil) | ((with_reducible apply i_region); (simp only [List.map_cons, List.map_nil] <;> exact rfl)) | ((with_reducible apply i_draw); (simp only [List.map_cons, List.map_nil] <;> exact rfl); decide +kernel) | ((with_reducible apply i_kBo); rfl) | ((first | ((with_reducible apply i_V); rfl; rfl; rfl) | ((first | ((with_reducible apply i_E); rfl) | ((with_reducible apply i_S); rfl)); first | rfl | (simp only [push_cast, ↓reduceIte])) | ((with_reducible apply i_Vq); rfl; rfl) | ((with_reducible apply i_Vp); rfl; rfl; rfl) | (with_reducible first | apply i_Gb | apply i_cond)); (simp (disch := (first | omega | (simp only [push_cast]; first | done | omega))) only [push_cast, ↓reduceIte, Nat.reduceEqDiff, Nat.reduceBEq, Nat.reduceAdd, Nat.reduceSub, Int.reduceToNat, *] <;> with_reducible exact rfl); all_goals try (first | (with_reducible first | refine hyT ?_ | refine hyF ?_ | exact hyA | exact hyB) | (intro hX; first | (cases hX; done) | ((try simp only [decide_eq_true_eq, decide_eq_false_iff_not, Bool.not_eq_true', Bool.not_eq_false'] at hX); (try have hXb := inB_iff.1 hX))))))); all_goals try (exfalso; omega)
  all_goals ((first | apply i_end | apply i_endN); simp (disch := (first | omega | (simp only [push_cast]; first | done | omega))) only [push_cast, ↓reduceIte, Nat.reduceEqDiff, Nat.reduceBEq, Nat.reduceAdd, Nat.reduceSub, Int.reduceToNat, *])
  all_goals ((refine congrArg (fun z => some (PV.val (Value.bool z))) ?_); first | (simp_all; done) | (simp_all; omega))
noncomputable def φSt : Fun := F2 dIts dI fun l n => open Classical in if itemsB l = true ∧ -1 ≤ n ∧ n < l.length then some (iv (startN l (n + 1).toNat)) else none
theorem φSt_ap {l : List It} {a : Nat} (h : itemsB l = true) (h2 : a ≤ l.length) : φSt [lsIt l, .val (.int .i64 ((a : Int) - 1))] = some (.val (.int .i64 (startN l a))) := (F2_ap (A := dIts) (B := dI) l ((a : Int) - 1)).trans ((if_pos ⟨h, by omega, by omega⟩).trans (by rw [show ((a : Int) - 1 + 1).toNat = a by omega]))
theorem stN_raw {l : List It} {a : Nat} : startN l a = if a < l.length ∧ ¬ (l[a]?.getD it0).1 = 1 ∧ ¬ ((l[a]?.getD it0).1 = 3 ∧ (l[a]?.getD it0).2.2.2.2.2.1 = -10000) then startN l (a + 1) else a := by
  split
  · rename_i h
    exact stN_go h.1 h.2.1 (decide_eq_false h.2.2)
  · rename_i h
    refine stN_stop fun q => h ⟨q.1, q.2.1, fun r => ?_⟩
    have := q.2.2
    rw [forced_raw, decide_eq_true r] at this
    cases this
noncomputable def GStI : Ctx := { fn := fun f => if f = 99 then some φFc else none, io := fun f => none }
theorem GStI_ok : SoundΓ Try.prog GStI := ⟨(fun f φ h => by
  unfold GStI at h
  dsimp only at h
  split at h
  · rename_i hf; cases h; subst hf; exact ⟨⟨_, Try.func99, rfl, rfl⟩, implFc_ok⟩
  cases h), (fun f φ h => by
  unfold GStI at h
  dsimp only at h
  cases h), rfl⟩
theorem GStI_99 (ob : Objs) (ps : List PV) : evCall GStI ob 99 ps = (ps.mapM (reify false 0 ob fuel)).bind φFc := by
  have h : GStI.fn 99 = some φFc := by simp [GStI]
  unfold evCall
  rw [h]
  cases ps.mapM (reify false 0 ob fuel) <;> rfl
set_option maxHeartbeats 8000000 in
theorem implSt_ok : Sound Try.prog 98 φSt := by
  refine sound_pq mixed GStI_ok Try.func98 rfl 31 rfl [.tmp 4] rfl (by kernel_rfl) fun ps r hr => ?_
  obtain ⟨l, n, rfl, hq⟩ := F2_some hr
  clear hr
  split at hq
  case isFalse => cases hq
  case isTrue hpre =>
  cases hq
  refine ⟨by simp, ?_⟩
  simp only [dIs, dUs, dSs, dI_e, dU_e, dB_e, dS_e, dFn_e, dL_e, dA2_e, dA3_e, dA4_e, dA5_e]
  obtain ⟨hB, hn0, hn1⟩ := hpre
  obtain ⟨a, rfl⟩ : ∃ a : Nat, n = (a : Int) - 1 := ⟨(n + 1).toNat, by omega⟩
  have hl := items_len hB
  have ha : a ≤ l.length := by omega
  show pq _ _ _ _ _ (initS [lsIt l, .val (.int .i64 ((a : Int) - 1))]).tm _ _
  rw [show ((a : Int) - 1 + 1).toNat = a by omega]
  have ap := @φFc_ap
  clear hB hn0 hn1
  generalize hR : startN l a = R
  replace hR := Lib.hid hR
  have gsti_c99 := GStI_99
  (refine wlk ?_; intros)
  refine i_loop (α := Nat) mixed (fun k => [(0, lsIt l), (5, iv k)]) (fun _ => []) (fun _ => 0)
    (fun k => k ≤ l.length ∧ startN l k = R) (fun k => l.length - k) (by kernel_rfl) a ⟨ha, hR.out⟩ ?_ ?_ rfl ?_
  · exact agi
  · exact agr
  rintro k ⟨hk, hI⟩
  rw [stN_raw] at hI
  clear hR ha
  by_cases h0 : k < l.length
  · generalize hx : l[k]?.getD it0 = x at *
    obtain ⟨kd, b, c, d, e, cost, g⟩ := x
    dsimp only at hI
    by_cases h1 : kd = 1
    · rw [if_neg (by omega)] at hI
      subst hI
      exact wlkF
    · by_cases h3 : kd = 3 ∧ cost = -10000
      · rw [if_neg (by omega)] at hI
        have hf : forced (kd, b, c, d, e, cost, g) = true := by rw [forced_raw]; exact decide_eq_true h3
        subst hI
        clear h3
        exact wlkF
      · rw [if_pos ⟨h0, h1, h3⟩] at hI
        have hf : forced (kd, b, c, d, e, cost, g) = false := by rw [forced_raw]; exact decide_eq_false h3
        replace hI := Lib.hid hI
        clear h3
        (refine wlk ?_; intros)
        refine ⟨k + 1, ⟨by omega, hI.out⟩, by dsimp only; omega, ?_, ?_, rfl⟩
        · exact agr
        · exact agr
  · rw [if_neg (fun q => h0 q.1)] at hI
    subst hI
    exact wlkF
set_option maxHeartbeats 8000000 in
theorem specSt_ok : Sound Try.prog 84 φSt := by
  refine sound_pq mixed GE_ok Try.func84 rfl 39 rfl [.tmp 4] rfl (by kernel_rfl) fun ps r hr => ?_
  obtain ⟨l, n, rfl, hq⟩ := F2_some hr
  clear hr
  split at hq
  case isFalse => cases hq
  case isTrue hpre =>
  cases hq
  refine ⟨by simp, ?_⟩
  simp only [dIs, dUs, dSs, dI_e, dU_e, dB_e, dS_e, dFn_e, dL_e, dA2_e, dA3_e, dA4_e, dA5_e]
  obtain ⟨hB, hn0, hn1⟩ := hpre
  obtain ⟨a, rfl⟩ : ∃ a : Nat, n = (a : Int) - 1 := ⟨(n + 1).toNat, by omega⟩
  have hl := items_len hB
  have hat := fun k hk => (items_at hB (k := k) hk).cost
  have ha : a ≤ l.length := by omega
  show pq _ _ _ _ _ (initS [lsIt l, .val (.int .i64 ((a : Int) - 1))]).tm _ _
  rw [show ((a : Int) - 1 + 1).toNat = a by omega]
  clear hB hn0 hn1
  generalize hR : startN l a = R
  replace hR := Lib.hid hR
  (refine wlk ?_; intros)
  refine i_loop (α := Nat) mixed (fun k => [(0, lsIt l), (5, iv k)]) (fun _ => []) (fun _ => 0)
    (fun k => k ≤ l.length ∧ startN l k = R) (fun k => l.length - k) (by kernel_rfl) a ⟨ha, hR.out⟩ ?_ ?_ rfl ?_
  · exact agi
  · exact agr
  rintro k ⟨hk, hI⟩
  rw [stN_raw] at hI
  clear hR ha
  by_cases h0 : k < l.length
  · have hc : (0 ≤ (l[k]?.getD it0).2.2.2.2.2.1 ∧ (l[k]?.getD it0).2.2.2.2.2.1 ≤ 10000) ∨ (l[k]?.getD it0).2.2.2.2.2.1 = -10000 := hat k h0
    clear hat
    generalize hx : l[k]?.getD it0 = x at *
    obtain ⟨kd, b, c, d, e, cost, g⟩ := x
    dsimp only at hI hc
    by_cases h1 : kd = 1
    · rw [if_neg (by omega)] at hI
      subst hI
      clear hc
      exact wlkF
    · by_cases h3 : kd = 3 ∧ cost = -10000
      · rw [if_neg (by omega)] at hI
        subst hI
        obtain ⟨h3, h4⟩ := h3
        subst h3
        subst h4
        clear hc h1
        exact wlkF
      · rw [if_pos ⟨h0, h1, h3⟩] at hI
        replace hI := Lib.hid hI
        by_cases h5 : kd = 3
        · have h6 : 0 ≤ cost := by omega
          clear hc h3 h1
          subst h5
          (refine wlk ?_; intros)
          refine ⟨k + 1, ⟨by omega, hI.out⟩, by dsimp only; omega, ?_, ?_, rfl⟩
          · exact agr
          · exact agr
        · clear hc h3
          (refine wlk ?_; intros)
          refine ⟨k + 1, ⟨by omega, hI.out⟩, by dsimp only; omega, ?_, ?_, rfl⟩
          · exact agr
          · exact agr
  · rw [if_neg (fun q => h0 q.1)] at hI
    subst hI
    clear hat
    exact wlkF
noncomputable def φNf : Fun := F3 dIts dI dI fun l n m => open Classical in if itemsB l = true ∧ -1 ≤ n ∧ n < m ∧ m < l.length then some (bv (noFc l (n + 1).toNat m.toNat)) else none
theorem φNf_ap {l : List It} {a b : Nat} (h : itemsB l = true) (h2 : a ≤ b) (h3 : b < l.length) : φNf [lsIt l, .val (.int .i64 ((a : Int) - 1)), .val (.int .i64 b)] = some (.val (.bool (noFc l a b))) := (F3_ap (A := dIts) (B := dI) (C := dI) l ((a : Int) - 1) b).trans ((if_pos ⟨h, by omega, by omega, by omega⟩).trans (by rw [show ((a : Int) - 1 + 1).toNat = a by omega, Int.toNat_natCast]))
set_option maxHeartbeats 8000000 in
theorem specNf_ok : Sound Try.prog 85 φNf := by
  refine sound_pq mixed GE_ok Try.func85 rfl 29 rfl [.tmp 6] rfl (by kernel_rfl) fun ps r hr => ?_
  obtain ⟨l, n, m, rfl, hq⟩ := F3_some hr
  clear hr
  split at hq
  case isFalse => cases hq
  case isTrue hpre =>
  cases hq
  refine ⟨by simp, ?_⟩
  simp only [dIs, dUs, dSs, dI_e, dU_e, dB_e, dS_e, dFn_e, dL_e, dA2_e, dA3_e, dA4_e, dA5_e]
  obtain ⟨hB, hn0, hn1, hn2⟩ := hpre
  obtain ⟨a, rfl⟩ : ∃ a : Nat, n = (a : Int) - 1 := ⟨(n + 1).toNat, by omega⟩
  obtain ⟨b, rfl⟩ : ∃ b : Nat, m = b := ⟨m.toNat, by omega⟩
  have hl := items_len hB
  have hab : a ≤ b := by omega
  have hbl : b < l.length := by omega
  show pq _ _ _ _ _ (initS [lsIt l, .val (.int .i64 ((a : Int) - 1)), .val (.int .i64 b)]).tm _ _
  rw [show ((a : Int) - 1 + 1).toNat = a by omega, Int.toNat_natCast]
  clear hB hn0 hn1 hn2
  (refine wlk ?_; intros)
  refine i_loop (α := Nat) mixed (fun k => [(0, lsIt l), (2, iv b), (7, iv k)]) (fun _ => []) (fun _ => 0)
    (fun k => (a ≤ k ∧ k ≤ b) ∧ noFc l a k = true) (fun k => b - k) (by kernel_rfl) a ⟨⟨Nat.le_refl _, hab⟩, noFc_nil (Nat.le_refl _)⟩ ?_ ?_ rfl ?_
  · exact agi
  · exact agr
  rintro k ⟨⟨hk1, hk2⟩, hI⟩
  by_cases h0 : k < b
  · have hs := noFc_succ (l := l) hk1
    rw [hI, Bool.true_and] at hs
    have hno := fun h => noFc_no (b := b) (l := l) h hk1 h0
    have hfr : forced (gI l k) = decide ((l[k]?.getD it0).1 = 3 ∧ (l[k]?.getD it0).2.2.2.2.2.1 = -10000) := rfl
    rw [hfr] at hs
    clear hI hfr
    generalize hx : l[k]?.getD it0 = x at *
    obtain ⟨kd, w9, c, d, e, cost, g⟩ := x
    dsimp only at hs
    by_cases h3 : kd = 3 ∧ cost = -10000
    · rw [decide_eq_true h3] at hs
      rw [hno hs]
      obtain ⟨h3, h4⟩ := h3
      subst h3
      subst h4
      clear hs hno
      exact wlkF
    · rw [decide_eq_false h3] at hs
      replace hs := Lib.hid hs
      clear hno
      by_cases h5 : kd = 3
      · have h6 : ¬ cost = -10000 := fun q => h3 ⟨h5, q⟩
        clear h3
        subst h5
        (refine wlk ?_; intros)
        refine ⟨k + 1, ⟨⟨by omega, by omega⟩, hs.out⟩, by dsimp only; omega, ?_, ?_, rfl⟩
        · exact agr
        · exact agr
      · clear h3
        (refine wlk ?_; intros)
        refine ⟨k + 1, ⟨⟨by omega, by omega⟩, hs.out⟩, by dsimp only; omega, ?_, ?_, rfl⟩
        · exact agr
        · exact agr
  · obtain rfl : k = b := by omega
    rw [hI]
    clear hI
    exact wlkF
noncomputable def φLq : Fun := F3 dIts dI dI fun l n m => open Classical in if itemsB l = true ∧ -1 ≤ n ∧ n < m ∧ m < l.length then some (bv (lineQ l (n + 1).toNat m.toNat)) else none
theorem φLq_ap {l : List It} {a b : Nat} (h : itemsB l = true) (h2 : a ≤ b) (h3 : b < l.length) : φLq [lsIt l, .val (.int .i64 ((a : Int) - 1)), .val (.int .i64 b)] = some (.val (.bool (lineQ l a b))) := (F3_ap (A := dIts) (B := dI) (C := dI) l ((a : Int) - 1) b).trans ((if_pos ⟨h, by omega, by omega, by omega⟩).trans (by rw [show ((a : Int) - 1 + 1).toNat = a by omega, Int.toNat_natCast]))
noncomputable def GLq : Ctx := { fn := fun f => if f = 62 then some φIn else if f = 63 then some φBq else if f = 84 then some φSt else if f = 85 then some φNf else none, io := fun f => none }
theorem GLq_ok : SoundΓ Try.prog GLq := ⟨(fun f φ h => by
  unfold GLq at h
  dsimp only at h
  split at h
  · rename_i hf; cases h; subst hf; exact ⟨⟨_, Try.func62, rfl, rfl⟩, l1In_ok⟩
  split at h
  · rename_i hf; cases h; subst hf; exact ⟨⟨_, Try.func63, rfl, rfl⟩, specBq_ok⟩
  split at h
  · rename_i hf; cases h; subst hf; exact ⟨⟨_, Try.func84, rfl, rfl⟩, specSt_ok⟩
  split at h
  · rename_i hf; cases h; subst hf; exact ⟨⟨_, Try.func85, rfl, rfl⟩, specNf_ok⟩
  cases h), (fun f φ h => by
  unfold GLq at h
  dsimp only at h
  cases h), rfl⟩
theorem GLq_62 (ob : Objs) (ps : List PV) : evCall GLq ob 62 ps = (ps.mapM (reify false 0 ob fuel)).bind φIn := by
  have h : GLq.fn 62 = some φIn := by simp [GLq]
  unfold evCall
  rw [h]
  cases ps.mapM (reify false 0 ob fuel) <;> rfl
theorem GLq_63 (ob : Objs) (ps : List PV) : evCall GLq ob 63 ps = (ps.mapM (reify false 0 ob fuel)).bind φBq := by
  have h : GLq.fn 63 = some φBq := by simp [GLq]
  unfold evCall
  rw [h]
  cases ps.mapM (reify false 0 ob fuel) <;> rfl
theorem GLq_84 (ob : Objs) (ps : List PV) : evCall GLq ob 84 ps = (ps.mapM (reify false 0 ob fuel)).bind φSt := by
  have h : GLq.fn 84 = some φSt := by simp [GLq]
  unfold evCall
  rw [h]
  cases ps.mapM (reify false 0 ob fuel) <;> rfl
theorem GLq_85 (ob : Objs) (ps : List PV) : evCall GLq ob 85 ps = (ps.mapM (reify false 0 ob fuel)).bind φNf := by
  have h : GLq.fn 85 = some φNf := by simp [GLq]
  unfold evCall
  rw [h]
  cases ps.mapM (reify false 0 ob fuel) <;> rfl
set_option maxHeartbeats 8000000 in
theorem specLq_ok : Sound Try.prog 64 φLq := by
  refine sound_pq mixed GLq_ok Try.func64 rfl 45 rfl [.tmp 6] rfl (by kernel_rfl) fun ps r hr => ?_
  obtain ⟨l, n, m, rfl, hq⟩ := F3_some hr
  clear hr
  split at hq
  case isFalse => cases hq
  case isTrue hpre =>
  cases hq
  refine ⟨by simp, ?_⟩
  simp only [dIs, dUs, dSs, dI_e, dU_e, dB_e, dS_e, dFn_e, dL_e, dA2_e, dA3_e, dA4_e, dA5_e]
  obtain ⟨hB, hn0, hn1, hn2⟩ := hpre
  obtain ⟨a, rfl⟩ : ∃ a : Nat, n = (a : Int) - 1 := ⟨(n + 1).toNat, by omega⟩
  obtain ⟨b, rfl⟩ : ∃ b : Nat, m = b := ⟨m.toNat, by omega⟩
  have hl := items_len hB
  have hab : a ≤ b := by omega
  have hbl : b < l.length := by omega
  show pq _ _ _ _ _ (initS [lsIt l, .val (.int .i64 ((a : Int) - 1)), .val (.int .i64 b)]).tm _ _
  rw [show ((a : Int) - 1 + 1).toNat = a by omega, Int.toNat_natCast]
  have ap1 : φIn [.val (.int .i64 ((a : Int) - 1)), .val (.int .i64 (-1)), .val (.int .i64 ((b : Int) - 1))] = some (.val (.bool true)) := (φIn_ap _ _ _).trans (by rw [inB_iff.2 ⟨by omega, by omega⟩])
  have ap2 : φIn [.val (.int .i64 b), .val (.int .i64 0), .val (.int .i64 ((l.length : Int) - 1))] = some (.val (.bool true)) := (φIn_ap _ _ _).trans (by rw [inB_iff.2 ⟨by omega, by omega⟩])
  have ap3 := φBq_ap hB hbl
  have ap5 := φSt_ap (a := a) hB (by omega)
  have ap6 := φNf_ap hB hab hbl
  have hE : lineQ l a b = (brkQ l b && ((decide (a = 0) || brkQ l (a - 1)) && (decide (startN l a ≤ b) && noFc l a b))) := by
    unfold lineQ
    rw [decide_eq_true ⟨hab, hbl⟩, Bool.true_and]
  rw [hE]
  clear hE hn0 hn1 hn2
  generalize brkQ l b = q1 at *
  generalize noFc l a b = q2 at *
  generalize startN l a = s9 at *
  by_cases h0 : a = 0
  · subst h0
    clear hB
    simp only [Int.natCast_zero, Int.zero_sub] at ap1 ap5 ap6 ⊢
    have glq_c62 := GLq_62; have glq_c63 := GLq_63; have glq_c84 := GLq_84; have glq_c85 := GLq_85
    (repeat' (first | (with_reducible first | apply i_seq | apply i_block | apply i_skip | apply i_exit | apply i_ret | apply i_kS | apply i_kSx | apply i_kSr | apply i_kL | apply i_kLx | apply i_kLr | apply i_kB | apply i_kBr | apply i_kBs | apply i_nil) | ((with_reducible apply i_region); (simp only [List.map_cons, List.map_nil] <;> exact rfl)) | ((with_reducible apply i_draw); (simp only [List.map_cons, List.map_nil] <;> exact rfl); decide +kernel) | ((with_reducible apply i_kBo); rfl) | ((first | ((with_reducible apply i_V); rfl; rfl; rfl) | ((first | ((with_reducible apply i_E); rfl) | ((with_reducible apply i_S); rfl)); first | rfl | (simp only [push_cast, ↓reduceIte])) | ((with_reducible apply i_Vq); rfl; rfl) | ((with_reducible apply i_Vp); rfl; rfl; rfl) | (with_reducible first | apply i_Gb | apply i_cond)); (simp (disch := (first | omega | (simp only [push_cast]; first | done | omega))) only [push_cast, ↓reduceIte, Nat.reduceEqDiff, Nat.reduceBEq, Nat.reduceAdd, Nat.reduceSub, Int.reduceToNat, *] <;> with_reducible exact rfl); all_goals try (first | (with_reducible first | refine hyT ?_ | refine hyF ?_ | exact hyA | exact hyB) | (intro hX; first | (cases hX; done) | ((try simp only [decide_eq_true_eq, decide_eq_false_iff_not, Bool.not_eq_true', Bool.not_eq_false'] at hX); (try have hXb := inB_iff.1 hX))))))); all_goals try (exfalso; omega)
    all_goals ((first | apply i_end | apply i_endN); simp (disch := (first | omega | (simp only [push_cast]; first | done | omega))) only [push_cast, ↓reduceIte, Nat.reduceEqDiff, Nat.reduceBEq, Nat.reduceAdd, Nat.reduceSub, Int.reduceToNat, *])
    all_goals ((refine congrArg (fun z => some (PV.val (Value.bool z))) ?_); first | (simp_all; done) | (simp_all; omega))
  · have ap4 := φBq_ap (n := a - 1) hB (by omega)
    rw [show ((a - 1 : Nat) : Int) = (a : Int) - 1 by omega] at ap4
    generalize brkQ l (a - 1) = q3 at *
    clear hB
    have glq_c62 := GLq_62; have glq_c63 := GLq_63; have glq_c84 := GLq_84; have glq_c85 := GLq_85
    (repeat' (first | (with_reducible first | apply i_seq | apply i_block | apply i_skip | apply i_exit | apply i_ret | apply i_kS | apply i_kSx | apply i_kSr | apply i_kL | apply i_kLx | apply i_kLr | apply i_kB | apply i_kBr | apply i_kBs | apply i_nil) | ((with_reducible apply i_region); (simp only [List.map_cons, List.map_nil] <;> exact rfl)) | ((with_reducible apply i_draw); (simp only [List.map_cons, List.map_nil] <;> exact rfl); decide +kernel) | ((with_reducible apply i_kBo); rfl) | ((first | ((with_reducible apply i_V); rfl; rfl; rfl) | ((first | ((with_reducible apply i_E); rfl) | ((with_reducible apply i_S); rfl)); first | rfl | (simp only [push_cast, ↓reduceIte])) | ((with_reducible apply i_Vq); rfl; rfl) | ((with_reducible apply i_Vp); rfl; rfl; rfl) | (with_reducible first | apply i_Gb | apply i_cond)); (simp (disch := (first | omega | (simp only [push_cast]; first | done | omega))) only [push_cast, ↓reduceIte, Nat.reduceEqDiff, Nat.reduceBEq, Nat.reduceAdd, Nat.reduceSub, Int.reduceToNat, *] <;> with_reducible exact rfl); all_goals try (first | (with_reducible first | refine hyT ?_ | refine hyF ?_ | exact hyA | exact hyB) | (intro hX; first | (cases hX; done) | ((try simp only [decide_eq_true_eq, decide_eq_false_iff_not, Bool.not_eq_true', Bool.not_eq_false'] at hX); (try have hXb := inB_iff.1 hX))))))); all_goals try (exfalso; omega)
    all_goals ((first | apply i_end | apply i_endN); simp (disch := (first | omega | (simp only [push_cast]; first | done | omega))) only [push_cast, ↓reduceIte, Nat.reduceEqDiff, Nat.reduceBEq, Nat.reduceAdd, Nat.reduceSub, Int.reduceToNat, *])
    all_goals ((refine congrArg (fun z => some (PV.val (Value.bool z))) ?_); first | (simp_all; done) | (simp_all; omega))
end Go.Proofs.Ytngcedklbinhjaa
