/- What the proof rests on, part 14: contracts of functions. No condition beyond what each states. -/
import Derived.Test.YtngcedklbinhjaaZHf13
namespace Go.Proofs.Ytngcedklbinhjaa
open Go.RowKit
set_option linter.all false
noncomputable def txK (ws pats : LS) : Nat → LS
  | 0 => []
  | k + 1 => txK ws pats k ++ partsV (ws[k]?.getD .empty) pats
noncomputable def txR (ws pats : LS) : LS := txK ws pats ws.length
theorem txK_len (ws pats : LS) : ∀ k, (txK ws pats k).length ≤ 21 * k
  | 0 => by simp [txK]
  | k + 1 => by
    have := txK_len ws pats k
    have h2 := partsV_len (ws[k]?.getD .empty) pats
    rw [txK, List.length_append]
    omega
theorem txK_word (ws pats : LS) : ∀ k, ∀ x ∈ txK ws pats k, wordB x = true
  | 0 => by simp [txK]
  | k + 1 => fun x hx => by
    rw [txK] at hx
    rcases List.mem_append.1 hx with hx | hx
    · exact txK_word ws pats k x hx
    · exact partsV_word x hx
theorem txR_at {ws pats : LS} {k : Nat} (h : k < (txR ws pats).length) : wordB ((txR ws pats)[k]?.getD .empty) = true := by
  rw [List.getElem?_eq_getElem h, Option.getD_some]
  exact txK_word ws pats _ _ (List.getElem_mem h)
def nb (l : List It) : Nat := (l.filter fun x => decide (x.kd = 1)).length
theorem nb_app (l l' : List It) : nb (l ++ l') = nb l + nb l' := by simp [nb]
theorem nb_wi (ps : LS) : ∀ k, nb (wiK ps k) = k
  | 0 => rfl
  | k + 1 => by
    have ih := nb_wi ps k
    rw [wiK, nb_app]
    have h1 : nb [((1 : Int), wordW (ps[k]?.getD .empty), (0 : Int), (0 : Int), (0 : Int), (0 : Int), false)] = 1 := by simp [nb, It.kd]
    rw [h1]
    split
    · rw [ih]
    · rw [nb_app, ih]
      have h2 : nb [((3 : Int), (3 : Int), (0 : Int), (0 : Int), (0 : Int), (50 : Int), true)] = 0 := by decide
      rw [h2]
theorem nb_pi (ws pats : LS) : ∀ k, nb (piK ws pats k) = (txK ws pats k).length
  | 0 => rfl
  | k + 1 => by
    have ih := nb_pi ws pats k
    rw [piK, nb_app, txK, List.length_append]
    have h1 : nb (wiR (ws[k]?.getD .empty) pats) = (partsV (ws[k]?.getD .empty) pats).length := nb_wi _ _
    rw [h1]
    split
    · rw [ih]
    · rw [nb_app, ih]
      have h2 : nb [((2 : Int), (4 : Int), (3 : Int), (1 : Int), (0 : Int), (0 : Int), false)] = 0 := by decide
      rw [h2, Nat.add_zero]
theorem nb_pr (ws pats : LS) : nb (piR ws pats) = (txR ws pats).length := by
  unfold piR
  rw [nb_app, nb_pi]
  have h2 : nb [((3 : Int), (0 : Int), (0 : Int), (0 : Int), (0 : Int), (10000 : Int), false), (2, 0, 1, 0, 1, 0, false), (3, 0, 0, 0, 0, -10000, false)] = 0 := by decide
  rw [h2]
  rfl
theorem nbX_le (l : List It) (n : Nat) : nbX l n ≤ nb l := by
  unfold nbX nb
  exact List.Sublist.length_le ((List.take_sublist n l).filter _)
theorem nbX_lt {l : List It} {n : Nat} (h : n < l.length) (hk : (gI l n).kd = 1) : nbX l n < nb l := by
  have h1 := nbX_yes h hk
  have h2 := nbX_le l (n + 1)
  omega
def frB (br : List Int) (k : Nat) : Nat := if k = 0 then 0 else (br[k - 1]?.getD 0).toNat + 1
def lnsK (l : List It) (tx : LS) (br : List Int) : Nat → LS
  | 0 => []
  | k + 1 => lnsK l tx br k ++ [lnR l tx (frB br k) (br[k]?.getD 0).toNat]
theorem lnsK_len (l : List It) (tx : LS) (br : List Int) : ∀ k, (lnsK l tx br k).length = k
  | 0 => rfl
  | k + 1 => by rw [lnsK, List.length_append, lnsK_len l tx br k]; rfl
theorem frB_succ (br : List Int) (k : Nat) : frB br (k + 1) = (br[k]?.getD 0).toNat + 1 := by
  unfold frB
  rw [if_neg (by omega)]
  rfl
def okBr (l : List It) (br : List Int) : Prop := br.length ≤ l.length ∧ ∀ k, k < br.length → 0 ≤ br[k]?.getD 0 ∧ lineQ l (frB br k) (br[k]?.getD 0).toNat = true
theorem bkF_ok {l : List It} {wd most : Int} (hl : itemsB l = true) (hm : most ≤ 10000) : ∀ (f a : Nat) (lk : Int), a ≤ l.length → ∀ k, k < (bkF l wd most f a lk).length → 0 ≤ (bkF l wd most f a lk)[k]?.getD 0 ∧ lineQ l (if k = 0 then a else ((bkF l wd most f a lk)[k - 1]?.getD 0).toNat + 1) ((bkF l wd most f a lk)[k]?.getD 0).toNat = true
  | 0, a, lk, _, k, hk => by simp [bkF] at hk
  | f + 1, a, lk, ha, k, hk => by
    by_cases h : a = l.length
    · subst h; rw [bkF_end] at hk; simp at hk
    · cases hr : bestA l wd most a lk with
      | none => rw [bkF, if_neg h, hr] at hk; simp at hk
      | some r =>
        obtain ⟨x, c0, hx, hL⟩ := bestA_next (by omega) hr
        obtain ⟨hq, -, -⟩ := lineR_some hL
        have h2 := (lineQ_iff.1 hq).1
        rw [bkF_step h hr] at hk ⊢
        have ih := bkF_ok (wd := wd) hl hm f (r.2.1 + 1) r.2.2 (by omega)
        generalize bkF l wd most f (r.2.1 + 1) r.2.2 = t at *
        cases k with
        | zero => exact ⟨by simp, by simpa using hq⟩
        | succ k =>
          rw [List.length_cons] at hk
          obtain ⟨i1, i2⟩ := ih k (by omega)
          refine ⟨by simpa using i1, ?_⟩
          rw [if_neg (by omega), List.getElem?_cons_succ, Nat.add_sub_cancel]
          cases k with
          | zero => simpa using i2
          | succ k =>
            rw [if_neg (by omega), Nat.add_sub_cancel] at i2
            rw [List.getElem?_cons_succ]
            exact i2
theorem brk_ok {l : List It} {wd most : Int} (hl : itemsB l = true) (hm : most ≤ 10000) : okBr l (brkList l wd most) :=
  ⟨bkF_len hl hm _ _ _ (Nat.zero_le _), fun k hk => bkF_ok hl hm _ _ _ (Nat.zero_le _) k hk⟩
theorem okBr.at_ {l : List It} {br : List Int} (h : okBr l br) {k : Nat} (hk : k < br.length) : 0 ≤ br[k]?.getD 0 ∧ frB br k ≤ (br[k]?.getD 0).toNat ∧ (br[k]?.getD 0).toNat < l.length ∧ ¬ (gI l (br[k]?.getD 0).toNat).kd = 1 := by
  obtain ⟨h1, h2⟩ := h.2 k hk
  obtain ⟨h3, h4, -⟩ := lineQ_iff.1 h2
  refine ⟨h1, h3.1, h3.2, fun q => ?_⟩
  unfold brkQ at h4
  rw [if_neg (by omega), decide_eq_true_eq] at h4
  omega
variable {l : List It} {tx : LS} {s : ByteArray} {n : Nat}
theorem ln_box (h : (gI l n).kd = 1) : lnStep l tx s n = s ++ tx[nbX l n]?.getD .empty := if_pos h
theorem ln_gap (h : (gI l n).kd = 2 ∧ 0 < (gI l n).wd ∧ ¬ s = ⟨#[]⟩) : lnStep l tx s n = s ++ ⟨#[32]⟩ := by
  unfold lnStep
  rw [if_neg (by omega), if_pos h]
theorem ln_no (h1 : ¬ (gI l n).kd = 1) (h : ¬ ((gI l n).kd = 2 ∧ 0 < (gI l n).wd ∧ ¬ s = ⟨#[]⟩)) : lnStep l tx s n = s := by
  unfold lnStep
  rw [if_neg h1, if_neg h]
theorem lnT_size {a : Nat} (h : ∀ k : Nat, (tx[k]?.getD ByteArray.empty).size ≤ 20) : ∀ j, (lnT l tx a j).size ≤ 20 * j
  | 0 => by simp [lnT, ByteArray.size]
  | j + 1 => by
    have ih := lnT_size (a := a) h j
    rw [lnT]
    unfold lnStep
    split
    · rw [ByteArray.size_append]
      have := h (nbX l (a + j))
      omega
    · split
      · rw [ByteArray.size_append, show (⟨#[32]⟩ : ByteArray).size = 1 from rfl]
        omega
      · omega
theorem tx_size {ws pats : LS} (k : Nat) : ((txR ws pats)[k]?.getD .empty).size ≤ 20 := by
  by_cases h : k < (txR ws pats).length
  · exact (wordB_letters (txR_at h)).2.2
  · rw [List.getElem?_eq_none (by omega)]
    decide
noncomputable def pglB (ws pats : LS) (wd most : Int) : Bool := prgB ws pats && brkOk (piV ws pats) wd most
noncomputable def pglV (ws pats : LS) (wd most : Int) : LS := if pglB ws pats wd most = true then lnsK (piR ws pats) (txR ws pats) (brkList (piR ws pats) wd most) (brkList (piR ws pats) wd most).length else []
end Go.Proofs.Ytngcedklbinhjaa
namespace Go.Proofs.Ytngcedklbinhjaa
open Go.RowKit
set_option linter.all false
noncomputable def φBb : Fun := F3 dIts dI dI fun l wd most => if okIts l then some (.tup [.lst true 1 ((brkR l wd most).map fun n => .val (.int .i64 n)), bv (brkOk l wd most)]) else none
theorem φBb_ap {l : List It} {wd most : Int} (h : okIts l) : φBb [lsIt l, .val (.int .i64 wd), .val (.int .i64 most)] = some (.tup [.lst true 1 ((brkR l wd most).map fun n => .val (.int .i64 n)), .val (.bool (brkOk l wd most))]) := (F3_ap (A := dIts) (B := dI) (C := dI) l wd most).trans (if_pos h)
theorem bestTo_skip {l : List It} {wd most : Int} {a j en : Nat} (he : l.length - (j + 1) = en) (h : lineR l wd most a en = none) (k : Int) : bestTo l wd most a k (bestA l wd most) (j + 1) = bestTo l wd most a k (bestA l wd most) j := by
  rw [bestTo, he, bestStep_none h]
theorem bestTo_dead {l : List It} {wd most : Int} {a j en : Nat} {x : Int × Int} (he : l.length - (j + 1) = en) (h : lineR l wd most a en = some x) (h2 : bestA l wd most (en + 1) x.2 = none) (k : Int) : bestTo l wd most a k (bestA l wd most) (j + 1) = bestTo l wd most a k (bestA l wd most) j := by
  rw [bestTo, he, bestStep_dead h h2]
theorem bestTo_live {l : List It} {wd most : Int} {a j en : Nat} {x : Int × Int} {r : Ch} (he : l.length - (j + 1) = en) (h : lineR l wd most a en = some x) (h2 : bestA l wd most (en + 1) x.2 = some r) (k : Int) :
    bestTo l wd most a k (bestA l wd most) (j + 1) = if (bestTo l wd most a k (bestA l wd most) j).all (fun y => decide (x.1 + betwR l a en k x.2 + r.1 < y.1)) = true then some (x.1 + betwR l a en k x.2 + r.1, en, x.2) else bestTo l wd most a k (bestA l wd most) j := by
  rw [bestTo, he, bestStep_some h h2]
theorem lineR_yes {l : List It} {wd most : Int} {a en : Nat} (h : lineQ l a en = true) (h2 : 0 ≤ (badL l wd a en).1 ∧ (badL l wd a en).1 ≤ most) : lineR l wd most a en = some (costR (badL l wd a en).1 (gI l en).cost, looksR (badL l wd a en).2 (badL l wd a en).1) := if_pos ⟨h, h2⟩
def g0 (n k : Nat) : Nat → Nat → Bool := fun i j => decide (i = n ∧ j < k)
theorem g0_zero (n : Nat) : tab n (g0 n 0) = tab n (fun _ _ => false) := tab_congr fun i j _ _ => by simp [g0]
theorem g0_step (n k : Nat) : tab n (updT (g0 n k) n k true) = tab n (g0 n (k + 1)) := tab_congr fun i j _ _ => by
  unfold updT g0
  by_cases h : i = n ∧ j = k
  · rw [if_pos h, decide_eq_true (by omega)]
  · rw [if_neg h]
    congr 1
    apply propext
    omega
theorem tab0 (l : List It) (wd most : Int) : tab l.length (tB (tbA l wd most l.length)) = tab l.length (fun _ _ => 0) ∧ tab l.length (tG (tbA l wd most l.length)) = tab l.length (g0 l.length 4) ∧ tab l.length (tN (tbA l wd most l.length)) = tab l.length (fun _ _ => 0) :=
  ⟨tab_congr fun i k h1 h2 => by
      unfold tB
      rw [tbA_top i k h1 h2]
      split <;> rfl,
    tab_congr fun i k h1 h2 => by
      unfold tG
      rw [tbA_top i k h1 h2]
      unfold g0
      split
      · rw [decide_eq_true (by omega)]; rfl
      · rw [decide_eq_false (by omega)]; rfl,
    tab_congr fun i k h1 h2 => by
      unfold tN
      rw [tbA_top i k h1 h2]
      split <;> rfl⟩
theorem lineR_noQ {l : List It} {wd most : Int} {a en : Nat} (h : lineQ l a en = false) : lineR l wd most a en = none := if_neg fun q => by rw [h] at q; cases q.1
theorem lineR_noB {l : List It} {wd most : Int} {a en : Nat} (h : ¬ (0 ≤ (badL l wd a en).1 ∧ (badL l wd a en).1 ≤ most)) : lineR l wd most a en = none := if_neg fun q => h q.2
noncomputable def GBb : Ctx := { fn := fun f => if f = 61 then some φIts else if f = 62 then some φIn else if f = 63 then some φBq else if f = 64 then some φLq else if f = 65 then some φBd else if f = 66 then some φLk else if f = 67 then some φCo else if f = 68 then some φBw else none, io := fun f => none }
theorem GBb_ok : SoundΓ Try.prog GBb := ⟨(fun f φ h => by
  unfold GBb at h
  dsimp only at h
  split at h
  · rename_i hf; cases h; subst hf; exact ⟨⟨_, Try.func61, rfl, rfl⟩, specIts_ok⟩
  split at h
  · rename_i hf; cases h; subst hf; exact ⟨⟨_, Try.func62, rfl, rfl⟩, l1In_ok⟩
  split at h
  · rename_i hf; cases h; subst hf; exact ⟨⟨_, Try.func63, rfl, rfl⟩, specBq_ok⟩
  split at h
  · rename_i hf; cases h; subst hf; exact ⟨⟨_, Try.func64, rfl, rfl⟩, specLq_ok⟩
  split at h
  · rename_i hf; cases h; subst hf; exact ⟨⟨_, Try.func65, rfl, rfl⟩, specBd_ok⟩
  split at h
  · rename_i hf; cases h; subst hf; exact ⟨⟨_, Try.func66, rfl, rfl⟩, specLk_ok⟩
  split at h
  · rename_i hf; cases h; subst hf; exact ⟨⟨_, Try.func67, rfl, rfl⟩, specCo_ok⟩
  split at h
  · rename_i hf; cases h; subst hf; exact ⟨⟨_, Try.func68, rfl, rfl⟩, specBw_ok⟩
  cases h), (fun f φ h => by
  unfold GBb at h
  dsimp only at h
  cases h), rfl⟩
theorem GBb_61 (ob : Objs) (ps : List PV) : evCall GBb ob 61 ps = (ps.mapM (reify false 0 ob fuel)).bind φIts := by
  have h : GBb.fn 61 = some φIts := by simp [GBb]
  unfold evCall
  rw [h]
  cases ps.mapM (reify false 0 ob fuel) <;> rfl
theorem GBb_62 (ob : Objs) (ps : List PV) : evCall GBb ob 62 ps = (ps.mapM (reify false 0 ob fuel)).bind φIn := by
  have h : GBb.fn 62 = some φIn := by simp [GBb]
  unfold evCall
  rw [h]
  cases ps.mapM (reify false 0 ob fuel) <;> rfl
theorem GBb_63 (ob : Objs) (ps : List PV) : evCall GBb ob 63 ps = (ps.mapM (reify false 0 ob fuel)).bind φBq := by
  have h : GBb.fn 63 = some φBq := by simp [GBb]
  unfold evCall
  rw [h]
  cases ps.mapM (reify false 0 ob fuel) <;> rfl
theorem GBb_64 (ob : Objs) (ps : List PV) : evCall GBb ob 64 ps = (ps.mapM (reify false 0 ob fuel)).bind φLq := by
  have h : GBb.fn 64 = some φLq := by simp [GBb]
  unfold evCall
  rw [h]
  cases ps.mapM (reify false 0 ob fuel) <;> rfl
theorem GBb_65 (ob : Objs) (ps : List PV) : evCall GBb ob 65 ps = (ps.mapM (reify false 0 ob fuel)).bind φBd := by
  have h : GBb.fn 65 = some φBd := by simp [GBb]
  unfold evCall
  rw [h]
  cases ps.mapM (reify false 0 ob fuel) <;> rfl
theorem GBb_66 (ob : Objs) (ps : List PV) : evCall GBb ob 66 ps = (ps.mapM (reify false 0 ob fuel)).bind φLk := by
  have h : GBb.fn 66 = some φLk := by simp [GBb]
  unfold evCall
  rw [h]
  cases ps.mapM (reify false 0 ob fuel) <;> rfl
theorem GBb_67 (ob : Objs) (ps : List PV) : evCall GBb ob 67 ps = (ps.mapM (reify false 0 ob fuel)).bind φCo := by
  have h : GBb.fn 67 = some φCo := by simp [GBb]
  unfold evCall
  rw [h]
  cases ps.mapM (reify false 0 ob fuel) <;> rfl
theorem GBb_68 (ob : Objs) (ps : List PV) : evCall GBb ob 68 ps = (ps.mapM (reify false 0 ob fuel)).bind φBw := by
  have h : GBb.fn 68 = some φBw := by simp [GBb]
  unfold evCall
  rw [h]
  cases ps.mapM (reify false 0 ob fuel) <;> rfl
set_option maxHeartbeats 32000000 in
theorem specBb_ok : Sound Try.prog 37 φBb := by
  refine sound_pq mixed GBb_ok Try.func37 rfl 218 rfl [.tmp 6, .tmp 7] rfl (by kernel_rfl) fun ps r hr => ?_
  obtain ⟨l, wd, most, rfl, hq⟩ := F3_some hr
  clear hr
  split at hq
  case isFalse => cases hq
  case isTrue hpre =>
  cases hq
  refine ⟨by simp, ?_⟩
  simp only [dIs, dUs, dSs, dI_e, dU_e, dB_e, dS_e, dFn_e, dL_e, dA2_e, dA3_e, dA4_e, dA5_e]
  have apv := φIts_ap hpre
  have api := φIn_ap
  have hl0 : l.length ≤ 1000 := hpre
  show pq _ _ _ _ _ (initS [lsIt l, .val (.int .i64 wd), .val (.int .i64 most)]).tm _ _
  unfold brkR
  by_cases hg : itemsB l = true ∧ 0 < l.length ∧ (0 ≤ wd ∧ wd ≤ 1000) ∧ (0 ≤ most ∧ most ≤ 10000)
  · obtain ⟨hB, hn, hw, hm⟩ := hg
    have hl := items_len hB
    have hok : brkOk l wd most = (bestA l wd most 0 1).isSome := by
      unfold brkOk
      rw [hB, decide_eq_true hn, inB_iff.2 hw, inB_iff.2 hm]
      rfl
    rw [hok]
    clear hok hpre
    rw [hB] at apv
    have api1 : inB wd 0 1000 = true := inB_iff.2 hw
    have api2 : inB most 0 10000 = true := inB_iff.2 hm
    have gbb_c61 := GBb_61; have gbb_c62 := GBb_62; have gbb_c63 := GBb_63; have gbb_c64 := GBb_64; have gbb_c65 := GBb_65; have gbb_c66 := GBb_66; have gbb_c67 := GBb_67; have gbb_c68 := GBb_68
    (refine wlk ?_; intros)
    obtain ⟨t1, t2, t3⟩ := tab0 l wd most
    refine i_loop (α := Nat) mixed (fun k => [(0, lsIt l), (1, iv wd), (2, iv most), (8, .row 0 1 0 0), (9, iv l.length), (10, .row 1 4 0 (l.length + 1)), (11, .row 2 4 0 (l.length + 1)), (12, .row 3 4 0 (l.length + 1)), (13, iv k)])
      (fun k => [(0, 3, 1, []), (1, 95, 4, (tab l.length fun _ _ => 0).map pvRI), (2, 88, 4, (tab l.length (g0 l.length k)).map pvRB), (3, 95, 4, (tab l.length fun _ _ => 0).map pvRI)]) (fun _ => 4)
      (fun k => k ≤ 4) (fun k => 4 - k) (by kernel_rfl) 0 (Nat.zero_le _) ?_ ?_ rfl ?_
    · exact agr
    · simp (disch := (first | omega | (simp only [push_cast]; first | done | omega))) only [push_cast, ↓reduceIte, Nat.reduceEqDiff, Nat.reduceBEq, Nat.reduceAdd, Nat.reduceSub, Int.reduceToNat, g0_zero, *]
    intro k hk
    by_cases hk4 : k < 4
    · have hs := g0_step l.length k
      clear t1 t2 t3
      (refine wlk ?_; intros)
      refine ⟨k + 1, by omega, by dsimp only; omega, ?_, ?_, rfl⟩
      · exact agr
      · exact agr
    obtain rfl : k = 4 := by omega
    (refine wlk ?_; intros)
    refine i_loop (α := Nat × Int) mixed (fun z => [(0, lsIt l), (1, iv wd), (2, iv most), (8, .row 0 1 0 0), (9, iv l.length), (10, .row 1 4 0 (l.length + 1)), (11, .row 2 4 0 (l.length + 1)), (12, .row 3 4 0 (l.length + 1)), (14, iv z.2)])
      (fun z => [(0, 3, 1, []), (1, 95, 4, (tab l.length (tB (tbA l wd most z.1))).map pvRI), (2, 88, 4, (tab l.length (tG (tbA l wd most z.1))).map pvRB), (3, 95, 4, (tab l.length (tN (tbA l wd most z.1))).map pvRI)]) (fun _ => 4)
      (fun z => z.1 ≤ l.length ∧ z.2 = (z.1 : Int) - 2) (fun z => z.1) (by kernel_rfl) (l.length, (l.length : Int) - 2) ⟨Nat.le_refl _, rfl⟩ ?_ ?_ rfl ?_
    · exact agr
    · exact agr
    clear t1 t2 t3 hk hk4
    rintro ⟨m, v⟩ ⟨hml, hv⟩
    dsimp only at hml hv
    by_cases h1 : 1 ≤ m
    · obtain ⟨a, rfl⟩ : ∃ a, m = a + 1 := ⟨m - 1, by omega⟩
      obtain rfl : v = (a : Int) - 1 := by omega
      clear hv h1
      have hal : a < l.length := by omega
      have hcan : (a : Int) - 1 + 1 = a := by omega
      by_cases hskip : 0 < a ∧ brkQ l (a - 1) = false
      · obtain ⟨ha0, hbq⟩ := hskip
        have apq := φBq_ap (n := a - 1) hB (by omega)
        rw [hbq, show ((a - 1 : Nat) : Int) = (a : Int) - 1 by omega] at apq
        have hE := Lib.hid (tabs_congr (tbA_skip (wd := wd) (most := most) hal ha0 hbq))
        clear hbq
        (refine wlk ?_; intros)
        refine ⟨(a, (a : Int) - 1 - 1), ⟨by dsimp only; omega, by dsimp only; omega⟩, by dsimp only; omega, ?_, ?_, rfl⟩
        · exact agr
        · obtain ⟨e1, e2, e3⟩ := hE.out
          exact agr
      · have hgo : 0 < a → φBq [lsIt l, .val (.int .i64 ((a : Int) - 1))] = some (.val (.bool true)) := fun ha0 => by
          have apq := φBq_ap (n := a - 1) hB (by omega)
          rw [show ((a - 1 : Nat) : Int) = (a : Int) - 1 by omega] at apq
          rw [apq]
          cases hb : brkQ l (a - 1) with
          | true => rfl
          | false => exact absurd ⟨ha0, hb⟩ hskip
        clear hskip
        by_cases ha0 : 0 < a
        · have apq := hgo ha0
          clear hgo
          (refine wlk ?_; intros)
          refine i_loop (α := Nat × Int) mixed (fun z => [(0, lsIt l), (1, iv wd), (2, iv most), (8, .row 0 1 0 0), (9, iv l.length), (10, .row 1 4 0 (l.length + 1)), (11, .row 2 4 0 (l.length + 1)), (12, .row 3 4 0 (l.length + 1)), (14, iv ((a : Int) - 1)), (15, iv z.2)])
            (fun z => [(0, 3, 1, []), (1, 95, 4, (tab l.length (tB (tbJ l wd most a z.1))).map pvRI), (2, 88, 4, (tab l.length (tG (tbJ l wd most a z.1))).map pvRB), (3, 95, 4, (tab l.length (tN (tbJ l wd most a z.1))).map pvRI)]) (fun _ => 4)
            (fun z => z.1 + a ≤ l.length ∧ z.2 = (l.length : Int) - 1 - z.1) (fun z => l.length - z.1) (by kernel_rfl) (0, (l.length : Int) - 1) ⟨by dsimp only; omega, by simp⟩ ?_ ?_ rfl ?_
          · exact agr
          · obtain ⟨e1, e2, e3⟩ := tabs_congr (tbJ_zero (l := l) (wd := wd) (most := most) (a := a))
            exact agr
          rintro ⟨j, u⟩ ⟨hj, hu⟩
          dsimp only at hj hu
          by_cases h2 : j + a < l.length
          · obtain ⟨en, rfl⟩ : ∃ en : Nat, u = en := ⟨u.toNat, by omega⟩
            have he : l.length - (j + 1) = en := by omega
            have hu1 : (en : Int) ≤ l.length - 1 - j := by omega
            have hu2 : (l.length : Int) - 1 - j ≤ en := by omega
            replace he := Lib.hid he
            clear hu
            have hae : a ≤ en := by omega
            have hel : en < l.length := by omega
            have apl := φLq_ap hB hae hel
            have hskip : (∀ k : Int, bestTo l wd most a k (bestA l wd most) (j + 1) = bestTo l wd most a k (bestA l wd most) j) → tab l.length (tB (tbJ l wd most a j)) = tab l.length (tB (tbJ l wd most a (j + 1))) ∧ tab l.length (tG (tbJ l wd most a j)) = tab l.length (tG (tbJ l wd most a (j + 1))) ∧ tab l.length (tN (tbJ l wd most a j)) = tab l.length (tN (tbJ l wd most a (j + 1))) := fun h => tabs_congr (tbJ_same h)
            cases hq : lineQ l a en with
            | false =>
              rw [hq] at apl
              have hE := Lib.hid (hskip (bestTo_skip he.out (lineR_noQ hq)))
              clear hskip hq
              (refine wlk ?_; intros)
              refine ⟨(j + 1, (en : Int) - 1), ⟨by dsimp only; omega, by dsimp only; omega⟩, by dsimp only; omega, ?_, ?_, rfl⟩
              · exact agr
              · obtain ⟨e1, e2, e3⟩ := hE.out
                exact agr
            | true =>
            rw [hq] at apl
            have hst := (lineQ_iff.1 hq).2.2.2.1
            have apb := φBd_ap hB hae hel hw hst
            by_cases hb : 0 ≤ (badL l wd a en).1 ∧ (badL l wd a en).1 ≤ most
            · have hcst : okCst (l[en]?.getD it0).2.2.2.2.2.1 := (items_at hB hel).cost
              have hL : lineR l wd most a en = some (costR (badL l wd a en).1 (l[en]?.getD it0).2.2.2.2.2.1, looksR (badL l wd a en).2 (badL l wd a en).1) := lineR_yes hq hb
              clear hq hst
              generalize badL l wd a en = bd at *
              obtain ⟨bad, st⟩ := bd
              dsimp only at hb hL apb
              have apk := φLk_ap (s := st) (bad := bad) ⟨hb.1, by omega⟩
              have apc := φCo_ap (bad := bad) ⟨hb.1, by omega⟩ hcst
              have hcr := costR_rng (bad := bad) ⟨hb.1, by omega⟩ hcst
              have hkr := looksR_rng st bad
              obtain ⟨kk, hkk⟩ : ∃ kk : Nat, looksR st bad = kk := ⟨(looksR st bad).toNat, by omega⟩
              rw [hkk] at hL apk hkr
              clear hkk hcst
              cases hr : bestA l wd most (en + 1) kk with
              | none =>
                have hG : tG (tbJ l wd most a j) (en + 1) kk = false := by unfold tG; rw [tbJ_above (by omega), hr]; rfl
                have hE := Lib.hid (hskip (bestTo_dead he.out hL hr))
                clear hskip hL hr
                (refine wlk ?_; intros)
                refine ⟨(j + 1, (en : Int) - 1), ⟨by dsimp only; omega, by dsimp only; omega⟩, by dsimp only; omega, ?_, ?_, rfl⟩
                · exact agr
                · obtain ⟨e1, e2, e3⟩ := hE.out
                  exact agr
              | some r =>
                have hG : tG (tbJ l wd most a j) (en + 1) kk = true := by unfold tG; rw [tbJ_above (by omega), hr]; rfl
                have hBv : tB (tbJ l wd most a j) (en + 1) kk = r.1 := by unfold tB; rw [tbJ_above (by omega), hr]; rfl
                have hrr := (bestA_bound hB hm.2 (by omega) hr).1
                have hlive := fun k => bestTo_live he.out hL hr k
                clear hskip hL hr
                generalize hyy : l[en]?.getD it0 = yy at *
                obtain ⟨y1, y2, y3, y4, y5, y6, y7⟩ := yy
                dsimp only at apc hcr hlive
                generalize costR bad y6 = co at *
                obtain ⟨rc, rn, rk⟩ := r
                dsimp only at hBv hrr hlive
                replace hlive := Lib.hid hlive
                (refine wlk ?_; intros)
                refine i_loop (α := Nat) mixed (fun b => [(0, lsIt l), (1, iv wd), (2, iv most), (8, .row 0 1 0 0), (9, iv l.length), (10, .row 1 4 0 (l.length + 1)), (11, .row 2 4 0 (l.length + 1)), (12, .row 3 4 0 (l.length + 1)), (14, iv ((a : Int) - 1)), (15, iv en), (18, iv kk), (19, iv (co + rc)), (20, iv b)])
                  (fun b => [(0, 3, 1, []), (1, 95, 4, (tab l.length (tB (tbK l wd most a j b))).map pvRI), (2, 88, 4, (tab l.length (tG (tbK l wd most a j b))).map pvRB), (3, 95, 4, (tab l.length (tN (tbK l wd most a j b))).map pvRI)]) (fun _ => 4)
                  (fun b => b ≤ 4) (fun b => 4 - b) (by kernel_rfl) 0 (Nat.zero_le _) ?_ ?_ rfl ?_
                · exact agr
                · obtain ⟨e1, e2, e3⟩ := tabs_congr (tbK_zero (l := l) (wd := wd) (most := most) (a := a) (j := j))
                  exact agr
                clear hG hBv apc apk apb apl
                intro b hb4
                by_cases hb3 : b < 4
                · have apw := φBw_ap (be := (b : Int)) (lk := (kk : Int)) hB hae hel ⟨by omega, by omega⟩ ⟨by omega, by omega⟩
                  have hbw := betwR_rng l a en b kk
                  have hx := hlive.out (b : Int)
                  generalize betwR l a en b kk = bw at *
                  cases hacc : bestTo l wd most a b (bestA l wd most) j with
                  | none =>
                    rw [hacc] at hx
                    replace hx : _ = some _ := hx
                    have hG : tG (tbK l wd most a j b) a b = false := by unfold tG; rw [tbK_here, hacc]; rfl
                    have hE := Lib.hid (tabs_congr (tbK_step hx))
                    clear hx hacc
                    (refine wlk ?_; intros)
                    refine ⟨b + 1, by omega, by dsimp only; omega, ?_, ?_, rfl⟩
                    · exact agr
                    · have hE2 := hE.out
                      rw [← tB_upd, ← tG_upd, ← tN_upd] at hE2
                      obtain ⟨e1, e2, e3⟩ := hE2
                      dsimp only at e1 e2 e3
                      rw [show co + bw + rc = co + rc + bw by omega] at e1
                      exact agr
                  | some y =>
                    rw [hacc] at hx
                    have hG : tG (tbK l wd most a j b) a b = true := by unfold tG; rw [tbK_here, hacc]; rfl
                    have hB2 : tB (tbK l wd most a j b) a b = y.1 := by unfold tB; rw [tbK_here, hacc]; rfl
                    have hyr := (bestTo_rng hB hm.2 hal hacc).1
                    by_cases hlt : co + rc + bw < y.1
                    · rw [if_pos (show (some y).all (fun y => decide (co + bw + rc < y.1)) = true from decide_eq_true (show co + bw + rc < y.1 by omega))] at hx
                      have hE := Lib.hid (tabs_congr (tbK_step hx))
                      clear hx hacc
                      generalize y.1 = yc at *
                      (refine wlk ?_; intros)
                      refine ⟨b + 1, by omega, by dsimp only; omega, ?_, ?_, rfl⟩
                      · exact agr
                      · have hE2 := hE.out
                        rw [← tB_upd, ← tG_upd, ← tN_upd] at hE2
                        obtain ⟨e1, e2, e3⟩ := hE2
                        dsimp only at e1 e2 e3
                        rw [show co + bw + rc = co + rc + bw by omega] at e1
                        exact agr
                    · rw [if_neg (show ¬ (some y).all (fun y => decide (co + bw + rc < y.1)) = true from fun q => hlt (by have := of_decide_eq_true (show decide (co + bw + rc < y.1) = true from q); omega))] at hx
                      have hE := Lib.hid (tabs_congr (tbK_stay (hx.trans hacc.symm)))
                      clear hx hacc
                      generalize y.1 = yc at *
                      (refine wlk ?_; intros)
                      refine ⟨b + 1, by omega, by dsimp only; omega, ?_, ?_, rfl⟩
                      · exact agr
                      · obtain ⟨e1, e2, e3⟩ := hE.out
                        exact agr
                · obtain rfl : b = 4 := by omega
                  have hE := Lib.hid (tabs_congr (tbK_end (l := l) (wd := wd) (most := most) (a := a) (j := j)))
                  clear hlive
                  (refine wlk ?_; intros)
                  refine ⟨(j + 1, (en : Int) - 1), ⟨by dsimp only; omega, by dsimp only; omega⟩, by dsimp only; omega, ?_, ?_, rfl⟩
                  · exact agr
                  · obtain ⟨e1, e2, e3⟩ := hE.out
                    exact agr
            · have hE := Lib.hid (hskip (bestTo_skip he.out (lineR_noB hb)))
              clear hskip hq
              generalize badL l wd a en = bd at *
              obtain ⟨bad, st⟩ := bd
              dsimp only at hb apb
              by_cases hb0 : bad < 0
              · clear hb
                (refine wlk ?_; intros)
                refine ⟨(j + 1, (en : Int) - 1), ⟨by dsimp only; omega, by dsimp only; omega⟩, by dsimp only; omega, ?_, ?_, rfl⟩
                · exact agr
                · obtain ⟨e1, e2, e3⟩ := hE.out
                  exact agr
              · have hb1 : most < bad := by omega
                clear hb
                (refine wlk ?_; intros)
                refine ⟨(j + 1, (en : Int) - 1), ⟨by dsimp only; omega, by dsimp only; omega⟩, by dsimp only; omega, ?_, ?_, rfl⟩
                · exact agr
                · obtain ⟨e1, e2, e3⟩ := hE.out
                  exact agr
          · obtain rfl : j = l.length - a := by omega
            have hE := Lib.hid (tabs_congr (tbJ_end (wd := wd) (most := most) hal))
            (refine wlk ?_; intros)
            refine ⟨(a, (a : Int) - 1 - 1), ⟨by dsimp only; omega, by dsimp only; omega⟩, by dsimp only; omega, ?_, ?_, rfl⟩
            · exact agr
            · obtain ⟨e1, e2, e3⟩ := hE.out
              exact agr
        · clear hgo
          (refine wlk ?_; intros)
          refine i_loop (α := Nat × Int) mixed (fun z => [(0, lsIt l), (1, iv wd), (2, iv most), (8, .row 0 1 0 0), (9, iv l.length), (10, .row 1 4 0 (l.length + 1)), (11, .row 2 4 0 (l.length + 1)), (12, .row 3 4 0 (l.length + 1)), (14, iv ((a : Int) - 1)), (15, iv z.2)])
            (fun z => [(0, 3, 1, []), (1, 95, 4, (tab l.length (tB (tbJ l wd most a z.1))).map pvRI), (2, 88, 4, (tab l.length (tG (tbJ l wd most a z.1))).map pvRB), (3, 95, 4, (tab l.length (tN (tbJ l wd most a z.1))).map pvRI)]) (fun _ => 4)
            (fun z => z.1 + a ≤ l.length ∧ z.2 = (l.length : Int) - 1 - z.1) (fun z => l.length - z.1) (by kernel_rfl) (0, (l.length : Int) - 1) ⟨by dsimp only; omega, by simp⟩ ?_ ?_ rfl ?_
          · exact agr
          · obtain ⟨e1, e2, e3⟩ := tabs_congr (tbJ_zero (l := l) (wd := wd) (most := most) (a := a))
            exact agr
          rintro ⟨j, u⟩ ⟨hj, hu⟩
          dsimp only at hj hu
          by_cases h2 : j + a < l.length
          · obtain ⟨en, rfl⟩ : ∃ en : Nat, u = en := ⟨u.toNat, by omega⟩
            have he : l.length - (j + 1) = en := by omega
            have hu1 : (en : Int) ≤ l.length - 1 - j := by omega
            have hu2 : (l.length : Int) - 1 - j ≤ en := by omega
            replace he := Lib.hid he
            clear hu
            have hae : a ≤ en := by omega
            have hel : en < l.length := by omega
            have apl := φLq_ap hB hae hel
            have hskip : (∀ k : Int, bestTo l wd most a k (bestA l wd most) (j + 1) = bestTo l wd most a k (bestA l wd most) j) → tab l.length (tB (tbJ l wd most a j)) = tab l.length (tB (tbJ l wd most a (j + 1))) ∧ tab l.length (tG (tbJ l wd most a j)) = tab l.length (tG (tbJ l wd most a (j + 1))) ∧ tab l.length (tN (tbJ l wd most a j)) = tab l.length (tN (tbJ l wd most a (j + 1))) := fun h => tabs_congr (tbJ_same h)
            cases hq : lineQ l a en with
            | false =>
              rw [hq] at apl
              have hE := Lib.hid (hskip (bestTo_skip he.out (lineR_noQ hq)))
              clear hskip hq
              (refine wlk ?_; intros)
              refine ⟨(j + 1, (en : Int) - 1), ⟨by dsimp only; omega, by dsimp only; omega⟩, by dsimp only; omega, ?_, ?_, rfl⟩
              · exact agr
              · obtain ⟨e1, e2, e3⟩ := hE.out
                exact agr
            | true =>
            rw [hq] at apl
            have hst := (lineQ_iff.1 hq).2.2.2.1
            have apb := φBd_ap hB hae hel hw hst
            by_cases hb : 0 ≤ (badL l wd a en).1 ∧ (badL l wd a en).1 ≤ most
            · have hcst : okCst (l[en]?.getD it0).2.2.2.2.2.1 := (items_at hB hel).cost
              have hL : lineR l wd most a en = some (costR (badL l wd a en).1 (l[en]?.getD it0).2.2.2.2.2.1, looksR (badL l wd a en).2 (badL l wd a en).1) := lineR_yes hq hb
              clear hq hst
              generalize badL l wd a en = bd at *
              obtain ⟨bad, st⟩ := bd
              dsimp only at hb hL apb
              have apk := φLk_ap (s := st) (bad := bad) ⟨hb.1, by omega⟩
              have apc := φCo_ap (bad := bad) ⟨hb.1, by omega⟩ hcst
              have hcr := costR_rng (bad := bad) ⟨hb.1, by omega⟩ hcst
              have hkr := looksR_rng st bad
              obtain ⟨kk, hkk⟩ : ∃ kk : Nat, looksR st bad = kk := ⟨(looksR st bad).toNat, by omega⟩
              rw [hkk] at hL apk hkr
              clear hkk hcst
              cases hr : bestA l wd most (en + 1) kk with
              | none =>
                have hG : tG (tbJ l wd most a j) (en + 1) kk = false := by unfold tG; rw [tbJ_above (by omega), hr]; rfl
                have hE := Lib.hid (hskip (bestTo_dead he.out hL hr))
                clear hskip hL hr
                (refine wlk ?_; intros)
                refine ⟨(j + 1, (en : Int) - 1), ⟨by dsimp only; omega, by dsimp only; omega⟩, by dsimp only; omega, ?_, ?_, rfl⟩
                · exact agr
                · obtain ⟨e1, e2, e3⟩ := hE.out
                  exact agr
              | some r =>
                have hG : tG (tbJ l wd most a j) (en + 1) kk = true := by unfold tG; rw [tbJ_above (by omega), hr]; rfl
                have hBv : tB (tbJ l wd most a j) (en + 1) kk = r.1 := by unfold tB; rw [tbJ_above (by omega), hr]; rfl
                have hrr := (bestA_bound hB hm.2 (by omega) hr).1
                have hlive := fun k => bestTo_live he.out hL hr k
                clear hskip hL hr
                generalize hyy : l[en]?.getD it0 = yy at *
                obtain ⟨y1, y2, y3, y4, y5, y6, y7⟩ := yy
                dsimp only at apc hcr hlive
                generalize costR bad y6 = co at *
                obtain ⟨rc, rn, rk⟩ := r
                dsimp only at hBv hrr hlive
                replace hlive := Lib.hid hlive
                (refine wlk ?_; intros)
                refine i_loop (α := Nat) mixed (fun b => [(0, lsIt l), (1, iv wd), (2, iv most), (8, .row 0 1 0 0), (9, iv l.length), (10, .row 1 4 0 (l.length + 1)), (11, .row 2 4 0 (l.length + 1)), (12, .row 3 4 0 (l.length + 1)), (14, iv ((a : Int) - 1)), (15, iv en), (18, iv kk), (19, iv (co + rc)), (20, iv b)])
                  (fun b => [(0, 3, 1, []), (1, 95, 4, (tab l.length (tB (tbK l wd most a j b))).map pvRI), (2, 88, 4, (tab l.length (tG (tbK l wd most a j b))).map pvRB), (3, 95, 4, (tab l.length (tN (tbK l wd most a j b))).map pvRI)]) (fun _ => 4)
                  (fun b => b ≤ 4) (fun b => 4 - b) (by kernel_rfl) 0 (Nat.zero_le _) ?_ ?_ rfl ?_
                · exact agr
                · obtain ⟨e1, e2, e3⟩ := tabs_congr (tbK_zero (l := l) (wd := wd) (most := most) (a := a) (j := j))
                  exact agr
                clear hG hBv apc apk apb apl
                intro b hb4
                by_cases hb3 : b < 4
                · have apw := φBw_ap (be := (b : Int)) (lk := (kk : Int)) hB hae hel ⟨by omega, by omega⟩ ⟨by omega, by omega⟩
                  have hbw := betwR_rng l a en b kk
                  have hx := hlive.out (b : Int)
                  generalize betwR l a en b kk = bw at *
                  cases hacc : bestTo l wd most a b (bestA l wd most) j with
                  | none =>
                    rw [hacc] at hx
                    replace hx : _ = some _ := hx
                    have hG : tG (tbK l wd most a j b) a b = false := by unfold tG; rw [tbK_here, hacc]; rfl
                    have hE := Lib.hid (tabs_congr (tbK_step hx))
                    clear hx hacc
                    (refine wlk ?_; intros)
                    refine ⟨b + 1, by omega, by dsimp only; omega, ?_, ?_, rfl⟩
                    · exact agr
                    · have hE2 := hE.out
                      rw [← tB_upd, ← tG_upd, ← tN_upd] at hE2
                      obtain ⟨e1, e2, e3⟩ := hE2
                      dsimp only at e1 e2 e3
                      rw [show co + bw + rc = co + rc + bw by omega] at e1
                      exact agr
                  | some y =>
                    rw [hacc] at hx
                    have hG : tG (tbK l wd most a j b) a b = true := by unfold tG; rw [tbK_here, hacc]; rfl
                    have hB2 : tB (tbK l wd most a j b) a b = y.1 := by unfold tB; rw [tbK_here, hacc]; rfl
                    have hyr := (bestTo_rng hB hm.2 hal hacc).1
                    by_cases hlt : co + rc + bw < y.1
                    · rw [if_pos (show (some y).all (fun y => decide (co + bw + rc < y.1)) = true from decide_eq_true (show co + bw + rc < y.1 by omega))] at hx
                      have hE := Lib.hid (tabs_congr (tbK_step hx))
                      clear hx hacc
                      generalize y.1 = yc at *
                      (refine wlk ?_; intros)
                      refine ⟨b + 1, by omega, by dsimp only; omega, ?_, ?_, rfl⟩
                      · exact agr
                      · have hE2 := hE.out
                        rw [← tB_upd, ← tG_upd, ← tN_upd] at hE2
                        obtain ⟨e1, e2, e3⟩ := hE2
                        dsimp only at e1 e2 e3
                        rw [show co + bw + rc = co + rc + bw by omega] at e1
                        exact agr
                    · rw [if_neg (show ¬ (some y).all (fun y => decide (co + bw + rc < y.1)) = true from fun q => hlt (by have := of_decide_eq_true (show decide (co + bw + rc < y.1) = true from q); omega))] at hx
                      have hE := Lib.hid (tabs_congr (tbK_stay (hx.trans hacc.symm)))
                      clear hx hacc
                      generalize y.1 = yc at *
                      (refine wlk ?_; intros)
                      refine ⟨b + 1, by omega, by dsimp only; omega, ?_, ?_, rfl⟩
                      · exact agr
                      · obtain ⟨e1, e2, e3⟩ := hE.out
                        exact agr
                · obtain rfl : b = 4 := by omega
                  have hE := Lib.hid (tabs_congr (tbK_end (l := l) (wd := wd) (most := most) (a := a) (j := j)))
                  clear hlive
                  (refine wlk ?_; intros)
                  refine ⟨(j + 1, (en : Int) - 1), ⟨by dsimp only; omega, by dsimp only; omega⟩, by dsimp only; omega, ?_, ?_, rfl⟩
                  · exact agr
                  · obtain ⟨e1, e2, e3⟩ := hE.out
                    exact agr
            · have hE := Lib.hid (hskip (bestTo_skip he.out (lineR_noB hb)))
              clear hskip hq
              generalize badL l wd a en = bd at *
              obtain ⟨bad, st⟩ := bd
              dsimp only at hb apb
              by_cases hb0 : bad < 0
              · clear hb
                (refine wlk ?_; intros)
                refine ⟨(j + 1, (en : Int) - 1), ⟨by dsimp only; omega, by dsimp only; omega⟩, by dsimp only; omega, ?_, ?_, rfl⟩
                · exact agr
                · obtain ⟨e1, e2, e3⟩ := hE.out
                  exact agr
              · have hb1 : most < bad := by omega
                clear hb
                (refine wlk ?_; intros)
                refine ⟨(j + 1, (en : Int) - 1), ⟨by dsimp only; omega, by dsimp only; omega⟩, by dsimp only; omega, ?_, ?_, rfl⟩
                · exact agr
                · obtain ⟨e1, e2, e3⟩ := hE.out
                  exact agr
          · obtain rfl : j = l.length - a := by omega
            have hE := Lib.hid (tabs_congr (tbJ_end (wd := wd) (most := most) hal))
            (refine wlk ?_; intros)
            refine ⟨(a, (a : Int) - 1 - 1), ⟨by dsimp only; omega, by dsimp only; omega⟩, by dsimp only; omega, ?_, ?_, rfl⟩
            · exact agr
            · obtain ⟨e1, e2, e3⟩ := hE.out
              exact agr
    · obtain rfl : m = 0 := by omega
      have hG : tG (tbA l wd most 0) 0 1 = (bestA l wd most 0 1).isSome := by unfold tG; rw [tbA_zero]; rfl
      have hbl : (brkList l wd most).length ≤ l.length := bkF_len hB hm.2 _ _ _ (Nat.zero_le _)
      have hb0 : brkList l wd most = [] ++ bkF l wd most (l.length + 1) 0 ((1 : Nat) : Int) := rfl
      cases hs : bestA l wd most 0 1 with
      | none =>
        rw [hs] at hG
        simp only [Option.isSome_none] at hG ⊢
        rw [if_neg (by decide)]
        clear hb0 hbl
        exact wlkF
      | some r0 =>
        rw [hs] at hG
        simp only [Option.isSome_some] at hG ⊢
        rw [show (if True then brkList l wd most else []) = brkList l wd most from if_pos trivial]
        generalize brkList l wd most = res at *
        replace hb0 := Lib.hid hb0
        have hs0 : (bestA l wd most 0 ((1 : Nat) : Int)).isSome = true := by
          show (bestA l wd most 0 1).isSome = true
          rw [hs]; rfl
        replace hs0 := Lib.hid hs0
        clear hs
        (refine wlk ?_; intros)
        clear hG
        refine i_loop (α := Nat × Int × Nat × LI × Nat × Nat × Nat) mixed (fun z => [(0, lsIt l), (1, iv wd), (2, iv most), (8, .row z.2.2.2.2.1 1 0 z.2.2.2.1.length), (9, iv l.length), (12, .row 3 4 0 (l.length + 1)), (22, iv z.2.1), (23, iv z.2.2.1)])
          (fun z => [(3, 95, 4, (tab l.length (tN (tbA l wd most 0))).map pvRI), (z.2.2.2.2.1, 3, 1, z.2.2.2.1.map pvN)]) (fun z => z.2.2.2.2.2.1)
          (fun z => z.1 ≤ l.length ∧ z.2.1 = (z.1 : Int) - 1 ∧ z.2.2.1 < 4 ∧ (bestA l wd most z.1 (z.2.2.1 : Int)).isSome = true ∧ z.2.2.2.1.length ≤ z.1 ∧ (¬ z.2.2.2.2.1 = 3 ∧ z.2.2.2.2.1 < z.2.2.2.2.2.1 ∧ 4 ≤ z.2.2.2.2.2.1) ∧ l.length + 1 ≤ z.2.2.2.2.2.2 + z.1 ∧ res = z.2.2.2.1 ++ bkF l wd most z.2.2.2.2.2.2 z.1 (z.2.2.1 : Int)) (fun z => l.length - z.1) (by kernel_rfl)
          (0, -1, 1, [], 0, 4, l.length + 1) ⟨Nat.zero_le _, rfl, by simp, hs0.out, Nat.le_refl _, by simp, by simp, hb0.out⟩ ?_ ?_ rfl ?_
        · exact agi
        · exact agr
        rintro ⟨a, v, kk, out, x, y, f⟩ ⟨hal, hv, hkk, hs, hol, ⟨hx3, hxy, hy4⟩, hf, hres⟩
        dsimp only at hal hv hkk hs hol hx3 hxy hy4 hf hres
        have hx3' : ¬ 3 = x := fun q => hx3 q.symm
        subst hv
        clear hs0 hb0
        by_cases hlt : a < l.length
        · obtain ⟨r, hr⟩ : ∃ r, bestA l wd most a (kk : Int) = some r := Option.isSome_iff_exists.1 hs
          obtain ⟨f', rfl⟩ : ∃ f', f = f' + 1 := ⟨f - 1, by omega⟩
          rw [bkF_step (by omega) hr] at hres
          have hN : tN (tbA l wd most 0) a kk = (r.2.1 : Int) := by unfold tN; rw [tbA_zero, hr]; rfl
          obtain ⟨-, hb2⟩ := bestA_bound hB hm.2 hal hr
          obtain ⟨⟨ha1, ha2⟩, hk0, hk3⟩ := hb2 hlt
          obtain ⟨x', c0, hx', hL⟩ := bestA_next hlt hr
          obtain ⟨hq, hbd, hpair⟩ := lineR_some hL
          have hlk : r.2.2 = looksR (badL l wd a r.2.1).2 (badL l wd a r.2.1).1 := congrArg Prod.snd hpair
          obtain ⟨-, -, -, hst, -⟩ := lineQ_iff.1 hq
          have apb := φBd_ap hB ha1 ha2 hw hst
          have apk := φLk_ap (s := (badL l wd a r.2.1).2) (bad := (badL l wd a r.2.1).1) ⟨hbd.1, by omega⟩
          rw [← hlk] at apk
          clear hL hpair hlk hq hst hr hs hb2
          obtain ⟨rc, en, rk⟩ := r
          dsimp only at hres hN ha1 ha2 hk0 hk3 hx' hbd apb apk
          obtain ⟨k2, rfl⟩ : ∃ k2 : Nat, rk = k2 := ⟨rk.toNat, by omega⟩
          generalize badL l wd a en = bd at *
          obtain ⟨bad, st⟩ := bd
          dsimp only at hbd apb apk
          have hcan : (a : Int) - 1 + 1 = a := by omega
          replace hres := Lib.hid hres
          replace hx' := Lib.hid hx'
          have hkk2 : k2 < 4 := by omega
          (refine wlk ?_; intros)
          refine ⟨(en + 1, (en : Int), k2, out ++ [(en : Int)], y + 1, y + 2, f'), ⟨by dsimp only; omega, by dsimp only; omega, hkk2, by dsimp only; rw [hx'.out]; rfl, by simp; omega, ⟨by dsimp only; omega, by dsimp only; omega, by dsimp only; omega⟩, by dsimp only; omega, by dsimp only; rw [hres.out]; simp⟩, by dsimp only; omega, ?_, ?_, rfl⟩
          · exact agr
          · exact agr
        · obtain rfl : a = l.length := by omega
          rw [bkF_end, List.append_nil] at hres
          subst hres
          clear hs
          exact wlkF
  · have hok : brkOk l wd most = false := Bool.eq_false_iff.2 fun q => by
      obtain ⟨q1, q2, q3, q4, -⟩ := brkOk_iff.1 q
      exact hg ⟨q1, q2, q3, q4⟩
    rw [hok, if_neg (by decide)]
    clear hok hpre
    cases hB : itemsB l with
    | false =>
      rw [hB] at apv
      clear hg hB
      have gbb_c61 := GBb_61; have gbb_c62 := GBb_62; have gbb_c63 := GBb_63; have gbb_c64 := GBb_64; have gbb_c65 := GBb_65; have gbb_c66 := GBb_66; have gbb_c67 := GBb_67; have gbb_c68 := GBb_68
      exact wlkF
    | true =>
    rw [hB] at apv
    by_cases hw : 0 ≤ wd ∧ wd ≤ 1000
    · have api1 : inB wd 0 1000 = true := inB_iff.2 hw
      by_cases hm : 0 ≤ most ∧ most ≤ 10000
      · have api2 : inB most 0 10000 = true := inB_iff.2 hm
        have hl0 : l.length < 1 := by
          by_cases h : l.length < 1
          · exact h
          · exact absurd ⟨hB, by omega, hw, hm⟩ hg
        clear hg hB
        have gbb_c61 := GBb_61; have gbb_c62 := GBb_62; have gbb_c63 := GBb_63; have gbb_c64 := GBb_64; have gbb_c65 := GBb_65; have gbb_c66 := GBb_66; have gbb_c67 := GBb_67; have gbb_c68 := GBb_68
        exact wlkF
      · have api2 : inB most 0 10000 = false := Bool.eq_false_iff.2 fun q => hm (inB_iff.1 q)
        clear hg hB hm
        have gbb_c61 := GBb_61; have gbb_c62 := GBb_62; have gbb_c63 := GBb_63; have gbb_c64 := GBb_64; have gbb_c65 := GBb_65; have gbb_c66 := GBb_66; have gbb_c67 := GBb_67; have gbb_c68 := GBb_68
        exact wlkF
    · have api1 : inB wd 0 1000 = false := Bool.eq_false_iff.2 fun q => hw (inB_iff.1 q)
      clear hg hB hw
      have gbb_c61 := GBb_61; have gbb_c62 := GBb_62; have gbb_c63 := GBb_63; have gbb_c64 := GBb_64; have gbb_c65 := GBb_65; have gbb_c66 := GBb_66; have gbb_c67 := GBb_67; have gbb_c68 := GBb_68
      exact wlkF
end Go.Proofs.Ytngcedklbinhjaa
namespace Go.Proofs.Ytngcedklbinhjaa
open Go.RowKit
set_option linter.all false
noncomputable def ΨPgl : FunN := G4 dSs dSs dI dI fun ws pats wd most => if okSs ws ∧ okSs pats then some (.tup [.row 0 1 0 (pglV ws pats wd most).length, bv (pglB ws pats wd most)], [(9, 1, (pglV ws pats wd most).map fun s => .val (.string s))]) else none
theorem app_ss {l l' : LS} : (l.map fun s => PV.val (.string s)) ++ (l'.map fun s => PV.val (.string s)) = (l ++ l').map fun s => PV.val (.string s) := List.map_append.symm
attribute [push_cast]
  app_ss
noncomputable def GPgl : Ctx := { fn := fun f => if f = 36 then some φPi else if f = 37 then some φBb else if f = 38 then some φPr else none, io := fun f => none }
theorem GPgl_ok : SoundΓ Try.prog GPgl := ⟨(fun f φ h => by
  unfold GPgl at h
  dsimp only at h
  split at h
  · rename_i hf; cases h; subst hf; exact ⟨⟨_, Try.func36, rfl, rfl⟩, specPi_ok⟩
  split at h
  · rename_i hf; cases h; subst hf; exact ⟨⟨_, Try.func37, rfl, rfl⟩, specBb_ok⟩
  split at h
  · rename_i hf; cases h; subst hf; exact ⟨⟨_, Try.func38, rfl, rfl⟩, specPr_ok⟩
  cases h), (fun f φ h => by
  unfold GPgl at h
  dsimp only at h
  cases h), rfl⟩
theorem GPgl_36 (ob : Objs) (ps : List PV) : evCall GPgl ob 36 ps = (ps.mapM (reify false 0 ob fuel)).bind φPi := by
  have h : GPgl.fn 36 = some φPi := by simp [GPgl]
  unfold evCall
  rw [h]
  cases ps.mapM (reify false 0 ob fuel) <;> rfl
theorem GPgl_37 (ob : Objs) (ps : List PV) : evCall GPgl ob 37 ps = (ps.mapM (reify false 0 ob fuel)).bind φBb := by
  have h : GPgl.fn 37 = some φBb := by simp [GPgl]
  unfold evCall
  rw [h]
  cases ps.mapM (reify false 0 ob fuel) <;> rfl
theorem GPgl_38 (ob : Objs) (ps : List PV) : evCall GPgl ob 38 ps = (ps.mapM (reify false 0 ob fuel)).bind φPr := by
  have h : GPgl.fn 38 = some φPr := by simp [GPgl]
  unfold evCall
  rw [h]
  cases ps.mapM (reify false 0 ob fuel) <;> rfl
set_option maxHeartbeats 32000000 in
theorem specPglN : SoundN Try.prog 13 ΨPgl := by
  refine sound_pqN mixed GPgl_ok Try.func13 rfl 127 rfl [.tmp 8, .tmp 9] rfl (by kernel_rfl) fun ps r cs' hr => ?_
  obtain ⟨ws, pats, wd, most, rfl, hq⟩ := G4_some hr
  clear hr
  split at hq
  case isFalse => cases hq
  case isTrue hpre =>
  cases hq
  refine ⟨by simp, ?_⟩
  simp only [dIs, dUs, dSs, dI_e, dU_e, dB_e, dS_e, dFn_e, dL_e, dA2_e, dA3_e, dA4_e, dA5_e]
  have api := φPi_ap hpre
  unfold pglV pglB
  cases hp : prgB ws pats with
  | false =>
    rw [hp] at api
    simp only [Bool.false_and]
    rw [if_neg (by decide)]
    generalize piV ws pats = l at *
    clear hp
    have hl : l = [] ∨ True := .inr trivial
    clear hl
    have gpgl_c36 := GPgl_36; have gpgl_c37 := GPgl_37; have gpgl_c38 := GPgl_38
    (refine wlk ?_; intros)
    all_goals ((with_reducible apply i_endN1 (0) (by first | exact .inl rfl | exact .inr rfl)); (focus (simp (disch := (first | omega | (simp only [push_cast]; first | done | omega))) only [push_cast, ↓reduceIte, Nat.reduceEqDiff, Nat.reduceBEq, Nat.reduceAdd, Nat.reduceSub, Int.reduceToNat, *] <;> with_reducible exact rfl)); (focus (simp (disch := (first | omega | (simp only [push_cast]; first | done | omega))) only [push_cast, ↓reduceIte, Nat.reduceEqDiff, Nat.reduceBEq, Nat.reduceAdd, Nat.reduceSub, Int.reduceToNat, *] <;> with_reducible exact rfl)))
  | true =>
  have hB := piV_ok hp
  have hV : piV ws pats = piR ws pats := if_pos hp
  rw [hp] at api
  simp only [Bool.true_and]
  have hl := items_len hB
  have apb := φBb_ap (l := piV ws pats) (wd := wd) (most := most) (show (piV ws pats).length ≤ 1000 by omega)
  have hnb := nb_pr ws pats
  rw [← hV] at hnb ⊢
  have hwl := words_len (prgB_iff.1 hp).1
  have hap : ∀ k, k < ws.length → φPr [.val (.string (ws[k]?.getD .empty)), .lst false 1 (pats.map fun s => .val (.string s))] = some (.lst true 1 ((partsV (ws[k]?.getD .empty) pats).map fun s => .val (.string s))) := fun k hk => φPr_ap ⟨hpre.1.2 k, hpre.2⟩
  have htl := txK_len ws pats
  have htz : ∀ k : Nat, ((txR ws pats)[k]?.getD ByteArray.empty).size ≤ 20 := tx_size
  have hpl : ∀ k : Nat, (partsV (ws[k]?.getD ByteArray.empty) pats).length ≤ 21 := fun k => partsV_len _ _
  have hob : brkOk (piV ws pats) wd most = true → okBr (piV ws pats) (brkList (piV ws pats) wd most) := fun h => brk_ok hB (brkOk_iff.1 h).2.2.2.1.2
  have hrr : brkOk (piV ws pats) wd most = true → brkR (piV ws pats) wd most = brkList (piV ws pats) wd most := fun h => if_pos h
  clear hp hB hV
  generalize piV ws pats = l at *
  cases hb : brkOk l wd most with
  | false =>
    rw [hb] at apb
    rw [if_neg (by decide)]
    clear hob hrr hnb hap htl htz hpl hpre hb
    have gpgl_c36 := GPgl_36; have gpgl_c37 := GPgl_37; have gpgl_c38 := GPgl_38
    (refine wlk ?_; intros)
    all_goals ((with_reducible apply i_endN1 (0) (by first | exact .inl rfl | exact .inr rfl)); (focus (simp (disch := (first | omega | (simp only [push_cast]; first | done | omega))) only [push_cast, ↓reduceIte, Nat.reduceEqDiff, Nat.reduceBEq, Nat.reduceAdd, Nat.reduceSub, Int.reduceToNat, *] <;> with_reducible exact rfl)); (focus (simp (disch := (first | omega | (simp only [push_cast]; first | done | omega))) only [push_cast, ↓reduceIte, Nat.reduceEqDiff, Nat.reduceBEq, Nat.reduceAdd, Nat.reduceSub, Int.reduceToNat, *] <;> with_reducible exact rfl)))
  | true =>
    have hbr := hob hb
    rw [hb, hrr hb] at apb
    rw [if_pos rfl]
    clear hob hrr hb hpre
    generalize brkList l wd most = br at *
    obtain ⟨hbl, -⟩ := id hbr
    have hbat := fun k hk => hbr.at_ (k := k) hk
    clear hbr
    have htR : txR ws pats = txK ws pats ws.length := rfl
    have gpgl_c36 := GPgl_36; have gpgl_c37 := GPgl_37; have gpgl_c38 := GPgl_38
    (refine wlk ?_; intros)
    refine i_loop (α := Nat × Nat × Nat) mixed (fun z => [(0, .lst false 1 (ws.map pvS)), (1, .lst false 1 (pats.map pvS)), (10, .row 0 1 0 0), (11, .lst true 7 (l.map pvIt)), (13, .lst true 1 (br.map pvN)), (15, .row z.2.1 1 0 (txK ws pats z.1).length), (16, iv z.1)])
      (fun z => [(0, 9, 1, []), (z.2.1, 9, 1, (txK ws pats z.1).map pvS)]) (fun z => z.2.2)
      (fun z => z.1 ≤ ws.length ∧ 0 < z.2.1 ∧ z.2.1 < z.2.2) (fun z => ws.length - z.1) (by kernel_rfl) (0, 1, 2) ⟨Nat.zero_le _, by simp, by simp⟩ ?_ ?_ rfl ?_
    · simp (disch := (first | omega | (simp only [push_cast]; first | done | omega))) only [push_cast, ↓reduceIte, Nat.reduceEqDiff, Nat.reduceBEq, Nat.reduceAdd, Nat.reduceSub, Int.reduceToNat, txK, List.length_nil, *]
    · simp (disch := (first | omega | (simp only [push_cast]; first | done | omega))) only [push_cast, ↓reduceIte, Nat.reduceEqDiff, Nat.reduceBEq, Nat.reduceAdd, Nat.reduceSub, Int.reduceToNat, txK, List.map_nil, *]
    rintro ⟨k, x, y⟩ ⟨hk, hx0, hxy⟩
    dsimp only at hk hx0 hxy
    have hlk := htl k
    by_cases h0 : k < ws.length
    · have apk := hap k h0
      have hlp := hpl k
      have hn : txK ws pats (k + 1) = txK ws pats k ++ partsV (ws[k]?.getD .empty) pats := rfl
      replace hn := Lib.hid hn
      generalize txK ws pats k = out at *
      generalize partsV (ws[k]?.getD .empty) pats = ps at *
      clear htl hap hpl htR hnb htz hbat
      (refine wlk ?_; intros)
      refine ⟨(k + 1, y, y + 1), ⟨by dsimp only; omega, by dsimp only; omega, by dsimp only; omega⟩, by dsimp only; omega, ?_, ?_, rfl⟩
      · dsimp only
        rw [hn.out]
        exact agr
      · dsimp only
        rw [hn.out]
        exact agr
    · obtain rfl : k = ws.length := by omega
      rw [← htR]
      rw [← htR] at hlk
      have hts := fun a => lnT_size (l := l) (tx := txR ws pats) (a := a) htz
      have htz2 : ∀ k : Nat, ((txR ws pats)[k]?.getD ByteArray.empty).size ≤ 20 := htz
      have htxl : (txR ws pats).length ≤ 252 := by omega
      generalize txR ws pats = tx at *
      clear htl hap hpl htR htz
      have hlnk := lnsK_len l tx br
      (refine wlk ?_; intros)
      refine i_loop (α := Nat × Nat × Nat × Int) mixed (fun z => [(10, .row z.2.1 1 0 z.1), (11, .lst true 7 (l.map pvIt)), (13, .lst true 1 (br.map pvN)), (15, .row x 1 0 tx.length), (17, iv (nbX l (frB br z.1))), (18, iv z.2.2.2), (19, iv z.1)])
        (fun z => [(x, 9, 1, tx.map pvS), (z.2.1, 9, 1, (lnsK l tx br z.1).map pvS)]) (fun z => z.2.2.1)
        (fun z => z.1 ≤ br.length ∧ (¬ z.2.1 = x ∧ x < z.2.2.1 ∧ z.2.1 < z.2.2.1) ∧ z.2.2.2 = (frB br z.1 : Int) - 1) (fun z => br.length - z.1) (by kernel_rfl) (0, 0, y, -1) ⟨Nat.zero_le _, ⟨by dsimp only; omega, hxy, by dsimp only; omega⟩, rfl⟩ ?_ ?_ rfl ?_
      · simp (disch := (first | omega | (simp only [push_cast]; first | done | omega))) only [push_cast, ↓reduceIte, Nat.reduceEqDiff, Nat.reduceBEq, Nat.reduceAdd, Nat.reduceSub, Int.reduceToNat, frB, nbX, List.take_zero, List.filter_nil, List.length_nil, *]
      · simp (disch := (first | omega | (simp only [push_cast]; first | done | omega))) only [push_cast, ↓reduceIte, Nat.reduceEqDiff, Nat.reduceBEq, Nat.reduceAdd, Nat.reduceSub, Int.reduceToNat, lnsK, List.map_nil, *]
      rintro ⟨k, o, y2, v⟩ ⟨hkb, ⟨hox, hxy2, hoy⟩, hv⟩
      dsimp only at hkb hox hxy2 hoy hv
      subst hv
      have hxo : ¬ x = o := fun q => hox q.symm
      clear hk h0 hlk
      have hlk := hlnk k
      by_cases hk : k < br.length
      · obtain ⟨b1, b2, b3, b4⟩ := hbat k hk
        have hn : lnsK l tx br (k + 1) = lnsK l tx br k ++ [lnR l tx (frB br k) (br[k]?.getD 0).toNat] := rfl
        have hfs := frB_succ br k
        replace hn := Lib.hid hn
        replace hfs := Lib.hid hfs
        generalize lnsK l tx br k = out at *
        generalize frB br k = a at *
        obtain ⟨en, hen⟩ : ∃ en : Nat, br[k]?.getD 0 = en := ⟨(br[k]?.getD 0).toNat, by omega⟩
        rw [hen, Int.toNat_natCast] at hn hfs b2 b3 b4
        rw [hen] at b1
        have hmk : lnR l tx a en = if (l[en]?.getD it0).2.2.2.2.2.2 = true then lnT l tx a (en - a) ++ ⟨#[45]⟩ else lnT l tx a (en - a) := rfl
        replace b4 : ¬ (l[en]?.getD it0).1 = 1 := b4
        have hbox : nbX l (en + 1) = nbX l en := nbX_no b3 b4
        replace hmk := Lib.hid hmk
        replace hbox := Lib.hid hbox
        clear hbat hlnk
        have h45 : (⟨#[45]⟩ : ByteArray).size = 1 := rfl
        have h32 : (⟨#[32]⟩ : ByteArray).size = 1 := rfl
        (refine wlk ?_; intros)
        refine i_loop (α := Nat) mixed (fun j => [(10, .row o 1 0 k), (11, .lst true 7 (l.map pvIt)), (13, .lst true 1 (br.map pvN)), (15, .row x 1 0 tx.length), (17, iv (nbX l (a + j))), (18, iv ((a : Int) - 1)), (19, iv k), (20, .val (.string (lnT l tx a j))), (21, iv ((a + j : Nat) : Int))])
          (fun _ => [(x, 9, 1, tx.map pvS), (o, 9, 1, out.map pvS)]) (fun _ => y2)
          (fun j => a + j ≤ en) (fun j => en - j) (by kernel_rfl) 0 (by omega) ?_ ?_ rfl ?_
        · have hl0 : lnT l tx a 0 = ⟨#[]⟩ := rfl
          have hcan : (a : Int) - 1 + 1 = a := by omega
          exact agr
        · exact agr
        intro j hj
        have hsz := hts a j
        by_cases hje : a + j < en
        · have hal : a + j < l.length := by omega
          have hS : lnT l tx a (j + 1) = lnStep l tx (lnT l tx a j) (a + j) := rfl
          have hbx1 := fun q => nbX_yes (l := l) (n := a + j) hal q
          have hbx2 := fun q => nbX_no (l := l) (n := a + j) hal q
          have hlt1 := fun q => nbX_lt (l := l) (n := a + j) hal q
          have hq1 := fun q => ln_box (l := l) (tx := tx) (s := lnT l tx a j) (n := a + j) q
          have hq2 := fun q => ln_gap (l := l) (tx := tx) (s := lnT l tx a j) (n := a + j) q
          have hq3 := fun q r => ln_no (l := l) (tx := tx) (s := lnT l tx a j) (n := a + j) q r
          rw [hnb] at hlt1
          rw [← hS] at hq1 hq2 hq3
          have hnx := nbX_le l (a + j)
          rw [hnb] at hnx
          clear hS hmk hn hfs hbox
          generalize hs9 : lnT l tx a j = s at *
          generalize hs8 : lnT l tx a (j + 1) = s2 at *
          replace hs9 := Lib.hid hs9
          replace hs8 := Lib.hid hs8
          generalize hnb2 : nbX l (a + j + 1) = nn2 at *
          replace hnb2 := Lib.hid hnb2
          generalize nbX l (a + j) = nn at *
          clear hnb b4
          change ∀ q : (l[a + j]?.getD it0).1 = 1, _ at hbx1 hlt1 hq1
          change ∀ q : ¬ (l[a + j]?.getD it0).1 = 1, _ at hbx2 hq3
          change ∀ q : (l[a + j]?.getD it0).1 = 2 ∧ 0 < (l[a + j]?.getD it0).2.1 ∧ ¬ s = ⟨#[]⟩, _ at hq2
          have hq3' : ¬ (l[a + j]?.getD it0).1 = 1 → ¬ ((l[a + j]?.getD it0).1 = 2 ∧ 0 < (l[a + j]?.getD it0).2.1 ∧ ¬ s = ⟨#[]⟩) → s2 = s := hq3
          clear hq3
          generalize hyy : l[a + j]?.getD it0 = yy at *
          obtain ⟨y1, y2', y3, y4, y5, y6, y7⟩ := yy
          dsimp only at hbx1 hbx2 hlt1 hq1 hq2 hq3'
          have hfin : ∀ nn' : Nat, ∀ s' : ByteArray, nn2 = nn' → s2 = s' → nbX l (a + (j + 1)) = nn' ∧ lnT l tx a (j + 1) = s' := fun nn' s' h1 h2 => ⟨by rw [← h1]; exact hnb2.out, by rw [← h2]; exact hs8.out⟩
          by_cases k1 : y1 = 1
          · have hf := Lib.hid (hfin _ _ (hbx1 k1) (hq1 k1))
            have hn9 := hlt1 k1
            have ht9 := htz2 nn
            clear hbx1 hbx2 hlt1 hq1 hq2 hq3' hfin
            subst k1
            (refine wlk ?_; intros)
            refine ⟨j + 1, by dsimp only; omega, by dsimp only; omega, ?_, ?_, rfl⟩
            · dsimp only
              rw [hf.out.1, hf.out.2]
              exact agi
            · exact agr
          · by_cases k2 : y1 = 2 ∧ 0 < y2' ∧ ¬ s = ⟨#[]⟩
            · have hf := Lib.hid (hfin _ _ (hbx2 k1) (hq2 k2))
              clear hbx1 hbx2 hlt1 hq1 hq2 hq3' hfin
              obtain ⟨rfl, k2, k3⟩ := k2
              (refine wlk ?_; intros)
              refine ⟨j + 1, by dsimp only; omega, by dsimp only; omega, ?_, ?_, rfl⟩
              · dsimp only
                rw [hf.out.1, hf.out.2]
                exact agi
              · exact agr
            · have hf := Lib.hid (hfin _ _ (hbx2 k1) (hq3' k1 k2))
              clear hbx1 hbx2 hlt1 hq1 hq2 hq3' hfin
              by_cases k3 : y1 = 2
              · by_cases k4 : 0 < y2'
                · have k5 : s = ⟨#[]⟩ := Classical.byContradiction fun q => k2 ⟨k3, k4, q⟩
                  clear k2
                  subst k3 k5
                  (refine wlk ?_; intros)
                  refine ⟨j + 1, by dsimp only; omega, by dsimp only; omega, ?_, ?_, rfl⟩
                  · dsimp only
                    rw [hf.out.1, hf.out.2]
                    exact agi
                  · exact agr
                · clear k2
                  subst k3
                  (refine wlk ?_; intros)
                  refine ⟨j + 1, by dsimp only; omega, by dsimp only; omega, ?_, ?_, rfl⟩
                  · dsimp only
                    rw [hf.out.1, hf.out.2]
                    exact agi
                  · exact agr
              · clear k2
                (refine wlk ?_; intros)
                refine ⟨j + 1, by dsimp only; omega, by dsimp only; omega, ?_, ?_, rfl⟩
                · dsimp only
                  rw [hf.out.1, hf.out.2]
                  exact agi
                · exact agr
        · have hje2 : j = en - a := by omega
          have hae : a + j = en := by omega
          rw [hae]
          rw [← hje2] at hmk
          generalize lnT l tx a j = s at *
          clear hje2
          have hcl : (((en : Int) - 1) + 1) = en := by omega
          have hfe : frB br (k + 1) = en + 1 := hfs.out
          have hnx : nbX l (frB br (k + 1)) = nbX l en := by rw [hfe]; exact hbox.out
          replace hfe := Lib.hid hfe
          replace hnx := Lib.hid hnx
          clear hae b4 hfs hbox hcl hnb
          generalize hyy : l[en]?.getD it0 = yy at *
          obtain ⟨y1, y2', y3, y4, y5, y6, y7⟩ := yy
          have hmk2 := hmk.out
          clear hmk
          dsimp only at hmk2
          cases y7 with
          | true =>
            rw [if_pos rfl] at hmk2
            rw [hmk2] at hn
            clear hmk2
            (refine wlk ?_; intros)
            refine ⟨(k + 1, y2 + 1, y2 + 2, (en : Int)), ⟨by dsimp only; omega, ⟨by dsimp only; omega, by dsimp only; omega, by dsimp only; omega⟩, by dsimp only; rw [hfe.out]; omega⟩, by dsimp only; omega, ?_, ?_, rfl⟩
            · dsimp only
              rw [hnx.out]
              exact agi
            · dsimp only
              rw [hn.out]
              exact agr
          | false =>
            rw [if_neg (by decide)] at hmk2
            rw [hmk2] at hn
            clear hmk2
            (refine wlk ?_; intros)
            refine ⟨(k + 1, y2 + 1, y2 + 2, (en : Int)), ⟨by dsimp only; omega, ⟨by dsimp only; omega, by dsimp only; omega, by dsimp only; omega⟩, by dsimp only; rw [hfe.out]; omega⟩, by dsimp only; omega, ?_, ?_, rfl⟩
            · dsimp only
              rw [hnx.out]
              exact agi
            · dsimp only
              rw [hn.out]
              exact agr
      · obtain rfl : k = br.length := by omega
        generalize lnsK l tx br br.length = out at *
        (refine wlk ?_; intros)
        all_goals ((with_reducible apply i_endN1 (o) (by first | exact .inl rfl | exact .inr rfl)); (focus (simp (disch := (first | omega | (simp only [push_cast]; first | done | omega))) only [push_cast, ↓reduceIte, Nat.reduceEqDiff, Nat.reduceBEq, Nat.reduceAdd, Nat.reduceSub, Int.reduceToNat, *] <;> with_reducible exact rfl)); (focus (simp (disch := (first | omega | (simp only [push_cast]; first | done | omega))) only [push_cast, ↓reduceIte, Nat.reduceEqDiff, Nat.reduceBEq, Nat.reduceAdd, Nat.reduceSub, Int.reduceToNat, *] <;> with_reducible exact rfl)))
noncomputable def φPgl : Fun := pureN ΨPgl
theorem specPgl_ok : Sound Try.prog 13 φPgl := specPglN.pure
theorem φPgl_ap {ws pats : LS} {wd most : Int} (h : okSs ws ∧ okSs pats) : φPgl [.lst false 1 (ws.map fun s => .val (.string s)), .lst false 1 (pats.map fun s => .val (.string s)), .val (.int .i64 wd), .val (.int .i64 most)] = some (.tup [.lst true 1 ((pglV ws pats wd most).map fun s => .val (.string s)), .val (.bool (pglB ws pats wd most))]) := by
  refine pureN_of (r := .tup [.row 0 1 0 (pglV ws pats wd most).length, .val (.bool (pglB ws pats wd most))]) (cs0 := [(9, 1, (pglV ws pats wd most).map fun s => .val (.string s))]) ((G4_ap (A := dSs) (B := dSs) (C := dI) (D := dI) ws pats wd most).trans (if_pos h)) ?_
  rw [ls_one]
  (simp (disch := (first | omega | (simp only [push_cast]; first | done | omega))) only [push_cast, ↓reduceIte, Nat.reduceEqDiff, Nat.reduceBEq, Nat.reduceAdd, Nat.reduceSub, Int.reduceToNat, *] <;> with_reducible exact rfl)
end Go.Proofs.Ytngcedklbinhjaa
namespace Go.Proofs.Ytngcedklbinhjaa
open Go.RowKit
set_option linter.all false
def ΦOpen : FunIO := fun ps cs => match ps, cs with
  | [p], [] => (dUs.d p).map fun code => (.own 0 2 0 0, [rdC 81 (code.take 2000) 0])
  | _, _ => none
theorem ΦOpen_ap {code : List Int} : ΦOpen [.lst false 1 (code.map fun n => .val (.int .u8 n))] [] = some (.own 0 2 0 0, [rdC 81 (code.take 2000) 0]) := by
  have := dUs.h' code
  simp only [dUs, dL_e, dU_e] at this
  simp only [ΦOpen, dUs, this, Option.map_some]
theorem open_io : SoundIO Try.prog 33 ΦOpen := by
  refine sound_pq0 mixed GE_ok Try.func33 rfl 11 rfl [.tmp 2] rfl (by kernel_rfl) fun ps cs r cs' hr => ?_
  unfold ΦOpen at hr
  split at hr
  case h_2 => cases hr
  rename_i p
  rw [Option.map_eq_some_iff] at hr
  obtain ⟨code, h1, h2⟩ := hr
  obtain rfl := dUs.h _ _ h1
  clear h1
  cases h2
  refine ⟨rfl, by simp, ?_⟩
  simp only [dIs, dUs, dSs, dI_e, dU_e, dB_e, dS_e, dFn_e, dL_e, dA2_e, dA3_e, dA4_e, dA5_e]
  repeat' (first | (with_reducible first | apply i_seq | apply i_block | apply i_skip | apply i_exit | apply i_ret | apply i_kS | apply i_kSx | apply i_kSr | apply i_kL | apply i_kLx | apply i_kLr | apply i_kB | apply i_kBr | apply i_kBs | apply i_nil) | ((with_reducible apply i_region); (simp only [List.map_cons, List.map_nil] <;> exact rfl)) | ((with_reducible apply i_draw); (simp only [List.map_cons, List.map_nil] <;> exact rfl); decide +kernel) | ((with_reducible apply i_kBo); rfl) | ((first | ((with_reducible apply i_V); rfl; rfl; rfl) | ((first | ((with_reducible apply i_E); rfl) | ((with_reducible apply i_S); rfl)); first | rfl | (simp only [push_cast, ↓reduceIte])) | ((with_reducible apply i_Vq); rfl; rfl) | ((with_reducible apply i_Vp); rfl; rfl; rfl) | (with_reducible first | apply i_Gb | apply i_cond)); (simp (disch := (first | omega | (simp only [push_cast]; first | done | omega))) only [push_cast, ↓reduceIte, Nat.reduceEqDiff, Nat.reduceBEq, Nat.reduceAdd, Nat.reduceSub, Int.reduceToNat, *] <;> with_reducible exact rfl); all_goals try (first | (with_reducible first | refine hyT ?_ | refine hyF ?_ | exact hyA | exact hyB) | (intro hX; first | (cases hX; done) | ((try simp only [decide_eq_true_eq, decide_eq_false_iff_not, Bool.not_eq_true', Bool.not_eq_false'] at hX); (try have hXb := inB_iff.1 hX))))))
  · refine i_endN1 0 (by first | exact .inl rfl | exact .inr rfl) ?_ ?_
    · (focus (simp (disch := (first | omega | (simp only [push_cast]; first | done | omega))) only [push_cast, ↓reduceIte, Nat.reduceEqDiff, Nat.reduceBEq, Nat.reduceAdd, Nat.reduceSub, Int.reduceToNat, rep_iv, rep_sv, rep_w, rep_i3, rep_i4, *] <;> with_reducible exact rfl))
    · simp only [push_cast, ↓reduceIte, Nat.reduceEqDiff, Nat.reduceBEq, Nat.reduceAdd, Nat.reduceSub, Int.reduceToNat, rdC]
  · have h : code.take 2000 = code := List.take_of_length_le (by simp_all; omega)
    refine i_endN1 0 (by first | exact .inl rfl | exact .inr rfl) ?_ ?_
    · (focus (simp (disch := (first | omega | (simp only [push_cast]; first | done | omega))) only [push_cast, ↓reduceIte, Nat.reduceEqDiff, Nat.reduceBEq, Nat.reduceAdd, Nat.reduceSub, Int.reduceToNat, rep_iv, rep_sv, rep_w, rep_i3, rep_i4, *] <;> with_reducible exact rfl))
    · simp only [push_cast, ↓reduceIte, Nat.reduceEqDiff, Nat.reduceBEq, Nat.reduceAdd, Nat.reduceSub, Int.reduceToNat, rdC, h]
theorem pick_ex : ∃ Φ : FunIO, SoundIO Try.prog 54 Φ ∧ Drw2 81 Φ 1000000000 1 (fun v : Int => PV.val (.int .i64 v)) (fun _ => True) (fun n v => 0 ≤ v ∧ (1 ≤ n → v < n)) := by
  refine drw2_of mixed GE_ok Try.func54 rfl 99 rfl [.tmp 4] rfl (by kernel_rfl) (by simp) _ _ _ _ _ _ fun code p n hok hp _ => ?_
  obtain ⟨hlen, hbyte, hp0, hp1⟩ := id hok
  have hb0 := hbyte p.toNat
  have hb1 := hbyte (p % code.length).toNat
  have hb2 := hbyte ((p * 7 + 3) % code.length).toNat
  have hm : 0 < code.length → 0 ≤ p % (code.length : Int) ∧ p % (code.length : Int) < code.length ∧ 0 ≤ (p * 7 + 3) % (code.length : Int) ∧ (p * 7 + 3) % (code.length : Int) < code.length ∧ 0 ≤ p / (code.length : Int) ∧ p / (code.length : Int) ≤ p := fun h =>
    ⟨Int.emod_nonneg _ (by omega), Int.emod_lt_of_pos _ (by omega), Int.emod_nonneg _ (by omega), Int.emod_lt_of_pos _ (by omega), Int.ediv_nonneg hp0 (by omega), Int.ediv_le_self _ hp0⟩
  clear hbyte
  repeat' (first | (first | (with_reducible first | apply i_seq | apply i_block | apply i_skip | apply i_exit | apply i_ret | apply i_kS | apply i_kSx | apply i_kSr | apply i_kL | apply i_kLx | apply i_kLr | apply i_kB | apply i_kBr | apply i_kBs | apply i_nil) | ((with_reducible apply i_region); (simp only [List.map_cons, List.map_nil] <;> exact rfl)) | ((with_reducible apply i_draw); (simp only [List.map_cons, List.map_nil] <;> exact rfl); decide +kernel) | ((with_reducible apply i_kBo); rfl) | ((first | ((with_reducible apply i_V); rfl; rfl; rfl) | ((first | ((with_reducible apply i_E); rfl) | ((with_reducible apply i_S); rfl)); first | rfl | (simp only [push_cast, ↓reduceIte])) | ((with_reducible apply i_Vq); rfl; rfl) | ((with_reducible apply i_Vp); rfl; rfl; rfl) | (with_reducible first | apply i_Gb | apply i_cond)); (simp (disch := (first | omega | (simp only [push_cast]; first | done | omega))) only [push_cast, ↓reduceIte, Nat.reduceEqDiff, Nat.reduceBEq, Nat.reduceAdd, Nat.reduceSub, Int.reduceToNat, *] <;> with_reducible exact rfl); all_goals try (first | (with_reducible first | refine hyT ?_ | refine hyF ?_ | exact hyA | exact hyB) | (intro hX; first | (cases hX; done) | ((try simp only [decide_eq_true_eq, decide_eq_false_iff_not, Bool.not_eq_true', Bool.not_eq_false'] at hX); (try have hXb := inB_iff.1 hX)))))) | ((with_reducible apply i_xor); rfl; (simp (disch := (first | omega | (simp only [push_cast]; first | done | omega))) only [push_cast, ↓reduceIte, Nat.reduceEqDiff, Nat.reduceBEq, Nat.reduceAdd, Nat.reduceSub, Int.reduceToNat, *] <;> with_reducible exact rfl); (simp (disch := (first | omega | (simp only [push_cast]; first | done | omega))) only [push_cast, ↓reduceIte, Nat.reduceEqDiff, Nat.reduceBEq, Nat.reduceAdd, Nat.reduceSub, Int.reduceToNat, *] <;> with_reducible exact rfl); (first | omega | (simp only [push_cast]; first | done | omega)); (first | omega | (simp only [push_cast]; first | done | omega)); (first | omega | (simp only [push_cast]; first | done | omega)); (first | omega | (simp only [push_cast]; first | done | omega)); intro z hz1 hz2))
  all_goals ((with_reducible apply i_fin1 (by first | exact .inl rfl | exact .inr rfl)); (focus (simp (disch := (first | omega | (simp only [push_cast]; first | done | omega))) only [push_cast, ↓reduceIte, Nat.reduceEqDiff, Nat.reduceBEq, Nat.reduceAdd, Nat.reduceSub, Int.reduceToNat, rep_iv, rep_sv, rep_w, rep_i3, rep_i4, *] <;> with_reducible exact rfl)); (focus (simp (disch := (first | omega | (simp only [push_cast]; first | done | omega))) only [push_cast, ↓reduceIte, Nat.reduceEqDiff, Nat.reduceBEq, Nat.reduceAdd, Nat.reduceSub, Int.reduceToNat, rep_iv, rep_sv, rep_w, rep_i3, rep_i4, *] <;> with_reducible exact rfl)))
  all_goals (first | omega | exact hok.to (by omega) (by omega) | exact ⟨Int.emod_nonneg _ (by omega), fun _ => Int.emod_lt_of_pos _ (by omega)⟩)
noncomputable def Φpick : FunIO := Classical.choose pick_ex
theorem pick_io : SoundIO Try.prog 54 Φpick := (Classical.choose_spec pick_ex).1
theorem pick_drw : Drw2 81 Φpick 1000000000 1 (fun v : Int => PV.val (.int .i64 v)) (fun _ => True) (fun n v => 0 ≤ v ∧ (1 ≤ n → v < n)) := (Classical.choose_spec pick_ex).2
noncomputable def GOdd : Ctx := { fn := fun f => none, io := fun f => if f = 54 then some Φpick else none }
theorem GOdd_ok : SoundΓ Try.prog GOdd := ⟨(fun f φ h => by
  unfold GOdd at h
  dsimp only at h
  cases h), (fun f φ h => by
  unfold GOdd at h
  dsimp only at h
  split at h
  · rename_i hf; cases h; subst hf; exact ⟨⟨_, Try.func54, rfl, rfl⟩, pick_io⟩
  cases h), rfl⟩
theorem odd_ex : ∃ Φ : FunIO, SoundIO Try.prog 55 Φ ∧ Drw2 81 Φ 900000000 1 (fun v : Bool => PV.val (.bool v)) (fun n => 0 ≤ n ∧ n ≤ 1000000) (fun n v => n ≤ 0 → v = false) := by
  refine drw2_of mixed GOdd_ok Try.func55 rfl 15 rfl [.tmp 4] rfl (by kernel_rfl) (by simp) _ _ _ _ _ _ fun code p n hok hp hn => ?_
  have hp0 := hok.pos
  repeat' (first | (first | (with_reducible first | apply i_seq | apply i_block | apply i_skip | apply i_exit | apply i_ret | apply i_kS | apply i_kSx | apply i_kSr | apply i_kL | apply i_kLx | apply i_kLr | apply i_kB | apply i_kBr | apply i_kBs | apply i_nil) | ((with_reducible apply i_region); (simp only [List.map_cons, List.map_nil] <;> exact rfl)) | ((with_reducible apply i_draw); (simp only [List.map_cons, List.map_nil] <;> exact rfl); decide +kernel) | ((with_reducible apply i_kBo); rfl) | ((first | ((with_reducible apply i_V); rfl; rfl; rfl) | ((first | ((with_reducible apply i_E); rfl) | ((with_reducible apply i_S); rfl)); first | rfl | (simp only [push_cast, ↓reduceIte])) | ((with_reducible apply i_Vq); rfl; rfl) | ((with_reducible apply i_Vp); rfl; rfl; rfl) | (with_reducible first | apply i_Gb | apply i_cond)); (simp (disch := (first | omega | (simp only [push_cast]; first | done | omega))) only [push_cast, ↓reduceIte, Nat.reduceEqDiff, Nat.reduceBEq, Nat.reduceAdd, Nat.reduceSub, Int.reduceToNat, *] <;> with_reducible exact rfl); all_goals try (first | (with_reducible first | refine hyT ?_ | refine hyF ?_ | exact hyA | exact hyB) | (intro hX; first | (cases hX; done) | ((try simp only [decide_eq_true_eq, decide_eq_false_iff_not, Bool.not_eq_true', Bool.not_eq_false'] at hX); (try have hXb := inB_iff.1 hX)))))) | ((with_reducible apply i_drw2 pick_drw (fun _ _ => rfl)); rfl; (simp (disch := (first | omega | (simp only [push_cast]; first | done | omega))) only [push_cast, ↓reduceIte, Nat.reduceEqDiff, Nat.reduceBEq, Nat.reduceAdd, Nat.reduceSub, Int.reduceToNat, *] <;> with_reducible exact rfl); (simp (disch := (first | omega | (simp only [push_cast]; first | done | omega))) only [push_cast, ↓reduceIte, Nat.reduceEqDiff, Nat.reduceBEq, Nat.reduceAdd, Nat.reduceSub, Int.reduceToNat, *] <;> with_reducible exact rfl); (simp (disch := (first | omega | (simp only [push_cast]; first | done | omega))) only [push_cast, ↓reduceIte, Nat.reduceEqDiff, Nat.reduceBEq, Nat.reduceAdd, Nat.reduceSub, Int.reduceToNat, *] <;> with_reducible exact rfl); assumption; omega; (focus (first | trivial | omega)); (focus (first | rfl | (simp only [push_cast, ↓reduceIte]))); intro v pp hv hok hpp1 hpp2))
  all_goals ((with_reducible apply i_fin1 (by first | exact .inl rfl | exact .inr rfl)); (focus (simp (disch := (first | omega | (simp only [push_cast]; first | done | omega))) only [push_cast, ↓reduceIte, Nat.reduceEqDiff, Nat.reduceBEq, Nat.reduceAdd, Nat.reduceSub, Int.reduceToNat, rep_iv, rep_sv, rep_w, rep_i3, rep_i4, *] <;> with_reducible exact rfl)); (focus (simp (disch := (first | omega | (simp only [push_cast]; first | done | omega))) only [push_cast, ↓reduceIte, Nat.reduceEqDiff, Nat.reduceBEq, Nat.reduceAdd, Nat.reduceSub, Int.reduceToNat, rep_iv, rep_sv, rep_w, rep_i3, rep_i4, *] <;> with_reducible exact rfl)))
  all_goals (first | omega | assumption | (intro h; first | omega | rfl | (simp; omega)))
noncomputable def Φodd : FunIO := Classical.choose odd_ex
theorem odd_io : SoundIO Try.prog 55 Φodd := (Classical.choose_spec odd_ex).1
theorem odd_drw : Drw2 81 Φodd 900000000 1 (fun v : Bool => PV.val (.bool v)) (fun n => 0 ≤ n ∧ n ≤ 1000000) (fun n v => n ≤ 0 → v = false) := (Classical.choose_spec odd_ex).2
end Go.Proofs.Ytngcedklbinhjaa
namespace Go.Proofs.Ytngcedklbinhjaa
open Go.RowKit
set_option linter.all false
def glueB (g : I4) : Bool := inB g.1 0 1000 && inB g.2.1 0 1000 && inB g.2.2.1 0 g.1 && inB g.2.2.2 0 1
def φGlueV : Fun := F1 dI4 fun g => some (bv (glueB g))
theorem φGlueV_ap {a b c d : Int} : φGlueV [.agg [.val (.int .i64 a), .val (.int .i64 b), .val (.int .i64 c), .val (.int .i64 d)]] = some (.val (.bool (glueB (a, b, c, d)))) := F1_ap (A := dI4) (a, b, c, d)
noncomputable def GGl : Ctx := { fn := fun f => if f = 57 then some φIn else none, io := fun f => none }
theorem GGl_ok : SoundΓ Try.prog GGl := ⟨(fun f φ h => by
  unfold GGl at h
  dsimp only at h
  split at h
  · rename_i hf; cases h; subst hf; exact ⟨⟨_, Try.func57, rfl, rfl⟩, in_ok⟩
  cases h), (fun f φ h => by
  unfold GGl at h
  dsimp only at h
  cases h), rfl⟩
theorem GGl_57 (ob : Objs) (ps : List PV) : evCall GGl ob 57 ps = (ps.mapM (reify false 0 ob fuel)).bind φIn := by
  have h : GGl.fn 57 = some φIn := by simp [GGl]
  unfold evCall
  rw [h]
  cases ps.mapM (reify false 0 ob fuel) <;> rfl
set_option maxHeartbeats 4000000 in
theorem implGlueV_ok : Sound Try.prog 35 φGlueV := by
  refine sound_pq mixed GGl_ok Try.func35 rfl 23 rfl [.tmp 2] rfl (by kernel_rfl) fun ps r hr => ?_
  obtain ⟨⟨a, b, c, d⟩, rfl, hr⟩ := F1_some hr
  cases hr
  refine ⟨by simp, ?_⟩
  simp only [dIs, dUs, dSs, dI_e, dU_e, dB_e, dS_e, dFn_e, dL_e, dA2_e, dA3_e, dA4_e, dA5_e]
  have ggl_c57 := GGl_57; have ap := φIn_ap
  repeat' (first | (with_reducible first | apply i_seq | apply i_block | apply i_skip | apply i_exit | apply i_ret | apply i_kS | apply i_kSx | apply i_kSr | apply i_kL | apply i_kLx | apply i_kLr | apply i_kB | apply i_kBr | apply i_kBs | apply i_nil) | ((with_reducible apply i_region); (simp only [List.map_cons, List.map_nil] <;> exact rfl)) | ((with_reducible apply i_draw); (simp only [List.map_cons, List.map_nil] <;> exact rfl); decide +kernel) | ((with_reducible apply i_kBo); rfl) | ((first | ((with_reducible apply i_V); rfl; rfl; rfl) | ((first | ((with_reducible apply i_E); rfl) | ((with_reducible apply i_S); rfl)); first | rfl | (simp only [push_cast, ↓reduceIte])) | ((with_reducible apply i_Vq); rfl; rfl) | ((with_reducible apply i_Vp); rfl; rfl; rfl) | (with_reducible first | apply i_Gb | apply i_cond)); (simp (disch := (first | omega | (simp only [push_cast]; first | done | omega))) only [push_cast, ↓reduceIte, Nat.reduceEqDiff, Nat.reduceBEq, Nat.reduceAdd, Nat.reduceSub, Int.reduceToNat, *] <;> with_reducible exact rfl); all_goals try (first | (with_reducible first | refine hyT ?_ | refine hyF ?_ | exact hyA | exact hyB) | (intro hX; first | (cases hX; done) | ((try simp only [decide_eq_true_eq, decide_eq_false_iff_not, Bool.not_eq_true', Bool.not_eq_false'] at hX); (try have hXb := inB_iff.1 hX))))))
  all_goals ((first | apply i_end | apply i_endN); simp (disch := (first | omega | (simp only [push_cast]; first | done | omega))) only [push_cast, ↓reduceIte, Nat.reduceEqDiff, Nat.reduceBEq, Nat.reduceAdd, Nat.reduceSub, Int.reduceToNat, *])
  all_goals simp_all [glueB]
noncomputable def GAl : Ctx := { fn := fun f => if f = 35 then some φGlueV else none, io := fun f => none }
theorem GAl_ok : SoundΓ Try.prog GAl := ⟨(fun f φ h => by
  unfold GAl at h
  dsimp only at h
  split at h
  · rename_i hf; cases h; subst hf; exact ⟨⟨_, Try.func35, rfl, rfl⟩, implGlueV_ok⟩
  cases h), (fun f φ h => by
  unfold GAl at h
  dsimp only at h
  cases h), rfl⟩
theorem GAl_35 (ob : Objs) (ps : List PV) : evCall GAl ob 35 ps = (ps.mapM (reify false 0 ob fuel)).bind φGlueV := by
  have h : GAl.fn 35 = some φGlueV := by simp [GAl]
  unfold evCall
  rw [h]
  cases ps.mapM (reify false 0 ob fuel) <;> rfl
def φTrue : Fun := F0 (some (bv true))
theorem φTrue_ap : φTrue [] = some (.val (.bool true)) := rfl
theorem alive_ok : Sound Try.prog 11 φTrue := by
  refine sound_pq mixed GAl_ok Try.func11 rfl 3 rfl [.tmp 0] rfl (by kernel_rfl) fun ps r hr => ?_
  obtain ⟨rfl, hr⟩ := F0_some hr
  cases hr
  refine ⟨by simp, ?_⟩
  have gal_c35 := GAl_35; have ap := @φGlueV_ap
  have e : glueB (4, 0, 0, 0) = true := rfl
  (refine wlkX ?_; intros)
  all_goals (exact fnF)
noncomputable def GRd : Ctx := { fn := fun f => none, io := fun f => if f = 54 then some Φpick else if f = 55 then some Φodd else none }
theorem GRd_ok : SoundΓ Try.prog GRd := ⟨(fun f φ h => by
  unfold GRd at h
  dsimp only at h
  cases h), (fun f φ h => by
  unfold GRd at h
  dsimp only at h
  split at h
  · rename_i hf; cases h; subst hf; exact ⟨⟨_, Try.func54, rfl, rfl⟩, pick_io⟩
  split at h
  · rename_i hf; cases h; subst hf; exact ⟨⟨_, Try.func55, rfl, rfl⟩, odd_io⟩
  cases h), rfl⟩
end Go.Proofs.Ytngcedklbinhjaa
