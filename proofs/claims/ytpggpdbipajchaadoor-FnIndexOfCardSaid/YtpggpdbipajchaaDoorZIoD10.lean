/- What the proof rests on, part 10: contracts of functions. No condition beyond what each states. -/
import Derived.Test.YtpggpdbipajchaaDoorZIoD9
namespace Go.Proofs.YtpggpdbipajchaaDoor
open Go.RowKit
set_option linter.all false
theorem chain_up {l : List Int} {k : Nat} : ∀ e, k ≤ e → (∀ j, k ≤ j → j < e → l[j + 1]?.getD 0 = l[j]?.getD 0 + 1) → l[e]?.getD 0 = l[k]?.getD 0 + (e - k : Nat)
  | 0, h, _ => by
    obtain rfl : k = 0 := by omega
    simp
  | e + 1, h, hc => by
    by_cases hk : k = e + 1
    · subst hk; simp
    · rw [hc e (by omega) (by omega), chain_up e (by omega) fun j h1 h2 => hc j h1 (by omega)]
      omega
theorem runT_one (a : Int) : runT (a, a) = itoaS a := if_pos rfl
theorem runT_two {a b : Int} (h : ¬ a = b) : runT (a, b) = (itoaS a ++ ⟨#[45]⟩) ++ itoaS b := if_neg h
theorem ba_assoc (a b c : ByteArray) : a ++ (b ++ c) = (a ++ b) ++ c := gl_ext (by simp [ByteArray.data_append])
theorem textR_le {l : List Int} (h : ∀ x ∈ l, 1 ≤ x ∧ x ≤ 999) (k : Nat) : (textR (l.take k)).size ≤ 11 * l.length := by
  have := textR_size (l := l.take k) fun x hx => h x (List.mem_of_mem_take hx)
  rw [List.length_take] at this
  omega
noncomputable def GSPt : Ctx := { fn := fun f => if f = 30 then some φPagesV else if f = 50 then some φNum else none, io := fun f => none }
theorem GSPt_ok : SoundΓ Tryd.prog GSPt := ⟨(fun f φ h => by
  unfold GSPt at h
  dsimp only at h
  split at h
  · rename_i hf; cases h; subst hf; exact ⟨⟨_, Tryd.func30, rfl, rfl⟩, specPagesV_ok⟩
  split at h
  · rename_i hf; cases h; subst hf; exact ⟨⟨_, Tryd.func50, rfl, rfl⟩, num_ok⟩
  cases h), (fun f φ h => by
  unfold GSPt at h
  dsimp only at h
  cases h), rfl⟩
theorem GSPt_30 (ob : Objs) (ps : List PV) : evCall GSPt ob 30 ps = (ps.mapM (reify false 0 ob fuel)).bind φPagesV := by
  have h : GSPt.fn 30 = some φPagesV := by simp [GSPt]
  unfold evCall
  rw [h]
  cases ps.mapM (reify false 0 ob fuel) <;> rfl
theorem GSPt_50 (ob : Objs) (ps : List PV) : evCall GSPt ob 50 ps = (ps.mapM (reify false 0 ob fuel)).bind φNum := by
  have h : GSPt.fn 50 = some φNum := by simp [GSPt]
  unfold evCall
  rw [h]
  cases ps.mapM (reify false 0 ob fuel) <;> rfl
set_option maxHeartbeats 16000000 in
theorem specPt_ok : Sound Tryd.prog 25 φPt := by
  refine sound_pq mixed GSPt_ok Tryd.func25 rfl 60 rfl [.tmp 2] rfl (by kernel_rfl) fun ps r hr => ?_
  obtain ⟨l, rfl, hq⟩ := F1_some hr
  clear hr
  split at hq
  case isFalse => cases hq
  case isTrue hpre =>
  cases hq
  refine ⟨by simp, ?_⟩
  simp only [dIs, dUs, dSs, dI_e, dU_e, dB_e, dS_e, dFn_e, dL_e, dA2_e, dA3_e, dA4_e, dA5_e]
  have ap1 := φPagesV_ap hpre
  unfold pagesT
  cases hB : pagesB l with
  | false =>
    rw [hB] at ap1
    rw [if_neg (by decide)]
    clear hB
    have gspt_c30 := GSPt_30; have gspt_c50 := GSPt_50
    (refine wlk ?_; intros)
    refine i_loop (α := Unit) mixed (fun s => [(0, .lst false 1 (l.map fun n => .val (.int .i64 n))), (3, .val (.string ⟨#[]⟩)), (4, iv 0)]) (fun _ => []) (fun _ => 0)
      (fun _ => True) (fun _ => 0) (by kernel_rfl) () trivial ?_ trivial rfl ?_
    · exact agr
    rintro - -
    exact wlkF
  | true =>
    have hlen := pages_len hB
    have hmem := pages_mem hB
    have hat := fun i hi => pages_at hB (i := i) hi
    have hszk := textR_le hmem
    rw [hB] at ap1
    rw [if_pos rfl]
    clear hB
    have hrun := fun (k e : Nat) => textR_run (l := l) (k := k) (e := e)
    have hpos := fun (k : Nat) (h1 : 0 < k) (h2 : k ≤ l.length) => textR_pos (l := l) (k := k) h1 h2 fun j hj => by have := hat j hj; omega
    have htr : textR l = textR (l.take l.length) := by rw [List.take_of_length_le (Nat.le_refl _)]
    have ht0 : textR [] = ⟨#[]⟩ := rfl
    rw [htr]
    replace hrun := Lib.hid hrun
    replace hpos := Lib.hid hpos
    clear htr hmem
    have gspt_c30 := GSPt_30; have gspt_c50 := GSPt_50
    (refine wlk ?_; intros)
    refine i_loop (α := Nat) mixed (fun k => [(0, .lst false 1 (l.map fun n => .val (.int .i64 n))), (3, .val (.string (textR (l.take k)))), (4, iv k)]) (fun _ => []) (fun _ => 0)
      (fun k => k ≤ l.length ∧ (0 < k → k < l.length → ¬ l[k - 1]?.getD 0 + 1 = l[k]?.getD 0)) (fun k => l.length - k) (by kernel_rfl) 0 ⟨Nat.zero_le _, fun h => by omega⟩ ?_ trivial rfl ?_
    · simp (disch := (first | omega | (simp only [push_cast]; first | done | omega))) only [push_cast, ↓reduceIte, Nat.reduceEqDiff, Nat.reduceBEq, Nat.reduceAdd, Nat.reduceSub, Int.reduceToNat, ht0, *]
    clear ht0
    rintro k ⟨hk, hb⟩
    have hsk := hszk k
    replace hb := Lib.hid hb
    have hout0 : k = 0 → textR (l.take k) = ⟨#[]⟩ := fun h => by subst h; rfl
    have houtp : 0 < k → ¬ textR (l.take k) = ⟨#[]⟩ := fun h e => by
      have := hpos.out k h hk
      rw [e] at this
      simp [ByteArray.size] at this
    have hrk := hrun.out k
    replace hrk := Lib.hid hrk
    by_cases hkl : k < l.length
    · have hak := hat k hkl
      generalize textR (l.take k) = out at *
      replace hout0 := Lib.hid hout0
      replace houtp := Lib.hid houtp
      (refine wlk ?_; intros)
      refine i_loop (α := Nat) mixed (fun e => [(0, .lst false 1 (l.map fun n => .val (.int .i64 n))), (3, .val (.string out)), (4, iv k), (5, iv e)]) (fun _ => []) (fun _ => 0)
        (fun e => k ≤ e ∧ e < l.length ∧ ∀ j, k ≤ j → j < e → l[j + 1]?.getD 0 = l[j]?.getD 0 + 1) (fun e => l.length - e) (by kernel_rfl) k ⟨Nat.le_refl _, hkl, fun j h1 h2 => by omega⟩ ?_ trivial rfl ?_
      · exact agr
      rintro e ⟨he1, he2, hc⟩
      have hae := hat e he2
      have hae1 := hat (e + 1)
      clear hat
      replace hc := Lib.hid hc
      by_cases hst : e + 1 < l.length ∧ l[e + 1]?.getD 0 = l[e]?.getD 0 + 1
      · obtain ⟨hst1, hst2⟩ := hst
        have hae1 := hae1 hst1
        have hc2 := Lib.hid (show ∀ j, k ≤ j → j < e + 1 → l[j + 1]?.getD 0 = l[j]?.getD 0 + 1 from fun j h1 h2 => by
          by_cases hj : j < e
          · exact hc.out j h1 hj
          · obtain rfl : j = e := by omega
            exact hst2)
        have hst3 : decide (l[e + 1]?.getD 0 = l[e]?.getD 0 + 1) = true := decide_eq_true hst2
        clear hst2
        (refine wlk ?_; intros)
        refine ⟨e + 1, ⟨by omega, hst1, hc2.out⟩, by dsimp only; omega, ?_, trivial, rfl⟩
        exact agr
      · have hex := hrk.out e hkl (fun h => hb.out h hkl) he1 he2 hc.out
        have hsz2 := hszk (e + 1)
        have hup := chain_up e he1 hc.out
        have hbn := Lib.hid (show 0 < e + 1 → e + 1 < l.length → ¬ l[e + 1 - 1]?.getD 0 + 1 = l[e + 1]?.getD 0 from fun _ h1 h2 => hst ⟨h1, by rw [← h2]; rfl⟩)
        have ap2 := φNum_ap (n := l[k]?.getD 0) (by omega) (by omega)
        have ap3 := φNum_ap (n := l[e]?.getD 0) (by omega) (by omega)
        have hz1 := itoaS_size4 (n := l[k]?.getD 0) (by omega) (by omega)
        have hz2 := itoaS_size4 (n := l[e]?.getD 0) (by omega) (by omega)
        have hstop : e + 1 < l.length → ¬ l[e + 1]?.getD 0 = l[e]?.getD 0 + 1 := fun h1 h2 => hst ⟨h1, h2⟩
        have hae2 : e + 1 < l.length → (1 ≤ l[e + 1]?.getD 0 ∧ l[e + 1]?.getD 0 ≤ 999) := hae1
        clear hst hae1 hc hszk
        have hcs : csB = ⟨#[44, 32]⟩ := rfl
        have hcz : (⟨#[44, 32]⟩ : ByteArray).size = 2 := rfl
        have hone : (⟨#[45]⟩ : ByteArray).size = 1 := rfl
        rw [hcs] at hex
        clear hcs
        by_cases hke : e = k
        · subst hke
          rw [runT_one] at hex
          clear hup
          by_cases hk0 : e = 0
          · have h0 := hout0.out hk0
            subst h0
            rw [if_pos hk0] at hex
            clear hk0
            replace hex := Lib.hid hex
            by_cases hle : e + 1 < l.length
            · have hs := hstop hle
              have ha2 := hae2 hle
              clear hstop hae2
              (refine wlk ?_; intros)
              refine ⟨e + 1, ⟨by omega, hbn.out⟩, by dsimp only; omega, ?_, trivial, rfl⟩
              simp (disch := (first | omega | (simp only [push_cast]; first | done | omega))) only [push_cast, ↓reduceIte, Nat.reduceEqDiff, Nat.reduceBEq, Nat.reduceAdd, Nat.reduceSub, Int.reduceToNat, hex.out, *]
            · clear hstop hae2
              (refine wlk ?_; intros)
              refine ⟨e + 1, ⟨by omega, hbn.out⟩, by dsimp only; omega, ?_, trivial, rfl⟩
              simp (disch := (first | omega | (simp only [push_cast]; first | done | omega))) only [push_cast, ↓reduceIte, Nat.reduceEqDiff, Nat.reduceBEq, Nat.reduceAdd, Nat.reduceSub, Int.reduceToNat, hex.out, *]
          · have h0 := houtp.out (by omega)
            rw [if_neg hk0] at hex
            replace hex := Lib.hid hex
            by_cases hle : e + 1 < l.length
            · have hs := hstop hle
              have ha2 := hae2 hle
              clear hstop hae2
              (refine wlk ?_; intros)
              refine ⟨e + 1, ⟨by omega, hbn.out⟩, by dsimp only; omega, ?_, trivial, rfl⟩
              simp (disch := (first | omega | (simp only [push_cast]; first | done | omega))) only [push_cast, ↓reduceIte, Nat.reduceEqDiff, Nat.reduceBEq, Nat.reduceAdd, Nat.reduceSub, Int.reduceToNat, hex.out, *]
            · clear hstop hae2
              (refine wlk ?_; intros)
              refine ⟨e + 1, ⟨by omega, hbn.out⟩, by dsimp only; omega, ?_, trivial, rfl⟩
              simp (disch := (first | omega | (simp only [push_cast]; first | done | omega))) only [push_cast, ↓reduceIte, Nat.reduceEqDiff, Nat.reduceBEq, Nat.reduceAdd, Nat.reduceSub, Int.reduceToNat, hex.out, *]
        · rw [runT_two (by omega), ba_assoc, ba_assoc] at hex
          have hkz : k < e := by omega
          replace hup := Lib.hid hup
          by_cases hk0 : k = 0
          · have h0 := hout0.out hk0
            subst h0
            rw [if_pos hk0] at hex
            clear hk0
            replace hex := Lib.hid hex
            by_cases hle : e + 1 < l.length
            · have hs := hstop hle
              have ha2 := hae2 hle
              clear hstop hae2
              (refine wlk ?_; intros)
              refine ⟨e + 1, ⟨by omega, hbn.out⟩, by dsimp only; omega, ?_, trivial, rfl⟩
              simp (disch := (first | omega | (simp only [push_cast]; first | done | omega))) only [push_cast, ↓reduceIte, Nat.reduceEqDiff, Nat.reduceBEq, Nat.reduceAdd, Nat.reduceSub, Int.reduceToNat, hex.out, *]
            · clear hstop hae2
              (refine wlk ?_; intros)
              refine ⟨e + 1, ⟨by omega, hbn.out⟩, by dsimp only; omega, ?_, trivial, rfl⟩
              simp (disch := (first | omega | (simp only [push_cast]; first | done | omega))) only [push_cast, ↓reduceIte, Nat.reduceEqDiff, Nat.reduceBEq, Nat.reduceAdd, Nat.reduceSub, Int.reduceToNat, hex.out, *]
          · have h0 := houtp.out (by omega)
            rw [if_neg hk0] at hex
            replace hex := Lib.hid hex
            by_cases hle : e + 1 < l.length
            · have hs := hstop hle
              have ha2 := hae2 hle
              clear hstop hae2
              (refine wlk ?_; intros)
              refine ⟨e + 1, ⟨by omega, hbn.out⟩, by dsimp only; omega, ?_, trivial, rfl⟩
              simp (disch := (first | omega | (simp only [push_cast]; first | done | omega))) only [push_cast, ↓reduceIte, Nat.reduceEqDiff, Nat.reduceBEq, Nat.reduceAdd, Nat.reduceSub, Int.reduceToNat, hex.out, *]
            · clear hstop hae2
              (refine wlk ?_; intros)
              refine ⟨e + 1, ⟨by omega, hbn.out⟩, by dsimp only; omega, ?_, trivial, rfl⟩
              simp (disch := (first | omega | (simp only [push_cast]; first | done | omega))) only [push_cast, ↓reduceIte, Nat.reduceEqDiff, Nat.reduceBEq, Nat.reduceAdd, Nat.reduceSub, Int.reduceToNat, hex.out, *]
    · obtain rfl : k = l.length := by omega
      exact wlkF
end Go.Proofs.YtpggpdbipajchaaDoor
namespace Go.Proofs.YtpggpdbipajchaaDoor
open Go.RowKit
set_option linter.all false
theorem wordB_letters {s : ByteArray} (h : wordB s = true) : (∀ j, j < s.size → 97 ≤ at8 s j ∧ at8 s j ≤ 122) ∧ 1 ≤ s.size ∧ s.size ≤ 20 := by
  unfold wordB at h
  rw [Bool.and_eq_true, List.all_eq_true] at h
  refine ⟨fun j hj => inB_iff.1 (h.1 j (List.mem_range.2 hj)), ?_⟩
  have := inB_iff.1 h.2
  omega
end Go.Proofs.YtpggpdbipajchaaDoor
namespace Go.Proofs.YtpggpdbipajchaaDoor
open Go.RowKit
set_option linter.all false
def insU (x : ByteArray) : LS → LS
  | [] => [x]
  | y :: r => if ltB x y = true then x :: y :: r else if ltB y x = true then y :: insU x r else y :: r
theorem insU_mem {x z : ByteArray} : ∀ {r : LS}, z ∈ insU x r ↔ z = x ∨ z ∈ r
  | [] => by simp [insU]
  | y :: r => by
    unfold insU
    split
    · simp
    · split
      · rw [List.mem_cons, insU_mem (r := r), List.mem_cons]
        constructor
        · rintro (h | h | h)
          · exact .inr (.inl h)
          · exact .inl h
          · exact .inr (.inr h)
        · rintro (h | h | h)
          · exact .inr (.inl h)
          · exact .inl h
          · exact .inr (.inr h)
      · rename_i h1 h2
        have : x = y := by
          rcases ltB_tri x y with h | h | h
          · exact absurd h h1
          · exact h
          · exact absurd h h2
        subst this
        simp
abbrev Asc (l : LS) : Prop := l.Pairwise fun a b => ltB a b = true
theorem insU_asc {x : ByteArray} : ∀ {r : LS}, Asc r → Asc (insU x r)
  | [], _ => List.pairwise_singleton _ _
  | y :: r, h => by
    obtain ⟨h1, h2⟩ := List.pairwise_cons.1 h
    unfold insU
    split
    · rename_i hx
      refine List.pairwise_cons.2 ⟨fun z hz => ?_, h⟩
      rcases List.mem_cons.1 hz with rfl | hz
      · exact hx
      · exact ltB_trans hx (h1 z hz)
    · split
      · rename_i hx hy
        refine List.pairwise_cons.2 ⟨fun z hz => ?_, insU_asc h2⟩
        rcases insU_mem.1 hz with rfl | hz
        · exact hy
        · exact h1 z hz
      · exact h
def wordsU (l : List W2) : LS := l.foldr (fun x r => insU x.1 r) []
theorem wordsU_mem {l : List W2} {z : ByteArray} : z ∈ wordsU l ↔ ∃ x ∈ l, x.1 = z := by
  unfold wordsU
  induction l with
  | nil => simp
  | cons y l ih =>
    rw [List.foldr_cons, insU_mem, ih]
    simp only [List.mem_cons]
    constructor
    · rintro (h | ⟨x, h1, h2⟩)
      · exact ⟨y, .inl rfl, h.symm⟩
      · exact ⟨x, .inr h1, h2⟩
    · rintro ⟨x, h1 | h1, h2⟩
      · exact .inl (by rw [← h2, h1])
      · exact .inr ⟨x, h1, h2⟩
theorem wordsU_asc (l : List W2) : Asc (wordsU l) := by
  unfold wordsU
  induction l with
  | nil => exact List.Pairwise.nil
  | cons y l ih => exact insU_asc ih
theorem asc_eq {l l' : LS} (h : Asc l) (h' : Asc l') (hm : ∀ x, x ∈ l ↔ x ∈ l') : l = l' :=
  asc_unique (R := fun a b : ByteArray => ltB a b = true) (fun a q => by rw [ltB_irr] at q; cases q) (fun _ _ _ => ltB_trans) h h' hm
theorem insU_len (x : ByteArray) : ∀ r : LS, (insU x r).length ≤ r.length + 1
  | [] => Nat.le_refl _
  | y :: r => by
    unfold insU
    split
    · simp
    · split
      · have := insU_len x r
        simp only [List.length_cons]
        omega
      · simp
theorem wordsU_len (l : List W2) : (wordsU l).length ≤ l.length := by
  unfold wordsU
  induction l with
  | nil => exact Nat.le_refl _
  | cons y l ih =>
    have := insU_len y.1 (l.foldr (fun x r => insU x.1 r) [])
    rw [List.foldr_cons, List.length_cons]
    omega
def hasP (l : List W2) (w : ByteArray) (p : Int) : Bool := l.any fun x => decide (x.1 = w ∧ x.2 = p)
def pagesN (l : List W2) (w : ByteArray) (n : Nat) : List Int := ((List.range n).filter fun k : Nat => hasP l w ((k : Int) + 1)).map fun k : Nat => (k : Int) + 1
def pagesU (l : List W2) (w : ByteArray) : List Int := pagesN l w 999
theorem pagesN_yes {l : List W2} {w : ByteArray} {n : Nat} (h : hasP l w ((n : Int) + 1) = true) : pagesN l w (n + 1) = pagesN l w n ++ [(n : Int) + 1] := by
  simp [pagesN, List.range_succ, List.filter_append, h]
theorem pagesN_no {l : List W2} {w : ByteArray} {n : Nat} (h : hasP l w ((n : Int) + 1) = false) : pagesN l w (n + 1) = pagesN l w n := by
  simp [pagesN, List.range_succ, List.filter_append, h]
theorem pagesN_mem {l : List W2} {w : ByteArray} {n : Nat} {p : Int} : p ∈ pagesN l w n ↔ (1 ≤ p ∧ p ≤ n) ∧ ∃ x ∈ l, x.1 = w ∧ x.2 = p := by
  unfold pagesN hasP
  simp only [List.mem_map, List.mem_filter, List.mem_range, List.any_eq_true, decide_eq_true_eq]
  constructor
  · rintro ⟨k, ⟨h1, x, h2, h3, h4⟩, rfl⟩
    exact ⟨by omega, x, h2, h3, h4⟩
  · rintro ⟨h1, x, h2, h3, h4⟩
    exact ⟨p.toNat - 1, ⟨by omega, x, h2, h3, by omega⟩, by omega⟩
theorem pagesN_asc (l : List W2) (w : ByteArray) : ∀ n, (pagesN l w n).Pairwise (· < ·)
  | 0 => List.Pairwise.nil
  | n + 1 => by
    cases h : hasP l w ((n : Int) + 1) with
    | true =>
      rw [pagesN_yes h, List.pairwise_append]
      refine ⟨pagesN_asc l w n, List.pairwise_singleton _ _, fun a ha b hb => ?_⟩
      rw [List.mem_singleton.1 hb]
      have := (pagesN_mem.1 ha).1
      omega
    | false =>
      rw [pagesN_no h]
      exact pagesN_asc l w n
theorem ascI_eq {l l' : List Int} (h : l.Pairwise (· < ·)) (h' : l'.Pairwise (· < ·)) (hm : ∀ x, x ∈ l ↔ x ∈ l') : l = l' :=
  asc_unique (R := fun a b : Int => a < b) (fun a => Int.lt_irrefl a) (fun _ _ _ => Int.lt_trans) h h' hm
theorem nodup_len : ∀ {l m : List Int}, l.Nodup → (∀ x ∈ l, x ∈ m) → l.length ≤ m.length
  | [], m, _, _ => Nat.zero_le _
  | x :: l, m, h, hm => by
    obtain ⟨a, b, rfl⟩ := List.append_of_mem (hm x (by simp))
    obtain ⟨h1, h2⟩ := List.nodup_cons.1 h
    have := nodup_len (m := a ++ b) h2 fun y hy => by
      have h3 := hm y (by simp [hy])
      rcases List.mem_append.1 h3 with h4 | h4
      · exact List.mem_append.2 (.inl h4)
      · rcases List.mem_cons.1 h4 with h5 | h5
        · subst h5; exact absurd hy h1
        · exact List.mem_append.2 (.inr h5)
    simp only [List.length_append, List.length_cons] at this ⊢
    omega
theorem asc_len : ∀ {l : List Int} {m : List Int}, l.Pairwise (· < ·) → (∀ x ∈ l, x ∈ m) → l.length ≤ m.length := by
  intro l m h hm
  have hn : l.Nodup := h.imp fun {a b} h e => by omega
  exact nodup_len hn hm
theorem pagesN_len {l : List W2} {w : ByteArray} {n : Nat} : (pagesN l w n).length ≤ l.length := by
  have := asc_len (m := l.map (·.2)) (pagesN_asc l w n) fun x hx => by
    obtain ⟨-, y, h1, -, h2⟩ := pagesN_mem.1 hx
    exact List.mem_map.2 ⟨y, h1, h2⟩
  simpa using this
theorem pagesU_valid {l : List W2} (h : l.length ≤ 30) (w : ByteArray) : pagesB (pagesU l w) = true := by
  rw [pagesB_iff]
  have hl := @pagesN_len l w 999
  have ha := pagesN_asc l w 999
  have hm : ∀ p ∈ pagesN l w 999, 1 ≤ p ∧ p ≤ 999 := fun p hp => by have := (pagesN_mem.1 hp).1; omega
  unfold pagesU
  generalize pagesN l w 999 = P at *
  refine ⟨fun i hi => ⟨?_, fun h0 => ?_⟩, by omega⟩
  · rw [List.getElem?_eq_getElem hi, Option.getD_some]
    exact hm _ (List.getElem_mem hi)
  · rw [List.getElem?_eq_getElem hi, List.getElem?_eq_getElem (show i - 1 < P.length by omega), Option.getD_some, Option.getD_some]
    exact List.pairwise_iff_getElem.1 ha (i - 1) i (by omega) hi (by omega)
def lineU (l : List W2) (w : ByteArray) : ByteArray := (w ++ ⟨#[32]⟩) ++ pagesT (pagesU l w)
def idxR (l : List W2) : LS := (wordsU l).map (lineU l)
def indexR (l : List W2) : LS := if indexB l = true then idxR l else []
theorem indexB_iff {l : List W2} : indexB l = true ↔ l.length ≤ 30 ∧ ∀ x ∈ l, wordB x.1 = true ∧ 1 ≤ x.2 ∧ x.2 ≤ 999 := by
  unfold indexB badW
  simp only [Bool.and_eq_true, decide_eq_true_eq, Bool.not_eq_true', List.any_eq_false, Bool.or_eq_true, Bool.not_eq_true', not_or, Bool.not_eq_false, inB_iff]
structure NextI (l : List W2) (last next : ByteArray) (k : Nat) : Prop where
  none : next = ⟨#[]⟩ → ∀ j, j < k → ltB last (l[j]?.getD w0).1 = false
  some : ¬ next = ⟨#[]⟩ → ltB last next = true ∧ (∃ j, j < k ∧ (l[j]?.getD w0).1 = next) ∧ ∀ j, j < k → ltB last (l[j]?.getD w0).1 = true → ltB (l[j]?.getD w0).1 next = false
theorem NextI.zero (l : List W2) (last : ByteArray) : NextI l last ⟨#[]⟩ 0 := ⟨fun _ j hj => by omega, fun h => absurd rfl h⟩
theorem NextI.keep {l : List W2} {last next : ByteArray} {k : Nat} (h : NextI l last next k) (hc : ltB last (l[k]?.getD w0).1 = false ∨ (¬ next = ⟨#[]⟩ ∧ ltB (l[k]?.getD w0).1 next = false)) : NextI l last next (k + 1) := by
  refine ⟨fun e j hj => ?_, fun e => ?_⟩
  · by_cases h1 : j < k
    · exact h.none e j h1
    · obtain rfl : j = k := by omega
      rcases hc with hc | hc
      · exact hc
      · exact absurd e hc.1
  · obtain ⟨h1, ⟨i, h2, h3⟩, h4⟩ := h.some e
    refine ⟨h1, ⟨i, by omega, h3⟩, fun j hj hl => ?_⟩
    by_cases h5 : j < k
    · exact h4 j h5 hl
    · obtain rfl : j = k := by omega
      rcases hc with hc | hc
      · rw [hc] at hl; cases hl
      · exact hc.2
theorem NextI.take {l : List W2} {last next : ByteArray} {k : Nat} (h : NextI l last next k) (h0 : ¬ (l[k]?.getD w0).1 = ⟨#[]⟩) (h1 : ltB last (l[k]?.getD w0).1 = true) (h2 : next = ⟨#[]⟩ ∨ ltB (l[k]?.getD w0).1 next = true) : NextI l last (l[k]?.getD w0).1 (k + 1) := by
  refine ⟨fun e => absurd e h0, fun _ => ⟨h1, ⟨k, by omega, rfl⟩, fun j hj hl => ?_⟩⟩
  by_cases h5 : j < k
  · rcases h2 with h2 | h2
    · have := h.none h2 j h5
      rw [this] at hl; cases hl
    · by_cases hn : next = ⟨#[]⟩
      · have := h.none hn j h5
        rw [this] at hl; cases hl
      · have h6 := (h.some hn).2.2 j h5 hl
        cases h7 : ltB (l[j]?.getD w0).1 (l[k]?.getD w0).1 with
        | false => rfl
        | true => rw [ltB_trans h7 h2] at h6; cases h6
  · obtain rfl : j = k := by omega
    exact ltB_irr _
theorem ltB_nil {a : ByteArray} (h : ¬ a = ⟨#[]⟩) : ltB ⟨#[]⟩ a = true := by
  rcases ltB_tri ⟨#[]⟩ a with h1 | h1 | h1
  · exact h1
  · exact absurd h1.symm h
  · unfold ltB at h1
    rw [show (⟨#[]⟩ : ByteArray).data.toList = [] from rfl, bl_nil] at h1
    cases h1
theorem getW {l : List W2} {j : Nat} (h : j < l.length) : l[j]?.getD w0 ∈ l := by
  rw [List.getElem?_eq_getElem h, Option.getD_some]
  exact List.getElem_mem h
theorem NextI.done {l : List W2} {k : Nat} {next : ByteArray} (hv : ∀ x ∈ l, ¬ x.1 = ⟨#[]⟩) (h : NextI l (if k = 0 then ⟨#[]⟩ else (wordsU l)[k - 1]?.getD ⟨#[]⟩) next l.length) (hk : k ≤ (wordsU l).length) :
    (next = ⟨#[]⟩ ↔ k = (wordsU l).length) ∧ (k < (wordsU l).length → next = (wordsU l)[k]?.getD ⟨#[]⟩) := by
  have ha := wordsU_asc l
  have hm : ∀ z, z ∈ wordsU l ↔ ∃ x ∈ l, x.1 = z := fun z => wordsU_mem
  generalize wordsU l = W at *
  have hlast : ∀ i, k ≤ i → (hi : i < W.length) → ltB (if k = 0 then ⟨#[]⟩ else W[k - 1]?.getD ⟨#[]⟩) W[i] = true := fun i h1 hi => by
    split
    · obtain ⟨x, hx, he⟩ := (hm _).1 (List.getElem_mem hi)
      exact ltB_nil (by rw [← he]; exact hv x hx)
    · rw [List.getElem?_eq_getElem (show k - 1 < W.length by omega), Option.getD_some]
      exact List.pairwise_iff_getElem.1 ha (k - 1) i (by omega) hi (by omega)
  have hfind : ∀ i, (hi : i < W.length) → ∃ j, j < l.length ∧ (l[j]?.getD w0).1 = W[i] := fun i hi => by
    obtain ⟨x, hx, he⟩ := (hm _).1 (List.getElem_mem hi)
    obtain ⟨j, hj, rfl⟩ := List.getElem_of_mem hx
    exact ⟨j, hj, by rw [List.getElem?_eq_getElem hj, Option.getD_some]; exact he⟩
  by_cases hn : next = ⟨#[]⟩
  · have hk2 : k = W.length := by
      rcases Nat.lt_or_ge k W.length with hlt | hge
      · obtain ⟨j, hj, he⟩ := hfind k hlt
        have h1 := h.none hn j hj
        rw [he, hlast k (Nat.le_refl _) hlt] at h1
        cases h1
      · omega
    exact ⟨⟨fun _ => hk2, fun _ => hn⟩, fun q => by omega⟩
  · obtain ⟨h1, ⟨j, hj, h2⟩, h3⟩ := h.some hn
    have hmem : next ∈ W := (hm _).2 ⟨_, getW hj, h2⟩
    obtain ⟨i, hi, he⟩ := List.getElem_of_mem hmem
    have hki : k ≤ i := by
      rcases Nat.lt_or_ge i k with hlt | hge
      · rw [if_neg (by omega), List.getElem?_eq_getElem (show k - 1 < W.length by omega), Option.getD_some, ← he] at h1
        by_cases e : i = k - 1
        · subst e
          rw [ltB_irr] at h1; cases h1
        · have := List.pairwise_iff_getElem.1 ha i (k - 1) hi (by omega) (by omega)
          rw [ltB_asymm this] at h1; cases h1
      · exact hge
    have hik : i = k := by
      rcases Nat.lt_or_ge k i with hlt | hge
      · obtain ⟨j2, hj2, he2⟩ := hfind k (by omega)
        have h4 := h3 j2 hj2 (by rw [he2]; exact hlast k (Nat.le_refl _) (by omega))
        have := List.pairwise_iff_getElem.1 ha k i (by omega) hi hlt
        rw [he2, ← he, this] at h4
        cases h4
      · omega
    subst hik
    refine ⟨⟨fun q => absurd q hn, fun q => by omega⟩, fun _ => ?_⟩
    rw [List.getElem?_eq_getElem hi, Option.getD_some, he]
end Go.Proofs.YtpggpdbipajchaaDoor
namespace Go.Proofs.YtpggpdbipajchaaDoor
open Go.RowKit
set_option linter.all false
theorem bl_line : ∀ {a b x y : List UInt8}, (∀ c ∈ b, 32 < c.toNat) → BL a b = true → BL (a ++ 32 :: x) (b ++ 32 :: y) = true
  | _, [], _, _, _, h => by rw [bl_nil] at h; cases h
  | [], d :: b, x, y, hb, _ => by
    rw [List.nil_append, List.cons_append, bl_cons]
    exact .inl (hb d (by simp))
  | c :: a, d :: b, x, y, hb, h => by
    rw [bl_cons] at h
    rw [List.cons_append, List.cons_append, bl_cons]
    rcases h with h | ⟨h1, h2⟩
    · exact .inl h
    · exact .inr ⟨h1, bl_line (fun c hc => hb c (by simp [hc])) h2⟩
theorem lineU_list (l : List W2) (w : ByteArray) : (lineU l w).data.toList = w.data.toList ++ 32 :: (pagesT (pagesU l w)).data.toList := by
  unfold lineU
  rw [ByteArray.data_append, Array.toList_append, ByteArray.data_append, Array.toList_append, List.append_assoc]
  rfl
theorem at8_list {s : ByteArray} {i : Nat} (h : i < s.size) : at8 s i = ((s.data.toList[i]'(by simpa using h)).toNat : Int) := by
  unfold at8
  rw [getElem?_pos s i h]
  rfl
theorem word_bytes {s : ByteArray} (h : wordB s = true) : ∀ c ∈ s.data.toList, 97 ≤ c.toNat ∧ c.toNat ≤ 122 := fun c hc => by
  obtain ⟨i, hi, rfl⟩ := List.getElem_of_mem hc
  have hi2 : i < s.size := by simpa using hi
  unfold wordB at h
  rw [Bool.and_eq_true, List.all_eq_true] at h
  have := inB_iff.1 (h.1 i (List.mem_range.2 hi2))
  rw [at8_list hi2] at this
  omega
theorem wordsU_word {l : List W2} (h : indexB l = true) : ∀ w ∈ wordsU l, wordB w = true := fun w hw => by
  obtain ⟨x, hx, rfl⟩ := wordsU_mem.1 hw
  exact ((indexB_iff.1 h).2 x hx).1
theorem idx_asc {l : List W2} (h : indexB l = true) {k : Nat} (hk : k + 1 < (idxR l).length) : ltB ((idxR l)[k]?.getD ⟨#[]⟩) ((idxR l)[k + 1]?.getD ⟨#[]⟩) = true := by
  unfold idxR at hk ⊢
  rw [List.length_map] at hk
  rw [List.getElem?_map, List.getElem?_map, List.getElem?_eq_getElem hk, List.getElem?_eq_getElem (show k < (wordsU l).length by omega), Option.map_some, Option.map_some, Option.getD_some, Option.getD_some]
  have h1 := List.pairwise_iff_getElem.1 (wordsU_asc l) k (k + 1) (by omega) hk (by omega)
  unfold ltB at h1 ⊢
  rw [lineU_list, lineU_list]
  exact bl_line (fun c hc => by have := word_bytes (wordsU_word h _ (List.getElem_mem hk)) c hc; omega) h1
theorem wordsU_rev (l : List W2) : wordsU l.reverse = wordsU l := asc_eq (wordsU_asc _) (wordsU_asc _) fun x => by
  rw [wordsU_mem, wordsU_mem]
  simp
theorem hasP_rev (l : List W2) (w : ByteArray) (p : Int) : hasP l.reverse w p = hasP l w p := by simp [hasP]
theorem idxR_rev (l : List W2) : idxR l.reverse = idxR l := by
  unfold idxR
  rw [wordsU_rev]
  refine List.map_congr_left fun w _ => ?_
  unfold lineU pagesU pagesN
  simp only [hasP_rev]
theorem indexB_rev (l : List W2) : indexB l.reverse = indexB l := by simp [indexB]
theorem indexR_rev (l : List W2) : indexR l.reverse = indexR l := by
  unfold indexR
  rw [indexB_rev, idxR_rev]
theorem idxR_len (l : List W2) : (idxR l).length ≤ l.length := by
  unfold idxR
  rw [List.length_map]
  exact wordsU_len l
theorem pagesT_size30 {P : List Int} (h : pagesB P = true) : (pagesT P).size ≤ 330 := by
  unfold pagesT
  rw [if_pos h]
  have := textR_size (pages_mem h)
  have := pages_len h
  omega
theorem lineU_size {l : List W2} (h : indexB l = true) {w : ByteArray} (hw : w ∈ wordsU l) : (lineU l w).size ≤ 360 := by
  have h1 := (wordB_letters (wordsU_word h w hw)).2.2
  have h2 := pagesT_size30 (pagesU_valid (indexB_iff.1 h).1 w)
  unfold lineU
  rw [ByteArray.size_append, ByteArray.size_append, show (⟨#[32]⟩ : ByteArray).size = 1 from rfl]
  omega
end Go.Proofs.YtpggpdbipajchaaDoor
namespace Go.Proofs.YtpggpdbipajchaaDoor
open Go.RowKit
set_option linter.all false
noncomputable def φIx : Fun := F1 dWs fun l => if okW l then some (.lst true 1 ((indexR l).map fun s => .val (.string s))) else none
theorem φIx_ap {l : List W2} (h : okW l) : φIx [.lst false 2 (l.map fun x => .agg [.val (.string x.1), .val (.int .i64 x.2)])] = some (.lst true 1 ((indexR l).map fun s => .val (.string s))) := (F1_ap (A := dWs) l).trans (if_pos h)
def lastU (l : List W2) (k : Nat) : ByteArray := if k = 0 then ⟨#[]⟩ else (wordsU l)[k - 1]?.getD ⟨#[]⟩
theorem idx_take {l : List W2} {k : Nat} (h : k < (wordsU l).length) : (idxR l).take (k + 1) = (idxR l).take k ++ [lineU l ((wordsU l)[k]?.getD ⟨#[]⟩)] := by
  unfold idxR
  rw [List.map_take.symm, List.map_take.symm, List.take_succ_eq_append_getElem h, List.map_append, List.getElem?_eq_getElem h, Option.getD_some]
  rfl
def fndU (l : List W2) (w : ByteArray) (p : Int) (j : Nat) : Bool := hasP (l.take j) w p
theorem fndU_succ {l : List W2} {w : ByteArray} {p : Int} {j : Nat} (h : j < l.length) : fndU l w p (j + 1) = (fndU l w p j || decide ((l[j]?.getD w0).1 = w ∧ (l[j]?.getD w0).2 = p)) := by
  unfold fndU hasP
  rw [List.take_succ_eq_append_getElem h, List.any_append, List.getElem?_eq_getElem h, Option.getD_some]
  simp
noncomputable def GIxS : Ctx := { fn := fun f => if f = 76 then some φIndexValid else if f = 25 then some φPt else none, io := fun f => none }
theorem GIxS_ok : SoundΓ Tryd.prog GIxS := ⟨(fun f φ h => by
  unfold GIxS at h
  dsimp only at h
  split at h
  · rename_i hf; cases h; subst hf; exact ⟨⟨_, Tryd.func76, rfl, rfl⟩, specIndexValid_ok⟩
  split at h
  · rename_i hf; cases h; subst hf; exact ⟨⟨_, Tryd.func25, rfl, rfl⟩, specPt_ok⟩
  cases h), (fun f φ h => by
  unfold GIxS at h
  dsimp only at h
  cases h), rfl⟩
theorem GIxS_76 (ob : Objs) (ps : List PV) : evCall GIxS ob 76 ps = (ps.mapM (reify false 0 ob fuel)).bind φIndexValid := by
  have h : GIxS.fn 76 = some φIndexValid := by simp [GIxS]
  unfold evCall
  rw [h]
  cases ps.mapM (reify false 0 ob fuel) <;> rfl
theorem GIxS_25 (ob : Objs) (ps : List PV) : evCall GIxS ob 25 ps = (ps.mapM (reify false 0 ob fuel)).bind φPt := by
  have h : GIxS.fn 25 = some φPt := by simp [GIxS]
  unfold evCall
  rw [h]
  cases ps.mapM (reify false 0 ob fuel) <;> rfl
set_option maxHeartbeats 32000000 in
set_option maxRecDepth 100000 in
theorem specIx_ok : Sound Tryd.prog 39 φIx := by
  refine sound_pq mixed GIxS_ok Tryd.func39 rfl 93 rfl [.tmp 2] rfl (by kernel_rfl) fun ps r hr => ?_
  obtain ⟨l, rfl, hq⟩ := F1_some hr
  clear hr
  split at hq
  case isFalse => cases hq
  case isTrue hpre =>
  cases hq
  refine ⟨by simp, ?_⟩
  simp only [dIs, dUs, dSs, dI_e, dU_e, dB_e, dS_e, dFn_e, dL_e, dA2_e, dA3_e, dA4_e, dA5_e]
  have apv := φIndexValid_ap hpre
  have hl0 := hpre.1
  unfold indexR
  cases hv : indexB l with
  | false =>
    rw [hv] at apv
    clear hpre hv
    rw [if_neg (by decide)]
    have gixs_c76 := GIxS_76; have gixs_c25 := GIxS_25
    (refine wlk ?_; intros)
    refine i_loop (α := Unit) mixed (fun _ => [(0, .lst false 2 (l.map fun x => .agg [.val (.string x.1), .val (.int .i64 x.2)])), (3, .row 0 1 0 0)]) (fun _ => [(0, 9, 1, [])]) (fun _ => 1) (fun _ => True) (fun _ => 0) (by kernel_rfl) () trivial ?_ ?_ rfl ?_
    · exact agr
    · exact agr
    rintro _ _
    exact wlkF
  | true =>
    rw [hv] at apv
    rw [if_pos rfl]
    obtain ⟨hl30, hall⟩ := indexB_iff.1 hv
    have hne : ∀ x ∈ l, ¬ x.1 = ⟨#[]⟩ := fun x hx e => by
      have h1 := (wordB_letters (hall x hx).1).2.1
      rw [e] at h1
      exact absurd h1 (by decide)
    have hwl := wordsU_len l
    have hnx := fun next (k : Nat) hk h => NextI.done (l := l) (k := k) (next := next) hne h hk
    have hsz : ∀ j : Nat, (l[j]?.getD w0).1.size ≤ 20 := fun j => by
      by_cases hj : j < l.length
      · exact (wordB_letters (hall _ (getW hj)).1).2.2
      · rw [List.getElem?_eq_none (by omega)]; decide
    have hne2 : ∀ j : Nat, j < l.length → ¬ (l[j]?.getD w0).1 = ⟨#[]⟩ := fun j hj => hne _ (getW hj)
    have hlz : ∀ k : Nat, k < (wordsU l).length → (lineU l ((wordsU l)[k]?.getD ⟨#[]⟩)).size ≤ 360 ∧ ((wordsU l)[k]?.getD ⟨#[]⟩).size ≤ 20 := fun k hk => by
      rw [List.getElem?_eq_getElem hk, Option.getD_some]
      exact ⟨lineU_size hv (List.getElem_mem hk), (wordB_letters (wordsU_word hv _ (List.getElem_mem hk))).2.2⟩
    have hpz : ∀ w, (pagesT (pagesU l w)).size ≤ 330 := fun w => pagesT_size30 (pagesU_valid hl30 w)
    have apt := fun w => φPt_ap (l := pagesU l w) (by have := @pagesN_len l w 999; show (pagesN l w 999).length ≤ _; omega)
    have hpl := fun w n => @pagesN_len l w n
    clear hpre hv hall hne
    replace hnx := Lib.hid hnx
    replace apt := Lib.hid apt
    replace hlz := Lib.hid hlz
    replace hpz := Lib.hid hpz
    have hil : (idxR l).length = (wordsU l).length := by unfold idxR; rw [List.length_map]
    have gixs_c76 := GIxS_76; have gixs_c25 := GIxS_25
    (refine wlk ?_; intros)
    refine i_loop (α := Nat × Nat × Nat) mixed (fun i => [(0, .lst false 2 (l.map fun x => .agg [.val (.string x.1), .val (.int .i64 x.2)])), (3, .row i.2.1 1 0 i.1), (4, .val (.string (lastU l i.1)))]) (fun i => [(i.2.1, 9, 1, ((idxR l).take i.1).map fun s => .val (.string s))])
      (fun i => i.2.2) (fun i => i.1 ≤ (wordsU l).length ∧ i.2.1 < i.2.2) (fun i => (wordsU l).length + 1 - i.1) (by kernel_rfl) (0, 0, 1) ⟨Nat.zero_le _, by decide⟩ ?_ ?_ rfl ?_
    · have h0 : lastU l 0 = ⟨#[]⟩ := rfl
      exact agi
    · have h0 : (idxR l).take 0 = [] := rfl
      exact agr
    rintro ⟨k, o, nx⟩ ⟨hk, ho⟩
    dsimp only at hk ho
    have hlen : ((idxR l).take k).length = k := by rw [List.length_take]; omega
    generalize hLS : lastU l k = last at *
    replace hLS := Lib.hid hLS
    (refine wlk ?_; intros)
    refine i_loop (α := Nat × ByteArray) mixed (fun i => [(0, .lst false 2 (l.map fun x => .agg [.val (.string x.1), .val (.int .i64 x.2)])), (3, .row o 1 0 k), (4, .val (.string last)), (5, .val (.string i.2)), (6, iv i.1)]) (fun i => [(o, 9, 1, ((idxR l).take k).map fun s => .val (.string s))])
      (fun _ => nx) (fun i => i.1 ≤ l.length ∧ NextI l last i.2 i.1) (fun i => l.length - i.1) (by kernel_rfl) (0, ⟨#[]⟩) ⟨Nat.zero_le _, NextI.zero l last⟩ ?_ ?_ rfl ?_
    · exact agi
    · exact agr
    rintro ⟨j, next⟩ ⟨hj, hN⟩
    dsimp only at hj hN
    replace hN := Lib.hid hN
    by_cases hjl : j < l.length
    · have hnej := hne2 j hjl
      have hkeep := fun h => hN.out.keep (k := j) h
      have htake := fun h1 h2 => hN.out.take (k := j) hnej h1 h2
      replace hkeep := Lib.hid hkeep
      replace htake := Lib.hid htake
      generalize hxx : l[j]?.getD w0 = xx at *
      obtain ⟨x1, x2⟩ := xx
      dsimp only at hnej hkeep htake
      clear hne2 hsz
      cases c1 : ltB last x1 with
      | false =>
        have hr := Lib.hid (hkeep.out (.inl c1))
        (refine wlk ?_; intros)
        refine ⟨(j + 1, next), ⟨by dsimp only; omega, hr.out⟩, by dsimp only; omega, ?_, ?_, rfl⟩
        · exact agi
        · exact agr
      | true =>
        by_cases c2 : next = ⟨#[]⟩
        · have hr := Lib.hid (htake.out c1 (.inl c2))
          subst c2
          (refine wlk ?_; intros)
          refine ⟨(j + 1, x1), ⟨by dsimp only; omega, hr.out⟩, by dsimp only; omega, ?_, ?_, rfl⟩
          · exact agi
          · exact agr
        · cases c3 : ltB x1 next with
          | false =>
            have hr := Lib.hid (hkeep.out (.inr ⟨c2, c3⟩))
            (refine wlk ?_; intros)
            refine ⟨(j + 1, next), ⟨by dsimp only; omega, hr.out⟩, by dsimp only; omega, ?_, ?_, rfl⟩
            · exact agi
            · exact agr
          | true =>
            have hr := Lib.hid (htake.out c1 (.inr c3))
            (refine wlk ?_; intros)
            refine ⟨(j + 1, x1), ⟨by dsimp only; omega, hr.out⟩, by dsimp only; omega, ?_, ?_, rfl⟩
            · exact agi
            · exact agr
    · obtain rfl : j = l.length := by omega
      have hd := hnx.out next k hk (by
        have h1 := hN.out
        rw [← hLS.out] at h1
        exact h1)
      clear hne2
      by_cases hkw : k = (wordsU l).length
      · have hnn := hd.1.2 hkw
        subst hnn
        have ht : (idxR l).take k = idxR l := List.take_of_length_le (by omega)
        rw [ht] at *
        clear hd
        subst hkw
        exact wlkF
      · have hnn := hd.2 (by omega)
        have hn0 : ¬ next = ⟨#[]⟩ := fun e => hkw (hd.1.1 e)
        have hlk := hlz.out k (by omega)
        rw [← hnn] at hlk
        have htk := idx_take (l := l) (k := k) (by omega)
        rw [← hnn] at htk
        have hls : lastU l (k + 1) = next := by
          unfold lastU
          rw [if_neg (by omega), Nat.add_sub_cancel]
          exact hnn.symm
        have hlu : lineU l next = (next ++ ⟨#[32]⟩) ++ pagesT (pagesU l next) := rfl
        have apn := apt.out next
        have hpn := hpz.out next
        have hplen := hpl next 999
        replace htk := Lib.hid htk
        replace hls := Lib.hid hls
        replace hlu := Lib.hid hlu
        clear hd hnn hlz
        (refine wlk ?_; intros)
        refine i_loop (α := Nat × Nat × Nat) mixed (fun i => [(0, .lst false 2 (l.map fun x => .agg [.val (.string x.1), .val (.int .i64 x.2)])), (3, .row o 1 0 k), (5, .val (.string next)), (7, .row i.2.1 1 0 (pagesN l next i.1).length), (8, iv ((i.1 : Int) + 1))]) (fun i => [(o, 9, 1, ((idxR l).take k).map fun s => .val (.string s)), (i.2.1, 3, 1, (pagesN l next i.1).map fun n => .val (.int .i64 n))])
          (fun i => i.2.2) (fun i => i.1 ≤ 999 ∧ o < i.2.1 ∧ i.2.1 < i.2.2) (fun i => 999 - i.1) (by kernel_rfl) (0, nx, nx + 1) ⟨Nat.zero_le _, ho, by dsimp only; omega⟩ ?_ ?_ rfl ?_
        · have h0 : (pagesN l next 0).length = 0 := rfl
          exact agi
        · have h0 : pagesN l next 0 = [] := rfl
          exact agr
        rintro ⟨n, q, ny⟩ ⟨hn, hq, hqn⟩
        dsimp only at hn hq hqn
        have hoq : ¬ o = q := by omega
        have hqo : ¬ q = o := by omega
        have hpn2 := hpl next n
        by_cases hn9 : n < 999
        · have hyes := fun h => pagesN_yes (l := l) (w := next) (n := n) h
          have hno := fun h => pagesN_no (l := l) (w := next) (n := n) h
          replace hyes := Lib.hid hyes
          replace hno := Lib.hid hno
          (refine wlk ?_; intros)
          refine i_loop (α := Nat) mixed (fun j => [(0, .lst false 2 (l.map fun x => .agg [.val (.string x.1), .val (.int .i64 x.2)])), (3, .row o 1 0 k), (5, .val (.string next)), (7, .row q 1 0 (pagesN l next n).length), (8, iv ((n : Int) + 1)), (9, bv (fndU l next ((n : Int) + 1) j)), (10, iv j)]) (fun i => [(o, 9, 1, ((idxR l).take k).map fun s => .val (.string s)), (q, 3, 1, (pagesN l next n).map fun n => .val (.int .i64 n))])
            (fun _ => ny) (fun j => j ≤ l.length) (fun j => l.length - j) (by kernel_rfl) 0 (Nat.zero_le _) ?_ ?_ rfl ?_
          · have h0 : fndU l next ((n : Int) + 1) 0 = false := rfl
            exact agi
          · exact agr
          intro j hj
          by_cases hjl : j < l.length
          · have hfs := fndU_succ (w := next) (p := (n : Int) + 1) hjl
            replace hfs := Lib.hid hfs
            generalize hxx : l[j]?.getD w0 = xx at *
            obtain ⟨x1, x2⟩ := xx
            generalize fndU l next ((n : Int) + 1) j = F at *
            cases F with
            | true =>
              (refine wlk ?_; intros)
              refine ⟨j + 1, by dsimp only; omega, by dsimp only; omega, ?_, ?_, rfl⟩
              · dsimp only
                rw [hfs.out, Bool.true_or]
                exact agi
              · exact agr
            | false =>
              by_cases c1 : x1 = next
              · by_cases c2 : x2 = (n : Int) + 1
                · have hdd : decide (x1 = next ∧ x2 = (n : Int) + 1) = true := decide_eq_true ⟨c1, c2⟩
                  replace hdd := Lib.hid hdd
                  (refine wlk ?_; intros)
                  refine ⟨j + 1, by dsimp only; omega, by dsimp only; omega, ?_, ?_, rfl⟩
                  · dsimp only
                    rw [hfs.out, Bool.false_or]
                    dsimp only
                    rw [hdd.out]
                    exact agi
                  · exact agr
                · have hdd : decide (x1 = next ∧ x2 = (n : Int) + 1) = false := decide_eq_false fun e => c2 e.2
                  replace hdd := Lib.hid hdd
                  (refine wlk ?_; intros)
                  refine ⟨j + 1, by dsimp only; omega, by dsimp only; omega, ?_, ?_, rfl⟩
                  · dsimp only
                    rw [hfs.out, Bool.false_or]
                    dsimp only
                    rw [hdd.out]
                    exact agi
                  · exact agr
              · have hdd : decide (x1 = next ∧ x2 = (n : Int) + 1) = false := decide_eq_false fun e => c1 e.1
                replace hdd := Lib.hid hdd
                (refine wlk ?_; intros)
                refine ⟨j + 1, by dsimp only; omega, by dsimp only; omega, ?_, ?_, rfl⟩
                · dsimp only
                  rw [hfs.out, Bool.false_or]
                  dsimp only
                  rw [hdd.out]
                  exact agi
                · exact agr
          · obtain rfl : j = l.length := by omega
            have hfa : fndU l next ((n : Int) + 1) l.length = hasP l next ((n : Int) + 1) := by unfold fndU; rw [List.take_length]
            rw [hfa]
            cases hH : hasP l next ((n : Int) + 1) with
            | true =>
              have hy := hyes.out hH
              replace hy := Lib.hid hy
              clear hyes hno hH hfa
              (refine wlk ?_; intros)
              refine ⟨(n + 1, ny + 1, ny + 2), ⟨by dsimp only; omega, by dsimp only; omega, by dsimp only; omega⟩, by dsimp only; omega, ?_, ?_, rfl⟩
              · dsimp only
                rw [hy.out]
                exact agi
              · dsimp only
                rw [hy.out]
                exact agr
            | false =>
              have hy := hno.out hH
              replace hy := Lib.hid hy
              clear hyes hno hH hfa
              (refine wlk ?_; intros)
              refine ⟨(n + 1, q, ny), ⟨by dsimp only; omega, by dsimp only; omega, by dsimp only; omega⟩, by dsimp only; omega, ?_, ?_, rfl⟩
              · dsimp only
                rw [hy.out]
                exact agi
              · dsimp only
                rw [hy.out]
                exact agr
        · obtain rfl : n = 999 := by omega
          have hpU : pagesN l next 999 = pagesU l next := rfl
          rw [hpU] at *
          clear hpU
          generalize pagesU l next = PU at *
          have h32 : (⟨#[32]⟩ : ByteArray).size = 1 := rfl
          (refine wlk ?_; intros)
          refine ⟨(k + 1, ny + 1, ny + 2), ⟨by dsimp only; omega, by dsimp only; omega⟩, by dsimp only; omega, ?_, ?_, rfl⟩
          · dsimp only
            rw [hls.out]
            exact agi
          · dsimp only
            rw [htk.out, hlu.out]
            exact agr
end Go.Proofs.YtpggpdbipajchaaDoor
namespace Go.Proofs.YtpggpdbipajchaaDoor
open Go.RowKit
set_option linter.all false
structure Fgn where
  bk : Nat → Prop
  at_ : World → Prop
  keep : ∀ w w' : World, (∀ i, bk i → w'.heap[i]? = w.heap[i]?) → at_ w → at_ w'
def Fgn.no : Fgn := ⟨fun _ => False, fun _ => True, fun _ _ _ _ => trivial⟩
structure HzC (io : IoS) (w00 w0 : World) (B : Nat) (bk : Nat → Prop) : Prop where
  ne : ∀ i, io.wr i ∨ io.im i ∨ io.it i → ¬ bk i
  lo : ∀ i, io.wr i ∨ io.it i → B ≤ i
  lt : ∀ i, io.wr i → i < w0.heap.size
  hb : ∀ b, bk b → b < w0.heap.size
  sz : B ≤ w0.heap.size
  fr : Fr (fun i => bk i ∨ B ≤ i) w00 w0
  tk : ∀ t ∈ tks, t < B ∧ ¬ bk t
def Zt (P : Program) (N B : Nat) (w00 : World) (s : AS) (σ : Fgn) (a : Act) (w : World) : Prop :=
  (∃ io w0 g, Rel io w0 N g s a w ∧ HzC io w00 w0 B σ.bk) ∧ σ.at_ w
section
variable {P : Program} {N B : Nat} {w00 : World}
theorem HzC.apartI {io : IoS} {w0 : World} {bk : Nat → Prop} (h : HzC io w00 w0 B bk) {g : Gh} {s : AS} {a : Act} {w : World} (hr : Rel io w0 N g s a w) {kk : Bool} {i : Nat} (hi : g.I kk i) : i < w.heap.size ∧ ¬ bk i := by
  refine ⟨hr.lt _ _ hi, ?_⟩
  cases kk with
  | false => exact h.ne i (.inr (.inl (hr.old i hi)))
  | true =>
    rcases hr.new i hi with ⟨h1, _⟩ | h1
    · exact fun e => by have := h.hb i e; omega
    · exact h.ne i (.inr (.inr h1))
theorem HzC.apartO {io : IoS} {w0 : World} {bk : Nat → Prop} (h : HzC io w00 w0 B bk) {g : Gh} {s : AS} {a : Act} {w : World} (hr : Rel io w0 N g s a w) {o : Nat} {c : Nat × Nat × List PV} (ho : s.ob o = some c) : g.β o < w.heap.size ∧ ¬ bk (g.β o) ∧ B ≤ g.β o := by
  obtain ⟨h1, h2, h3, h4⟩ := hr.ob o c ho
  obtain ⟨arr, ha, _⟩ := h4.1
  refine ⟨lt_of_heap ha, ?_, ?_⟩
  · rcases h2 with h2 | h2
    · exact fun e => by have := h.hb _ e; omega
    · exact h.ne _ (.inl h2)
  · rcases h2 with h2 | h2
    · have := h.sz; omega
    · exact h.lo _ (.inl h2)
theorem Rel.rebaseZ {io : IoS} {w0 w w' : World} {bk bk' : Nat → Prop} {g : Gh} {s : AS} {a : Act} (hr : Rel io w0 N g s a w) (hC : HzC io w00 w0 B bk) (hf : Fr bk' w w')
    (h1 : ∀ i, i < w.heap.size → bk' i → bk i) (h2 : ∀ i, bk i → bk' i) (h3 : ∀ b, bk' b → b < w'.heap.size) : ∃ io', Rel io' w' N g s a w' ∧ HzC io' w00 w' B bk' := by
  have hI : ∀ kk i, g.I kk i → w'.heap[i]? = w.heap[i]? := fun kk i hi => by
    obtain ⟨q1, q2⟩ := hC.apartI hr hi
    exact hf.block i q1 fun e => q2 (h1 i q1 e)
  have hsz : B ≤ w.heap.size := Nat.le_trans hC.sz hr.fr.size
  have htk : ∀ t ∈ tks, ¬ bk' t := fun t ht e => (hC.tk t ht).2 (h1 t (by have := (hC.tk t ht).1; omega) e)
  refine ⟨{ wr := fun i => ∃ o, (s.ob o).isSome ∧ i = g.β o, im := g.I false, m := 0, β0 := fun _ => 0, κ0 := fun _ => 0, it := g.I true }, ⟨hr.nt, hr.df, fun t => (hr.tm t).mono (Gh.le_refl g) hI, fun o c ho => ?_, hr.inj, hr.nx, fun kk i hi => Nat.lt_of_lt_of_le (hr.lt kk i hi) hf.size, fun i hi => .inr hi, Fr.refl _ _, fun i hi => hi, ⟨fun o ho => (Nat.not_lt_zero o ho).elim, fun o ho => (Nat.not_lt_zero o ho).elim⟩, fun o ho => False.elim ho, ?_⟩, ⟨fun i hi => ?_, fun i hi => ?_, fun i hi => ?_, h3, Nat.le_trans hsz hf.size, ?_, fun t ht => ⟨(hC.tk t ht).1, htk t ht⟩⟩⟩
  · obtain ⟨k1, k2, k3, k4⟩ := hr.ob o c ho
    obtain ⟨q1, q2, q3⟩ := hC.apartO hr ho
    exact ⟨k1, .inr ⟨o, by simp [ho], rfl⟩, k3, k4.mono (Gh.le_refl g) k1 hI (hf.block _ q1 fun e => q2 (h1 _ q1 e))⟩
  · have t1 : TabF w (fun i => bk' i) := hr.tab.keep hr.fr fun t ht e => htk t ht e
    refine t1.keep hf ?_
    rintro t ht ⟨o, ho, rfl⟩
    obtain ⟨c, hc⟩ := Option.isSome_iff_exists.1 ho
    have := (hC.apartO hr hc).2.2
    have := (hC.tk _ ht).1
    omega
  · rcases hi with ⟨o, ho, rfl⟩ | hi | hi
    · obtain ⟨c, hc⟩ := Option.isSome_iff_exists.1 ho
      obtain ⟨q1, q2, q3⟩ := hC.apartO hr hc
      exact fun e => q2 (h1 _ q1 e)
    · obtain ⟨q1, q2⟩ := hC.apartI hr hi
      exact fun e => q2 (h1 _ q1 e)
    · obtain ⟨q1, q2⟩ := hC.apartI hr hi
      exact fun e => q2 (h1 _ q1 e)
  · rcases hi with ⟨o, ho, rfl⟩ | hi
    · obtain ⟨c, hc⟩ := Option.isSome_iff_exists.1 ho
      exact (hC.apartO hr hc).2.2
    · rcases hr.new i hi with ⟨q, _⟩ | q
      · exact Nat.le_trans hC.sz q
      · exact hC.lo i (.inr q)
  · obtain ⟨o, ho, rfl⟩ := hi
    obtain ⟨c, hc⟩ := Option.isSome_iff_exists.1 ho
    exact Nat.lt_of_lt_of_le (hC.apartO hr hc).1 hf.size
  · have hf1 : Fr (fun i => bk' i ∨ B ≤ i) w0 w := ⟨hr.fr.os, hr.fr.tape, hr.fr.output, hr.fr.size, fun i hi hn => hr.fr.block i hi fun q => hn (.inr (hC.lo i (.inl q)))⟩
    refine ⟨hf.os.trans (hf1.os.trans hC.fr.os), hf.tape.trans (hf1.tape.trans hC.fr.tape), hf.output.trans (hf1.output.trans hC.fr.output), Nat.le_trans hC.fr.size (Nat.le_trans hf1.size hf.size), fun i hi hn => ?_⟩
    have g1 := hC.fr.block i hi fun q => hn (q.imp (h2 i) id)
    have g2 := hf1.block i (Nat.lt_of_lt_of_le hi hC.fr.size) hn
    have g3 := hf.block i (Nat.lt_of_lt_of_le hi (Nat.le_trans hC.fr.size hf1.size)) fun q => hn (.inl q)
    exact g3.trans (g2.trans g1)
theorem Fgn.same {io : IoS} {w0 : World} {σ : Fgn} {g g' : Gh} {s s' : AS} {a a' : Act} {w w' : World} (hC : HzC io w00 w0 B σ.bk) (h1 : Rel io w0 N g s a w) (h2 : Rel io w0 N g' s' a' w') (hM : σ.at_ w) : σ.at_ w' :=
  σ.keep w w' (fun i hi => by
    have q : ∀ {g : Gh} {s : AS} {a : Act} {w : World}, Rel io w0 N g s a w → w.heap[i]? = w0.heap[i]? := fun hr => hr.fr.block i (hC.hb i hi) fun q => hC.ne i (.inl q) hi
    rw [q h1, q h2]) hM
structure HZ (P : Program) (N B : Nat) (w00 : World) (c : Code) (K : X → AS → Fgn → Prop) (s : AS) (σ : Fgn) : Prop where
  go : ∀ a w, Zt P N B w00 s σ a w → ∀ Q : Exit → Act → World → Prop, (∀ x s' σ' a' w', Zt P N B w00 s' σ' a' w' → K x s' σ' → Q x.toExit a' w') → CWp P c Q a w
variable {c c1 c2 : Code} {K : X → AS → Fgn → Prop} {s s' : AS} {σ : Fgn}
theorem HZ.seq (h : HZ P N B w00 c1 (fun x s' σ' => match x with | .normal => HZ P N B w00 c2 K s' σ' | .exit id => K (.exit id) s' σ' | .ret => K .ret s' σ') s σ) : HZ P N B w00 (.seq c1 c2) K s σ := HZ.mk fun a w hs Q hQ => by
  refine wp_seq (CWp.wp (h.go a w hs _ fun x s' σ' a' w' hs' hk => ?_))
  cases x with
  | normal => exact (hk.go a' w' hs' Q hQ).wp
  | exit id => exact hQ _ s' σ' a' w' hs' hk
  | ret => exact hQ _ s' σ' a' w' hs' hk
theorem HZ.block {id : Nat} (h : HZ P N B w00 c (fun x s' σ' => K (x.out id) s' σ') s σ) : HZ P N B w00 (.block id c) K s σ := HZ.mk fun a w hs Q hQ => by
  refine wp_block (CWp.wp (h.go a w hs _ fun x s' σ' a' w' hs' hk => ?_))
  have := hQ _ s' σ' a' w' hs' hk
  cases x with
  | normal => exact this
  | ret => exact this
  | exit id' =>
    simp only [X.toExit, Exit.inBlock, X.out] at this ⊢
    split
    · rename_i hid; simpa [hid] using this
    · rename_i hid; simpa [hid] using this
theorem HZ.cond {x : Operand} {b : Bool} (hc : look s.tm x = .val (.bool b)) (ht : b = true → HZ P N B w00 c1 K s σ) (hf : b = false → HZ P N B w00 c2 K s σ) : HZ P N B w00 (.cond x c1 c2) K s σ := HZ.mk fun a w hs Q hQ => by
  obtain ⟨⟨io, w0, g, hr, hC⟩, hM⟩ := hs
  have hx := hr.look x
  rw [hc] at hx
  simp only [Rep] at hx
  refine wp_cond hx ?_
  cases b with
  | true => exact ((ht rfl).go a w ⟨⟨io, w0, g, hr, hC⟩, hM⟩ Q hQ).wp
  | false => exact ((hf rfl).go a w ⟨⟨io, w0, g, hr, hC⟩, hM⟩ Q hQ).wp
theorem HZ.skip (h : K .normal s σ) : HZ P N B w00 .skip K s σ := HZ.mk fun a w hs Q hQ => wp_skip (hQ .normal s σ a w hs h)
theorem HZ.exit {id : Nat} (h : K (.exit id) s σ) : HZ P N B w00 (.exit id) K s σ := HZ.mk fun a w hs Q hQ => wp_exit (hQ (.exit id) s σ a w hs h)
theorem HZ.ret (h : K .ret s σ) : HZ P N B w00 .ret K s σ := HZ.mk fun a w hs Q hQ => wp_ret (hQ .ret s σ a w hs h)
theorem Zt.forget {a : Act} {w : World} (h : Zt P N B w00 s σ a w) (hf : s.forget s') : Zt P N B w00 s' σ a w := by
  obtain ⟨⟨io, w0, g, hr, hC⟩, hM⟩ := h
  exact ⟨⟨io, w0, g, hr.forget hf, hC⟩, hM⟩
theorem HZ.mono {K1 : X → AS → Fgn → Prop} (h : HZ P N B w00 c K1 s σ) (hk : ∀ x s' σ', K1 x s' σ' → K x s' σ') : HZ P N B w00 c K s σ := ⟨fun a w hs Q hQ => h.go a w hs Q fun x s' σ' a' w' hs' h1 => hQ x s' σ' a' w' hs' (hk x s' σ' h1)⟩
theorem HZ.forget (hf : s.forget s') (h : HZ P N B w00 c K s' σ) : HZ P N B w00 c K s σ := HZ.mk fun a w hs Q hQ => h.go a w (hs.forget hf) Q hQ
theorem HZ.loop {α : Type} (S : α → AS) (I : α → Fgn → Prop) (μ : α → Nat) (i : α) (hi : I i σ) (hs : s.forget (S i))
    (h : ∀ i σ, I i σ → HZ P N B w00 c (fun x s' σ' => match x with | .normal => ∃ j, I j σ' ∧ μ j < μ i ∧ s'.forget (S j) | .exit id => K (.exit id) s' σ' | .ret => K .ret s' σ') (S i) σ) : HZ P N B w00 (.loop c) K s σ := by
  have key : ∀ n i σ, μ i = n → I i σ → ∀ a w, Zt P N B w00 (S i) σ a w → ∀ Q : Exit → Act → World → Prop, (∀ x s' σ' a' w', Zt P N B w00 s' σ' a' w' → K x s' σ' → Q x.toExit a' w') → LoopWp P c Q a w := by
    intro n
    induction n using Nat.strongRecOn with
    | _ n ih =>
      intro i σ hn hi a w hst Q hQ
      refine LoopWp.step (CWp.wp ((h i σ hi).go a w hst _ fun x s' σ' a' w' hst' hk => ?_))
      cases x with
      | normal =>
        obtain ⟨j, hj, hlt, hf⟩ := hk
        exact ih (μ j) (hn ▸ hlt) j σ' rfl hj a' w' (hst'.forget hf) Q hQ
      | exit id => exact hQ _ s' σ' a' w' hst' hk
      | ret => exact hQ _ s' σ' a' w' hst' hk
  exact HZ.mk fun a w hst Q hQ => key _ i σ rfl hi a w (hst.forget hs) Q hQ
theorem HZ.eng {Γ : Ctx} (hm : P.follows .mixedOrders = true) (hΓ : SoundΓ P Γ) (hc : codeOk Γ true N c = true) (hp : pq P Γ N c (fun x s' => K x s' σ) s.tm s.ob s.nx) : HZ P N B w00 c K s σ := HZ.mk fun a w hs Q hQ => by
  obtain ⟨⟨io, w0, g, hr, hC⟩, hM⟩ := hs
  obtain ⟨x, s', h1, h2⟩ := pw_ok (fun _ => hm) c _ _ hc hp
  exact h1.cwp hΓ.w (fun b hb => hC.lt b hb) g a w Q hr fun g' a' w' hr' => hQ x s' σ a' w' ⟨⟨io, w0, g', hr', hC⟩, Fgn.same hC hr hr' hM⟩ h2
structure ZO (P : Program) (N B : Nat) (w00 : World) (ops : Array Oper) (j : Nat) (l : List Oper) (K : AS → Fgn → Prop) (s : AS) (σ : Fgn) : Prop where
  go : ops.toList.drop j = l → ∀ a w, Zt P N B w00 s σ a w → ∀ Q : Exit → Act → World → Prop, (∀ s' σ' a' w', Zt P N B w00 s' σ' a' w' → K s' σ' → Q .normal a' w') → wpOps P ops Q (List.range' j l.length) a w
variable {ops : Array Oper} {J : AS → Fgn → Prop} {j : Nat} {o : Oper} {l l1 l2 : List Oper}
theorem HZ.each {id : Nat} {os : List Oper} (h : ZO P N B w00 os.toArray 0 os (K .normal) s σ) : HZ P N B w00 (.region id os.toArray false) K s σ := HZ.mk fun a w hs Q hQ => by
  refine wp_region ?_
  have := h.go (by simp) a w hs Q fun s' σ' a' w' hs' hk => hQ .normal s' σ' a' w' hs' hk
  rw [List.range_eq_range']
  simpa using this
theorem ZO.nil (h : J s σ) : ZO P N B w00 ops j [] J s σ := ZO.mk fun _ a w hs Q hQ => hQ s σ a w hs h
theorem seqPreZ {Γ : Ctx} {imm : Md} {io : IoS} {w0 : World} {Q : Exit → Act → World → Prop} {s1 : AS} (hΓ : SoundW P Γ io.wr w0) (hio : ∀ b, io b → b < w0.heap.size) (hd : ∀ o ∈ ops.toList, dstOk N o = true) : ∀ (l1 : List Oper) (j : Nat) {g : Gh} {s : AS} {a : Act} {w : World}, ops.toList.drop j = l1 ++ l2 → Rel io w0 N g s a w →
    evSeq P Γ imm ops l1 s = some s1 → (∀ g' a' w', Rel io w0 N g' s1 a' w' → wpOps P ops Q (List.range' (j + l1.length) l2.length) a' w') → wpOps P ops Q (List.range' j (l1 ++ l2).length) a w
  | [], j, g, s, a, w, hl, h, he, hQ => by
    simp only [evSeq, Option.some.injEq] at he
    subst he
    exact hQ g a w h
  | o :: l, j, g, s, a, w, hl, h, he, hQ => by
    have hk : ops.toList[j]? = some o := by
      have := congrArg (·[0]?) hl
      simpa using this
    have hk' : ops[j]? = some o := by simpa using hk
    have hl' : ops.toList.drop (j + 1) = l ++ l2 := by
      rw [← List.drop_drop, hl]
      rfl
    simp only [evSeq] at he
    split at he
    · rename_i s2 h2
      simp only [List.cons_append, List.length_cons, List.range'_succ]
      rw [wpOps_cons]
      exact op_ok h hΓ hio (hd o (List.mem_of_getElem? hk)) h2 hk' fun g' a' w' hr => seqPreZ hΓ hio hd l (j + 1) hl' hr he fun g2 a2 w2 hr2 => by
        have := hQ g2 a2 w2 hr2
        rwa [List.length_cons, show j + (l.length + 1) = j + 1 + l.length by omega] at this
    · cases he
theorem ZO.pre {Γ : Ctx} {imm : Md} {os : List Oper} (n : Nat) (hΓ : SoundΓ P Γ) (hd : os.toArray.all (dstOk N) = true) (h1 : l.take n = l1) (h2 : l.drop n = l2) {gs : List (Option Nat)} (hg : os.map (·.dst) = gs) (hp : wq P Γ imm gs l1 (fun s1 => ZO P N B w00 os.toArray (j + l1.length) l2 J s1 σ) s.tm s.ob s.nx) : ZO P N B w00 os.toArray j l J s σ := ZO.mk fun hl a w hs Q hQ => by
  obtain ⟨⟨io, w0, g, hr, hC⟩, hM⟩ := hs
  have hl12 : l = l1 ++ l2 := by rw [← h1, ← h2, List.take_append_drop]
  subst hg
  rw [show os.map (·.dst) = os.toArray.toList.map (·.dst) by simp, ← evQ_wq] at hp
  obtain ⟨s1, e1, e2⟩ := evQ_ok _ _ hp
  rw [hl12] at hl ⊢
  refine seqPreZ hΓ.w (fun b hb => hC.lt b hb) (fun o ho => (Array.all_eq_true_iff_forall_mem.1 hd) o (by simpa using ho)) l1 j hl hr e1 fun g' a' w' hr' => ?_
  refine e2.go ?_ a' w' ⟨⟨io, w0, g', hr', hC⟩, Fgn.same hC hr hr' hM⟩ Q hQ
  rw [← List.drop_drop, hl]
  simp
theorem ZO.one (hg : o.guard = none) (h : ∀ a w, Zt P N B w00 s σ a w → ∀ (Kn : Act → World → Prop) (Q : Exit → Act → World → Prop), (∀ s' σ' a' w', Zt P N B w00 s' σ' a' w' → ZO P N B w00 ops (j + 1) l J s' σ' → Kn a' w') → o.wp P a w Kn Q) : ZO P N B w00 ops j (o :: l) J s σ := ZO.mk fun hl a w hs Q hQ => by
  have hk : ops.toList[j]? = some o := by
    have := congrArg (·[0]?) hl
    simpa using this
  have hk' : ops[j]? = some o := by simpa using hk
  have hl' : ops.toList.drop (j + 1) = l := by
    rw [← List.drop_drop, hl]
    rfl
  simp only [List.length_cons, List.range'_succ]
  rw [wpOps_cons]
  unfold wpOp
  simp only [hk']
  have hw : Region.wanted o (yielded ops a.tmps) = true := by simp [Region.wanted, hg]
  rw [hw]
  simp only [if_true]
  left
  exact h a w hs _ _ fun s' σ' a' w' hs' hh => hh.go hl' a' w' hs' Q hQ
theorem Zt.put {a : Act} {w : World} (h : Zt P N B w00 s σ a w) {d : Option Nat} (hd : ∀ x, d = some x → x < N) {p : PV} {v : Value} (hv : ∀ (g : Gh) (w : World), Rep g w p v) : Zt P N B w00 (s.put d p) σ (a.put d v) w := by
  obtain ⟨⟨io, w0, g, hr, hC⟩, hM⟩ := h
  exact ⟨⟨io, w0, g, hr.put hd (hv g w), hC⟩, hM⟩
theorem Zt.rebase {a : Act} {w w' : World} {σ' : Fgn} (h : Zt P N B w00 s σ a w) (hf : Fr σ'.bk w w') (h1 : ∀ i, i < w.heap.size → σ'.bk i → σ.bk i) (h2 : ∀ i, σ.bk i → σ'.bk i) (h3 : ∀ b, σ'.bk b → b < w'.heap.size) (hM : σ'.at_ w') : Zt P N B w00 s σ' a w' := by
  obtain ⟨⟨io, w0, g, hr, hC⟩, _⟩ := h
  obtain ⟨io', k1, k2⟩ := hr.rebaseZ hC hf h1 h2 h3
  exact ⟨⟨io', w', g, k1, k2⟩, hM⟩
theorem Zt.drop {a : Act} {w : World} (h : Zt P N B w00 s σ a w) (h1 : ∀ i, σ.bk i → B ≤ i) : Zt P N B w00 s Fgn.no a w := by
  obtain ⟨⟨io, w0, g, hr, hC⟩, _⟩ := h
  exact ⟨⟨io, w0, g, hr, ⟨fun i _ q => q, hC.lo, hC.lt, fun b q => False.elim q, hC.sz, ⟨hC.fr.os, hC.fr.tape, hC.fr.output, hC.fr.size, fun i hi hn => hC.fr.block i hi fun q => hn (.inr (q.elim (h1 i) id))⟩, fun t ht => ⟨(hC.tk t ht).1, fun q => q⟩⟩⟩, trivial⟩
theorem HZ.drop (h1 : ∀ i, σ.bk i → B ≤ i) (h : HZ P N B w00 c K s Fgn.no) : HZ P N B w00 c K s σ := HZ.mk fun a w hs Q hQ => h.go a w (hs.drop h1) Q hQ
theorem HZ.cut {Lf : List (Nat × PV)} {O : List (Nat × Nat × Nat × List PV)} {x : Nat} (h1 : agree s.tm Lf) (h2 : agreeO s.ob O) (h3 : s.nx = x) (h : HZ P N B w00 c K ⟨lk Lf, lo O, x⟩ σ) : HZ P N B w00 c K s σ :=
  HZ.forget (s' := mkS Lf O x) (forget_mk (agree_all h1) (agreeO_all h2) h3) h
theorem HZ.loopA {α : Type} (Lf : α → List (Nat × PV)) (O : α → List (Nat × Nat × Nat × List PV)) (XX : α → Nat) (I : α → Fgn → Prop) (μ : α → Nat) (i : α) (hi : I i σ) (h1 : agree s.tm (Lf i)) (h2 : agreeO s.ob (O i)) (h3 : s.nx = XX i)
    (h : ∀ i σ, I i σ → HZ P N B w00 c (fun x s' σ' => match x with | .normal => ∃ j, I j σ' ∧ μ j < μ i ∧ agree s'.tm (Lf j) ∧ agreeO s'.ob (O j) ∧ s'.nx = XX j | .exit id => K (.exit id) s' σ' | .ret => K .ret s' σ') ⟨lk (Lf i), lo (O i), XX i⟩ σ) : HZ P N B w00 (.loop c) K s σ := by
  refine HZ.loop (fun i => mkS (Lf i) (O i) (XX i)) I μ i hi (forget_mk (agree_all h1) (agreeO_all h2) h3) fun i σ hi => ⟨fun a w hs Q hQ => (h i σ hi).go a w hs Q fun x s' σ' a' w' hs' hk => hQ x s' σ' a' w' hs' ?_⟩
  cases x with
  | normal =>
    obtain ⟨j, k1, k2, k3, k4, k5⟩ := hk
    exact ⟨j, k1, k2, forget_mk (agree_all k3) (agreeO_all k4) k5⟩
  | exit id => exact hk
  | ret => exact hk
theorem HZ.start {ps : List PV} (h : HZ P N B w00 c K ⟨(initS ps).tm, fun _ => none, 0⟩ σ) : HZ P N B w00 c K (initS ps) σ := h
end
end Go.Proofs.YtpggpdbipajchaaDoor
namespace Go.Proofs.YtpggpdbipajchaaDoor
open Go.RowKit
set_option linter.all false
section
variable {P : Program} {N B : Nat} {w00 : World} {c : Code}
theorem initRelZ {fn : Func} {ps : List PV} {args : Array Value} {w : World} {Jm : Nat → Prop} (hJ : ∀ b, Jm b → b < w.heap.size) (hT : TabF w (fun _ => False)) (hargs : RepL (argG Jm) w ps args.toList) (hle : ps.length ≤ fn.ntmps) :
    Rel ⟨fun _ => False, Jm, 0, fun _ => 0, fun _ => 0, fun _ => False, fun _ => False⟩ w fn.ntmps (argG Jm) (initS ps) { tmps := args ++ Array.replicate (fn.ntmps - args.size) undef, defers := [] } w := by
  have hsz : args.size = ps.length := by simpa using hargs.get.1
  refine ⟨by simp; omega, rfl, fun t => ?_, fun o c ho => (by cases ho), fun o o' ho => (by cases ho), rfl, fun k b hi => hJ b hi.2, fun b hi => (by cases hi.1), Fr.refl _ _, fun b hi => hi.2, ⟨fun o ho => (Nat.not_lt_zero o ho).elim, fun o ho => (Nat.not_lt_zero o ho).elim⟩, fun o ho => False.elim ho, hT⟩
  simp only [initS]
  cases hp : ps[t]? with
  | none =>
    have hge : ps.length ≤ t := by simpa using hp
    have : (args ++ Array.replicate (fn.ntmps - args.size) undef).getD t undef = undef := by
      simp only [Array.getD_eq_getD_getElem?]
      rw [Array.getElem?_append_right (by omega)]
      simp only [Array.getElem?_replicate]
      split <;> rfl
    rw [this]
    simp [Rep]
  | some p =>
    obtain ⟨v, hv, hrep⟩ := hargs.get.2 t p hp
    have hlt : t < args.size := by have := (List.getElem?_eq_some_iff.1 hp).1; omega
    have : (args ++ Array.replicate (fn.ntmps - args.size) undef).getD t undef = v := by
      simp only [Array.getD_eq_getD_getElem?]
      rw [Array.getElem?_append_left hlt]
      have : args[t]? = some v := by simpa using hv
      simp [this]
    rw [this]
    exact hrep
theorem tks_ltZ {w : World} {io : Nat → Prop} (hT : TabF w io) : ∀ t ∈ tks, t < w.heap.size := fun t ht => hT.lt t ht
theorem HZ.soundN {f : Nat} {fn : Func} {rs : List ResultVar} {Ψ : FunN} (hf : P.funcs[f]? = some fn) (hb : fn.body = some c) (hN : fn.ntmps = N) (hrs : fn.results.toList = rs)
    (hpure : ∀ ps r cs', Ψ ps = some (r, cs') → ps.mapM (reify false 0 noObs fuel) = some ps ∧ renT id fuel r = some r ∧ cs'.mapM (renCT id fuel) = some cs')
    (h : ∀ ps r cs', Ψ ps = some (r, cs') → ps.length ≤ N ∧ ∀ B w00, HZ P N B w00 c (fun x s' σ' => PostIO P rs 0 r cs' x s' ∧ ∀ i, σ'.bk i → B ≤ i) (initS ps) Fgn.no) : SoundN P f Ψ := by
  intro w J β κ ps cs args r cs' hr hJ hO hT hargs
  subst hN hrs
  replace hr : (if cs = [] then Ψ ps else none) = some (r, cs') := hr
  split at hr
  case isFalse => cases hr
  case isTrue hcs =>
  subst hcs
  obtain ⟨hp1, hp2, hp3⟩ := hpure ps r cs' hr
  obtain ⟨hlen, h⟩ := h ps r cs' hr
  have hJ' : ∀ b, (∃ k, J k b) → b < w.heap.size := fun b ⟨k, hk⟩ => hJ k b hk
  have hT' : TabF w (fun _ => False) := hT.io fun _ _ q => False.elim q
  have hargs' : RepL (argG fun b => ∃ k, J k b) w ps args.toList := by
    refine RepL.conv (g := ghIO J β κ 0) (Rep.seen (fr := false) (n := 0) (g' := argG fun b => ∃ k, J k b) (s := ⟨fun _ => .dead, noObs, 0⟩) (fun o c ho => by cases ho) ⟨fun _ => ⟨fun k b hb => ⟨rfl, k, hb⟩, fun o ho => by cases ho⟩, fun e => by cases e⟩ fuel) hargs hp1
  refine calls_of_wp hf hb (CWp.wp ((h w.heap.size w).go _ _ ⟨⟨_, w, _, initRelZ hJ' hT' hargs' hlen, ⟨fun i hi e => e, fun i hi => ?_, fun i hi => False.elim hi, fun b' e => False.elim e, Nat.le_refl _, Fr.refl _ _, fun t ht => ⟨tks_ltZ hT' t ht, fun e => e⟩⟩⟩, trivial⟩ _ fun x s' σ' a' w' hs' hk => ?_))
  · rcases hi with hi | hi <;> exact False.elim hi
  · obtain ⟨⟨hx, news, hn0, hnd, hres, hobs0⟩, hbb⟩ := hk
    obtain ⟨⟨io, w0, g', hrel, hC⟩, hM'⟩ := hs'
    rw [Option.bind_eq_some_iff] at hres
    obtain ⟨qs, hres, hren⟩ := hres
    simp only [List.range_zero, List.nil_append] at hren hobs0
    have hocs : cs'.length = news.length := (mapM_get hobs0).1
    have hobs : ∀ (i o : Nat), news[i]? = some o → ∃ T sz es es', s'.ob o = some (T, sz, es) ∧ es.mapM (handF news s'.ob fuel) = some es' ∧ cs'[i]? = some (T, sz, es') := fun i o hi => by
      obtain ⟨c1, h1, h2⟩ := (mapM_get hobs0).2 i o hi
      unfold handC at h2
      simp only [Option.bind_eq_some_iff, Option.map_eq_some_iff] at h2
      obtain ⟨⟨T, sz, es⟩, h3, es', h4, rfl⟩ := h2
      exact ⟨T, sz, es, es', h3, h4, h1⟩
    have hget : ∀ i, i < news.length → news[i]? = some (news.getD i 0) := fun i hi => by simp [hi]
    have hsome : ∀ i, i < news.length → (s'.ob (news.getD i 0)).isSome := fun i hi => by
      obtain ⟨T, sz, es, es', h1, _⟩ := hobs i _ (hget i hi)
      rw [h1]; rfl
    have hinjO : ∀ i j, i < news.length → j < news.length → g'.β (news.getD i 0) = g'.β (news.getD j 0) → i = j := fun i j hi hj he => by
      have := hrel.inj _ _ (hsome i hi) (hsome j hj) he
      have e1 := hget i hi
      have e2 := hget j hj
      rw [this] at e1
      have e1 := e1.trans e2.symm
      exact (List.getElem?_inj hi hnd).1 e1
    have hinn : ∀ o1 o2, inn news o1 = some o2 → o2 < news.length ∧ news.getD o2 0 = o1 := fun o1 o2 hi => by
      unfold inn at hi
      split at hi
      · rename_i hm
        cases hi
        have hlt := List.idxOf_lt_length_of_mem hm
        exact ⟨hlt, by simp [List.getD, hlt]⟩
      · cases hi
    have hfrm : Fr (fun b => ∃ o, o < ([] : List CellIO).length ∧ b = β o) w w' := by
      have hf1 : Fr (fun i => w.heap.size ≤ i) w0 w' := ⟨hrel.fr.os, hrel.fr.tape, hrel.fr.output, hrel.fr.size, fun i hi hn => hrel.fr.block i hi fun q => hn (hC.lo i (.inl q))⟩
      refine ⟨hf1.os.trans hC.fr.os, hf1.tape.trans hC.fr.tape, hf1.output.trans hC.fr.output, Nat.le_trans hC.fr.size hf1.size, fun i hi _ => ?_⟩
      refine (hf1.block i (Nat.lt_of_lt_of_le hi hC.fr.size) (by omega)).trans (hC.fr.block i hi fun q => q.elim (fun q => ?_) fun q => by omega)
      have := hbb i q
      omega
    have hend : a'.defers = [] ∧ ∃ v, (results fn a'.tmps).run P w' = .ok v w' ∧ (∃ v' β' κ' M, Ending.returned v = .returned v' ∧ Fr (fun b => ∃ o, o < ([] : List CellIO).length ∧ b = β o) w w' ∧ ([] : List CellIO).length ≤ cs'.length ∧
        (∀ o, o < ([] : List CellIO).length → β' o = β o ∧ κ' o = κ o) ∧ (∀ o, ([] : List CellIO).length ≤ o → o < cs'.length → w.heap.size ≤ β' o) ∧ (∀ b, M b → w.heap.size ≤ b ∧ b < w'.heap.size) ∧
        ObjsIO (addN J M) w' β' κ' cs' ∧ Rep (ghIO (addN J M) β' κ' cs'.length) w' r v') := by
      obtain ⟨v, h1, h2⟩ := results_ok hrel hres
      let M : Nat → Prop := fun b => w.heap.size ≤ b ∧ b < w'.heap.size ∧ ∀ i, i < news.length → b ≠ g'.β (news.getD i 0)
      let G1 : Gh := ghIO (fun kk b => kk = false ∨ M b) (fun i => g'.β (news.getD i 0)) (fun i => g'.κ (news.getD i 0)) cs'.length
      let G : Gh := ghIO (addN J M) (fun i => g'.β (news.getD i 0)) (fun i => g'.κ (news.getD i 0)) cs'.length
      have hnewb : ∀ b, g'.I true b → w.heap.size ≤ b := fun b hb => by
        rcases hrel.new b hb with ⟨q, _⟩ | q
        · exact Nat.le_trans hC.sz q
        · exact hC.lo b (.inr q)
      have hI : ∀ k b, g'.I k b → G1.I k b := fun k b hi => by
        cases k with
        | false => exact .inl rfl
        | true =>
          refine .inr ⟨hnewb b hi, hrel.lt true b hi, fun i hil he => ?_⟩
          obtain ⟨T, sz, es, es', k1, _⟩ := hobs i _ (hget i hil)
          exact (hrel.ob _ _ k1).2.2.1 true (he ▸ hi)
      have hom : ∀ o o', inn news o = some o' → G1.β o' = g'.β o ∧ G1.κ o' = g'.κ o ∧ G1.D o' := fun o o' ho => by
        obtain ⟨k1, k2⟩ := hinn o o' ho
        exact ⟨by simp only [G1, ghIO, k2], by simp only [G1, ghIO, k2], ⟨by simp only [G1, ghIO]; omega, fun q => q⟩⟩
      have hfz : ∀ o, (s'.ob o).isSome → inn news o = none → G1.I true (g'.β o) := fun o ho hn => by
        obtain ⟨c, hc⟩ := Option.isSome_iff_exists.1 ho
        have hno : o ∉ news := fun hm => by simp [inn, hm] at hn
        obtain ⟨q1, q2, q3⟩ := hC.apartO hrel hc
        refine .inr ⟨q3, q1, fun i hi he => hno ?_⟩
        rw [hrel.inj o _ (by rw [hc]; rfl) (hsome i hi) he]
        exact List.mem_of_getElem? (hget i hi)
      have hobA : ∀ o c, s'.ob o = some c → ObjAt g' w' o c := fun o c ho => (hrel.ob o c ho).2.2.2
      have hI2 : ∀ b, G1.I true b → G.I true b := fun b hb => by
        rcases hb with hb | hb
        · cases hb
        · exact .inr ⟨rfl, hb⟩
      refine ⟨hrel.df, v, h1, v, fun i => g'.β (news.getD i 0), fun i => g'.κ (news.getD i 0), M, rfl, hfrm, Nat.zero_le _, fun o ho => (Nat.not_lt_zero o ho).elim, fun o h3 h4 => ?_, fun b hb => ⟨hb.1, hb.2.1⟩, ⟨fun o ho => ?_, fun o o' ho ho' he => hinjO o o' (by omega) (by omega) he, fun o c hc => ?_⟩,
        Rep.renT (g := G1) (g' := G) hI2 (fun o ho => ⟨rfl, rfl, ho⟩) fuel _ _ _ (Rep.hand (g := g') (g' := G1) hI hom hobA hfz fuel _ _ _ h2 hren) hp2⟩
      · obtain ⟨T, sz, es, es', k1, _⟩ := hobs o _ (hget o (by omega))
        exact (hC.apartO hrel k1).2.2
      · obtain ⟨T, sz, es, es', k1, _⟩ := hobs o _ (hget o (by omega))
        obtain ⟨_, _, k3, ⟨arr, k4, _⟩, _⟩ := hrel.ob _ _ k1
        refine ⟨lt_of_heap k4, fun k hj => ?_⟩
        rcases hj with hj | ⟨_, hj⟩
        · have := (hC.apartO hrel k1).2.2
          have := hJ _ _ hj
          omega
        · exact hj.2.2 o (by omega) rfl
      · have ho : o < cs'.length := (List.getElem?_eq_some_iff.1 hc).1
        obtain ⟨T, sz, es, es', k1, k2, k3⟩ := hobs o _ (hget o (by omega))
        rw [k3] at hc
        cases hc
        obtain ⟨_, _, _, ⟨arr, m1, m2⟩, m3, m4⟩ := hrel.ob _ _ k1
        have hl := (mapM_get k2).1
        have hes : es'.mapM (renT id fuel) = some es' := by
          obtain ⟨c2, e1, e2⟩ := (mapM_get hp3).2 o _ k3
          unfold renCT at e2
          simp only [Option.map_eq_some_iff] at e2
          obtain ⟨es2, e3, rfl⟩ := e2
          rw [k3] at e1
          cases e1
          exact e3
        exact ⟨⟨arr, m1, m2⟩, by rw [hl]; exact m3, RepEs.conv (g := G1) (g' := G) (Rep.renT (g := G1) (g' := G) hI2 (fun o ho => ⟨rfl, rfl, ho⟩) fuel) (RepEs.conv (g := g') (g' := G1) (Rep.hand (g := g') (g' := G1) hI hom hobA hfz fuel) m4 k2) hes⟩
    rcases hx with rfl | rfl <;> exact hend
end
end Go.Proofs.YtpggpdbipajchaaDoor
namespace Go.Proofs.YtpggpdbipajchaaDoor
open Go.RowKit
set_option linter.all false
section
variable {P : Program} {N B : Nat} {w00 : World}
variable {ops : Array Oper} {J : AS → Fgn → Prop} {s : AS} {σ : Fgn}
theorem ZO.callF {o : Oper} {j : Nat} {l : List Oper} {f : Nat} {c : Call} (ho : o.op = .call c) (hc : c.callee = .value (.func f)) (hf : Fnd P f) (hg : o.guard = none) (hd : ∀ x, o.dst = some x → x < N) (R : Value → Fgn → Prop)
    (hcall : ∀ a w, Zt P N B w00 s σ a w → Calls P f (c.args.map a.eval) w fun e w' => ∃ v σ', e = .returned v ∧ R v σ' ∧ Fr σ'.bk w w' ∧ (∀ i, i < w.heap.size → σ'.bk i → σ.bk i) ∧ (∀ i, σ.bk i → σ'.bk i) ∧ (∀ b, σ'.bk b → b < w'.heap.size) ∧ σ'.at_ w')
    (h : ∀ v σ', R v σ' → ZO P N B w00 ops (j + 1) l J (s.put o.dst (.val v)) σ') : ZO P N B w00 ops j (o :: l) J s σ := by
  refine ZO.one hg fun a w hst Kn Q hK => ?_
  obtain ⟨fn, hfn, hname, hbody⟩ := hf
  have hrun : (execOp a.eval o).run P w = .ok (.enter f (c.args.map a.eval)) w := by
    unfold execOp
    simp only [ho, resolve, hc, Act.eval, Deferred.ofValue, Sem.run_bind, Sem.run_pure, Result.andThen_ok, invoke, callFunc, run_program, hfn]
    simp [hname, hbody]
  unfold Oper.wp
  rw [hrun, Oper.upon_enter]
  refine (hcall a w hst).mono ?_
  rintro e w' ⟨v, σ', rfl, hR, h1, h2, h3, h4, h5⟩
  exact hK _ _ _ _ ((hst.rebase h1 h2 h3 h4 h5).put hd fun g w => by simp [Rep]) (h v σ' hR)
end
end Go.Proofs.YtpggpdbipajchaaDoor
