/- What the proof rests on, part 19: contracts of functions. No condition beyond what each states. -/
import Derived.Test.YtngcedklbinhjaaGreatDoorZPw18
namespace Go.Proofs.YtngcedklbinhjaaGreatDoor
open Go.RowKit
set_option linter.all false
abbrev gapI : It := (2, 4, 3, 1, 0, 0, false)
abbrev hypI : It := (3, 3, 0, 0, 0, 50, true)
abbrev endI : List It := [(3, 0, 0, 0, 0, 10000, false), (2, 0, 1, 0, 1, 0, false), (3, 0, 0, 0, 0, -10000, false)]
def itT (x : It) (tx : LS) (i : Nat) : List UInt8 := if x.kd = 1 then (tx[i]?.getD .empty).data.toList else if x.kd = 2 ∧ 0 < x.wd then [32] else []
def stL : List It → LS → Nat → List UInt8
  | [], _, _ => []
  | x :: l, tx, i => itT x tx i ++ stL l tx (if x.kd = 1 then i + 1 else i)
theorem nb_cons (x : It) (l : List It) : nb (x :: l) = (if x.kd = 1 then 1 else 0) + nb l := by
  unfold nb
  by_cases h : x.kd = 1
  · rw [if_pos h, List.filter_cons_of_pos (by simpa using h), List.length_cons]; omega
  · rw [if_neg h, List.filter_cons_of_neg (by simpa using h)]; omega
theorem stL_app : ∀ (l l' : List It) (tx : LS) (i : Nat), stL (l ++ l') tx i = stL l tx i ++ stL l' tx (i + nb l)
  | [], l', tx, i => rfl
  | x :: l, l', tx, i => by
    rw [List.cons_append, stL, stL, stL_app l l', List.append_assoc, nb_cons]
    split <;> (congr 3; omega)
theorem stL_congr : ∀ (l : List It) (tx tx' : LS) (i i' : Nat), (∀ j, j < nb l → tx[i + j]?.getD .empty = tx'[i' + j]?.getD .empty) → stL l tx i = stL l tx' i'
  | [], _, _, _, _, _ => rfl
  | x :: l, tx, tx', i, i', h => by
    rw [nb_cons] at h
    rw [stL, stL]
    by_cases hk : x.kd = 1
    · rw [if_pos hk] at h
      rw [if_pos hk, if_pos hk]
      have h0 := h 0 (by omega)
      simp only [Nat.add_zero] at h0
      congr 1
      · unfold itT
        rw [if_pos hk, if_pos hk, h0]
      · refine stL_congr l tx tx' (i + 1) (i' + 1) fun j hj => ?_
        have := h (j + 1) (by omega)
        rw [show i + 1 + j = i + (j + 1) by omega, show i' + 1 + j = i' + (j + 1) by omega]
        exact this
    · rw [if_neg hk] at h
      rw [if_neg hk, if_neg hk]
      congr 1
      · unfold itT
        rw [if_neg hk, if_neg hk]
      · exact stL_congr l tx tx' i i' fun j hj => h j (by omega)
def stI (l : List It) (tx : LS) (n : Nat) : List UInt8 := stL (l.take n) tx 0
theorem stI_succ {l : List It} {tx : LS} {n : Nat} (h : n < l.length) : stI l tx (n + 1) = stI l tx n ++ itT (gI l n) tx (nbX l n) := by
  unfold stI
  rw [List.take_succ_eq_append_getElem h, stL_app]
  have e : gI l n = l[n] := by unfold gI; rw [List.getElem?_eq_getElem h, Option.getD_some]
  rw [e, stL, stL, List.append_nil, Nat.zero_add]
  rfl
theorem stI_line {l : List It} {tx : LS} {a : Nat} (hk : (gI l a).kd = 1) (htx : ∀ k, k < nb l → 1 ≤ (tx[k]?.getD .empty).size) : ∀ j, a + j ≤ l.length → stI l tx (a + j) = stI l tx a ++ (lnT l tx a j).data.toList ∧ (0 < j → 1 ≤ (lnT l tx a j).size)
  | 0, _ => ⟨by simp [lnT], fun h => by omega⟩
  | j + 1, h => by
    obtain ⟨h1, h2⟩ := stI_line hk htx j (by omega)
    rw [← Nat.add_assoc, stI_succ (by omega), h1, lnT, List.append_assoc]
    have hsz : ∀ (s t : ByteArray), (s ++ t).data.toList = s.data.toList ++ t.data.toList := fun s t => by rw [ByteArray.data_append, Array.toList_append]
    by_cases k1 : (gI l (a + j)).kd = 1
    · rw [ln_box k1, hsz]
      unfold itT
      rw [if_pos k1]
      refine ⟨rfl, fun _ => ?_⟩
      have := htx _ (nbX_lt (by omega) k1)
      rw [ByteArray.size_append]
      omega
    · have hj : 0 < j := by
        rcases Nat.eq_zero_or_pos j with h0 | h0
        · subst h0; exact absurd hk k1
        · exact h0
      have hs := h2 hj
      unfold itT
      rw [if_neg k1]
      by_cases k2 : (gI l (a + j)).kd = 2 ∧ 0 < (gI l (a + j)).wd
      · rw [if_pos k2, ln_gap ⟨k2.1, k2.2, ne_empty hs⟩, hsz]
        refine ⟨rfl, fun _ => ?_⟩
        rw [ByteArray.size_append]
        omega
      · rw [if_neg k2, ln_no k1 (fun q => k2 ⟨q.1, q.2.1⟩), List.append_nil]
        exact ⟨rfl, fun _ => hs⟩
def GoodI : List It → Prop
  | [] => True
  | x :: l => (x.kd = 1 ∨ ((x = gapI ∨ x = hypI) ∧ ∃ y l', l = y :: l' ∧ y.kd = 1)) ∧ GoodI l
theorem GoodI.app : ∀ {l l' : List It}, GoodI l → GoodI l' → GoodI (l ++ l')
  | [], _, _, h => h
  | x :: l, l', h, h' => by
    refine ⟨?_, GoodI.app h.2 h'⟩
    rcases h.1 with h1 | ⟨h1, y, l2, h2, h3⟩
    · exact .inl h1
    · exact .inr ⟨h1, y, l2 ++ l', by rw [h2]; rfl, h3⟩
theorem GoodI.at_ : ∀ {l : List It} {n : Nat}, GoodI l → n < l.length → (gI l n).kd = 1 ∨ ((gI l n = gapI ∨ gI l n = hypI) ∧ n + 1 < l.length ∧ (gI l (n + 1)).kd = 1)
  | x :: l, 0, h, _ => by
    rcases h.1 with h1 | ⟨h1, y, l2, h2, h3⟩
    · exact .inl h1
    · subst h2
      exact .inr ⟨h1, by simp, h3⟩
  | x :: l, n + 1, h, hn => by
    have := GoodI.at_ (l := l) (n := n) h.2 (by simpa using hn)
    rcases this with h1 | ⟨h1, h2, h3⟩
    · exact .inl h1
    · exact .inr ⟨h1, by simpa using h2, h3⟩
  | [], n, _, h => by simp at h
def boxF (l : List It) : Prop := ∃ y l', l = y :: l' ∧ y.kd = 1
theorem wiK_good (ps : LS) : ∀ k, GoodI (wiK ps k) ∧ (0 < k → boxF (wiK ps k))
  | 0 => ⟨trivial, fun h => by omega⟩
  | k + 1 => by
    obtain ⟨h1, h2⟩ := wiK_good ps k
    rw [wiK]
    have hb : GoodI [((1 : Int), wordW (ps[k]?.getD .empty), (0 : Int), (0 : Int), (0 : Int), (0 : Int), false)] := ⟨.inl rfl, trivial⟩
    by_cases hk : k = 0
    · subst hk
      exact ⟨⟨.inl rfl, trivial⟩, fun _ => ⟨_, _, rfl, rfl⟩⟩
    · rw [if_neg hk]
      obtain ⟨y, l', hy1, hy2⟩ := h2 (by omega)
      refine ⟨?_, fun _ => ?_⟩
      · rw [List.append_assoc]
        exact GoodI.app h1 ⟨.inr ⟨.inr rfl, _, _, rfl, rfl⟩, hb⟩
      · rw [hy1]
        exact ⟨y, _, rfl, hy2⟩
theorem piK_good {ws pats : LS} (h1 : allWords ws = true) (h2 : allPats pats = true) : ∀ k, k ≤ ws.length → GoodI (piK ws pats k) ∧ (0 < k → boxF (piK ws pats k))
  | 0, _ => ⟨trivial, fun h => by omega⟩
  | k + 1, hk => by
    obtain ⟨g1, g2⟩ := piK_good h1 h2 k (by omega)
    have hp := parts_pos (pats := pats) (words_at h1 (k := k) (by omega)) h2
    obtain ⟨w1, w2⟩ := wiK_good (partsV (ws[k]?.getD .empty) pats) (partsV (ws[k]?.getD .empty) pats).length
    have w2 := w2 hp
    rw [piK]
    by_cases h0 : k = 0
    · subst h0
      exact ⟨w1, fun _ => w2⟩
    · rw [if_neg h0]
      obtain ⟨y, l', hy1, hy2⟩ := g2 (by omega)
      refine ⟨?_, fun _ => ?_⟩
      · rw [List.append_assoc]
        exact GoodI.app g1 ⟨.inr ⟨.inl rfl, w2⟩, w1⟩
      · rw [hy1]
        exact ⟨y, _, rfl, hy2⟩
theorem gI_left {l l' : List It} {n : Nat} (h : n < l.length) : gI (l ++ l') n = gI l n := by
  unfold gI
  rw [List.getElem?_append_left h]
theorem gI_right {l l' : List It} {n : Nat} : gI (l ++ l') (l.length + n) = gI l' n := by
  unfold gI
  rw [List.getElem?_append_right (by omega), Nat.add_sub_cancel_left]
theorem brk_cases {P : List It} (hg : GoodI P) {n : Nat} (hn : n < (P ++ endI).length) (hb : brkQ (P ++ endI) n = true) : n + 1 = (P ++ endI).length ∨ ((gI (P ++ endI) n = gapI ∨ gI (P ++ endI) n = hypI) ∧ n + 1 < (P ++ endI).length ∧ (gI (P ++ endI) (n + 1)).kd = 1) := by
  have hlen : (P ++ endI).length = P.length + 3 := by simp
  rw [hlen] at hn ⊢
  by_cases h : n < P.length
  · have h1 := hg.at_ h
    rw [gI_left h]
    rcases h1 with h1 | ⟨h1, h2, h3⟩
    · unfold brkQ at hb
      rw [gI_left h, if_neg (by omega), decide_eq_true_eq] at hb
      omega
    · rw [gI_left h2]
      exact .inr ⟨h1, by omega, h3⟩
  · obtain ⟨i, rfl⟩ : ∃ i, n = P.length + i := ⟨n - P.length, by omega⟩
    have h3 : i < 3 := by omega
    match i, h3 with
    | 0, _ =>
      unfold brkQ at hb
      rw [gI_right, if_neg (show ¬ (gI endI 0).kd = 2 by decide), decide_eq_true_eq] at hb
      exact absurd hb.2 (by decide)
    | 1, _ =>
      unfold brkQ at hb
      rw [gI_right, if_pos (show (gI endI 1).kd = 2 from rfl), decide_eq_true_eq, show P.length + 1 - 1 = P.length + 0 by omega, gI_right] at hb
      exact absurd hb.2 (by decide)
    | 2, _ => exact .inl (by omega)
theorem catB_snoc (ps : LS) (s : ByteArray) : catB (ps ++ [s]) = catB ps ++ s.data.toList := by simp [catB]
theorem stL_wi (ps : LS) : ∀ k, k ≤ ps.length → stL (wiK ps k) ps 0 = catB (ps.take k)
  | 0, _ => rfl
  | k + 1, h => by
    have ih := stL_wi ps k (by omega)
    have hb : ∀ i, i = k → stL [((1 : Int), wordW (ps[k]?.getD .empty), (0 : Int), (0 : Int), (0 : Int), (0 : Int), false)] ps i = (ps[k]?.getD .empty).data.toList := fun i e => by
      subst e
      rw [stL, stL, List.append_nil]
      exact if_pos rfl
    have ht : catB (ps.take (k + 1)) = catB (ps.take k) ++ (ps[k]?.getD .empty).data.toList := by
      rw [List.take_succ_eq_append_getElem (by omega), catB_snoc, List.getElem?_eq_getElem (by omega), Option.getD_some]
    rw [wiK, stL_app, ht]
    by_cases h0 : k = 0
    · rw [if_pos h0, ih, hb _ (by rw [nb_wi]; omega)]
    · rw [if_neg h0, stL_app, ih, hb _ (by rw [nb_app, nb_wi, show nb [((3 : Int), (3 : Int), (0 : Int), (0 : Int), (0 : Int), (50 : Int), true)] = 0 from by decide]; omega)]
      have : stL [hypI] ps (0 + nb (wiK ps k)) = [] := rfl
      rw [this, List.append_nil]
theorem parts_cat {w : ByteArray} {pats : LS} (h1 : wordB w = true) (h2 : allPats pats = true) : catB (partsV w pats) = w.data.toList := by
  unfold partsV
  rw [if_pos (hypB_iff.2 ⟨h1, h2⟩)]
  exact ptR_cat (places_ok (pats := pats) h1) (wordB_letters h1).2.1
theorem keep_word {s : ByteArray} (h : wordB s = true) : s.data.toList ≠ [] ∧ ∀ b ∈ s.data.toList, ¬ b = 32 := by
  have hs := (wordB_letters h).2.1
  refine ⟨fun e => ?_, fun b hb e => ?_⟩
  · have : s.data.toList.length = s.size := Array.length_toList
    rw [e] at this
    simp at this
    omega
  · obtain ⟨i, hi, rfl⟩ := List.getElem_of_mem hb
    have hi2 : i < s.size := by simpa using hi
    unfold wordB at h
    rw [Bool.and_eq_true, List.all_eq_true] at h
    have h1 := inB_iff.1 (h.1 i (List.mem_range.2 hi2))
    have h2 : at8 s i = (s.data.toList[i].toNat : Int) := by
      unfold at8
      rw [getElem?_pos s i hi2]
      rfl
    rw [h2, e] at h1
    exact absurd h1.1 (by decide)
theorem keep_app : ∀ (w r acc : List UInt8), (∀ b ∈ w, ¬ b = 32) → wordsM (w ++ r) acc = wordsM r (acc ++ w)
  | [], r, acc, _ => by simp
  | b :: w, r, acc, h => by
    rw [List.cons_append, wordsM, if_neg (h b (by simp)), keep_app w r (acc ++ [b]) (fun c hc => h c (by simp [hc]))]
    simp
theorem keep_cut {w r : List UInt8} (h : ∀ b ∈ w, ¬ b = 32) (h0 : w ≠ []) : wordsM (w ++ 32 :: r) [] = w :: wordsM r [] := by
  rw [keep_app w _ _ h, List.nil_append, wordsM, if_pos rfl]
  cases w with
  | nil => exact absurd rfl h0
  | cons b w => rfl
def jnB (ws : LS) : Nat → List UInt8
  | 0 => []
  | k + 1 => (if k = 0 then [] else jnB ws k ++ [32]) ++ (ws[k]?.getD .empty).data.toList
theorem stL_pi {ws pats : LS} (h1 : allWords ws = true) (h2 : allPats pats = true) : ∀ k, k ≤ ws.length → stL (piK ws pats k) (txK ws pats k) 0 = jnB ws k
  | 0, _ => rfl
  | k + 1, hk => by
    have ih := stL_pi h1 h2 k (by omega)
    have hnb := nb_pi ws pats k
    have hfst : stL (piK ws pats k) (txK ws pats (k + 1)) 0 = jnB ws k := by
      rw [← ih]
      refine stL_congr _ _ _ _ _ fun j hj => ?_
      rw [txK, Nat.zero_add, List.getElem?_append_left (by omega)]
    have hlst : ∀ i, i = nb (piK ws pats k) → stL (wiR (ws[k]?.getD .empty) pats) (txK ws pats (k + 1)) i = (ws[k]?.getD .empty).data.toList := fun i e => by
      rw [← parts_cat (words_at h1 (k := k) (by omega)) h2]
      have := stL_wi (partsV (ws[k]?.getD .empty) pats) _ (Nat.le_refl _)
      rw [List.take_length] at this
      rw [← this]
      refine stL_congr _ _ _ _ _ fun j hj => ?_
      rw [txK, e, hnb, List.getElem?_append_right (by omega), Nat.add_sub_cancel_left, Nat.zero_add]
    rw [piK, jnB, stL_app]
    by_cases h0 : k = 0
    · rw [if_pos h0, if_pos h0, hfst, hlst _ (by rw [Nat.zero_add])]
      subst h0
      rfl
    · rw [if_neg h0, if_neg h0, stL_app, hfst, hlst _ (by rw [nb_app, Nat.zero_add, show nb [((2 : Int), (4 : Int), (3 : Int), (1 : Int), (0 : Int), (0 : Int), false)] = 0 from by decide, Nat.add_zero])]
      rfl
theorem stR_all {ws pats : LS} (h1 : allWords ws = true) (h2 : allPats pats = true) : stI (piR ws pats) (txR ws pats) (piR ws pats).length = jnB ws ws.length := by
  unfold stI
  rw [List.take_length]
  unfold piR txR
  rw [stL_app, stL_pi h1 h2 _ (Nat.le_refl _)]
  exact List.append_nil _
theorem jnB_words {ws : LS} (h : allWords ws = true) : ∀ k, k < ws.length → ∀ r, wordsM (jnB ws (k + 1) ++ 32 :: r) [] = (ws.take (k + 1)).map (·.data.toList) ++ wordsM r []
  | 0, hk, r => by
    have hw := words_at h hk
    rw [jnB, if_pos rfl, List.nil_append, keep_cut (keep_word hw).2 (keep_word hw).1, List.take_succ_eq_append_getElem hk, List.getElem?_eq_getElem hk, Option.getD_some]
    rfl
  | k + 1, hk, r => by
    have hw := words_at h hk
    rw [jnB, if_neg (by omega), List.append_assoc, List.append_assoc, List.singleton_append, jnB_words h k (by omega), keep_cut (keep_word hw).2 (keep_word hw).1, List.take_succ_eq_append_getElem hk, List.map_append, List.append_assoc, List.getElem?_eq_getElem hk, Option.getD_some]
    rfl
theorem linesB_app : ∀ (a b : List (List UInt8)), linesB (a ++ b) = linesB a ++ linesB b
  | [], b => rfl
  | s :: a, b => by rw [List.cons_append, linesB, linesB, linesB_app a b, List.append_assoc]
theorem lineB_hy (t : List UInt8) : lineB (t ++ [45]) = t := by
  unfold lineB
  rw [suf_last, if_pos (by decide)]
  simp
theorem lineB_no {t : List UInt8} (h : ∀ b ∈ t, ¬ b = 45) : lineB t = t ++ [32] := by
  rcases List.eq_nil_or_concat t with h0 | ⟨t', z, h0⟩
  · subst h0; rfl
  · rw [List.concat_eq_append] at h0
    subst h0
    unfold lineB
    rw [suf_last, if_neg]
    have := h z (by simp)
    simpa using this
theorem lines_st {P : List It} {tx : LS} {br : List Int} (hg : GoodI P) (hf : boxF P) (hb : okBr (P ++ endI) br) (htx : ∀ k, k < nb (P ++ endI) → 1 ≤ (tx[k]?.getD .empty).size) (hno : ∀ k : Nat, noHy (tx[k]?.getD .empty)) : ∀ k, k ≤ br.length →
    (k < br.length → (gI (P ++ endI) (frB br k)).kd = 1 ∧ linesB ((lnsK (P ++ endI) tx br k).map (·.data.toList)) = stI (P ++ endI) tx (frB br k)) ∧
    (frB br k = (P ++ endI).length → linesB ((lnsK (P ++ endI) tx br k).map (·.data.toList)) = stI (P ++ endI) tx (frB br k) ++ [32])
  | 0, _ => by
    obtain ⟨y, l', hy1, hy2⟩ := hf
    refine ⟨fun _ => ⟨?_, rfl⟩, fun h => ?_⟩
    · subst hy1; exact hy2
    · subst hy1
      exact absurd h (by show ¬ 0 = _; simp)
  | k + 1, hk => by
    obtain ⟨ih, -⟩ := lines_st hg hf hb htx hno k (by omega)
    obtain ⟨hk1, ih⟩ := ih (by omega)
    obtain ⟨b1, b2, b3, b4⟩ := hb.at_ (k := k) (by omega)
    have hq := (lineQ_iff.1 (hb.2 k (by omega)).2).2.1
    have hfs := frB_succ br k
    have hnx : k + 1 < br.length → frB br (k + 1) < (P ++ endI).length := fun h => by
      obtain ⟨c1, c2, c3, -⟩ := hb.at_ h
      omega
    have hlk : lnsK (P ++ endI) tx br (k + 1) = lnsK (P ++ endI) tx br k ++ [lnR (P ++ endI) tx (frB br k) (br[k]?.getD 0).toNat] := rfl
    generalize (br[k]?.getD 0).toNat = en at *
    have hcs := brk_cases hg b3 hq
    have hlast : en + 1 = (P ++ endI).length → gI (P ++ endI) en = (3, 0, 0, 0, 0, -10000, false) := fun h => by
      have hlen : (P ++ endI).length = P.length + 3 := by simp
      rw [show en = P.length + 2 by omega, gI_right]
      rfl
    rw [hlk, hfs]
    rw [hfs] at hnx
    generalize frB br k = a at *
    have hst := (stI_line hk1 htx (en - a) (by omega)).1
    rw [show a + (en - a) = en by omega] at hst
    have hnoL : ∀ b ∈ (lnT (P ++ endI) tx a (en - a)).data.toList, ¬ b = 45 := lnT_noHy hno _
    have hsu := stI_succ (tx := tx) b3
    rw [List.map_append, linesB_app, ih, hsu, hst]
    have hone : linesB ([lnR (P ++ endI) tx a en].map (·.data.toList)) = lineB (lnR (P ++ endI) tx a en).data.toList := by
      show lineB _ ++ [] = _
      rw [List.append_nil]
    rw [hone]
    unfold lnR
    rcases hcs with h1 | ⟨h1 | h1, h2, h3⟩
    · refine ⟨fun h => absurd (hnx h) (by omega), fun _ => ?_⟩
      rw [hlast h1, if_neg (by decide), lineB_no hnoL]
      show _ = (_ ++ []) ++ _
      rw [List.append_nil, List.append_assoc]
    · refine ⟨fun _ => ⟨h3, ?_⟩, fun h => absurd h (by omega)⟩
      rw [h1, if_neg (by decide), lineB_no hnoL, ← List.append_assoc]
      rfl
    · refine ⟨fun _ => ⟨h3, ?_⟩, fun h => absurd h (by omega)⟩
      rw [h1, if_pos rfl, ByteArray.data_append, Array.toList_append]
      show _ ++ lineB (_ ++ [45]) = (_ ++ _) ++ []
      rw [lineB_hy, List.append_nil]
theorem bkF_last {l : List It} {wd most : Int} (hl : itemsB l = true) (hm : most ≤ 10000) : ∀ (f a : Nat) (lk : Int), a < l.length → l.length - a < f → (bestA l wd most a lk).isSome = true → ((bkF l wd most f a lk).getLastD 0).toNat + 1 = l.length
  | 0, a, lk, h, hf, _ => by omega
  | f + 1, a, lk, h, hf, hs => by
    obtain ⟨r, hr⟩ := Option.isSome_iff_exists.1 hs
    obtain ⟨x, c0, hx, -⟩ := bestA_next h hr
    obtain ⟨h1, h2⟩ := bestA_bound hl hm (by omega) hr
    obtain ⟨h3, -⟩ := h2 h
    rw [bkF_step (by omega) hr]
    by_cases he : r.2.1 + 1 = l.length
    · rw [he, bkF_end]
      show ((r.2.1 : Int)).toNat + 1 = _
      omega
    · have ih := bkF_last (wd := wd) hl hm f (r.2.1 + 1) r.2.2 (by omega) (by omega) (by rw [hx]; rfl)
      have hp := bkF_pos (wd := wd) (most := most) (lk := r.2.2) (f := f - 1) (a := r.2.1 + 1) (l := l) (by omega) (by rw [hx]; rfl)
      rw [show f - 1 + 1 = f by omega] at hp
      cases hb : bkF l wd most f (r.2.1 + 1) r.2.2 with
      | nil => rw [hb] at hp; simp at hp
      | cons y t =>
        rw [hb] at ih
        exact ih
theorem brk_last {l : List It} {wd most : Int} (h : brkOk l wd most = true) : frB (brkList l wd most) (brkList l wd most).length = l.length := by
  obtain ⟨h1, h2, -, h4, h5⟩ := brkOk_iff.1 h
  have hp : 0 < (brkList l wd most).length := bkF_pos h2 h5
  have hl := bkF_last (wd := wd) h1 h4.2 (l.length + 1) 0 1 h2 (by omega) h5
  unfold frB
  rw [if_neg (by omega)]
  have : (brkList l wd most)[(brkList l wd most).length - 1]?.getD 0 = (brkList l wd most).getLastD 0 := by
    rw [← List.getLast?_eq_getElem?, List.getLastD_eq_getLast?]
  rw [this]
  exact hl
theorem pgl_words_r {ws pats : LS} {wd most : Int} (h : pglB ws pats wd most = true) (r : List UInt8) : wordsM (linesB ((pglV ws pats wd most).map (·.data.toList)) ++ r) [] = ws.map (·.data.toList) ++ wordsM r [] := by
  unfold pglV
  rw [if_pos h]
  unfold pglB at h
  rw [Bool.and_eq_true] at h
  obtain ⟨h1, h2⟩ := h
  have hV : piV ws pats = piR ws pats := if_pos h1
  rw [hV] at h2
  obtain ⟨p1, p2, p3, -⟩ := prgB_iff.1 h1
  obtain ⟨g1, g2⟩ := piK_good p1 p2 ws.length (Nat.le_refl _)
  obtain ⟨hB, -, -, hm, -⟩ := brkOk_iff.1 h2
  have hb := brk_ok (wd := wd) hB hm.2
  have hnb := nb_pr ws pats
  have hls := brk_last h2
  have hL := (lines_st (tx := txR ws pats) g1 (g2 p3) hb (fun k hk => tx_pos (by rw [← hnb]; exact hk)) (tx_noHy ws pats) _ (Nat.le_refl _)).2 hls
  have e : piK ws pats ws.length ++ endI = piR ws pats := rfl
  rw [e] at hL
  rw [hL, hls, stR_all p1 p2, List.append_assoc]
  obtain ⟨n, hn⟩ : ∃ n, ws.length = n + 1 := ⟨ws.length - 1, by omega⟩
  have hj := jnB_words p1 n (by omega) r
  rw [← hn, List.take_length] at hj
  exact hj
theorem back_list (ws : LS) : (ws.map (·.data.toList)).map (fun b => (⟨b.toArray⟩ : ByteArray)) = ws := by
  rw [List.map_map]
  conv => rhs; rw [← List.map_id ws]
  exact List.map_congr_left fun s _ => rfl
theorem pgl_words {ws pats : LS} {wd most : Int} (h : pglB ws pats wd most = true) : (wordsM (linesB ((pglV ws pats wd most).map (·.data.toList))) []).map (fun b => (⟨b.toArray⟩ : ByteArray)) = ws := by
  have := pgl_words_r h []
  rw [List.append_nil] at this
  rw [this, show wordsM [] [] = [] from rfl, List.append_nil, back_list]
end Go.Proofs.YtngcedklbinhjaaGreatDoor
namespace Go.Proofs.YtngcedklbinhjaaGreatDoor
open Go.RowKit
set_option linter.all false
noncomputable def wolR (l : LS) : LS := (wordsM (linesB (l.map (·.data.toList))) []).map fun b => ⟨b.toArray⟩
def okWl (l : LS) : Prop := l.length ≤ 1048576 ∧ sumS l ≤ 1048576
def WolI (l R : LS) (k : Nat) (rest : List UInt8) (out : LS) (word : ByteArray) : Prop :=
  out.map (·.data.toList) ++ wordsM (rest ++ linesB ((l.drop k).map (·.data.toList))) word.data.toList = R.map (·.data.toList)
theorem toL_inj {a b : LS} (h : a.map (·.data.toList) = b.map (·.data.toList)) : a = b := by
  induction a generalizing b with
  | nil => cases b with
    | nil => rfl
    | cons y b => simp at h
  | cons x a ih => cases b with
    | nil => simp at h
    | cons y b =>
      simp only [List.map_cons, List.cons.injEq] at h
      rw [gl_ext h.1, ih h.2]
theorem toL_nil {w : ByteArray} : w.data.toList = [] ↔ w = ⟨#[]⟩ := ⟨fun h => gl_ext h, fun h => by rw [h]⟩
theorem WolI.byte {l R : LS} {k : Nat} {out : LS} {word w2 : ByteArray} {b : UInt8} {r : List UInt8} (h : WolI l R k (b :: r) out word) (hb : ¬ b = 32) (hw : w2.data.toList = word.data.toList ++ [b]) : WolI l R k r out w2 := by
  unfold WolI at h ⊢
  rw [List.cons_append] at h
  unfold wordsM at h
  rw [if_neg hb] at h
  rw [hw]
  exact h
end Go.Proofs.YtngcedklbinhjaaGreatDoor
namespace Go.Proofs
set_option linter.all false
def YtngcedklbinhjaaGreatDoor.laysW_ren : Go.Shelf.Ren := ⟨fun | 166 => 32 | 240 => 65 | 276 => 89 | n => n, fun | 0 => 0 | 3 => 3 | 4 => 4 | 9 => 9 | 20 => 20 | 37 => 22 | 70 => 70 | 72 => 72 | 75 => 76 | 164 => 117 | 31 => 23 | 76 => 77 | 127 => 109 | 5 => 5 | 80 => 80 | n => n, fun | n => n⟩
theorem YtngcedklbinhjaaGreatDoor.laysW : Go.Proofs.Lays.n166 Tryz.prog YtngcedklbinhjaaGreatDoor.laysW_ren := {
  mixed := by kernel_rfl
  f166 := Tryz.func32.trans (congrArg some (by kernel_rfl))
  f240 := Tryz.func65.trans (congrArg some (by kernel_rfl))
  f276 := Tryz.func89.trans (congrArg some (by kernel_rfl))
  t0 := Tryz.underlying0
  a0 := Tryz.isAgg0
  z0 := Tryz.sizeOf0
  v0 := Tryz.zeroValue0
  t3 := Tryz.underlying3
  a3 := Tryz.isAgg3
  z3 := Tryz.sizeOf3
  v3 := Tryz.zeroValue3
  t4 := Tryz.underlying4
  a4 := Tryz.isAgg4
  z4 := Tryz.sizeOf4
  v4 := Tryz.zeroValue4
  t9 := Tryz.underlying9
  a9 := Tryz.isAgg9
  z9 := Tryz.sizeOf9
  v9 := Tryz.zeroValue9
  t20 := Tryz.underlying20
  a20 := Tryz.isAgg20
  z20 := Tryz.sizeOf20
  v20 := Tryz.zeroValue20
  t37 := Tryz.underlying22
  a37 := Tryz.isAgg22
  z37 := Tryz.sizeOf22
  v37 := Tryz.zeroValue22
  t70 := Tryz.underlying70
  a70 := Tryz.isAgg70
  z70 := Tryz.sizeOf70
  v70 := Tryz.zeroValue70
  t72 := Tryz.underlying72
  a72 := Tryz.isAgg72
  z72 := Tryz.sizeOf72
  v72 := Tryz.zeroValue72
  t75 := Tryz.underlying76
  a75 := Tryz.isAgg76
  z75 := Tryz.sizeOf76
  v75 := Tryz.zeroValue76
  t164 := Tryz.underlying117
  a164 := Tryz.isAgg117
  z164 := Tryz.sizeOf117
  v164 := Tryz.zeroValue117 }
theorem YtngcedklbinhjaaGreatDoor.extraW : Builder.Extra Tryz.prog YtngcedklbinhjaaGreatDoor.laysW_ren := {
  sizeBuilder := by kernel_rfl
  liesBuilder := by kernel_rfl
  t5 := Tryz.underlying5
  a5 := Tryz.isAgg5
  z5 := Tryz.sizeOf5
  v5 := Tryz.zeroValue5
  infoByte := by kernel_rfl
  cellsByte := by kernel_rfl
  sizeByte := by kernel_rfl
  neB5 := by decide }
end Go.Proofs
namespace Go.Proofs.YtngcedklbinhjaaGreatDoor
open Go.RowKit
set_option linter.all false
theorem cells_app (a b : List UInt8) : Lib.byteCells (a ++ b) = Lib.byteCells a ++ Lib.byteCells b := by simp [Lib.byteCells]
theorem strCells_eq (s : ByteArray) : Lib.strCells s = Lib.byteCells s.data.toList := Lib.strCells_eq s
def StrAt (w : World) (b off : Nat) (l : LS) : Prop := ∀ (j : Nat) x, l[j]? = some x → w.cell? ⟨b, off + j, none⟩ = some (.string x)
theorem StrAt.below {B : Nat} {w w' : World} {b off : Nat} {l : LS} (h : StrAt w b off l) (hB : b < B) (hb : Below B w w') : StrAt w' b off l := fun j x hj => by
  rw [hb.cell (p := ⟨b, off + j, none⟩) hB]
  exact h j x hj
theorem write_any {B b : Nat} {l : List UInt8} {s : ByteArray} {w : World} (h : Lib.IsBuilder 72 5 B b (Lib.byteCells l) w) (hlen : l.length + s.size ≤ 140737488355328) (hBw : B ≤ w.heap.size) :
    Calls Tryz.prog 32 #[.pointer (some ⟨b, 0, none⟩), .string s] w fun e w' => e = .returned (.tuple #[.int .i64 s.size, .nilIface]) ∧ Lib.IsBuilder 72 5 B b (Lib.byteCells (l ++ s.data.toList)) w' ∧ Below B w w' := by
  refine (Any.Builder_WriteString (ρ := YtngcedklbinhjaaGreatDoor.laysW_ren) YtngcedklbinhjaaGreatDoor.laysW YtngcedklbinhjaaGreatDoor.extraW B b (Lib.byteCells l) s w h (by simpa [Lib.byteCells] using hlen) hBw).mono ?_
  rintro e w' ⟨rfl, h1, h2⟩
  refine ⟨rfl, .inr ?_, h2⟩
  rw [cells_app, ← strCells_eq]
  exact h1
def NumAt (w : World) (b off : Nat) (g : List Int) : Prop := ∀ (j : Nat) x, g[j]? = some x → w.cell? ⟨b, off + j, none⟩ = some (.int .i64 x)
theorem NumAt.below {B : Nat} {w w' : World} {b off : Nat} {l : List Int} (h : NumAt w b off l) (hB : b < B) (hb : Below B w w') : NumAt w' b off l := fun j x hj => by
  rw [hb.cell (p := ⟨b, off + j, none⟩) hB]
  exact h j x hj
end Go.Proofs.YtngcedklbinhjaaGreatDoor
namespace Go.Proofs.YtngcedklbinhjaaGreatDoor
open Go.RowKit
set_option linter.all false
def piecesB (c : UInt8) (s : ByteArray) : List ByteArray := Lib.splitB ⟨#[c]⟩ 0 (Lib.countB s ⟨#[c]⟩) s
theorem one_size (c : UInt8) : (1 : Nat) ≤ (⟨#[c]⟩ : ByteArray).size := by simp [ByteArray.size]
theorem piecesB_len (c : UInt8) (s : ByteArray) : (piecesB c s).length = Lib.countB s ⟨#[c]⟩ + 1 := Lib.splitB_all _ (one_size c) 0 _ s rfl
theorem piecesB_le (c : UInt8) (s : ByteArray) : (piecesB c s).length ≤ s.size + 1 := by
  rw [piecesB_len]
  have := Lib.countB_le ⟨#[c]⟩ (one_size c) s.size s (Nat.le_refl _)
  omega
set_option maxHeartbeats 1000000 in
theorem split_one (c : UInt8) (s : ByteArray) (w : World) (hs : s.size < 4294967281) : Calls Tryz.prog 33 #[.string s, .string ⟨#[c]⟩] w fun e w' =>
    e = .returned (.slice (some ⟨w.heap.size, 0, none⟩) (piecesB c s).length (piecesB c s).length) ∧ w' = w.alloc (.cells ((piecesB c s).map Value.string).toArray 9) := by
  have hle := Lib.countB_le ⟨#[c]⟩ (one_size c) s.size s (Nat.le_refl _)
  have hpl := piecesB_len c s
  have hI : ∀ (x : ByteArray) (cs : Array Value), x.size ≤ s.size → Calls Tryz.prog 92 #[.string x, .string ⟨#[c]⟩] (w.alloc (.cells cs 9)) fun e w' => e = .returned (.int .i64 (Lib.indexB x ⟨#[c]⟩)) ∧ w' = w.alloc (.cells cs 9) := fun x cs _ =>
    (YtngcedklbinhjaaGreatDoor.strings_Index_one x c _).mono fun e w' ⟨he, hw⟩ => ⟨by rw [he]; exact congrArg (fun z => Ending.returned (Value.int .i64 z)) (Lib.index_one x.data.toList c).symm, hw⟩
  have hC : Calls Tryz.prog 91 #[.string s, .string ⟨#[c]⟩] w fun e w' => e = .returned (.int .i64 (Lib.countB s ⟨#[c]⟩)) ∧ w' = w :=
    (YtngcedklbinhjaaGreatDoor.strings_Count_one s c w).mono fun e w' ⟨he, hw⟩ => ⟨by rw [he]; exact congrArg (fun z : Nat => Ending.returned (Value.int .i64 z)) (Lib.count_one c s.data.toList).symm, hw⟩
  have hg := Any.strings_genSplit_core YtngcedklbinhjaaGreatDoor.lays221 (by kernel_rfl) s ⟨#[c]⟩ 0 (-1) (Lib.countB s ⟨#[c]⟩ + 1) w hs (one_size c) (Nat.zero_le _) hI hC (by decide) (by decide) (by rw [if_pos (by decide)]; omega)
  have e1 : Lib.splitB ⟨#[c]⟩ 0 (Lib.countB s ⟨#[c]⟩ + 1 - 1) s = piecesB c s := rfl
  have e2 : Lib.cellsOf (piecesB c s) (Lib.countB s ⟨#[c]⟩ + 1) = ((piecesB c s).map Value.string).toArray := by rw [← hpl]; exact Lib.cellsOf_full _
  rw [e1, e2, ← hpl] at hg
  clear hI hC hle hpl e1 e2
  generalize piecesB c s = ps at *
  go_enter Tryz.func33, Tryz.ntmps33
  go_wp2_with (go_at_call 66; refine hg.mono ?_; rintro e w' ⟨rfl, hw⟩; rw [hw])
  go_ret
  exact ⟨rfl, rfl⟩
end Go.Proofs.YtngcedklbinhjaaGreatDoor
namespace Go.Proofs.YtngcedklbinhjaaGreatDoor
open Go.RowKit
set_option linter.all false
theorem own_objS {J : Bool → Nat → Prop} {w w' : World} {e n : Nat} {v : Value} {l : List ByteArray} (hn : 0 < n) (hl : l.length = n) (hJ : ∀ k b, J k b → b < w.heap.size) (h : w'.ownsRow w.heap.size e 1 v n (l.map Value.string)) :
    ∃ b κ, w.heap.size ≤ b ∧ ObjsIO (addN J fun _ => False) w' (fun _ => b) (fun _ => κ) [(e, 1, l.map fun n => .val (.string n))] ∧ Rep (ghIO (addN J fun _ => False) (fun _ => b) (fun _ => κ) 1) w' (.row 0 1 0 n) v := by
  obtain ⟨h0, h1⟩ := h
  rcases h1 with ⟨rfl, h1⟩ | ⟨b, cap, cur, rfl, h2, h3, h4, h5, h6, h7⟩
  · omega
  · rw [Nat.mul_one] at h6 h7
    refine ⟨b, cur.size, h2, ⟨fun o ho => ⟨lt_of_heap h3, fun k hk => ?_⟩, fun o o' ho ho' _ => by simp at ho ho'; omega, fun o cc hc => ?_⟩, ?_⟩
    · rcases hk with hk | ⟨_, hk⟩
      · have := hJ k _ hk
        omega
      · exact hk
    · have ho : o = 0 := by have := (List.getElem?_eq_some_iff.1 hc).1; simp at this; exact this
      subst ho
      simp only [List.getElem?_cons_zero, Option.some.injEq] at hc
      subst hc
      refine ⟨⟨cur, h3, rfl⟩, by simp [ghIO]; omega, ?_⟩
      refine RepEs.of fun i x hx => ?_
      rw [List.getElem?_map, Option.map_eq_some_iff] at hx
      obtain ⟨y, hy, rfl⟩ := hx
      refine ⟨.string y, by simp [Rep], ⟨by simp [Value.cells, Value.oneCell'], fun j hj => ?_⟩, rfl⟩
      have hj0 : j = 0 := by simp [Value.cells] at hj; exact hj
      subst hj0
      have e1 : cur.toList[i]? = some (.string y) := by
        have hi : i < n := by have := (List.getElem?_eq_some_iff.1 hy).1; omega
        have e2 : (cur.toList.take n)[i]? = some (.string y) := by rw [h7]; simp [hy]
        rw [List.getElem?_take, if_pos hi] at e2
        exact e2
      simp only [World.cell?, ghIO, h3, Nat.zero_add, Nat.mul_one, Nat.add_zero]
      simpa [Value.cells] using e1
    · simp only [Rep, ghIO]
      exact ⟨cap, by simp, h4, by simp only [maxLen] at h5; omega, by omega, ⟨by simp, fun q => q⟩⟩
theorem linesB_snoc : ∀ (a : List (List UInt8)) (x : List UInt8), linesB (a ++ [x]) = linesB a ++ lineB x
  | [], x => by simp [linesB]
  | s :: a, x => by
    show lineB s ++ linesB (a ++ [x]) = lineB s ++ linesB a ++ lineB x
    rw [linesB_snoc a x, List.append_assoc]
theorem linesB_take {l : LS} {k : Nat} (h : k < l.length) : linesB ((l.take (k + 1)).map (·.data.toList)) = linesB ((l.take k).map (·.data.toList)) ++ lineB l[k].data.toList := by
  rw [List.take_succ_eq_append_getElem h, List.map_append, List.map_cons, List.map_nil, linesB_snoc]
theorem lineB_len (s : List UInt8) : (lineB s).length ≤ s.length + 1 := by
  unfold lineB
  split
  · rw [List.length_take]; omega
  · rw [List.length_append]; simp
theorem linesB_len {l : LS} : ∀ k, k ≤ l.length → (linesB ((l.take k).map (·.data.toList))).length ≤ sumS (l.take k) + k
  | 0, _ => by simp [linesB]
  | k + 1, hk => by
    have ih := linesB_len (l := l) k (by omega)
    have h1 := sumS_take (l := l) (k := k) (by omega)
    rw [List.getElem?_eq_getElem (show k < l.length by omega), Option.getD_some] at h1
    have h2 := lineB_len l[k].data.toList
    have h3 : l[k].data.toList.length = l[k].size := Array.length_toList
    rw [linesB_take (by omega), List.length_append]
    omega
theorem ownsRow_base {w : World} {B B' e n : Nat} {v : Value} {xs : List Value} (h : w.ownsRow B e 1 v n xs) (hB : B' ≤ B) : w.ownsRow B' e 1 v n xs := by
  obtain ⟨h0, h1⟩ := h
  refine ⟨h0, h1.imp id ?_⟩
  rintro ⟨g, cap, cur, h2, h3, h4⟩
  exact ⟨g, cap, cur, h2, Nat.le_trans hB h3, h4⟩
theorem one_cell (w : World) (v : Value) (T : TypeId) : ∀ (j : Nat) u, [v][j]? = some u → (w.alloc (.cells #[v] T)).cell? ((⟨w.heap.size, 0, none⟩ : Addr).add j) = some u := by
  intro j u hj
  match j, hj with
  | 0, hj => simp at hj; subst hj; simp [Addr.add]
theorem str_ne_bne {x : ByteArray} (h : ¬ x = ⟨#[]⟩) : x.toList.isEmpty = false := by
  cases hb : x.toList.isEmpty with
  | false => rfl
  | true =>
    rw [Lib.toList_data] at hb
    exact absurd (toL_nil.1 (List.isEmpty_iff.1 hb)) h
set_option maxHeartbeats 4000000 in
set_option maxRecDepth 100000 in
theorem wol_any {w : World} {a : Option Addr} {b off n c : Nat} {l R : LS} (hR : R = wolR l) (hz : l.length = n) (hn : n ≤ 1048576) (ha : 0 < n → a = some ⟨b, off, none⟩ ∧ b < w.heap.size) (hs : StrAt w b off l) (hsum : sumS l ≤ 1048576) :
    Calls Tryz.prog 12 #[.slice a n c] w fun e w' => ∃ v, e = .returned v ∧ Below w.heap.size w w' ∧ w'.ownsRow w.heap.size 9 1 v R.length (R.map Value.string) ∧ (R = [] → v = .slice none 0 0) := by
  have HZ := Lib.hid hz
  have HS := Lib.hid hs
  have HA := Lib.hid ha
  have HR := Lib.hid hR
  clear hz hs ha hR
  go_enter Tryz.func12, Tryz.ntmps12
  go_wp2
  go_loopw [13] (fun i wr => ∃ k : Nat, k ≤ n ∧ i = .int .i64 k ∧ Aside (Lib.IsBuilder 72 5 w.heap.size w.heap.size (Lib.byteCells (linesB ((l.take k).map (·.data.toList)))) wr) ∧ Aside (Below w.heap.size w wr)) (fun i _ => n - (intOf i).toNat)
  case atStart => exact ⟨0, Nat.zero_le _, rfl, (show Lib.IsBuilder _ _ _ _ _ _ from Lib.fresh_isBuilder _ _ _), (show Below _ _ _ from below_alloc (Below.refl _ _))⟩
  case round =>
    obtain ⟨k, hk, rfl, AB, AW⟩ := hrel
    by_cases hlt : k < n
    · obtain ⟨rfl, hb⟩ := HA.out (by omega)
      have hkl : k < l.length := by rw [HZ.out]; exact hlt
      have hc := (HS.out.below hb AW.out) k _ (List.getElem?_eq_getElem hkl)
      have hjl := linesB_len (l := l) k (by rw [HZ.out]; exact hk)
      have hst := sumS_take (l := l) hkl
      have hle := sumS_take_le l (k + 1)
      have hjs := linesB_take hkl
      rw [List.getElem?_eq_getElem hkl, Option.getD_some] at hst
      generalize l[k] = x at *
      have HJ := Lib.hid hjs
      have i1 : (0 : Int) ≤ (k : Int) := by omega
      have i2 : (k : Int) < (n : Int) := by omega
      have hbw : w.heap.size ≤ wr.heap.size := AW.out.size
      cases hy : Lib.hasSuffix x.data.toList [45] with
      | true =>
        have e1 : Lib.trimSuffix x.data.toList [45] = lineB x.data.toList := by
          unfold Lib.trimSuffix lineB
          rw [if_pos hy, if_pos hy]
          rfl
        have hcut : ∀ W, Calls Tryz.prog 31 #[.string x, .string ⟨#[45]⟩] W fun e w' => e = .returned (.tuple #[.string ⟨(lineB x.data.toList).toArray⟩, .bool true]) ∧ w' = W := fun W => by
          have h := YtngcedklbinhjaaGreatDoor.strings_CutSuffix x ⟨#[45]⟩ W (by omega)
          rw [show (⟨#[45]⟩ : ByteArray).data.toList = [45] from rfl, e1, hy] at h
          exact h
        have hx2 := lineB_len x.data.toList
        have hx3 : x.data.toList.length = x.size := Array.length_toList
        have hx4 : (⟨(lineB x.data.toList).toArray⟩ : ByteArray).size = (lineB x.data.toList).length := rfl
        have hwr := fun (W : World) (hW : Lib.IsBuilder 72 5 w.heap.size w.heap.size (Lib.byteCells (linesB ((l.take k).map (·.data.toList)))) W) (hs : w.heap.size ≤ W.heap.size) => write_any (s := ⟨(lineB x.data.toList).toArray⟩) hW (by omega) hs
        have HCUT := Lib.hid hcut
        have HWR := Lib.hid hwr
        clear hcut hwr hjs hst hle hx2 hx3 hx4 hy e1
        go_wp2_with (first
          | (go_at_call 31; refine (HCUT.out _).mono ?_; rintro e w2 ⟨rfl, rfl⟩)
          | (go_at_call 32; refine (HWR.out _ AB.out hbw).mono ?_; rintro e w3 ⟨rfl, hab2, hb2⟩; have AB2 := Lib.hid hab2; have AW2 := Lib.hid (AW.out.trans hb2); clear hab2 hb2))
        go_roundw
        case rel => exact ⟨k + 1, by omega, by go_num, (show Lib.IsBuilder _ _ _ _ _ _ from by rw [HJ.out]; exact AB2.out), (show Below _ _ _ from AW2.out)⟩
        case measure => simp [intOf]; omega
      | false =>
        have hn9 : ¬ Lib.hasSuffix x.data.toList [45] = true := by rw [hy]; decide
        have e1 : (x ++ ⟨#[32]⟩ : ByteArray).data.toList = lineB x.data.toList := by
          unfold lineB
          rw [if_neg hn9, ByteArray.data_append, Array.toList_append]
        have hcut : ∀ W, Calls Tryz.prog 31 #[.string x, .string ⟨#[45]⟩] W fun e w' => e = .returned (.tuple #[.string ⟨(Lib.trimSuffix x.data.toList [45]).toArray⟩, .bool false]) ∧ w' = W := fun W => by
          have h := YtngcedklbinhjaaGreatDoor.strings_CutSuffix x ⟨#[45]⟩ W (by omega)
          rw [show (⟨#[45]⟩ : ByteArray).data.toList = [45] from rfl, hy] at h
          exact h
        have hx4 : (x ++ ⟨#[32]⟩ : ByteArray).size = x.size + 1 := by rw [ByteArray.size_append]; rfl
        have hwr := fun (W : World) (hW : Lib.IsBuilder 72 5 w.heap.size w.heap.size (Lib.byteCells (linesB ((l.take k).map (·.data.toList)))) W) (hs : w.heap.size ≤ W.heap.size) => write_any (s := x ++ ⟨#[32]⟩) hW (by omega) hs
        have E1 := Lib.hid e1
        have HCUT := Lib.hid hcut
        have HWR := Lib.hid hwr
        have hxs : x.size ≤ 1048576 := by omega
        clear hcut hwr hjs hst hle hx4 hy e1 hn9
        go_wp2_with (first
          | (go_at_call 31; refine (HCUT.out _).mono ?_; rintro e w2 ⟨rfl, rfl⟩)
          | (go_at_call 32; refine (HWR.out _ AB.out hbw).mono ?_; rintro e w3 ⟨rfl, hab2, hb2⟩; have AB2 := Lib.hid hab2; have AW2 := Lib.hid (AW.out.trans hb2); clear hab2 hb2))
        go_roundw
        case rel => exact ⟨k + 1, by omega, by go_num, (show Lib.IsBuilder _ _ _ _ _ _ from by rw [HJ.out, ← E1.out]; exact AB2.out), (show Below _ _ _ from AW2.out)⟩
        case measure => simp [intOf]; omega
    · obtain rfl : k = n := by omega
      have hlz := HZ.out
      obtain ⟨G, hG⟩ : ∃ G, G = linesB (l.map (·.data.toList)) := ⟨_, rfl⟩
      have hgl := linesB_len (l := l) k (by omega)
      have hab := AB.out
      rw [List.take_of_length_le (by omega)] at hgl hab
      rw [← hG] at hgl hab
      have AB0 := Lib.hid hab
      have hgs : (⟨G.toArray⟩ : ByteArray).size = G.length := rfl
      have hsp := fun W => split_one 32 ⟨G.toArray⟩ W (by rw [hgs]; omega)
      have hpl := piecesB_le 32 ⟨G.toArray⟩
      rw [hgs] at hpl
      have hwr : R = (piecesB 32 ⟨G.toArray⟩).filter fun x => decide (¬ x = ⟨#[]⟩) := by
        rw [HR.out]
        refine toL_inj ?_
        have h := words_split ⟨G.toArray⟩
        have e : (fun x : ByteArray => decide (x.data.toList ≠ [])) = fun x => decide (¬ x = ⟨#[]⟩) := by
          funext x
          exact decide_eq_decide.2 (not_congr toL_nil)
        rw [e] at h
        rw [show (piecesB 32 ⟨G.toArray⟩) = Lib.splitB ⟨#[32]⟩ 0 (Lib.countB ⟨G.toArray⟩ ⟨#[32]⟩) ⟨G.toArray⟩ from rfl, h, hG]
        unfold wolR
        rw [List.map_map]
        exact List.map_id _
      generalize hps : piecesB 32 ⟨G.toArray⟩ = ps at *
      have hsp2 : ∀ W, Calls Tryz.prog 33 #[.string ⟨G.toArray⟩, .string ⟨#[32]⟩] W fun e w' => e = .returned (.slice (some ⟨W.heap.size, 0, none⟩) ps.length ps.length) ∧ w' = W.alloc (.cells (ps.map Value.string).toArray 9) := hsp
      have HSP := Lib.hid hsp2
      have HWR := Lib.hid hwr
      have hb0 := AW.out
      have HB0 := Lib.hid hb0
      have hbz := AW.out.size
      clear hsp hsp2 hwr hps hab AB hG hlz HS HA HZ hgs AW hb0 HR
      go_wp2_with (first
        | (go_at_call 34; refine (YtngcedklbinhjaaGreatDoor.Builder_String_any w.heap.size w.heap.size G _ AB0.out hbz).mono ?_; rintro e w5 ⟨rfl, hb5⟩; have HB5 := Lib.hid hb5; clear hb5)
        | (go_at_call 33; refine (HSP.out w5).mono ?_; rintro e w6 ⟨rfl, rfl⟩))
      have hw6 := heap_alloc_new w5 (.cells (ps.map Value.string).toArray 9)
      have hz6 : (w5.alloc (.cells (ps.map Value.string).toArray 9)).heap.size = w5.heap.size + 1 := by simp
      have hb6 : Below w.heap.size w (w5.alloc (.cells (ps.map Value.string).toArray 9)) := below_alloc (HB0.out.trans HB5.out)
      have hz8 : w.heap.size ≤ w5.heap.size := Nat.le_trans hbz HB5.out.size
      clear hbz
      generalize w5.alloc (.cells (ps.map Value.string).toArray 9) = w6 at *
      generalize w5.heap.size = B at *
      have HW6 := Lib.hid hw6
      have HB6 := Lib.hid hb6
      clear hw6 hb6 HB5 HB0 AB0 HSP
      go_loopw [8, 32] (fun v i wr => ∃ k : Nat, k ≤ ps.length ∧ i = .int .i64 k ∧ Aside (wr.ownsRow w6.heap.size 9 1 v ((ps.take k).filter fun x => decide (¬ x = ⟨#[]⟩)).length (((ps.take k).filter fun x => decide (¬ x = ⟨#[]⟩)).map Value.string)) ∧ Aside (Below w6.heap.size w6 wr) ∧ Aside ((ps.take k).filter (fun x => decide (¬ x = ⟨#[]⟩)) = [] → v = .slice none 0 0)) (fun _ i _ => ps.length - (intOf i).toNat)
      case atStart => exact ⟨0, Nat.zero_le _, rfl, (show World.ownsRow _ _ _ _ _ _ _ from World.ownsRow_nil _ _ _ _), (show Below _ _ _ from Below.refl _ _), (show _ → _ from fun _ => rfl)⟩
      case round =>
        obtain ⟨k, hk, rfl, AO, AW2, AN⟩ := hrel
        by_cases hlt : k < ps.length
        · have hcx : wr.cell? ⟨B, k, none⟩ = some (.string ps[k]) := by
            rw [AW2.out.cell (p := ⟨B, k, none⟩) (show B < w6.heap.size by omega)]
            simp only [World.cell?, HW6.out]
            simp [hlt]
          have hfl : ((ps.take (k + 1)).filter fun x => decide (¬ x = ⟨#[]⟩)) = ((ps.take k).filter fun x => decide (¬ x = ⟨#[]⟩)) ++ if ps[k] = ⟨#[]⟩ then [] else [ps[k]] := by
            rw [List.take_succ_eq_append_getElem hlt, List.filter_append]
            congr 1
            by_cases h : ps[k] = ⟨#[]⟩ <;> simp [h]
          have hfle := List.length_filter_le (fun x => decide (¬ x = ⟨#[]⟩)) (ps.take k)
          rw [List.length_take] at hfle
          generalize ps[k] = x at *
          generalize hK0 : ((ps.take k).filter fun x => decide (¬ x = ⟨#[]⟩)) = K0 at *
          clear hK0
          have HF := Lib.hid hfl
          have i1 : (0 : Int) ≤ (k : Int) := by omega
          have i2 : (k : Int) < (ps.length : Int) := by omega
          have hbw : w6.heap.size ≤ wr.heap.size := AW2.out.size
          have hKs : K0.length ≤ 2097154 := by omega
          clear hfl hfle
          by_cases hx : x = ⟨#[]⟩
          · rw [if_pos hx, List.append_nil] at HF
            subst hx
            go_wp2
            go_roundw
            case rel => exact ⟨k + 1, by omega, by go_num, (show World.ownsRow _ _ _ _ _ _ _ from by rw [HF.out]; exact AO.out), (show Below _ _ _ from AW2.out), (show _ → _ from by rw [HF.out]; exact AN.out)⟩
            case measure => simp [intOf]; omega
          · rw [if_neg hx] at HF
            obtain ⟨i0, hi, hz0, hz1, hz2⟩ := info_parts (show (Tryz.prog.info? 9).map (fun i => (i.zero, i.size, i.bytes)) = some (some (.string ByteArray.empty), 1, 16) by kernel_rfl)
            have hne := str_ne_bne hx
            go_wp2_with (at_builtin; refine wpList_append_own _ rfl _ _ 23 rfl w6.heap.size 9 i0 (.string ByteArray.empty) 1 16 Tryz.underlying23 hi hz0 hz1 hz2 rfl (by decide) _ _ _ rfl (AO.out.alloc _) ⟨wr.heap.size, 0, none⟩ 1 1 [.string x] rfl rfl (one_cell _ _ _) (by intro u hu; simp at hu; subst hu; rfl) (by unfold maxLen; omega) (by omega) (by simp; omega) ?_; intro v' w1 hown' hgrow _; have HO1 := Lib.hid hown'; have HGR := Lib.hid hgrow; clear hown' hgrow)
            go_wp2
            go_roundw
            case rel =>
              have hlt8 := fun q hq => (AO.out.lt q hq).1
              refine ⟨k + 1, by omega, by go_num, (show World.ownsRow _ _ _ _ _ _ _ from by rw [HF.out, List.length_append, List.map_append]; exact HO1.out), (show Below _ _ _ from (AW2.out.alloc hbw _).grown HGR.out (by simp; omega) hlt8), (show _ → _ from by rw [HF.out]; simp)⟩
            case measure => simp [intOf]; omega
        · obtain rfl : k = ps.length := by omega
          rw [List.take_of_length_le (Nat.le_refl _)] at AO AN
          rw [← HWR.out] at AO AN
          go_wp2
          go_ret
          exact ⟨_, rfl, below_trans HB6.out AW2.out, ownsRow_base AO.out (by omega), AN.out⟩
end Go.Proofs.YtngcedklbinhjaaGreatDoor
namespace Go.Proofs.YtngcedklbinhjaaGreatDoor
open Go.RowKit
set_option linter.all false
noncomputable def ΨWol : FunN := G1 dSs fun l => open Classical in if okWl l then some (nP 1 ((wolR l).map fun s => .val (.string s)) 0, nC 9 1 ((wolR l).map fun s => .val (.string s))) else none
theorem implWolN : SoundN Tryz.prog 12 ΨWol := by
  intro w J β κ ps cs args r cs' hr hJ hO _ hargs
  dsimp only at hr
  split at hr
  case isFalse => cases hr
  case isTrue hcs =>
  subst hcs
  obtain ⟨l, rfl, hq⟩ := G1_some hr
  split at hq
  case isFalse => cases hq
  case isTrue hok =>
  simp only [Option.some.injEq, Prod.mk.injEq] at hq
  obtain ⟨rfl, rfl⟩ := hq
  simp only [RepL] at hargs
  obtain ⟨v1, vs1, e1, h1, rfl⟩ := hargs
  obtain rfl : args = #[v1] := by
    obtain ⟨a⟩ := args
    simp only at e1
    rw [e1]
  simp only [dSs, dL, dS, Rep] at h1
  obtain ⟨a, cap, rfl, k1, k2, k3⟩ := h1
  simp only [List.length_map] at k1 ⊢
  have hfact : ∃ b off, (0 < l.length → a = some ⟨b, off, none⟩ ∧ b < w.heap.size) ∧ StrAt w b off l := by
    rcases k3 with k3 | ⟨b, off, rfl, k4, k5⟩
    · have : l = [] := by simpa using k3
      subst this
      exact ⟨0, 0, fun h => by simp at h, fun j x hj => by simp at hj⟩
    · exact ⟨b, off, fun _ => ⟨rfl, hJ _ b k4⟩, str_cells k5⟩
  obtain ⟨b, off, ha, hs⟩ := hfact
  refine (wol_any (R := wolR l) rfl rfl hok.1 ha hs hok.2).mono ?_
  rintro e w' ⟨v, rfl, hb, hown, hnil⟩
  generalize wolR l = R at *
  by_cases h0 : R.length = 0
  · obtain rfl : R = [] := List.eq_nil_of_length_eq_zero h0
    obtain rfl := hnil rfl
    refine ⟨_, fun _ => 0, fun _ => 0, fun _ => False, rfl, ⟨hb.os, hb.tape, hb.output, hb.size, fun k hk _ => hb.block k hk⟩, by simp, fun o ho => by simp at ho, fun o _ ho => by simp [nC] at ho, fun b hb => hb.elim, ⟨fun o ho => by simp [nC] at ho, fun o o' ho => by simp [nC] at ho, fun o c hc => by simp [nC] at hc⟩, ?_⟩
    simp [nP, Rep]
  · have hp : 0 < (R.map fun s => PV.val (.string s)).length := by rw [List.length_map]; omega
    rw [nP_pos hp, nC_pos hp, List.length_map]
    obtain ⟨b1, κ1, hb1, hO1, hrep⟩ := own_objS (J := J) (n := R.length) (by omega) rfl hJ hown
    exact ⟨v, fun _ => b1, fun _ => κ1, fun _ => False, rfl, ⟨hb.os, hb.tape, hb.output, hb.size, fun k hk _ => hb.block k hk⟩, by simp, fun o ho => by simp at ho, fun o _ _ => hb1, fun b hb => hb.elim, hO1, hrep⟩
end Go.Proofs.YtngcedklbinhjaaGreatDoor
namespace Go.Proofs.YtngcedklbinhjaaGreatDoor
open Go.RowKit
set_option linter.all false
noncomputable def φWolI : Fun := pureN ΨWol
theorem implWol_ok : Sound Tryz.prog 12 φWolI := implWolN.pure
noncomputable def φWolIn : Fun := nilF 1 φWolI
theorem φWolI_ap {l : LS} (h : okWl l) (h0 : 0 < (wolR l).length) : φWolI [.lst false 1 (l.map fun s => .val (.string s))] = some (.lst true 1 ((wolR l).map fun s => .val (.string s))) := by
  have hp : 0 < ((wolR l).map fun s => PV.val (.string s)).length := by simpa using h0
  refine pureN_of (r := .row 0 1 0 (wolR l).length) (cs0 := [(9, 1, (wolR l).map fun s => .val (.string s))]) ((G1_ap (A := dSs) l).trans ((if_pos h).trans (by rw [nP_pos hp, nC_pos hp, List.length_map]))) ?_
  rw [ls_one]
  (simp (disch := (first | omega | (simp only [push_cast]; first | done | omega))) only [push_cast, ↓reduceIte, Nat.reduceEqDiff, Nat.reduceBEq, Nat.reduceAdd, Nat.reduceSub, Int.reduceToNat, *] <;> with_reducible exact rfl)
theorem φWolIn_ap {l : LS} (h : okWl l) (h0 : 0 < (wolR l).length) : φWolIn [.lst false 1 (l.map fun s => .val (.string s))] = some (.lst true 1 ((wolR l).map fun s => .val (.string s))) := φWolI_ap h h0
end Go.Proofs.YtngcedklbinhjaaGreatDoor
namespace Go.Proofs.YtngcedklbinhjaaGreatDoor
open Go.RowKit
set_option linter.all false
theorem sel_rng {a b d : Int} {l : List Int} {i : Nat} (h : ∀ x ∈ l, a ≤ x ∧ x ≤ b) (h1 : a ≤ d) (h2 : d ≤ b) : a ≤ sel d l i ∧ sel d l i ≤ b := by
  unfold sel
  by_cases hi : i < l.length
  · rw [List.getElem?_eq_getElem hi, Option.getD_some]
    exact h _ (List.getElem_mem hi)
  · rw [List.getElem?_eq_none (by omega)]
    exact ⟨h1, h2⟩
end Go.Proofs.YtngcedklbinhjaaGreatDoor
namespace Go.Proofs.YtngcedklbinhjaaGreatDoor
open Go.RowKit
set_option linter.all false
attribute [push_cast]
  OStrs
theorem handM_lsts {out : List Nat} {ob : Objs} {l : List LS} {f : Nat} : (l.map fun p => PV.lst true 1 (p.map fun s => PV.val (.string s))).mapM (handF out ob (f + 3)) = some (l.map fun p => PV.lst true 1 (p.map fun s => PV.val (.string s))) :=
  mapM_maps fun p => handS_vals
attribute [push_cast]
  handM_lsts
end Go.Proofs.YtngcedklbinhjaaGreatDoor
namespace Go.Proofs.YtngcedklbinhjaaGreatDoor
open Go.RowKit
set_option linter.all false
def φSmt : Fun := F2 dSs dSs fun a b => if a.length ≤ 1048576 ∧ b.length ≤ 1048576 then some (bv (decide (a = b))) else none
theorem φSmt_ap {a b : LS} (h : a.length ≤ 1048576) (h2 : b.length ≤ 1048576) : φSmt [.lst false 1 (a.map fun s => .val (.string s)), .lst false 1 (b.map fun s => .val (.string s))] = some (.val (.bool (decide (a = b)))) :=
  (F2_ap (A := dSs) (B := dSs) a b).trans (if_pos ⟨h, h2⟩)
set_option maxHeartbeats 4000000 in
theorem smt_ok : Sound Tryz.prog 8 φSmt := by
  refine sound_pq mixed GE_ok Tryz.func8 rfl 26 rfl [.tmp 4] rfl (by kernel_rfl) fun ps r hr => ?_
  obtain ⟨xs, ys, rfl, hq⟩ := F2_some hr
  clear hr
  split at hq
  case isFalse => cases hq
  case isTrue hpre =>
  cases hq
  refine ⟨by simp, ?_⟩
  simp only [dIs, dUs, dSs, dI_e, dU_e, dB_e, dS_e, dFn_e, dL_e, dA2_e, dA3_e, dA4_e, dA5_e]
  obtain ⟨hl1, hl2⟩ := hpre
  repeat' (first | (with_reducible first | apply i_seq | apply i_block | apply i_skip | apply i_exit | apply i_ret | apply i_kS | apply i_kSx | apply i_kSr | apply i_kL | apply i_kLx | apply i_kLr | apply i_kB | apply i_kBr | apply i_kBs | apply i_nil) | ((with_reducible apply i_region); (simp only [List.map_cons, List.map_nil] <;> exact rfl)) | ((with_reducible apply i_draw); (simp only [List.map_cons, List.map_nil] <;> exact rfl); decide +kernel) | ((with_reducible apply i_kBo); rfl) | ((first | ((with_reducible apply i_V); rfl; rfl; rfl) | ((first | ((with_reducible apply i_E); rfl) | ((with_reducible apply i_S); rfl)); first | rfl | (simp only [push_cast, ↓reduceIte])) | ((with_reducible apply i_Vq); rfl; rfl) | ((with_reducible apply i_Vp); rfl; rfl; rfl) | (with_reducible first | apply i_Gb | apply i_cond)); (simp (disch := (first | omega | (simp only [push_cast]; first | done | omega))) only [push_cast, ↓reduceIte, Nat.reduceEqDiff, Nat.reduceBEq, Nat.reduceAdd, Nat.reduceSub, Int.reduceToNat, *] <;> with_reducible exact rfl); all_goals try (first | (with_reducible first | refine hyT ?_ | refine hyF ?_ | exact hyA | exact hyB) | (intro hX; first | (cases hX; done) | ((try simp only [decide_eq_true_eq, decide_eq_false_iff_not, Bool.not_eq_true', Bool.not_eq_false'] at hX); (try have hXb := inB_iff.1 hX))))))
  · ((first | apply i_end | apply i_endN); simp (disch := (first | omega | (simp only [push_cast]; first | done | omega))) only [push_cast, ↓reduceIte, Nat.reduceEqDiff, Nat.reduceBEq, Nat.reduceAdd, Nat.reduceSub, Int.reduceToNat, *])
    have : ¬ xs = ys := fun h => by subst h; simp_all
    simp [this]
  refine i_loop (α := Nat) mixed (fun k => [(0, .lst false 1 (xs.map fun s => .val (.string s))), (1, .lst false 1 (ys.map fun s => .val (.string s))), (5, iv k)]) (fun k => []) (fun _ => 0)
    (fun k => k ≤ xs.length ∧ ∀ j, j < k → xs[j]?.getD .empty = ys[j]?.getD .empty) (fun k => xs.length - k) (by kernel_rfl) 0 ⟨Nat.zero_le _, fun j hj => by omega⟩ ?_ trivial rfl ?_
  · simp only [push_cast, ↓reduceIte, Nat.reduceEqDiff, Nat.reduceBEq, Nat.reduceAdd, Nat.reduceSub, Int.reduceToNat]
  · intro k ⟨hk, hok⟩
    repeat' (first | (with_reducible first | apply i_seq | apply i_block | apply i_skip | apply i_exit | apply i_ret | apply i_kS | apply i_kSx | apply i_kSr | apply i_kL | apply i_kLx | apply i_kLr | apply i_kB | apply i_kBr | apply i_kBs | apply i_nil) | ((with_reducible apply i_region); (simp only [List.map_cons, List.map_nil] <;> exact rfl)) | ((with_reducible apply i_draw); (simp only [List.map_cons, List.map_nil] <;> exact rfl); decide +kernel) | ((with_reducible apply i_kBo); rfl) | ((first | ((with_reducible apply i_V); rfl; rfl; rfl) | ((first | ((with_reducible apply i_E); rfl) | ((with_reducible apply i_S); rfl)); first | rfl | (simp only [push_cast, ↓reduceIte])) | ((with_reducible apply i_Vq); rfl; rfl) | ((with_reducible apply i_Vp); rfl; rfl; rfl) | (with_reducible first | apply i_Gb | apply i_cond)); (simp (disch := (first | omega | (simp only [push_cast]; first | done | omega))) only [push_cast, ↓reduceIte, Nat.reduceEqDiff, Nat.reduceBEq, Nat.reduceAdd, Nat.reduceSub, Int.reduceToNat, *] <;> with_reducible exact rfl); all_goals try (first | (with_reducible first | refine hyT ?_ | refine hyF ?_ | exact hyA | exact hyB) | (intro hX; first | (cases hX; done) | ((try simp only [decide_eq_true_eq, decide_eq_false_iff_not, Bool.not_eq_true', Bool.not_eq_false'] at hX); (try have hXb := inB_iff.1 hX))))))
    all_goals try ((first | apply i_end | apply i_endN); simp (disch := (first | omega | (simp only [push_cast]; first | done | omega))) only [push_cast, ↓reduceIte, Nat.reduceEqDiff, Nat.reduceBEq, Nat.reduceAdd, Nat.reduceSub, Int.reduceToNat, *])
    · have : ¬ xs = ys := fun h => by subst h; simp_all
      simp [this]
    · refine ⟨k + 1, ⟨by omega, fun j hj => ?_⟩, by dsimp only; omega, by simp only [push_cast, ↓reduceIte, Nat.reduceEqDiff, Nat.reduceBEq, Nat.reduceAdd, Nat.reduceSub, Int.reduceToNat], trivial, rfl⟩
      by_cases h1 : j < k
      · exact hok j h1
      · have : j = k := by omega
        subst this
        assumption
    · have : xs = ys := eq_of_getDK (d := .empty) (by omega) fun j hj => hok j (by omega)
      simp [this]
end Go.Proofs.YtngcedklbinhjaaGreatDoor
namespace Go.Proofs.YtngcedklbinhjaaGreatDoor
open Go.RowKit
set_option linter.all false
noncomputable def φSmtn : Fun := nilF 1 φSmt
theorem φSmtn_ap {a b : LS} (h : a.length ≤ 1048576) (h2 : b.length ≤ 1048576) : φSmtn [.lst false 1 (a.map fun s => .val (.string s)), .lst false 1 (b.map fun s => .val (.string s))] = some (.val (.bool (decide (a = b)))) := φSmt_ap h h2
theorem φSmtn_nil : φSmtn [.val (.slice none 0 0), .lst false 1 []] = some (.val (.bool true)) := φSmt_ap (a := []) (b := []) (by simp) (by simp)
end Go.Proofs.YtngcedklbinhjaaGreatDoor
namespace Go.Proofs.YtngcedklbinhjaaGreatDoor
open Go.RowKit
set_option linter.all false
noncomputable def GWd : Ctx := { fn := fun f => none, io := fun f => if f = 38 then some Φpick else none }
theorem GWd_ok : SoundΓ Tryz.prog GWd := ⟨(fun f φ h => by
  unfold GWd at h
  dsimp only at h
  cases h), (fun f φ h => by
  unfold GWd at h
  dsimp only at h
  split at h
  · rename_i hf; cases h; subst hf; exact ⟨⟨_, Tryz.func38, rfl, rfl⟩, pick_io⟩
  cases h), rfl⟩
theorem GWd_38 : GWd.io 38 = some Φpick := by simp [GWd]
set_option maxHeartbeats 8000000 in
theorem width_ex : ∃ Φ : FunIO, SoundIO Tryz.prog 21 Φ ∧ Drw1 84 Φ 500000000 100 (fun n => iv n) (fun n => -1 ≤ n ∧ n ≤ 1001) := by
  refine drw1_of mixed GWd_ok Tryz.func21 rfl 16 rfl [.tmp 2] rfl (by kernel_rfl) (by simp) _ _ _ _ _ fun code p hok hp => ?_
  have hp0 := hok.pos
  have gwd_c38 := GWd_38
  have hsel : ∀ i : Nat, (0 : Int) ≤ sel (0 : Int) [0, 0, 0, 0, 0, 1, 2, 3, 4, 5] i ∧ sel (0 : Int) [0, 0, 0, 0, 0, 1, 2, 3, 4, 5] i ≤ 5 := fun i => sel_rng (a := 0) (b := 5) (d := 0) (l := [0, 0, 0, 0, 0, 1, 2, 3, 4, 5]) (by decide) (by decide) (by decide)
  replace hsel := Lib.hid hsel
  repeat' (first | (first | (with_reducible first | apply i_seq | apply i_block | apply i_skip | apply i_exit | apply i_ret | apply i_kS | apply i_kSx | apply i_kSr | apply i_kL | apply i_kLx | apply i_kLr | apply i_kB | apply i_kBr | apply i_kBs | apply i_nil) | ((with_reducible apply i_region); (simp only [List.map_cons, List.map_nil] <;> exact rfl)) | ((with_reducible apply i_draw); (simp only [List.map_cons, List.map_nil] <;> exact rfl); decide +kernel) | ((with_reducible apply i_kBo); rfl) | ((first | ((with_reducible apply i_V); rfl; rfl; rfl) | ((first | ((with_reducible apply i_E); rfl) | ((with_reducible apply i_S); rfl)); first | rfl | (simp only [push_cast, ↓reduceIte])) | ((with_reducible apply i_Vq); rfl; rfl) | ((with_reducible apply i_Vp); rfl; rfl; rfl) | (with_reducible first | apply i_Gb | apply i_cond)); (simp (disch := (first | omega | (simp only [push_cast]; first | done | omega))) only [push_cast, ↓reduceIte, Nat.reduceEqDiff, Nat.reduceBEq, Nat.reduceAdd, Nat.reduceSub, Int.reduceToNat, *] <;> with_reducible exact rfl); all_goals try (first | (with_reducible first | refine hyT ?_ | refine hyF ?_ | exact hyA | exact hyB) | (intro hX; first | (cases hX; done) | ((try simp only [decide_eq_true_eq, decide_eq_false_iff_not, Bool.not_eq_true', Bool.not_eq_false'] at hX); (try have hXb := inB_iff.1 hX)))))) | ((with_reducible apply i_drw2 pick_drw (fun _ _ => rfl)); rfl; (simp (disch := (first | omega | (simp only [push_cast]; first | done | omega))) only [push_cast, ↓reduceIte, Nat.reduceEqDiff, Nat.reduceBEq, Nat.reduceAdd, Nat.reduceSub, Int.reduceToNat, *] <;> with_reducible exact rfl); (simp (disch := (first | omega | (simp only [push_cast]; first | done | omega))) only [push_cast, ↓reduceIte, Nat.reduceEqDiff, Nat.reduceBEq, Nat.reduceAdd, Nat.reduceSub, Int.reduceToNat, *] <;> with_reducible exact rfl); (simp (disch := (first | omega | (simp only [push_cast]; first | done | omega))) only [push_cast, ↓reduceIte, Nat.reduceEqDiff, Nat.reduceBEq, Nat.reduceAdd, Nat.reduceSub, Int.reduceToNat, *] <;> with_reducible exact rfl); assumption; omega; (focus (first | trivial | omega)); (focus (first | rfl | (simp only [push_cast, ↓reduceIte]))); intro v pp hv hok hpp1 hpp2))
  have hs := hsel.out v.toNat
  repeat' (first | (first | (with_reducible first | apply i_seq | apply i_block | apply i_skip | apply i_exit | apply i_ret | apply i_kS | apply i_kSx | apply i_kSr | apply i_kL | apply i_kLx | apply i_kLr | apply i_kB | apply i_kBr | apply i_kBs | apply i_nil) | ((with_reducible apply i_region); (simp only [List.map_cons, List.map_nil] <;> exact rfl)) | ((with_reducible apply i_draw); (simp only [List.map_cons, List.map_nil] <;> exact rfl); decide +kernel) | ((with_reducible apply i_kBo); rfl) | ((first | ((with_reducible apply i_V); rfl; rfl; rfl) | ((first | ((with_reducible apply i_E); rfl) | ((with_reducible apply i_S); rfl)); first | rfl | (simp only [push_cast, ↓reduceIte])) | ((with_reducible apply i_Vq); rfl; rfl) | ((with_reducible apply i_Vp); rfl; rfl; rfl) | (with_reducible first | apply i_Gb | apply i_cond)); (simp (disch := (first | omega | (simp only [push_cast]; first | done | omega))) only [push_cast, ↓reduceIte, Nat.reduceEqDiff, Nat.reduceBEq, Nat.reduceAdd, Nat.reduceSub, Int.reduceToNat, *] <;> with_reducible exact rfl); all_goals try (first | (with_reducible first | refine hyT ?_ | refine hyF ?_ | exact hyA | exact hyB) | (intro hX; first | (cases hX; done) | ((try simp only [decide_eq_true_eq, decide_eq_false_iff_not, Bool.not_eq_true', Bool.not_eq_false'] at hX); (try have hXb := inB_iff.1 hX)))))) | ((with_reducible apply i_drw2 pick_drw (fun _ _ => rfl)); rfl; (simp (disch := (first | omega | (simp only [push_cast]; first | done | omega))) only [push_cast, ↓reduceIte, Nat.reduceEqDiff, Nat.reduceBEq, Nat.reduceAdd, Nat.reduceSub, Int.reduceToNat, *] <;> with_reducible exact rfl); (simp (disch := (first | omega | (simp only [push_cast]; first | done | omega))) only [push_cast, ↓reduceIte, Nat.reduceEqDiff, Nat.reduceBEq, Nat.reduceAdd, Nat.reduceSub, Int.reduceToNat, *] <;> with_reducible exact rfl); (simp (disch := (first | omega | (simp only [push_cast]; first | done | omega))) only [push_cast, ↓reduceIte, Nat.reduceEqDiff, Nat.reduceBEq, Nat.reduceAdd, Nat.reduceSub, Int.reduceToNat, *] <;> with_reducible exact rfl); assumption; omega; (focus (first | trivial | omega)); (focus (first | rfl | (simp only [push_cast, ↓reduceIte]))); intro v pp hv hok hpp1 hpp2))
  all_goals ((with_reducible apply i_fin1 (by first | exact .inl rfl | exact .inr rfl)); (focus (simp (disch := (first | omega | (simp only [push_cast]; first | done | omega))) only [push_cast, ↓reduceIte, Nat.reduceEqDiff, Nat.reduceBEq, Nat.reduceAdd, Nat.reduceSub, Int.reduceToNat, rep_iv, rep_sv, rep_w, rep_i3, rep_i4, *] <;> with_reducible exact rfl)); (focus (simp (disch := (first | omega | (simp only [push_cast]; first | done | omega))) only [push_cast, ↓reduceIte, Nat.reduceEqDiff, Nat.reduceBEq, Nat.reduceAdd, Nat.reduceSub, Int.reduceToNat, rep_iv, rep_sv, rep_w, rep_i3, rep_i4, *] <;> with_reducible exact rfl)))
  all_goals try (first | omega | assumption)
  all_goals refine sel_rng ?_ (by omega) (by omega)
  all_goals intro x hx
  all_goals simp only [List.mem_cons, List.not_mem_nil, or_false] at hx
  all_goals omega
noncomputable def Φwidth : FunIO := Classical.choose width_ex
theorem width_io : SoundIO Tryz.prog 21 Φwidth := (Classical.choose_spec width_ex).1
theorem width_drw : Drw1 84 Φwidth 500000000 100 (fun n => iv n) (fun n => -1 ≤ n ∧ n ≤ 1001) := (Classical.choose_spec width_ex).2
noncomputable def GMo : Ctx := { fn := fun f => none, io := fun f => if f = 38 then some Φpick else none }
theorem GMo_ok : SoundΓ Tryz.prog GMo := ⟨(fun f φ h => by
  unfold GMo at h
  dsimp only at h
  cases h), (fun f φ h => by
  unfold GMo at h
  dsimp only at h
  split at h
  · rename_i hf; cases h; subst hf; exact ⟨⟨_, Tryz.func38, rfl, rfl⟩, pick_io⟩
  cases h), rfl⟩
theorem GMo_38 : GMo.io 38 = some Φpick := by simp [GMo]
set_option maxHeartbeats 8000000 in
theorem most_ex : ∃ Φ : FunIO, SoundIO Tryz.prog 22 Φ ∧ Drw1 84 Φ 500000000 100 (fun n => iv n) (fun n => -1 ≤ n ∧ n ≤ 10001) := by
  refine drw1_of mixed GMo_ok Tryz.func22 rfl 13 rfl [.tmp 2] rfl (by kernel_rfl) (by simp) _ _ _ _ _ fun code p hok hp => ?_
  have hp0 := hok.pos
  have gmo_c38 := GMo_38
  have hsel : ∀ i : Nat, (0 : Int) ≤ sel (0 : Int) [0, 0, 1, 2, 2, 3, 4, 5, 6] i ∧ sel (0 : Int) [0, 0, 1, 2, 2, 3, 4, 5, 6] i ≤ 6 := fun i => sel_rng (a := 0) (b := 6) (d := 0) (l := [0, 0, 1, 2, 2, 3, 4, 5, 6]) (by decide) (by decide) (by decide)
  replace hsel := Lib.hid hsel
  repeat' (first | (first | (with_reducible first | apply i_seq | apply i_block | apply i_skip | apply i_exit | apply i_ret | apply i_kS | apply i_kSx | apply i_kSr | apply i_kL | apply i_kLx | apply i_kLr | apply i_kB | apply i_kBr | apply i_kBs | apply i_nil) | ((with_reducible apply i_region); (simp only [List.map_cons, List.map_nil] <;> exact rfl)) | ((with_reducible apply i_draw); (simp only [List.map_cons, List.map_nil] <;> exact rfl); decide +kernel) | ((with_reducible apply i_kBo); rfl) | ((first | ((with_reducible apply i_V); rfl; rfl; rfl) | ((first | ((with_reducible apply i_E); rfl) | ((with_reducible apply i_S); rfl)); first | rfl | (simp only [push_cast, ↓reduceIte])) | ((with_reducible apply i_Vq); rfl; rfl) | ((with_reducible apply i_Vp); rfl; rfl; rfl) | (with_reducible first | apply i_Gb | apply i_cond)); (simp (disch := (first | omega | (simp only [push_cast]; first | done | omega))) only [push_cast, ↓reduceIte, Nat.reduceEqDiff, Nat.reduceBEq, Nat.reduceAdd, Nat.reduceSub, Int.reduceToNat, *] <;> with_reducible exact rfl); all_goals try (first | (with_reducible first | refine hyT ?_ | refine hyF ?_ | exact hyA | exact hyB) | (intro hX; first | (cases hX; done) | ((try simp only [decide_eq_true_eq, decide_eq_false_iff_not, Bool.not_eq_true', Bool.not_eq_false'] at hX); (try have hXb := inB_iff.1 hX)))))) | ((with_reducible apply i_drw2 pick_drw (fun _ _ => rfl)); rfl; (simp (disch := (first | omega | (simp only [push_cast]; first | done | omega))) only [push_cast, ↓reduceIte, Nat.reduceEqDiff, Nat.reduceBEq, Nat.reduceAdd, Nat.reduceSub, Int.reduceToNat, *] <;> with_reducible exact rfl); (simp (disch := (first | omega | (simp only [push_cast]; first | done | omega))) only [push_cast, ↓reduceIte, Nat.reduceEqDiff, Nat.reduceBEq, Nat.reduceAdd, Nat.reduceSub, Int.reduceToNat, *] <;> with_reducible exact rfl); (simp (disch := (first | omega | (simp only [push_cast]; first | done | omega))) only [push_cast, ↓reduceIte, Nat.reduceEqDiff, Nat.reduceBEq, Nat.reduceAdd, Nat.reduceSub, Int.reduceToNat, *] <;> with_reducible exact rfl); assumption; omega; (focus (first | trivial | omega)); (focus (first | rfl | (simp only [push_cast, ↓reduceIte]))); intro v pp hv hok hpp1 hpp2))
  have hs := hsel.out v.toNat
  repeat' (first | (first | (with_reducible first | apply i_seq | apply i_block | apply i_skip | apply i_exit | apply i_ret | apply i_kS | apply i_kSx | apply i_kSr | apply i_kL | apply i_kLx | apply i_kLr | apply i_kB | apply i_kBr | apply i_kBs | apply i_nil) | ((with_reducible apply i_region); (simp only [List.map_cons, List.map_nil] <;> exact rfl)) | ((with_reducible apply i_draw); (simp only [List.map_cons, List.map_nil] <;> exact rfl); decide +kernel) | ((with_reducible apply i_kBo); rfl) | ((first | ((with_reducible apply i_V); rfl; rfl; rfl) | ((first | ((with_reducible apply i_E); rfl) | ((with_reducible apply i_S); rfl)); first | rfl | (simp only [push_cast, ↓reduceIte])) | ((with_reducible apply i_Vq); rfl; rfl) | ((with_reducible apply i_Vp); rfl; rfl; rfl) | (with_reducible first | apply i_Gb | apply i_cond)); (simp (disch := (first | omega | (simp only [push_cast]; first | done | omega))) only [push_cast, ↓reduceIte, Nat.reduceEqDiff, Nat.reduceBEq, Nat.reduceAdd, Nat.reduceSub, Int.reduceToNat, *] <;> with_reducible exact rfl); all_goals try (first | (with_reducible first | refine hyT ?_ | refine hyF ?_ | exact hyA | exact hyB) | (intro hX; first | (cases hX; done) | ((try simp only [decide_eq_true_eq, decide_eq_false_iff_not, Bool.not_eq_true', Bool.not_eq_false'] at hX); (try have hXb := inB_iff.1 hX)))))) | ((with_reducible apply i_drw2 pick_drw (fun _ _ => rfl)); rfl; (simp (disch := (first | omega | (simp only [push_cast]; first | done | omega))) only [push_cast, ↓reduceIte, Nat.reduceEqDiff, Nat.reduceBEq, Nat.reduceAdd, Nat.reduceSub, Int.reduceToNat, *] <;> with_reducible exact rfl); (simp (disch := (first | omega | (simp only [push_cast]; first | done | omega))) only [push_cast, ↓reduceIte, Nat.reduceEqDiff, Nat.reduceBEq, Nat.reduceAdd, Nat.reduceSub, Int.reduceToNat, *] <;> with_reducible exact rfl); (simp (disch := (first | omega | (simp only [push_cast]; first | done | omega))) only [push_cast, ↓reduceIte, Nat.reduceEqDiff, Nat.reduceBEq, Nat.reduceAdd, Nat.reduceSub, Int.reduceToNat, *] <;> with_reducible exact rfl); assumption; omega; (focus (first | trivial | omega)); (focus (first | rfl | (simp only [push_cast, ↓reduceIte]))); intro v pp hv hok hpp1 hpp2))
  all_goals ((with_reducible apply i_fin1 (by first | exact .inl rfl | exact .inr rfl)); (focus (simp (disch := (first | omega | (simp only [push_cast]; first | done | omega))) only [push_cast, ↓reduceIte, Nat.reduceEqDiff, Nat.reduceBEq, Nat.reduceAdd, Nat.reduceSub, Int.reduceToNat, rep_iv, rep_sv, rep_w, rep_i3, rep_i4, *] <;> with_reducible exact rfl)); (focus (simp (disch := (first | omega | (simp only [push_cast]; first | done | omega))) only [push_cast, ↓reduceIte, Nat.reduceEqDiff, Nat.reduceBEq, Nat.reduceAdd, Nat.reduceSub, Int.reduceToNat, rep_iv, rep_sv, rep_w, rep_i3, rep_i4, *] <;> with_reducible exact rfl)))
  all_goals try (first | omega | assumption)
  all_goals refine sel_rng ?_ (by omega) (by omega)
  all_goals intro x hx
  all_goals simp only [List.mem_cons, List.not_mem_nil, or_false] at hx
  all_goals omega
noncomputable def Φmost : FunIO := Classical.choose most_ex
theorem most_io : SoundIO Tryz.prog 22 Φmost := (Classical.choose_spec most_ex).1
theorem most_drw : Drw1 84 Φmost 500000000 100 (fun n => iv n) (fun n => -1 ≤ n ∧ n ≤ 10001) := (Classical.choose_spec most_ex).2
abbrev EPg (p : LS × LS × Int × Int) : PV := .tup [.lst true 1 (p.1.map fun s => PV.val (.string s)), .lst true 1 (p.2.1.map fun s => PV.val (.string s)), iv p.2.2.1, iv p.2.2.2]
def okPg (p : LS × LS × Int × Int) : Prop := okT 13 p.1 ∧ okT 21 p.2.1 ∧ (-1 ≤ p.2.2.1 ∧ p.2.2.1 ≤ 1001) ∧ (-1 ≤ p.2.2.2 ∧ p.2.2.2 ≤ 10001)
noncomputable def GDpl : Ctx := { fn := fun f => none, io := fun f => if f = 18 then some ΦOpen else if f = 19 then some Φwords else if f = 20 then some Φpatterns else if f = 21 then some Φwidth else if f = 22 then some Φmost else none }
theorem GDpl_ok : SoundΓ Tryz.prog GDpl := ⟨(fun f φ h => by
  unfold GDpl at h
  dsimp only at h
  cases h), (fun f φ h => by
  unfold GDpl at h
  dsimp only at h
  split at h
  · rename_i hf; cases h; subst hf; exact ⟨⟨_, Tryz.func18, rfl, rfl⟩, open_io⟩
  split at h
  · rename_i hf; cases h; subst hf; exact ⟨⟨_, Tryz.func19, rfl, rfl⟩, words_io⟩
  split at h
  · rename_i hf; cases h; subst hf; exact ⟨⟨_, Tryz.func20, rfl, rfl⟩, patterns_io⟩
  split at h
  · rename_i hf; cases h; subst hf; exact ⟨⟨_, Tryz.func21, rfl, rfl⟩, width_io⟩
  split at h
  · rename_i hf; cases h; subst hf; exact ⟨⟨_, Tryz.func22, rfl, rfl⟩, most_io⟩
  cases h), rfl⟩
theorem GDpl_18 : GDpl.io 18 = some ΦOpen := by simp [GDpl]
theorem GDpl_19 : GDpl.io 19 = some Φwords := by simp [GDpl]
theorem GDpl_20 : GDpl.io 20 = some Φpatterns := by simp [GDpl]
theorem GDpl_21 : GDpl.io 21 = some Φwidth := by simp [GDpl]
theorem GDpl_22 : GDpl.io 22 = some Φmost := by simp [GDpl]
set_option maxHeartbeats 8000000 in
theorem drawPg_ex : ∃ φ : Fun, Sound Tryz.prog 5 φ ∧ Drw0 φ EPg okPg := by
  refine drw0_of mixed GDpl_ok Tryz.func5 rfl 21 rfl [.tmp 2, .tmp 3, .tmp 4, .tmp 5] rfl (by kernel_rfl) (by simp) _ _ fun code hbyte hlen => ?_
  have hok := okRd_take hbyte
  have apo := @ΦOpen_ap
  have gdpl_c18 := GDpl_18; have gdpl_c19 := GDpl_19; have gdpl_c20 := GDpl_20; have gdpl_c21 := GDpl_21; have gdpl_c22 := GDpl_22
  repeat' (first | (first | (with_reducible first | apply i_seq | apply i_block | apply i_skip | apply i_exit | apply i_ret | apply i_kS | apply i_kSx | apply i_kSr | apply i_kL | apply i_kLx | apply i_kLr | apply i_kB | apply i_kBr | apply i_kBs | apply i_nil) | ((with_reducible apply i_region); (simp only [List.map_cons, List.map_nil] <;> exact rfl)) | ((with_reducible apply i_draw); (simp only [List.map_cons, List.map_nil] <;> exact rfl); decide +kernel) | ((with_reducible apply i_kBo); rfl) | ((first | ((with_reducible apply i_V); rfl; rfl; rfl) | ((first | ((with_reducible apply i_E); rfl) | ((with_reducible apply i_S); rfl)); first | rfl | (simp only [push_cast, ↓reduceIte])) | ((with_reducible apply i_Vq); rfl; rfl) | ((with_reducible apply i_Vp); rfl; rfl; rfl) | (with_reducible first | apply i_Gb | apply i_cond)); (simp (disch := (first | omega | (simp only [push_cast]; first | done | omega))) only [push_cast, ↓reduceIte, Nat.reduceEqDiff, Nat.reduceBEq, Nat.reduceAdd, Nat.reduceSub, Int.reduceToNat, *] <;> with_reducible exact rfl); all_goals try (first | (with_reducible first | refine hyT ?_ | refine hyF ?_ | exact hyA | exact hyB) | (intro hX; first | (cases hX; done) | ((try simp only [decide_eq_true_eq, decide_eq_false_iff_not, Bool.not_eq_true', Bool.not_eq_false'] at hX); (try have hXb := inB_iff.1 hX)))))) | ((with_reducible apply i_drw2 words_drw (fun _ _ => by simp only [push_cast, ↓reduceIte, Nat.reduceEqDiff, Nat.reduceBEq, Nat.reduceAdd, Nat.reduceSub, Int.reduceToNat])); (focus rfl); (focus (simp (disch := (first | omega | (simp only [push_cast]; first | done | omega))) only [push_cast, ↓reduceIte, Nat.reduceEqDiff, Nat.reduceBEq, Nat.reduceAdd, Nat.reduceSub, Int.reduceToNat, *] <;> with_reducible exact rfl)); (focus (simp (disch := (first | omega | (simp only [push_cast]; first | done | omega))) only [push_cast, ↓reduceIte, Nat.reduceEqDiff, Nat.reduceBEq, Nat.reduceAdd, Nat.reduceSub, Int.reduceToNat, *] <;> with_reducible exact rfl)); (focus (simp (disch := (first | omega | (simp only [push_cast]; first | done | omega))) only [push_cast, ↓reduceIte, Nat.reduceEqDiff, Nat.reduceBEq, Nat.reduceAdd, Nat.reduceSub, Int.reduceToNat, *] <;> with_reducible exact rfl)); (focus assumption); (focus omega); (focus (first | trivial | omega)); (focus (first | rfl | (simp only [push_cast, ↓reduceIte]))); intro v pp hv hok hpp1 hpp2) | ((with_reducible apply i_drw2N patterns_drw patterns_hE patterns_hO); (focus rfl); (focus (simp (disch := (first | omega | (simp only [push_cast]; first | done | omega))) only [push_cast, ↓reduceIte, Nat.reduceEqDiff, Nat.reduceBEq, Nat.reduceAdd, Nat.reduceSub, Int.reduceToNat, *] <;> with_reducible exact rfl)); (focus (simp (disch := (first | omega | (simp only [push_cast]; first | done | omega))) only [push_cast, ↓reduceIte, Nat.reduceEqDiff, Nat.reduceBEq, Nat.reduceAdd, Nat.reduceSub, Int.reduceToNat, *] <;> with_reducible exact rfl)); (focus (simp (disch := (first | omega | (simp only [push_cast]; first | done | omega))) only [push_cast, ↓reduceIte, Nat.reduceEqDiff, Nat.reduceBEq, Nat.reduceAdd, Nat.reduceSub, Int.reduceToNat, *] <;> with_reducible exact rfl)); (focus assumption); (focus omega); (focus (first | trivial | omega)); (focus (first | rfl | (simp only [push_cast, ↓reduceIte]))); intro v pp hv hok hpp1 hpp2) | ((with_reducible apply i_drw1 width_drw (fun _ _ => by simp only [push_cast, ↓reduceIte, Nat.reduceEqDiff, Nat.reduceBEq, Nat.reduceAdd, Nat.reduceSub, Int.reduceToNat])); (focus rfl); (focus (simp (disch := (first | omega | (simp only [push_cast]; first | done | omega))) only [push_cast, ↓reduceIte, Nat.reduceEqDiff, Nat.reduceBEq, Nat.reduceAdd, Nat.reduceSub, Int.reduceToNat, *] <;> with_reducible exact rfl)); (focus (simp (disch := (first | omega | (simp only [push_cast]; first | done | omega))) only [push_cast, ↓reduceIte, Nat.reduceEqDiff, Nat.reduceBEq, Nat.reduceAdd, Nat.reduceSub, Int.reduceToNat, *] <;> with_reducible exact rfl)); (focus assumption); (focus omega); (focus (first | rfl | (simp only [push_cast, ↓reduceIte]))); intro v pp hv hok hpp1 hpp2) | ((with_reducible apply i_drw1 most_drw (fun _ _ => by simp only [push_cast, ↓reduceIte, Nat.reduceEqDiff, Nat.reduceBEq, Nat.reduceAdd, Nat.reduceSub, Int.reduceToNat])); (focus rfl); (focus (simp (disch := (first | omega | (simp only [push_cast]; first | done | omega))) only [push_cast, ↓reduceIte, Nat.reduceEqDiff, Nat.reduceBEq, Nat.reduceAdd, Nat.reduceSub, Int.reduceToNat, *] <;> with_reducible exact rfl)); (focus (simp (disch := (first | omega | (simp only [push_cast]; first | done | omega))) only [push_cast, ↓reduceIte, Nat.reduceEqDiff, Nat.reduceBEq, Nat.reduceAdd, Nat.reduceSub, Int.reduceToNat, *] <;> with_reducible exact rfl)); (focus assumption); (focus omega); (focus (first | rfl | (simp only [push_cast, ↓reduceIte]))); intro v pp hv hok hpp1 hpp2))
  all_goals ((with_reducible apply i_fin0 (a := (_, _, _, _)) (by first | exact .inl rfl | exact .inr rfl)); (focus (simp (disch := (first | omega | (simp only [push_cast]; first | done | omega))) only [push_cast, ↓reduceIte, Nat.reduceEqDiff, Nat.reduceBEq, Nat.reduceAdd, Nat.reduceSub, Int.reduceToNat, rep_iv, rep_sv, rep_w, rep_i3, rep_i4, *] <;> with_reducible exact rfl)))
  unfold okPg
  refine ⟨?_, ?_, ?_, ?_⟩ <;> (try dsimp only) <;> assumption
noncomputable def φdrawPg : Fun := Classical.choose drawPg_ex
theorem drawPg_ok : Sound Tryz.prog 5 φdrawPg := (Classical.choose_spec drawPg_ex).1
theorem drawPg_drw : Drw0 φdrawPg EPg okPg := (Classical.choose_spec drawPg_ex).2
end Go.Proofs.YtngcedklbinhjaaGreatDoor
namespace Go.Proofs.YtngcedklbinhjaaGreatDoor
open Go.RowKit
set_option linter.all false
noncomputable def GPii : Ctx := { fn := fun f => if f = 23 then some φPiT else none, io := fun f => none }
theorem GPii_ok : SoundΓ Tryz.prog GPii := ⟨(fun f φ h => by
  unfold GPii at h
  dsimp only at h
  split at h
  · rename_i hf; cases h; subst hf; exact ⟨⟨_, Tryz.func23, rfl, rfl⟩, implPiT_ok⟩
  cases h), (fun f φ h => by
  unfold GPii at h
  dsimp only at h
  cases h), rfl⟩
theorem GPii_23 (ob : Objs) (ps : List PV) : evCall GPii ob 23 ps = (ps.mapM (reify false 0 ob fuel)).bind φPiT := by
  have h : GPii.fn 23 = some φPiT := by simp [GPii]
  unfold evCall
  rw [h]
  cases ps.mapM (reify false 0 ob fuel) <;> rfl
theorem implPi_ok : Sound Tryz.prog 10 φPi := by
  refine sound_pqW mixed GPii_ok Tryz.func10 rfl 19 rfl [.tmp 4, .tmp 5] rfl (by kernel_rfl) fun ps r hr => ?_
  obtain ⟨ws, pats, rfl, hq⟩ := F2_some hr
  clear hr
  split at hq
  case isFalse => cases hq
  case isTrue hpre =>
  cases hq
  refine ⟨by simp, ?_⟩
  simp only [dIs, dUs, dSs, dI_e, dU_e, dB_e, dS_e, dFn_e, dL_e, dA2_e, dA3_e, dA4_e, dA5_e]
  have ap := φPiT_ap hpre
  have hA : prgB ws pats = true → prgA ws pats = true := fun h => by
    obtain ⟨h1, h2, h3, -⟩ := prgB_iff.1 h
    unfold prgA
    rw [h1, h2, decide_eq_true h3]
    rfl
  unfold piV
  cases hp : prgB ws pats with
  | false =>
    rw [hp] at ap
    clear hA hp hpre
    generalize (if prgA ws pats = true then piR ws pats else []) = l at *
    generalize (if prgA ws pats = true then txR ws pats else []) = tx at *
    have gpii_c23 := GPii_23
    (refine wlk ?_; intros)
    all_goals ((with_reducible apply i_endW (by first | exact .inl rfl | exact .inr rfl)); (simp (disch := (first | omega | (simp only [push_cast]; first | done | omega))) only [push_cast, ↓reduceIte, Nat.reduceEqDiff, Nat.reduceBEq, Nat.reduceAdd, Nat.reduceSub, Int.reduceToNat, *] <;> with_reducible exact rfl))
    all_goals exact tup_le ⟨nil_le _ _, PV.le_refl _, trivial⟩
  | true =>
    rw [hp, hA hp, if_pos rfl, if_pos rfl] at ap
    clear hA hp hpre
    have gpii_c23 := GPii_23
    (refine wlk ?_; intros)
    all_goals ((with_reducible apply i_endW (by first | exact .inl rfl | exact .inr rfl)); (simp (disch := (first | omega | (simp only [push_cast]; first | done | omega))) only [push_cast, ↓reduceIte, Nat.reduceEqDiff, Nat.reduceBEq, Nat.reduceAdd, Nat.reduceSub, Int.reduceToNat, *] <;> with_reducible exact rfl))
    all_goals exact PV.le_refl _
theorem okWl_par {l : LS} (h : l.length ≤ 500) (h2 : ∀ s ∈ l, s.size ≤ 2000) : okWl l := ⟨by omega, by
  have := sumS_le (l := l) (c := 2000) fun i => by
    by_cases hi : i < l.length
    · rw [List.getElem?_eq_getElem hi, Option.getD_some]
      exact h2 _ (List.getElem_mem hi)
    · rw [List.getElem?_eq_none (by omega)]
      decide
  have : l.length * 2000 ≤ 500 * 2000 := Nat.mul_le_mul_right _ h
  omega⟩
theorem wol_pgl {ws pats : LS} {wd most : Int} (h : pglB ws pats wd most = true) : wolR (pglV ws pats wd most) = ws := pgl_words h
noncomputable def φLawPw : Fun := F1 dUs fun code => if okL okB8 code then some (bv true) else none
noncomputable def GLpw : Ctx := { fn := fun f => if f = 5 then some φdrawPg else if f = 6 then some φPgi else if f = 7 then some φPgl else if f = 10 then some φPi else if f = 11 then some φBb else if f = 12 then some φWolIn else if f = 8 then some φSmtn else if f = 9 then some φTrue else none, io := fun f => none }
theorem GLpw_ok : SoundΓ Tryz.prog GLpw := ⟨(fun f φ h => by
  unfold GLpw at h
  dsimp only at h
  split at h
  · rename_i hf; cases h; subst hf; exact ⟨⟨_, Tryz.func5, rfl, rfl⟩, drawPg_ok⟩
  split at h
  · rename_i hf; cases h; subst hf; exact ⟨⟨_, Tryz.func6, rfl, rfl⟩, implPgi_ok⟩
  split at h
  · rename_i hf; cases h; subst hf; exact ⟨⟨_, Tryz.func7, rfl, rfl⟩, specPgl_ok⟩
  split at h
  · rename_i hf; cases h; subst hf; exact ⟨⟨_, Tryz.func10, rfl, rfl⟩, implPi_ok⟩
  split at h
  · rename_i hf; cases h; subst hf; exact ⟨⟨_, Tryz.func11, rfl, rfl⟩, implBk_ok⟩
  split at h
  · rename_i hf; cases h; subst hf; exact ⟨⟨_, Tryz.func12, rfl, rfl⟩, (implWol_ok.nil 1)⟩
  split at h
  · rename_i hf; cases h; subst hf; exact ⟨⟨_, Tryz.func8, rfl, rfl⟩, (smt_ok.nil 1)⟩
  split at h
  · rename_i hf; cases h; subst hf; exact ⟨⟨_, Tryz.func9, rfl, rfl⟩, alive_ok⟩
  cases h), (fun f φ h => by
  unfold GLpw at h
  dsimp only at h
  cases h), rfl⟩
theorem GLpw_5 (ob : Objs) (ps : List PV) : evCall GLpw ob 5 ps = (ps.mapM (reify false 0 ob fuel)).bind φdrawPg := by
  have h : GLpw.fn 5 = some φdrawPg := by simp [GLpw]
  unfold evCall
  rw [h]
  cases ps.mapM (reify false 0 ob fuel) <;> rfl
theorem GLpw_6 (ob : Objs) (ps : List PV) : evCall GLpw ob 6 ps = (ps.mapM (reify false 0 ob fuel)).bind φPgi := by
  have h : GLpw.fn 6 = some φPgi := by simp [GLpw]
  unfold evCall
  rw [h]
  cases ps.mapM (reify false 0 ob fuel) <;> rfl
theorem GLpw_7 (ob : Objs) (ps : List PV) : evCall GLpw ob 7 ps = (ps.mapM (reify false 0 ob fuel)).bind φPgl := by
  have h : GLpw.fn 7 = some φPgl := by simp [GLpw]
  unfold evCall
  rw [h]
  cases ps.mapM (reify false 0 ob fuel) <;> rfl
theorem GLpw_10 (ob : Objs) (ps : List PV) : evCall GLpw ob 10 ps = (ps.mapM (reify false 0 ob fuel)).bind φPi := by
  have h : GLpw.fn 10 = some φPi := by simp [GLpw]
  unfold evCall
  rw [h]
  cases ps.mapM (reify false 0 ob fuel) <;> rfl
theorem GLpw_11 (ob : Objs) (ps : List PV) : evCall GLpw ob 11 ps = (ps.mapM (reify false 0 ob fuel)).bind φBb := by
  have h : GLpw.fn 11 = some φBb := by simp [GLpw]
  unfold evCall
  rw [h]
  cases ps.mapM (reify false 0 ob fuel) <;> rfl
theorem GLpw_12 (ob : Objs) (ps : List PV) : evCall GLpw ob 12 ps = (ps.mapM (reify false 0 ob fuel)).bind φWolIn := by
  have h : GLpw.fn 12 = some φWolIn := by simp [GLpw]
  unfold evCall
  rw [h]
  cases ps.mapM (reify false 0 ob fuel) <;> rfl
theorem GLpw_8 (ob : Objs) (ps : List PV) : evCall GLpw ob 8 ps = (ps.mapM (reify false 0 ob fuel)).bind φSmtn := by
  have h : GLpw.fn 8 = some φSmtn := by simp [GLpw]
  unfold evCall
  rw [h]
  cases ps.mapM (reify false 0 ob fuel) <;> rfl
theorem GLpw_9 (ob : Objs) (ps : List PV) : evCall GLpw ob 9 ps = (ps.mapM (reify false 0 ob fuel)).bind φTrue := by
  have h : GLpw.fn 9 = some φTrue := by simp [GLpw]
  unfold evCall
  rw [h]
  cases ps.mapM (reify false 0 ob fuel) <;> rfl
set_option maxHeartbeats 16000000 in
theorem lawPw_ok : Sound Tryz.prog 3 φLawPw := by
  refine sound_pq mixed GLpw_ok Tryz.func3 rfl 88 rfl [.tmp 2] rfl (by kernel_rfl) fun ps r hr => ?_
  obtain ⟨code, rfl, hq⟩ := F1_some hr
  clear hr
  split at hq
  case isFalse => cases hq
  case isTrue hpre =>
  cases hq
  refine ⟨by simp, ?_⟩
  simp only [dIs, dUs, dSs, dI_e, dU_e, dB_e, dS_e, dFn_e, dL_e, dA2_e, dA3_e, dA4_e, dA5_e]
  have hbyte := bytes_ok hpre
  by_cases hlen : code.length ≤ 1048576
  · obtain ⟨⟨ws, pats, wd, mo⟩, e, h1, h2, h3, h4⟩ := drawPg_drw code hbyte hlen
    have apt := φTrue_ap
    dsimp only at h1 h2 h3 h4 e
    have hs1 := okT_sz h1 (by omega)
    have hs2 := okT_sz h2 (by omega)
    have ap2 := φPgl_ap (wd := wd) (most := mo) ⟨hs1, hs2⟩
    have ap6 := φSmtn_nil
    have hwl := h1.1
    clear hpre hbyte h1 h2
    cases hB : pglB ws pats wd mo with
    | false =>
      have ap1 := φPgi_no (wd := wd) (most := mo) ⟨hs1, hs2⟩ hB
      rw [hB, pgl_nil hB, List.map_nil] at ap2
      clear hs1 hs2 hB
      have glpw_c5 := GLpw_5; have glpw_c6 := GLpw_6; have glpw_c7 := GLpw_7; have glpw_c10 := GLpw_10; have glpw_c11 := GLpw_11; have glpw_c12 := GLpw_12; have glpw_c8 := GLpw_8; have glpw_c9 := GLpw_9
      exact wlkS
    | true =>
      have ap1 := φPgi_ap (wd := wd) (most := mo) ⟨hs1, hs2⟩ (pgl_pos hB)
      have hB2 := hB
      unfold pglB at hB2
      rw [Bool.and_eq_true] at hB2
      obtain ⟨q1, q2⟩ := hB2
      have api := φPi_ap (ws := ws) (pats := pats) ⟨hs1, hs2⟩
      rw [q1] at api
      have hi60 := items_len (brkOk_iff.1 q2).1
      have apb := φBb_ap (l := piV ws pats) (wd := wd) (most := mo) (show (piV ws pats).length ≤ 1000 by omega)
      rw [q2] at apb
      have hbl : (brkR (piV ws pats) wd mo).length = (pglV ws pats wd mo).length := by
        have hV : piV ws pats = piR ws pats := if_pos q1
        unfold brkR pglV
        rw [if_pos q2, if_pos hB, lnsK_len, hV]
      have hV60 := pglV_ok ws pats wd mo
      have hwol := wol_pgl hB
      have apw := φWolIn_ap (okWl_par (l := pglV ws pats wd mo) (by omega) hV60.2) (by
        rw [hwol]
        have := (prgB_iff.1 q1).2.2.1
        exact this)
      rw [hwol] at apw
      rw [hB] at ap1 ap2
      have ap7 := φSmtn_ap (a := pglV ws pats wd mo) (b := pglV ws pats wd mo) (by omega) (by omega)
      have ap8 := φSmtn_ap (a := ws) (b := ws) (by omega) (by omega)
      have hv60 := hV60.1
      clear hs1 hs2 hB q1 q2 hV60 hwol
      generalize pglV ws pats wd mo = V at *
      generalize brkR (piV ws pats) wd mo = br at *
      generalize piV ws pats = l at *
      have glpw_c5 := GLpw_5; have glpw_c6 := GLpw_6; have glpw_c7 := GLpw_7; have glpw_c10 := GLpw_10; have glpw_c11 := GLpw_11; have glpw_c12 := GLpw_12; have glpw_c8 := GLpw_8; have glpw_c9 := GLpw_9
      exact wlkS
  · have glpw_c5 := GLpw_5; have glpw_c6 := GLpw_6; have glpw_c7 := GLpw_7; have glpw_c10 := GLpw_10; have glpw_c11 := GLpw_11; have glpw_c12 := GLpw_12; have glpw_c8 := GLpw_8; have glpw_c9 := GLpw_9
    exact wlkS
end Go.Proofs.YtngcedklbinhjaaGreatDoor
namespace Go.Proofs.YtngcedklbinhjaaGreatDoor
open Go.ChangeShapes Go.WideShapes Go.ChangeAt Go.RowKit
open Go.ChangeMaps (open_string shut_string)
set_option linter.all false
theorem own : ownKnob Tryz.prog.godebug = none := by kernel_rfl
theorem laidOut : laidOutB Tryz.prog = true := by kernel_rfl
theorem wf_u8 {x : Int} (h : (Lit.int .u8 x).wf = true) : 0 ≤ x ∧ x ≤ 255 := by
  simpa [Lit.wf, IntKind.min, IntKind.max, IntKind.signed, IntKind.bits] using h
theorem addr_add (b off i : Nat) : (⟨b, off, none⟩ : Addr).add i = ⟨b, off + i, none⟩ := by
  unfold Addr.add
  by_cases h : i = 0 <;> simp [h]
theorem cell_lt {w : World} {a : Addr} {v : Value} (h : w.cell? a = some v) : a.block < w.heap.size := by
  unfold World.cell? at h
  by_cases hb : a.block < w.heap.size
  · exact hb
  · rw [Array.getElem?_eq_none (by omega)] at h
    cases a.spot <;> simp at h
abbrev gW (W : World) : Gh := argG fun b => b < W.heap.size
section
variable {H : Type} {enc : TypeId × Value → H} {P : Program} {W : World} {base : Nat} {α β γ δ ε : Type}
def OpC (enc : TypeId × Value → H) (P : Program) (W : World) (base : Nat) (t : TypeId) (A : Dec α) (ok : α → Prop) : Prop :=
  ∀ fuel cs x, DataW.trod enc P W base (fun _ => true) true fuel t cs = some x → ∃ a v, ok a ∧ Rep (gW W) W (A.e a) v ∧ v.cells.toList = cs ∧ v.cells.all (·.oneCell') = true
theorem opU {t : TypeId} (ht : P.underlying t = some (.int .u8)) : OpC enc P W base t dU okB8 := fun fuel cs x h => by
  obtain ⟨n, rfl, _, hw⟩ := DataW.trod_int ht h
  exact ⟨n, .int .u8 n, wf_u8 hw, rfl, rfl, by simp [Value.cells, Value.oneCell']⟩
theorem list_of {n : Nat} {p : Nat → α → Prop} (h : ∀ i, i < n → ∃ x, p i x) : ∃ l : List α, l.length = n ∧ ∀ i a, l[i]? = some a → p i a := by
  induction n with
  | zero => exact ⟨[], rfl, fun i a h => by simp at h⟩
  | succ n ih =>
    obtain ⟨l, hl, hp⟩ := ih fun i hi => h i (by omega)
    obtain ⟨x, hx⟩ := h n (by omega)
    refine ⟨l ++ [x], by simp [hl], fun i a hi => ?_⟩
    rw [List.getElem?_append] at hi
    split at hi
    · exact hp i a hi
    · rename_i hlt
      have : i - l.length = 0 := by
        by_cases h0 : i - l.length = 0
        · exact h0
        · rw [List.getElem?_eq_none (by simp; omega)] at hi
          cases hi
      rw [this] at hi
      simp at hi
      subst hi
      have : i = n := by omega
      subst this
      exact hx
theorem opL {t e : TypeId} {A : Dec α} {ok : α → Prop} (sz : Nat) (ht : P.underlying t = some (.slice e)) (hs : P.cellsOf e = sz) (h0 : 0 < sz) (hA : OpC enc P W base e A ok) : OpC enc P W base t (dL sz A) (okL ok) := fun fuel cs x h => by
  rcases Go.Deep.open_slice ht h with ⟨rfl, _⟩ | ⟨x, len, cap, m, n, D, Pl, rfl, hb, hl, hm, hmm, _, hx⟩
  · exact ⟨[], .slice none 0 0, ⟨by simp, by simp⟩, ⟨none, 0, rfl, by simp, by simp, .inl rfl⟩, rfl, by simp [Value.cells, Value.oneCell']⟩
  have hm2 : m = cap := by simpa using hmm
  have hcap : cap ≤ 9223372036854775807 := hm
  obtain ⟨l, hlen, hp⟩ := list_of (n := len) (p := fun i a => ok a ∧ ∃ v, Rep (gW W) W (A.e a) v ∧ v.cells.size = sz ∧ v.cells.all (·.oneCell') = true ∧ ∀ j, j < sz → W.cell? ((x.add (i * sz)).add j) = v.cells[j]?) (fun i hi => by
    obtain ⟨cs', h1, h2⟩ := hx i (by omega)
    obtain ⟨a, v, h3, h4, h5, h6⟩ := hA _ _ _ h2
    obtain ⟨_, h7, h8⟩ := World.cells?_some h1
    rw [hs] at h7 h8
    refine ⟨a, h3, v, h4, ?_, h6, fun j hj => ?_⟩
    · rw [← h7, ← h5]; simp
    · rw [h8 j hj, ← h5]; simp)
  refine ⟨l, .slice (some x) len cap, ⟨by omega, fun a ha => ?_⟩, ?_, rfl, by simp [Value.cells, Value.oneCell']⟩
  · obtain ⟨i, hi, rfl⟩ := List.getElem_of_mem ha
    exact (hp i _ (by simp [hi])).1
  · refine ⟨some x, cap, by simp [hlen], by simp [hlen]; omega, hcap, ?_⟩
    by_cases hn : l = []
    · exact .inl (by simp [hn])
    right
    have hl0 : 0 < l.length := List.length_pos_iff.2 hn
    obtain ⟨_, v, h4, h5, h6, h7⟩ := hp 0 l[0] (by simp [hl0])
    have h8 := h7 0 h0
    have h9 : v.cells[0]? = some v.cells[0] := by simp
    rw [h9] at h8
    have hspot := World.cell?_spot h8
    have hlt := cell_lt h8
    obtain ⟨b, off, spot⟩ := x
    simp only [Nat.zero_mul, Addr.add, if_true] at hspot hlt
    subst hspot
    refine ⟨b, off, rfl, ⟨rfl, hlt⟩, RepEs.of fun i p hi => ?_⟩
    rw [List.getElem?_map, Option.map_eq_some_iff] at hi
    obtain ⟨a, ha, rfl⟩ := hi
    obtain ⟨_, v, h4, h5, h6, h7⟩ := hp i a ha
    refine ⟨v, h4, ⟨h6, fun j hj => ?_⟩, h5⟩
    have := h7 j (by omega)
    rwa [addr_add, addr_add] at this
theorem opF {t : TypeId} {A : Dec α} {ok : α → Prop} {n : Nat} {cs : List Value} {y : DataW H × List MemPlace} (hA : OpC enc P W base t A ok) (h1 : ∀ a, oneP (A.e a) = true)
    (h : DataW.trod enc P W base (fun _ => true) true n t cs = some y) : ∃ a v, ok a ∧ Rep (gW W) W (A.e a) v ∧ v.oneCell' = true ∧ cs = [v] := by
  obtain ⟨a, v, h3, h4, h5, h6⟩ := hA _ _ _ h
  have := oneP_rep h4 (h1 a)
  exact ⟨a, v, h3, h4, this, by rw [← h5, oneCell_cells this]⟩
theorem op1 {t : TypeId} {A : Dec α} {ok : α → Prop} {v : Value} {d : DataW H} {p : List MemPlace} (hA : OpC enc P W base t A ok) (h1 : ∀ a, oneP (A.e a) = true) (hv : v.cells = #[v])
    (h : DataW.Trod enc P W base (fun _ => true) true t v d p) : ∃ a, ok a ∧ Rep (gW W) W (A.e a) v := by
  obtain ⟨fuel, hf⟩ := h
  obtain ⟨a, u, h3, h4, h5, h6⟩ := opF hA h1 hf
  rw [hv] at h6
  have : v = u := by simpa using h6
  subst this
  exact ⟨a, h3, h4⟩
theorem walk_of {f : Nat} {φ : Fun} {ps : List PV} {args : Array Value} (h : Sound P f φ) (hT : TabF W fun _ => False) (ha : φ ps = some (bv true)) (hr : RepL (gW W) W ps args.toList) :
    Calls P f args W fun e w' => e = .returned (.bool true) ∧ Below W.heap.size W w' := by
  refine (h W (fun b => b < W.heap.size) ps args _ ha (fun b hb => hb) hT hr).mono ?_
  rintro e w' ⟨v, rfl, hb, hv⟩
  have := hv { I := fun _ _ => True, β := fun _ => 0, κ := fun _ => 0, nx := 0 } fun b _ _ => trivial
  have hv2 : v = .bool true := this
  subst hv2
  exact ⟨rfl, hb⟩
end
end Go.Proofs.YtngcedklbinhjaaGreatDoor
