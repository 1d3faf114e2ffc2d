/- What the proof rests on, part 10: contracts of functions. No condition beyond what each states. -/
import Derived.Test.YtngcedklbinhjaaGreatDoorZBw9
namespace Go.Proofs.YtngcedklbinhjaaGreatDoor
open Go.RowKit
set_option linter.all false
def iI (p : ByteArray) : Nat → ByteArray × List Int × Int
 | 0 => (⟨#[]⟩, [], 0)
 | k + 1 => if ab2 (at8 p k) = true then ((iI p k).1, (iI p k).2.1, at8 p k - 48) else ((iI p k).1 ++ p.extract k (k + 1), (iI p k).2.1 ++ [(iI p k).2.2], 0)
def eG (p : ByteArray) : ByteArray := (iI p p.size).1
def fU (p : ByteArray) : List Int := (iI p p.size).2.1 ++ [(iI p p.size).2.2]
theorem sj {p : ByteArray} {k : Nat} (h : ab2 (at8 p k) = true) : iI p (k + 1) = ((iI p k).1, (iI p k).2.1, at8 p k - 48) := by
 rw [iI, if_pos h]
theorem sD {p : ByteArray} {k : Nat} (h : ab2 (at8 p k) = false) : iI p (k + 1) = ((iI p k).1 ++ p.extract k (k + 1), (iI p k).2.1 ++ [(iI p k).2.2], 0) := by
 rw [iI, if_neg (by rw [h]; decide)]
theorem pY (p : ByteArray) : ∀ k, k ≤ p.size → (iI p k).1.size = (iI p k).2.1.length ∧ (iI p k).1.size ≤ k ∧ (0 ≤ (iI p k).2.2 ∧ (iI p k).2.2 ≤ 9) ∧ ∀ x ∈ (iI p k).2.1, 0 ≤ x ∧ x ≤ 9
 | 0, _ => ⟨rfl, Nat.le_refl _, ⟨Int.le_refl _, by show (0 : Int) ≤ 9; omega⟩, by simp [iI]⟩
 | k + 1, hk => by
  obtain ⟨h1, h2, h3, h4⟩ := pY p k (by omega)
  cases hd : ab2 (at8 p k) with
  | true =>
   rw [sj hd]
   have := aj.1 hd
   exact ⟨h1, by dsimp only; omega, by dsimp only; omega, h4⟩
  | false =>
   rw [sD hd]
   refine ⟨?_, ?_, ⟨Int.le_refl _, by show (0 : Int) ≤ 9; omega⟩, fun x hx => ?_⟩
   ·dsimp only
    rw [ByteArray.size_append, ByteArray.size_extract, List.length_append, List.length_singleton]
    omega
   ·dsimp only
    rw [ByteArray.size_append, ByteArray.size_extract]
    omega
   ·rcases List.mem_append.1 hx with hx | hx
    ·exact h4 x hx
    ·rw [List.mem_singleton.1 hx]
     exact h3
theorem oh (p : ByteArray) : (fU p).length = (eG p).size + 1 ∧ (eG p).size ≤ p.size ∧ ∀ k : Nat, 0 ≤ (fU p)[k]?.getD 0 ∧ (fU p)[k]?.getD 0 ≤ 9 := by
 obtain ⟨h1, h2, h3, h4⟩ := pY p p.size (Nat.le_refl _)
 refine ⟨by unfold fU eG; rw [List.length_append, List.length_singleton]; omega, h2, fun k => ?_⟩
 by_cases hk : k < (fU p).length
 ·rw [List.getElem?_eq_getElem hk, Option.getD_some]
  have hm : (fU p)[k] ∈ fU p := List.getElem_mem hk
  rcases List.mem_append.1 hm with hm | hm
  ·exact h4 _ hm
  ·rw [List.mem_singleton.1 hm]; exact h3
 ·rw [List.getElem?_eq_none (by omega)]
  decide
def acP (sz a j : Nat) (lv o : List Int) : List Int := if 1 ≤ a + j ∧ a + j ≤ sz + 1 then o.set (a + j - 1) (if lv[j]?.getD 0 > o[a + j - 1]?.getD 0 then lv[j]?.getD 0 else o[a + j - 1]?.getD 0) else o
def lvJ (sz a : Nat) (lv o : List Int) : Nat → List Int
 | 0 => o
 | j + 1 => acP sz a j lv (lvJ sz a lv o j)
open Classical in
noncomputable def lvA (d : ByteArray) (sz : Nat) (lt : ByteArray) (lv o : List Int) : Nat → List Int
 | 0 => o
 | a + 1 => if d.extract a (a + lt.size) = lt then lvJ sz a lv (lvA d sz lt lv o a) lv.length else lvA d sz lt lv o a
def aqM (w : ByteArray) : ByteArray := (⟨#[46]⟩ ++ w) ++ ⟨#[46]⟩
theorem aaT (w : ByteArray) : (aqM w).size = w.size + 2 := by
 unfold aqM
 rw [ByteArray.size_append, ByteArray.size_append, show (⟨#[46]⟩ : ByteArray).size = 1 from rfl]
 omega
noncomputable def lvP (w : ByteArray) (pats : LS) : Nat → List Int
 | 0 => List.replicate (w.size + 1) 0
 | k + 1 => lvA (aqM w) w.size (eG (pats[k]?.getD .empty)) (fU (pats[k]?.getD .empty)) (lvP w pats k) (w.size + 3 - (eG (pats[k]?.getD .empty)).size)
noncomputable def iO (w : ByteArray) (pats : LS) : List Int := lvP w pats pats.length
def aeV (sz : Nat) (o : List Int) : Prop := o.length = sz + 1 ∧ ∀ k : Nat, 0 ≤ o[k]?.getD 0 ∧ o[k]?.getD 0 ≤ 9
theorem aeV.set {sz a j : Nat} {lv o : List Int} (h : aeV sz o) (hl : ∀ k : Nat, 0 ≤ lv[k]?.getD 0 ∧ lv[k]?.getD 0 ≤ 9) : aeV sz (acP sz a j lv o) := by
 unfold acP
 split
 ·rename_i hc
  refine ⟨by rw [List.length_set]; exact h.1, fun k => ?_⟩
  have h1 := h.2 (a + j - 1)
  have h2 := hl j
  have h3 := h.2 k
  have h4 := h.1
  by_cases hk : a + j - 1 = k
  ·subst hk
   rw [List.getElem?_set_self (by omega), Option.getD_some]
   split <;> omega
  ·rw [List.getElem?_set_ne hk]
   exact h3
 ·exact h
theorem aeV.lvJ {sz a : Nat} {lv o : List Int} (h : aeV sz o) (hl : ∀ k : Nat, 0 ≤ lv[k]?.getD 0 ∧ lv[k]?.getD 0 ≤ 9) : ∀ j, aeV sz (lvJ sz a lv o j)
 | 0 => h
 | j + 1 => (aeV.lvJ h hl j).set hl
theorem aeV.lvA {d lt : ByteArray} {sz : Nat} {lv o : List Int} (h : aeV sz o) (hl : ∀ k : Nat, 0 ≤ lv[k]?.getD 0 ∧ lv[k]?.getD 0 ≤ 9) : ∀ a, aeV sz (lvA d sz lt lv o a)
 | 0 => h
 | a + 1 => by
  unfold Go.Proofs.YtngcedklbinhjaaGreatDoor.lvA
  split
  ·exact (aeV.lvA h hl a).lvJ hl _
  ·exact aeV.lvA h hl a
theorem aac (w : ByteArray) (pats : LS) : ∀ k, aeV w.size (lvP w pats k)
 | 0 => ⟨by simp [lvP], fun k => by
  unfold lvP
  rw [List.getElem?_replicate]
  split <;> decide⟩
 | k + 1 => (aac w pats k).lvA (oh _).2.2 _
def plB (sz : Nat) (lv : List Int) (k : Nat) : Bool := decide (2 ≤ k ∧ k + 3 ≤ sz ∧ lv[k]?.getD 0 % 2 = 1)
def plK (sz : Nat) (lv : List Int) (k : Nat) : List Int := ((List.range k).filter (plB sz lv)).map fun k : Nat => (k : Int)
theorem acd {sz : Nat} {lv : List Int} {k : Nat} (h : plB sz lv k = true) : plK sz lv (k + 1) = plK sz lv k ++ [(k : Int)] := by
 simp [plK, List.range_succ, List.filter_append, h]
theorem wF {sz : Nat} {lv : List Int} {k : Nat} (h : plB sz lv k = false) : plK sz lv (k + 1) = plK sz lv k := by
 simp [plK, List.range_succ, List.filter_append, h]
theorem apB {sz : Nat} {lv : List Int} : plK sz lv 2 = [] := by
 rw [wF (by simp [plB]), wF (by simp [plB])]
 rfl
theorem aer {sz : Nat} {lv : List Int} {k : Nat} (h : sz < k + 3) : ∀ n, plK sz lv (k + n) = plK sz lv k
 | 0 => rfl
 | n + 1 => by
  rw [← Nat.add_assoc, wF (by simp [plB]; omega), aer h n]
theorem amO {sz : Nat} {lv : List Int} {k : Nat} (h : sz < 5) : plK sz lv k = [] := by
 unfold plK
 rw [List.filter_eq_nil_iff.2 fun x _ => by simp [plB]; omega]
 rfl
noncomputable def kR (w : ByteArray) (pats : LS) : List Int := plK w.size (iO w pats) (w.size + 1)
theorem ain {sz : Nat} {lv : List Int} {k : Nat} : ∀ x ∈ plK sz lv k, 2 ≤ x ∧ x + 3 ≤ sz ∧ x < k := fun x hx => by
 obtain ⟨n, hn, rfl⟩ := List.mem_map.1 hx
 obtain ⟨h1, h2⟩ := List.mem_filter.1 hn
 have h3 := List.mem_range.1 h1
 have h4 := of_decide_eq_true h2
 omega
theorem ac0 (sz : Nat) (lv : List Int) : ∀ k, (plK sz lv k).Pairwise (· < ·)
 | 0 => List.Pairwise.nil
 | k + 1 => by
  cases h : plB sz lv k with
  | true =>
   rw [acd h, List.pairwise_append]
   refine ⟨ac0 sz lv k, List.pairwise_singleton _ _, fun a ha b hb => ?_⟩
   rw [List.mem_singleton.1 hb]
   exact (ain a ha).2.2
  | false =>
   rw [wF h]
   exact ac0 sz lv k
theorem agX (sz : Nat) (lv : List Int) (k : Nat) : (plK sz lv k).length ≤ k := by
 unfold plK
 rw [List.length_map]
 exact Nat.le_trans (List.length_filter_le _ _) (by simp)
def frK (pl : List Int) (k : Nat) : Int := if k = 0 then 0 else pl[k - 1]?.getD 0
def ptF (w : ByteArray) (pl : List Int) : Nat → LS
 | 0 => []
 | k + 1 => ptF w pl k ++ [w.extract (frK pl k).toNat (pl[k]?.getD 0).toNat]
def ptR (w : ByteArray) (pl : List Int) : LS := ptF w pl pl.length ++ [w.extract (frK pl pl.length).toNat w.size]
noncomputable def aaW (w : ByteArray) (pats : LS) : LS := ptR w (kR w pats)
theorem xV (w : ByteArray) (pl : List Int) : ∀ k, (ptF w pl k).length = k
 | 0 => rfl
 | k + 1 => by rw [ptF, List.length_append, xV w pl k]; rfl
def atw (w : ByteArray) (pl : List Int) : Prop := pl.length ≤ 20 ∧ ∀ k, k < pl.length → frK pl k < pl[k]?.getD 0 ∧ pl[k]?.getD 0 < w.size
theorem rY (pl : List Int) (k : Nat) : frK pl (k + 1) = pl[k]?.getD 0 := by
 unfold frK
 rw [if_neg (by omega)]
 rfl
theorem nK {w : ByteArray} {pl : List Int} (h : atw w pl) (hw : 1 ≤ w.size) : ∀ k, k ≤ pl.length → 0 ≤ frK pl k ∧ frK pl k < w.size
 | 0, _ => by simp [frK]; omega
 | k + 1, hk => by
  have h1 := nK h hw k (by omega)
  have h2 := h.2 k (by omega)
  rw [rY]
  omega
theorem lV {w : ByteArray} {pats : LS} (hw : eB w = true) : atw w (kR w pats) := by
 obtain ⟨-, w1, w2⟩ := aW hw
 have ha := ac0 w.size (iO w pats) (w.size + 1)
 have hm := @ain w.size (iO w pats) (w.size + 1)
 refine ⟨?_, fun k hk => ?_⟩
 ·unfold kR plK
  rw [List.length_map]
  have : ((List.range (w.size + 1)).filter (plB w.size (iO w pats))).length ≤ ((List.range (w.size + 1)).filter (fun k => decide (k < w.size))).length := by
   rw [← List.countP_eq_length_filter, ← List.countP_eq_length_filter]
   refine List.countP_mono_left fun x _ hx => ?_
   have := of_decide_eq_true hx
   exact decide_eq_true (by omega)
  have h2 : ((List.range (w.size + 1)).filter (fun k => decide (k < w.size))).length ≤ w.size := by
   rw [List.range_succ, List.filter_append]
   have h3 := List.length_filter_le (fun k => decide (k < w.size)) (List.range w.size)
   rw [List.length_range] at h3
   simp
   omega
  omega
 ·unfold kR at hk ⊢
  generalize plK w.size (iO w pats) (w.size + 1) = pl at *
  rw [List.getElem?_eq_getElem hk, Option.getD_some]
  have h1 := hm _ (List.getElem_mem hk)
  refine ⟨?_, by omega⟩
  unfold frK
  split
  ·omega
  ·rename_i h0
   rw [List.getElem?_eq_getElem (show k - 1 < pl.length by omega), Option.getD_some]
   exact List.pairwise_iff_getElem.1 ha (k - 1) k (by omega) hk (by omega)
theorem zJ {w : ByteArray} {a b : Nat} (hw : eB w = true) (h1 : a < b) (h2 : b ≤ w.size) : eB (w.extract a b) = true := by
 obtain ⟨l1, l2, l3⟩ := aW hw
 have hs : (w.extract a b).size = b - a := by rw [ByteArray.size_extract]; omega
 rw [tu fun j hj => ?_, hs]
 ·exact aj.2 ⟨by omega, by omega⟩
 ·rw [agW (by omega) h2]
  exact l1 _ (by omega)
theorem adr {w : ByteArray} {pl : List Int} (hw : eB w = true) (h : atw w pl) : ∀ k, k ≤ pl.length → ∀ x ∈ ptF w pl k, eB x = true
 | 0, _ => by simp [ptF]
 | k + 1, hk => fun x hx => by
  rw [ptF] at hx
  rcases List.mem_append.1 hx with hx | hx
  ·exact adr hw h k (by omega) x hx
  ·rw [List.mem_singleton.1 hx]
   have h1 := h.2 k (by omega)
   have h2 := nK h (aW hw).2.1 k (by omega)
   exact zJ hw (by omega) (by omega)
theorem akS {w : ByteArray} {pl : List Int} (hw : eB w = true) (h : atw w pl) : ∀ x ∈ ptR w pl, eB x = true := fun x hx => by
 rcases List.mem_append.1 hx with hx | hx
 ·exact adr hw h _ (Nat.le_refl _) x hx
 ·rw [List.mem_singleton.1 hx]
  have h2 := nK h (aW hw).2.1 _ (Nat.le_refl _)
  exact zJ hw (by omega) (Nat.le_refl _)
theorem agD (w : ByteArray) (pl : List Int) : (ptR w pl).length = pl.length + 1 := by
 unfold ptR
 rw [List.length_append, xV]
 rfl
def xk (l : LS) : List UInt8 := l.flatMap fun s => s.data.toList
theorem ad5 (l l' : LS) : xk (l ++ l') = xk l ++ xk l' := by simp [xk]
theorem ext_list (w : ByteArray) (a b : Nat) : (w.extract a b).data.toList = (w.data.toList.take b).drop a := by
 rw [ByteArray.data_extract, Array.toList_extract, List.extract_eq_drop_take, List.drop_take]
theorem aiH {w : ByteArray} {pl : List Int} (h : atw w pl) (hw : 1 ≤ w.size) : ∀ k, k ≤ pl.length → xk (ptF w pl k) = w.data.toList.take (frK pl k).toNat
 | 0, _ => by simp [ptF, xk, frK]
 | k + 1, hk => by
  have h1 := h.2 k (by omega)
  have h2 := nK h hw k (by omega)
  rw [ptF, ad5, aiH h hw k (by omega), rY]
  show _ ++ xk [_] = _
  rw [show xk [w.extract (frK pl k).toNat (pl[k]?.getD 0).toNat] = (w.extract (frK pl k).toNat (pl[k]?.getD 0).toNat).data.toList by simp [xk], ext_list]
  have e : w.data.toList.take (frK pl k).toNat = (w.data.toList.take (pl[k]?.getD 0).toNat).take (frK pl k).toNat := by
   rw [List.take_take, Nat.min_eq_left (by omega)]
  rw [e, List.take_append_drop]
theorem asJ {w : ByteArray} {pl : List Int} (h : atw w pl) (hw : 1 ≤ w.size) : xk (ptR w pl) = w.data.toList := by
 have h2 := nK h hw _ (Nat.le_refl _)
 unfold ptR
 rw [ad5, aiH h hw _ (Nat.le_refl _), show xk [w.extract (frK pl pl.length).toNat w.size] = (w.extract (frK pl pl.length).toNat w.size).data.toList by simp [xk], ext_list]
 have e : w.data.toList.take w.size = w.data.toList := List.take_of_length_le (by rw [Array.length_toList]; exact Nat.le_refl _)
 rw [e, List.take_append_drop]
end Go.Proofs.YtngcedklbinhjaaGreatDoor
namespace Go.Proofs.YtngcedklbinhjaaGreatDoor
open Go.RowKit
set_option linter.all false
abbrev pvS (s : ByteArray) : PV := .val (.string s)
noncomputable def φSg : Fun := F1 dS fun s => if eB s = true then some (.lst true 1 ((signs s).map fun s => .val (.string s))) else none
theorem ao1 {s : ByteArray} (h : eB s = true) : φSg [.val (.string s)] = some (.lst true 1 ((signs s).map fun s => .val (.string s))) := (jM (A := dS) s).trans (if_pos h)
def ael (s : ByteArray) : LS := if eB s = true then signs s else []
def aiM : Fun := F1 dS fun s => if s.size ≤ 1048576 then some (.lst true 1 ((ael s).map fun s => .val (.string s))) else none
theorem alg {s : ByteArray} (h : s.size ≤ 1048576) : aiM [.val (.string s)] = some (.lst true 1 ((ael s).map fun s => .val (.string s))) := (jM (A := dS) s).trans (if_pos h)
noncomputable def GSg : Ctx := { fn := fun f => if f = 96 then some ug else none, io := fun f => none }
theorem ayy : aA Tryz.prog GSg := ⟨(fun f φ h => by
 unfold GSg at h
 dsimp only at h
 split at h
 ·rename_i hf; cases h; subst hf; exact ⟨⟨_, Tryz.func96, rfl, rfl⟩, zo⟩
 cases h), (fun f φ h => by
 unfold GSg at h
 dsimp only at h
 cases h), rfl⟩
theorem ax9 (ob : aF) (ps : List PV) : ah GSg ob 96 ps = (ps.mapM (reify false 0 ob fuel)).bind ug := by
 have h : GSg.fn 96 = some ug := by simp [GSg]
 unfold ah
 rw [h]
 cases ps.mapM (reify false 0 ob fuel) <;> rfl
set_option maxHeartbeats 8000000 in
theorem aix : Sound Tryz.prog 70 φSg := by
 refine ay mixed ayy Tryz.func70 rfl 38 rfl [.tmp 2] rfl (by kernel_rfl) fun ps r hr => ?_
 obtain ⟨s, rfl, hq⟩ := bY hr
 clear hr
 split at hq
 case isFalse => cases hq
 case isTrue hpre =>
 cases hq
 refine ⟨by simp, ?_⟩
 simp only [dIs, dUs, dSs, eX, fq, eT, fE, bS, fA, bO, bP, bR, bQ]
 obtain ⟨-, hs1, hs2⟩ := aW hpre
 have hsg1 := (oF hpre).2.1
 have apj := fun i => afz (iM s i) (iM s (i + 1))
 have hI0 : [] ++ sgF s s.size 0 = signs s := rfl
 replace hI0 := Lib.hid hI0
 generalize signs s = R at *
 clear hpre
 have gsg_c96 := ax9
 (refine wlk ?_; intros)
 refine aT (α := Nat × Nat × LS × Nat × Nat) mixed (fun z => [(0, .val (.string s)), (3, nP 1 (z.2.2.1.map pvS) z.2.2.2.1), (4, iv z.2.1)])
  (fun z => nO 9 1 (z.2.2.1.map pvS) z.2.2.2.1) (fun z => z.2.2.2.2)
  (fun z => z.2.2.1 ++ sgF s z.1 z.2.1 = R ∧ s.size ≤ z.2.1 + z.1 ∧ z.2.1 ≤ s.size ∧ z.2.2.1.length ≤ z.2.1 ∧ (0 < z.2.2.1.length → z.2.2.2.1 < z.2.2.2.2)) (fun z => z.1) (by kernel_rfl) (s.size, 0, [], 0, 0) ⟨hI0.out, by simp, by simp, by simp, by simp⟩ ?_ ?_ rfl ?_
 ·exact agr
 ·exact agr
 rintro ⟨f, i, out, x, y⟩ ⟨hI, hf, hi, ho, hxy⟩
 dsimp only at hI hf hi ho hxy
 clear hI0
 by_cases h0 : i < s.size
 ·cases f with
  | zero => omega
  | succ f =>
  rw [rZ h0] at hI
  have hI2 : (out ++ [s.extract i (i + sgN s i)]) ++ sgF s f (i + sgN s i) = R := by rw [List.append_assoc]; exact hI
  clear hI
  replace apj := apj i
  by_cases hj : i + 1 < s.size ∧ qh (at8 s i) (at8 s (i + 1)) = true
  ·have hn : sgN s i = 2 := if_pos hj
   rw [hn] at hI2
   replace hI2 := Lib.hid hI2
   obtain ⟨hj1, hj2⟩ := hj
   rw [hj2] at apj
   have e3 : ((i : Int) + 2).toNat = i + 2 := by omega
   clear hn
   by_cases hz : out.length = 0
   ·obtain rfl : out = [] := List.eq_nil_of_length_eq_zero hz
    (refine wlk ?_; intros)
    refine ⟨(f, i + 2, [] ++ [s.extract i (i + 2)], y + 1, y + 2), ⟨hI2.out, by dsimp only; omega, by dsimp only; omega, by simp, fun _ => by dsimp only; omega⟩, by dsimp only; omega, ?_, ?_, rfl⟩
    ·exact agi
    ·exact agr
   ·have hxy := hxy (by omega)
    have hap : 0 < (out.map pvS).length := by rw [List.length_map]; omega
    clear hz
    have hap3 : 0 < ((out ++ [s.extract i (i + 2)]).map pvS).length := by simp
    simp only [aS hap, aU hap, List.length_map]
    (refine wlk ?_; intros)
    refine ⟨(f, i + 2, out ++ [s.extract i (i + 2)], y + 1, y + 2), ⟨hI2.out, by dsimp only; omega, by dsimp only; omega, by simp; omega, fun _ => by dsimp only; omega⟩, by dsimp only; omega, ?_, ?_, rfl⟩
    ·simp (disch := (first | omega | (simp only [push_cast]; first | done | omega))) only [push_cast, ↓reduceIte, Nat.reduceEqDiff, Nat.reduceBEq, Nat.reduceAdd, Nat.reduceSub, Int.reduceToNat, aS hap3, List.length_append, *]
     try exact congrArg (fun z => PV.val (Value.int IntKind.i64 z)) (by omega)
    ·simp (disch := (first | omega | (simp only [push_cast]; first | done | omega))) only [push_cast, ↓reduceIte, Nat.reduceEqDiff, Nat.reduceBEq, Nat.reduceAdd, Nat.reduceSub, Int.reduceToNat, aU hap3, *]
  ·have hn : sgN s i = 1 := if_neg hj
   rw [hn] at hI2
   replace hI2 := Lib.hid hI2
   clear hn
   have hj3 : i + 1 < s.size → qh (at8 s i) (at8 s (i + 1)) = false := fun h => by
    cases hq : qh (at8 s i) (at8 s (i + 1)) with
    | false => rfl
    | true => exact absurd ⟨h, hq⟩ hj
   clear hj
   by_cases hz : out.length = 0
   ·obtain rfl : out = [] := List.eq_nil_of_length_eq_zero hz
    by_cases h1 : i + 1 < s.size
    ·rw [hj3 h1] at apj
     clear hj3
     (refine wlk ?_; intros)
     refine ⟨(f, i + 1, [] ++ [s.extract i (i + 1)], y + 1, y + 2), ⟨hI2.out, by dsimp only; omega, by dsimp only; omega, by simp, fun _ => by dsimp only; omega⟩, by dsimp only; omega, ?_, ?_, rfl⟩
     ·exact agr
     ·exact agr
    ·clear hj3
     (refine wlk ?_; intros)
     refine ⟨(f, i + 1, [] ++ [s.extract i (i + 1)], y + 1, y + 2), ⟨hI2.out, by dsimp only; omega, by dsimp only; omega, by simp, fun _ => by dsimp only; omega⟩, by dsimp only; omega, ?_, ?_, rfl⟩
     ·exact agr
     ·exact agr
   ·have hxy := hxy (by omega)
    have hap : 0 < (out.map pvS).length := by rw [List.length_map]; omega
    clear hz
    have hap3 : 0 < ((out ++ [s.extract i (i + 1)]).map pvS).length := by simp
    simp only [aS hap, aU hap, List.length_map]
    by_cases h1 : i + 1 < s.size
    ·rw [hj3 h1] at apj
     clear hj3
     (refine wlk ?_; intros)
     refine ⟨(f, i + 1, out ++ [s.extract i (i + 1)], y + 1, y + 2), ⟨hI2.out, by dsimp only; omega, by dsimp only; omega, by simp; omega, fun _ => by dsimp only; omega⟩, by dsimp only; omega, ?_, ?_, rfl⟩
     ·simp (disch := (first | omega | (simp only [push_cast]; first | done | omega))) only [push_cast, ↓reduceIte, Nat.reduceEqDiff, Nat.reduceBEq, Nat.reduceAdd, Nat.reduceSub, Int.reduceToNat, aS hap3, List.length_append, *]
      try exact congrArg (fun z => PV.val (Value.int IntKind.i64 z)) (by omega)
     ·simp (disch := (first | omega | (simp only [push_cast]; first | done | omega))) only [push_cast, ↓reduceIte, Nat.reduceEqDiff, Nat.reduceBEq, Nat.reduceAdd, Nat.reduceSub, Int.reduceToNat, aU hap3, *]
    ·clear hj3
     (refine wlk ?_; intros)
     refine ⟨(f, i + 1, out ++ [s.extract i (i + 1)], y + 1, y + 2), ⟨hI2.out, by dsimp only; omega, by dsimp only; omega, by simp; omega, fun _ => by dsimp only; omega⟩, by dsimp only; omega, ?_, ?_, rfl⟩
     ·simp (disch := (first | omega | (simp only [push_cast]; first | done | omega))) only [push_cast, ↓reduceIte, Nat.reduceEqDiff, Nat.reduceBEq, Nat.reduceAdd, Nat.reduceSub, Int.reduceToNat, aS hap3, List.length_append, *]
      try exact congrArg (fun z => PV.val (Value.int IntKind.i64 z)) (by omega)
     ·simp (disch := (first | omega | (simp only [push_cast]; first | done | omega))) only [push_cast, ↓reduceIte, Nat.reduceEqDiff, Nat.reduceBEq, Nat.reduceAdd, Nat.reduceSub, Int.reduceToNat, aU hap3, *]
 ·rw [abO (by omega), List.append_nil] at hI
  subst hI
  have hxy := hxy (by omega)
  have hap : 0 < (out.map pvS).length := by rw [List.length_map]; omega
  simp only [aS hap, aU hap, List.length_map]
  clear apj
  exact wlkF
noncomputable def akO : Ctx := { fn := fun f => if f = 114 then some sO else if f = 58 then some fF else none, io := fun f => none }
theorem ar2 : aA Tryz.prog akO := ⟨(fun f φ h => by
 unfold akO at h
 dsimp only at h
 split at h
 ·rename_i hf; cases h; subst hf; exact ⟨⟨_, Tryz.func114, rfl, rfl⟩, aag⟩
 split at h
 ·rename_i hf; cases h; subst hf; exact ⟨⟨_, Tryz.func58, rfl, rfl⟩, gN⟩
 cases h), (fun f φ h => by
 unfold akO at h
 dsimp only at h
 cases h), rfl⟩
theorem adQ (ob : aF) (ps : List PV) : ah akO ob 114 ps = (ps.mapM (reify false 0 ob fuel)).bind sO := by
 have h : akO.fn 114 = some sO := by simp [akO]
 unfold ah
 rw [h]
 cases ps.mapM (reify false 0 ob fuel) <;> rfl
theorem ajI (ob : aF) (ps : List PV) : ah akO ob 58 ps = (ps.mapM (reify false 0 ob fuel)).bind fF := by
 have h : akO.fn 58 = some fF := by simp [akO]
 unfold ah
 rw [h]
 cases ps.mapM (reify false 0 ob fuel) <;> rfl
set_option maxHeartbeats 8000000 in
theorem aiC : Sound Tryz.prog 98 aiM := by
 refine ay mixed ar2 Tryz.func98 rfl 50 rfl [.tmp 2] rfl (by kernel_rfl) fun ps r hr => ?_
 obtain ⟨s, rfl, hq⟩ := bY hr
 clear hr
 split at hq
 case isFalse => cases hq
 case isTrue hpre =>
 cases hq
 refine ⟨by simp, ?_⟩
 simp only [dIs, dUs, dSs, eX, fq, eT, fE, bS, fA, bO, bP, bR, bQ]
 have apw := iG (s := s) (by omega)
 unfold ael
 cases hw : eB s with
 | false =>
  rw [hw] at apw
  rw [if_neg (by decide)]
  clear hw
  have gsgs_c114 := adQ; have gsgs_c58 := ajI
  (refine wlk ?_; intros)
  refine aT (α := Unit) mixed (fun z => [(0, .val (.string s)), (3, .row 0 1 0 0), (4, iv 0)]) (fun z => [(0, 9, 1, [])]) (fun z => 1) (fun _ => True) (fun _ => 0) (by kernel_rfl) () trivial ?_ ?_ rfl ?_
  ·exact agr
  ·exact agr
  rintro ⟨⟩ -
  exact wlkF
 | true =>
  rw [hw] at apw
  rw [if_pos rfl]
  obtain ⟨-, hs1, hs2⟩ := aW hw
  have apj := fun i => afW (at8 s i) (at8 s (i + 1))
  have hI0 : [] ++ sgF s s.size 0 = signs s := rfl
  replace hI0 := Lib.hid hI0
  generalize signs s = R at *
  clear hpre hw
  have gsgs_c114 := adQ; have gsgs_c58 := ajI
  (refine wlk ?_; intros)
  refine aT (α := Nat × Nat × LS × Nat × Nat) mixed (fun z => [(0, .val (.string s)), (3, .row z.2.2.2.1 1 0 z.2.2.1.length), (4, iv z.2.1)])
   (fun z => [(z.2.2.2.1, 9, 1, z.2.2.1.map pvS)]) (fun z => z.2.2.2.2)
   (fun z => z.2.2.1 ++ sgF s z.1 z.2.1 = R ∧ s.size ≤ z.2.1 + z.1 ∧ z.2.1 ≤ s.size ∧ z.2.2.1.length ≤ z.2.1 ∧ z.2.2.2.1 < z.2.2.2.2) (fun z => z.1) (by kernel_rfl) (s.size, 0, [], 0, 1) ⟨hI0.out, by simp, by simp, by simp, by simp⟩ ?_ ?_ rfl ?_
  ·exact agr
  ·exact agr
  rintro ⟨f, i, out, x, y⟩ ⟨hI, hf, hi, ho, hxy⟩
  dsimp only at hI hf hi ho hxy
  clear hI0
  by_cases h0 : i < s.size
  ·cases f with
   | zero => omega
   | succ f =>
   rw [rZ h0] at hI
   have hI2 : (out ++ [s.extract i (i + sgN s i)]) ++ sgF s f (i + sgN s i) = R := by rw [List.append_assoc]; exact hI
   clear hI
   replace apj := apj i
   by_cases hj : i + 1 < s.size ∧ qh (at8 s i) (at8 s (i + 1)) = true
   ·have hn : sgN s i = 2 := if_pos hj
    rw [hn] at hI2
    replace hI2 := Lib.hid hI2
    obtain ⟨hj1, hj2⟩ := hj
    rw [hj2] at apj
    have e3 : ((i : Int) + 2).toNat = i + 2 := by omega
    clear hn
    (refine wlk ?_; intros)
    refine ⟨(f, i + 2, out ++ [s.extract i (i + 2)], y + 1, y + 2), ⟨hI2.out, by dsimp only; omega, by dsimp only; omega, by simp; omega, by dsimp only; omega⟩, by dsimp only; omega, ?_, ?_, rfl⟩
    ·exact agi
    ·exact agr
   ·have hn : sgN s i = 1 := if_neg hj
    rw [hn] at hI2
    replace hI2 := Lib.hid hI2
    clear hn
    have hj3 : i + 1 < s.size → qh (at8 s i) (at8 s (i + 1)) = false := fun h => by
     cases hq : qh (at8 s i) (at8 s (i + 1)) with
     | false => rfl
     | true => exact absurd ⟨h, hq⟩ hj
    clear hj
    by_cases h1 : i + 1 < s.size
    ·rw [hj3 h1] at apj
     clear hj3
     (refine wlk ?_; intros)
     refine ⟨(f, i + 1, out ++ [s.extract i (i + 1)], y + 1, y + 2), ⟨hI2.out, by dsimp only; omega, by dsimp only; omega, by simp; omega, by dsimp only; omega⟩, by dsimp only; omega, ?_, ?_, rfl⟩
     ·exact agr
     ·exact agr
    ·clear hj3
     (refine wlk ?_; intros)
     refine ⟨(f, i + 1, out ++ [s.extract i (i + 1)], y + 1, y + 2), ⟨hI2.out, by dsimp only; omega, by dsimp only; omega, by simp; omega, by dsimp only; omega⟩, by dsimp only; omega, ?_, ?_, rfl⟩
     ·exact agr
     ·exact agr
  ·rw [abO (by omega), List.append_nil] at hI
   subst hI
   clear apj
   exact wlkF
def φWw : Fun := F1 dS fun s => if s.size ≤ 1048576 then some (iv (nR s)) else none
theorem abm {s : ByteArray} (h : s.size ≤ 1048576) : φWw [.val (.string s)] = some (.val (.int .i64 (nR s))) := (jM (A := dS) s).trans (if_pos h)
noncomputable def abZ : Ctx := { fn := fun f => if f = 67 then some fF else if f = 70 then some φSg else if f = 71 then some uL else if f = 72 then some sS else none, io := fun f => none }
theorem arZ : aA Tryz.prog abZ := ⟨(fun f φ h => by
 unfold abZ at h
 dsimp only at h
 split at h
 ·rename_i hf; cases h; subst hf; exact ⟨⟨_, Tryz.func67, rfl, rfl⟩, gM⟩
 split at h
 ·rename_i hf; cases h; subst hf; exact ⟨⟨_, Tryz.func70, rfl, rfl⟩, aix⟩
 split at h
 ·rename_i hf; cases h; subst hf; exact ⟨⟨_, Tryz.func71, rfl, rfl⟩, ach⟩
 split at h
 ·rename_i hf; cases h; subst hf; exact ⟨⟨_, Tryz.func72, rfl, rfl⟩, abr⟩
 cases h), (fun f φ h => by
 unfold abZ at h
 dsimp only at h
 cases h), rfl⟩
theorem ahJ (ob : aF) (ps : List PV) : ah abZ ob 67 ps = (ps.mapM (reify false 0 ob fuel)).bind fF := by
 have h : abZ.fn 67 = some fF := by simp [abZ]
 unfold ah
 rw [h]
 cases ps.mapM (reify false 0 ob fuel) <;> rfl
theorem ajq (ob : aF) (ps : List PV) : ah abZ ob 70 ps = (ps.mapM (reify false 0 ob fuel)).bind φSg := by
 have h : abZ.fn 70 = some φSg := by simp [abZ]
 unfold ah
 rw [h]
 cases ps.mapM (reify false 0 ob fuel) <;> rfl
theorem ahe (ob : aF) (ps : List PV) : ah abZ ob 71 ps = (ps.mapM (reify false 0 ob fuel)).bind uL := by
 have h : abZ.fn 71 = some uL := by simp [abZ]
 unfold ah
 rw [h]
 cases ps.mapM (reify false 0 ob fuel) <;> rfl
theorem ahQ (ob : aF) (ps : List PV) : ah abZ ob 72 ps = (ps.mapM (reify false 0 ob fuel)).bind sS := by
 have h : abZ.fn 72 = some sS := by simp [abZ]
 unfold ah
 rw [h]
 cases ps.mapM (reify false 0 ob fuel) <;> rfl
set_option maxHeartbeats 16000000 in
theorem ai6 : Sound Tryz.prog 45 φWw := by
 refine ay mixed arZ Tryz.func45 rfl 58 rfl [.tmp 2] rfl (by kernel_rfl) fun ps r hr => ?_
 obtain ⟨s, rfl, hq⟩ := bY hr
 clear hr
 split at hq
 case isFalse => cases hq
 case isTrue hpre =>
 cases hq
 refine ⟨by simp, ?_⟩
 simp only [dIs, dUs, dSs, eX, fq, eT, fE, bS, fA, bO, bP, bR, bQ]
 have apw := iG (s := s) (by omega)
 unfold nR
 cases hw : eB s with
 | false =>
  rw [hw] at apw
  rw [if_neg (by decide)]
  clear hw
  have gwwi_c67 := ahJ; have gwwi_c70 := ajq; have gwwi_c71 := ahe; have gwwi_c72 := ahQ
  exact wlkF
 | true =>
  rw [hw] at apw
  rw [if_pos rfl]
  have aps := ao1 hw
  have hat := fun k hk => wX hw (k := k) hk
  have hlen := (oF hw).2
  have hrg := yO hat
  generalize signs s = g at *
  clear hw hpre
  have gwwi_c67 := ahJ; have gwwi_c70 := ajq; have gwwi_c71 := ahe; have gwwi_c72 := ahQ
  (refine wlk ?_; intros)
  refine aT (α := Nat) mixed (fun k => [(3, iv (wdK g k)), (4, .lst true 1 (g.map pvS)), (13, .lst true 1 (g.map pvS)), (14, iv g.length), (15, iv k)]) (fun _ => []) (fun _ => 0)
   (fun k => k ≤ g.length) (fun k => g.length - k) (by kernel_rfl) 0 (Nat.zero_le _) ?_ ?_ rfl ?_
  ·simp only [push_cast, ↓reduceIte, Nat.reduceEqDiff, Nat.reduceBEq, Nat.reduceAdd, Nat.reduceSub, Int.reduceToNat, wdK]
  ·exact agr
  intro k hk
  have hrk := hrg k hk
  by_cases hkl : k < g.length
  ·have hsg := hat k hkl
   have hnx := fun h => hat (k + 1) h
   have hfl := adp hsg
   have hsn : wdK g (k + 1) = wdK g k + sgW (g[k]?.getD .empty) (g[k]?.getD .empty).size - ((g[k]?.getD .empty).size - 1) - yt g k := rfl
   have hne : yt g k = if k + 1 < g.length then ow (at8 (g[k]?.getD .empty) ((g[k]?.getD .empty).size - 1)) (at8 (g[k + 1]?.getD .empty) 0) else 0 := rfl
   replace hsn := Lib.hid hsn
   replace hne := Lib.hid hne
   clear hat hrg
   generalize hx9 : g[k]?.getD ByteArray.empty = x at *
   obtain ⟨hx1, hx2, -⟩ := hsg
   generalize hw9 : wdK g k = w9 at *
   (refine wlk ?_; intros)
   refine aT (α := Nat) mixed (fun j => [(3, iv (w9 + sgW x j)), (4, .lst true 1 (g.map pvS)), (13, .lst true 1 (g.map pvS)), (14, iv g.length), (15, iv k), (5, iv k), (6, .val (.string x)), (21, iv x.size), (22, iv j)]) (fun _ => []) (fun _ => 0)
    (fun j => j ≤ x.size) (fun j => x.size - j) (by kernel_rfl) 0 (Nat.zero_le _) ?_ ?_ rfl ?_
   ·simp (disch := (first | omega | (simp only [push_cast]; first | done | omega))) only [push_cast, ↓reduceIte, Nat.reduceEqDiff, Nat.reduceBEq, Nat.reduceAdd, Nat.reduceSub, Int.reduceToNat, sgW, Int.add_zero, *]
   ·exact agr
   intro j hj
   have hfj := hfl j hj
   have apl := afU (iM x j)
   have hlw := yJ (at8 x j)
   have hsj : sgW x (j + 1) = sgW x j + aa4 (at8 x j) := rfl
   replace hsj := Lib.hid hsj
   by_cases hjl : j < x.size
   ·clear hfl hnx
    generalize aa4 (at8 x j) = lw at *
    (refine wlk ?_; intros)
    refine ⟨j + 1, by omega, by dsimp only; omega, ?_, ?_, rfl⟩
    ·dsimp only
     rw [hsj.out, ← Int.add_assoc]
     exact agr
    ·exact agr
   ·obtain rfl : j = x.size := by omega
    clear apl hlw hsj hfl
    by_cases h1 : k + 1 < g.length
    ·have hn1 := hnx h1
     clear hnx
     obtain ⟨hy1, -, -⟩ := hn1
     have apn := afP (iM x (x.size - 1)) (iM (g[k + 1]?.getD .empty) 0)
     have hnr := tT (at8 x (x.size - 1)) (at8 (g[k + 1]?.getD .empty) 0)
     have hne := hne.out
     rw [if_pos h1] at hne
     have hsn := hsn.out
     rw [hne] at hsn
     replace hsn := Lib.hid hsn
     clear hne
     generalize ow (at8 x (x.size - 1)) (at8 (g[k + 1]?.getD .empty) 0) = nr at *
     generalize sgW x x.size = sw at *
     (refine wlk ?_; intros)
     refine ⟨k + 1, by omega, by dsimp only; omega, ?_, ?_, rfl⟩
     ·dsimp only
      rw [hsn.out]
      exact agr
     ·exact agr
    ·have hne := hne.out
     rw [if_neg h1] at hne
     have hsn := hsn.out
     rw [hne, Int.sub_zero] at hsn
     replace hsn := Lib.hid hsn
     clear hne hnx
     generalize sgW x x.size = sw at *
     (refine wlk ?_; intros)
     refine ⟨k + 1, by omega, by dsimp only; omega, ?_, ?_, rfl⟩
     ·dsimp only
      rw [hsn.out]
      exact agr
     ·exact agr
  ·obtain rfl : k = g.length := by omega
   clear hat hrg
   generalize wdK g g.length = w9 at *
   exact wlkF
noncomputable def agh : Ctx := { fn := fun f => if f = 98 then some aiM else if f = 99 then some aar else if f = 100 then some aal else none, io := fun f => none }
theorem aov : aA Tryz.prog agh := ⟨(fun f φ h => by
 unfold agh at h
 dsimp only at h
 split at h
 ·rename_i hf; cases h; subst hf; exact ⟨⟨_, Tryz.func98, rfl, rfl⟩, aiC⟩
 split at h
 ·rename_i hf; cases h; subst hf; exact ⟨⟨_, Tryz.func99, rfl, rfl⟩, acW⟩
 split at h
 ·rename_i hf; cases h; subst hf; exact ⟨⟨_, Tryz.func100, rfl, rfl⟩, abP⟩
 cases h), (fun f φ h => by
 unfold agh at h
 dsimp only at h
 cases h), rfl⟩
theorem ajl (ob : aF) (ps : List PV) : ah agh ob 98 ps = (ps.mapM (reify false 0 ob fuel)).bind aiM := by
 have h : agh.fn 98 = some aiM := by simp [agh]
 unfold ah
 rw [h]
 cases ps.mapM (reify false 0 ob fuel) <;> rfl
theorem ajY (ob : aF) (ps : List PV) : ah agh ob 99 ps = (ps.mapM (reify false 0 ob fuel)).bind aar := by
 have h : agh.fn 99 = some aar := by simp [agh]
 unfold ah
 rw [h]
 cases ps.mapM (reify false 0 ob fuel) <;> rfl
theorem aef (ob : aF) (ps : List PV) : ah agh ob 100 ps = (ps.mapM (reify false 0 ob fuel)).bind aal := by
 have h : agh.fn 100 = some aal := by simp [agh]
 unfold ah
 rw [h]
 cases ps.mapM (reify false 0 ob fuel) <;> rfl
set_option maxHeartbeats 16000000 in
theorem ajr : Sound Tryz.prog 77 φWw := by
 refine ay mixed aov Tryz.func77 rfl 70 rfl [.tmp 2] rfl (by kernel_rfl) fun ps r hr => ?_
 obtain ⟨s, rfl, hq⟩ := bY hr
 clear hr
 split at hq
 case isFalse => cases hq
 case isTrue hpre =>
 cases hq
 refine ⟨by simp, ?_⟩
 simp only [dIs, dUs, dSs, eX, fq, eT, fE, bS, fA, bO, bP, bR, bQ]
 have aps := alg (s := s) hpre
 unfold nR
 unfold ael at aps
 cases hw : eB s with
 | false =>
  rw [hw, if_neg (by decide)] at aps
  rw [if_neg (by decide)]
  clear hw
  have gwws_c98 := ajl; have gwws_c99 := ajY; have gwws_c100 := aef
  exact wlkF
 | true =>
  rw [hw, if_pos rfl] at aps
  rw [if_pos rfl]
  have hat := fun k hk => wX hw (k := k) hk
  have hlen := (oF hw).2
  have hrg := yO hat
  generalize signs s = g at *
  clear hw hpre
  have gwws_c98 := ajl; have gwws_c99 := ajY; have gwws_c100 := aef
  (refine wlk ?_; intros)
  refine aT (α := Nat) mixed (fun k => [(3, .lst true 1 (g.map pvS)), (4, iv (wdK g k)), (5, iv k)]) (fun _ => []) (fun _ => 0)
   (fun k => k ≤ g.length) (fun k => g.length - k) (by kernel_rfl) 0 (Nat.zero_le _) ?_ ?_ rfl ?_
  ·simp only [push_cast, ↓reduceIte, Nat.reduceEqDiff, Nat.reduceBEq, Nat.reduceAdd, Nat.reduceSub, Int.reduceToNat, wdK]
  ·exact agr
  intro k hk
  have hrk := hrg k hk
  by_cases hkl : k < g.length
  ·have hsg := hat k hkl
   have hnx := fun h => hat (k + 1) h
   have hfl := adp hsg
   have hsn : wdK g (k + 1) = wdK g k + sgW (g[k]?.getD .empty) (g[k]?.getD .empty).size - ((g[k]?.getD .empty).size - 1) - yt g k := rfl
   have hne : yt g k = if k + 1 < g.length then ow (at8 (g[k]?.getD .empty) ((g[k]?.getD .empty).size - 1)) (at8 (g[k + 1]?.getD .empty) 0) else 0 := rfl
   replace hsn := Lib.hid hsn
   replace hne := Lib.hid hne
   clear hat hrg
   generalize hx9 : g[k]?.getD ByteArray.empty = x at *
   obtain ⟨hx1, hx2, -⟩ := hsg
   generalize hw9 : wdK g k = w9 at *
   (refine wlk ?_; intros)
   refine aT (α := Nat) mixed (fun j => [(3, .lst true 1 (g.map pvS)), (4, iv (w9 + sgW x j)), (5, iv k), (6, iv j)]) (fun _ => []) (fun _ => 0)
    (fun j => j ≤ x.size) (fun j => x.size - j) (by kernel_rfl) 0 (Nat.zero_le _) ?_ ?_ rfl ?_
   ·simp (disch := (first | omega | (simp only [push_cast]; first | done | omega))) only [push_cast, ↓reduceIte, Nat.reduceEqDiff, Nat.reduceBEq, Nat.reduceAdd, Nat.reduceSub, Int.reduceToNat, sgW, Int.add_zero, *]
   ·exact agr
   intro j hj
   have hfj := hfl j hj
   have apl := aje (at8 x j)
   have hlw := yJ (at8 x j)
   have hsj : sgW x (j + 1) = sgW x j + aa4 (at8 x j) := rfl
   replace hsj := Lib.hid hsj
   by_cases hjl : j < x.size
   ·clear hfl hnx
    generalize aa4 (at8 x j) = lw at *
    (refine wlk ?_; intros)
    refine ⟨j + 1, by omega, by dsimp only; omega, ?_, ?_, rfl⟩
    ·dsimp only
     rw [hsj.out, ← Int.add_assoc]
     exact agr
    ·exact agr
   ·obtain rfl : j = x.size := by omega
    clear apl hlw hsj hfl
    by_cases h1 : k + 1 < g.length
    ·have hn1 := hnx h1
     clear hnx
     obtain ⟨hy1, -, -⟩ := hn1
     have apn := ahV (at8 x (x.size - 1)) (at8 (g[k + 1]?.getD .empty) 0)
     have hnr := tT (at8 x (x.size - 1)) (at8 (g[k + 1]?.getD .empty) 0)
     have hne := hne.out
     rw [if_pos h1] at hne
     have hsn := hsn.out
     rw [hne] at hsn
     replace hsn := Lib.hid hsn
     clear hne
     generalize ow (at8 x (x.size - 1)) (at8 (g[k + 1]?.getD .empty) 0) = nr at *
     generalize sgW x x.size = sw at *
     (refine wlk ?_; intros)
     refine ⟨k + 1, by omega, by dsimp only; omega, ?_, ?_, rfl⟩
     ·dsimp only
      rw [hsn.out, show w9 + sw - ((x.size : Int) - 1) - nr = w9 + sw - x.size + 1 - nr by omega]
      exact agr
     ·exact agr
    ·have hne := hne.out
     rw [if_neg h1] at hne
     have hsn := hsn.out
     rw [hne, Int.sub_zero] at hsn
     replace hsn := Lib.hid hsn
     clear hne hnx
     generalize sgW x x.size = sw at *
     (refine wlk ?_; intros)
     refine ⟨k + 1, by omega, by dsimp only; omega, ?_, ?_, rfl⟩
     ·dsimp only
      rw [hsn.out, show w9 + sw - ((x.size : Int) - 1) = w9 + sw - x.size + 1 by omega]
      exact agr
     ·exact agr
  ·obtain rfl : k = g.length := by omega
   clear hat hrg
   generalize wdK g g.length = w9 at *
   exact wlkF
end Go.Proofs.YtngcedklbinhjaaGreatDoor
namespace Go.Proofs.YtngcedklbinhjaaGreatDoor
open Go.RowKit
set_option linter.all false
abbrev pvN (n : Int) : PV := .val (.int .i64 n)
theorem lW {p : ByteArray} (h : aaC p = true) : 1 ≤ p.size ∧ p.size ≤ 12 := by
 unfold aaC at h
 simp only [Bool.and_eq_true, decide_eq_true_eq] at h
 obtain ⟨-, h1, h2⟩ := h
 refine ⟨?_, h2⟩
 rcases Nat.eq_zero_or_pos p.size with h0 | h0
 ·rw [h0] at h1
  simp [anyS] at h1
 ·exact h0
def φPp : Fun := F1 dS fun p => if p.size ≤ 12 then some (.tup [.val (.string (eG p)), .lst true 1 ((fU p).map fun n => .val (.int .i64 n))]) else none
theorem apM {p : ByteArray} (h : p.size ≤ 12) : φPp [.val (.string p)] = some (.tup [.val (.string (eG p)), .lst true 1 ((fU p).map fun n => .val (.int .i64 n))]) := (jM (A := dS) p).trans (if_pos h)
noncomputable def GPp : Ctx := { fn := fun f => if f = 94 then some aaA else none, io := fun f => none }
theorem auO : aA Tryz.prog GPp := ⟨(fun f φ h => by
 unfold GPp at h
 dsimp only at h
 split at h
 ·rename_i hf; cases h; subst hf; exact ⟨⟨_, Tryz.func94, rfl, rfl⟩, wz⟩
 cases h), (fun f φ h => by
 unfold GPp at h
 dsimp only at h
 cases h), rfl⟩
theorem ayx (ob : aF) (ps : List PV) : ah GPp ob 94 ps = (ps.mapM (reify false 0 ob fuel)).bind aaA := by
 have h : GPp.fn 94 = some aaA := by simp [GPp]
 unfold ah
 rw [h]
 cases ps.mapM (reify false 0 ob fuel) <;> rfl
theorem am6 {o : List Int} {v x : Int} : (o ++ [v]).set o.length x = o ++ [x] := by simp
set_option maxHeartbeats 8000000 in
theorem ahY : Sound Tryz.prog 121 φPp := by
 refine ay mixed auO Tryz.func121 rfl 40 rfl [.tmp 2, .tmp 3] rfl (by kernel_rfl) fun ps r hr => ?_
 obtain ⟨p, rfl, hq⟩ := bY hr
 clear hr
 split at hq
 case isFalse => cases hq
 case isTrue hpre =>
 cases hq
 refine ⟨by simp, ?_⟩
 simp only [dIs, dUs, dSs, eX, fq, eT, fE, bS, fA, bO, bP, bR, bQ]
 have hrg := pY p
 unfold eG fU
 have gpp_c94 := ayx
 (refine wlk ?_; intros)
 refine aT (α := Nat × Nat × Nat) mixed (fun z => [(0, .val (.string p)), (4, .val (.string (iI p z.1).1)), (5, .row z.2.1 1 0 ((iI p z.1).2.1.length + 1)), (8, .val (.string p)), (9, iv p.size), (10, iv z.1)])
  (fun z => [(z.2.1, 3, 1, ((iI p z.1).2.1 ++ [(iI p z.1).2.2]).map pvN)]) (fun z => z.2.2)
  (fun z => z.1 ≤ p.size ∧ z.2.1 < z.2.2) (fun z => p.size - z.1) (by kernel_rfl) (0, 0, 1) ⟨by simp, by simp⟩ ?_ ?_ rfl ?_
 ·simp (disch := (first | omega | (simp only [push_cast]; first | done | omega))) only [push_cast, ↓reduceIte, Nat.reduceEqDiff, Nat.reduceBEq, Nat.reduceAdd, Nat.reduceSub, Int.reduceToNat, iI, List.length_nil, Nat.zero_add, *]
 ·simp (disch := (first | omega | (simp only [push_cast]; first | done | omega))) only [push_cast, ↓reduceIte, Nat.reduceEqDiff, Nat.reduceBEq, Nat.reduceAdd, Nat.reduceSub, Int.reduceToNat, iI, List.nil_append, List.map_cons, List.map_nil, *]
 rintro ⟨k, x, y⟩ ⟨hk, hxy⟩
 dsimp only at hk hxy
 obtain ⟨r1, r2, r3, -⟩ := hrg k hk
 by_cases h0 : k < p.size
 ·have apd := adG (at8 p k)
  have hdd : ab2 (at8 p k) = inB (at8 p k) 48 57 := rfl
  have hb8 := iM p k
  cases hd : inB (at8 p k) 48 57 with
  | true =>
   have hst := sj (hdd.trans hd)
   have hin := aj.1 hd
   have w1 : IntKind.u8.wrap (at8 p k - 48) = at8 p k - 48 := by rw [IntKind.wrap_u8]; omega
   have w3 := eF (n := at8 p k - 48) (by omega) (by omega)
   have hsl := @am6 (iI p k).2.1 (iI p k).2.2 (at8 p k - 48)
   rw [hd] at apd
   replace hst := Lib.hid hst
   clear hrg hdd hd
   generalize (iI p k).2.1 = o at *
   generalize (iI p k).2.2 = v at *
   generalize (iI p k).1 = lt at *
   (refine wlk ?_; intros)
   refine ⟨(k + 1, x, y), ⟨by dsimp only; omega, hxy⟩, by dsimp only; omega, ?_, ?_, rfl⟩
   ·dsimp only
    rw [hst.out]
    exact agr
   ·dsimp only
    rw [hst.out]
    exact agr
  | false =>
   have hxz : (p.extract k (k + 1)).size = 1 := by rw [ByteArray.size_extract]; omega
   have hst := sD (hdd.trans hd)
   rw [hd] at apd
   replace hst := Lib.hid hst
   clear hrg hdd hd
   generalize (iI p k).2.1 = o at *
   generalize (iI p k).2.2 = v at *
   generalize (iI p k).1 = lt at *
   (refine wlk ?_; intros)
   refine ⟨(k + 1, y + 1, y + 2), ⟨by dsimp only; omega, by dsimp only; omega⟩, by dsimp only; omega, ?_, ?_, rfl⟩
   ·dsimp only
    rw [hst.out]
    exact agr
   ·dsimp only
    rw [hst.out]
    exact agr
 ·obtain rfl : k = p.size := by omega
  clear hrg
  exact wlkF
def φPl : Fun := F1 dS fun p => if aaC p = true then some (.val (.string (eG p))) else none
theorem arE {p : ByteArray} (h : aaC p = true) : φPl [.val (.string p)] = some (.val (.string (eG p))) := (jM (A := dS) p).trans (if_pos h)
noncomputable def GPl : Ctx := { fn := fun f => if f = 76 then some rD else none, io := fun f => none }
theorem anJ : aA Tryz.prog GPl := ⟨(fun f φ h => by
 unfold GPl at h
 dsimp only at h
 split at h
 ·rename_i hf; cases h; subst hf; exact ⟨⟨_, Tryz.func76, rfl, rfl⟩, jf⟩
 cases h), (fun f φ h => by
 unfold GPl at h
 dsimp only at h
 cases h), rfl⟩
theorem anK (ob : aF) (ps : List PV) : ah GPl ob 76 ps = (ps.mapM (reify false 0 ob fuel)).bind rD := by
 have h : GPl.fn 76 = some rD := by simp [GPl]
 unfold ah
 rw [h]
 cases ps.mapM (reify false 0 ob fuel) <;> rfl
set_option maxHeartbeats 8000000 in
theorem ajm : Sound Tryz.prog 103 φPl := by
 refine ay mixed anJ Tryz.func103 rfl 33 rfl [.tmp 2] rfl (by kernel_rfl) fun ps r hr => ?_
 obtain ⟨p, rfl, hq⟩ := bY hr
 clear hr
 split at hq
 case isFalse => cases hq
 case isTrue hpre =>
 cases hq
 refine ⟨by simp, ?_⟩
 simp only [dIs, dUs, dSs, eX, fq, eT, fE, bS, fA, bO, bP, bR, bQ]
 have hsz := lW hpre
 have hrg := pY p
 have apv := r9 (s := p) (by omega)
 rw [hpre] at apv
 unfold eG
 clear hpre
 have gpl_c76 := anK
 (refine wlk ?_; intros)
 refine aT (α := Nat) mixed (fun k => [(0, .val (.string p)), (3, .val (.string (iI p k).1)), (4, iv k)]) (fun _ => []) (fun _ => 0)
  (fun k => k ≤ p.size) (fun k => p.size - k) (by kernel_rfl) 0 (Nat.zero_le _) ?_ ?_ rfl ?_
 ·simp (disch := (first | omega | (simp only [push_cast]; first | done | omega))) only [push_cast, ↓reduceIte, Nat.reduceEqDiff, Nat.reduceBEq, Nat.reduceAdd, Nat.reduceSub, Int.reduceToNat, iI, *]
 ·exact agr
 intro k hk
 obtain ⟨r1, r2, r3, -⟩ := hrg k hk
 by_cases h0 : k < p.size
 ·have hb8 := iM p k
  cases hd : ab2 (at8 p k) with
  | true =>
   have hst := sj hd
   have hin := aj.1 hd
   have w1 : IntKind.u8.wrap (at8 p k - 48) = at8 p k - 48 := by rw [IntKind.wrap_u8]; omega
   have w3 := eF (n := at8 p k - 48) (by omega) (by omega)
   replace hst := Lib.hid hst
   clear hrg hd
   generalize (iI p k).1 = lt at *
   (refine wlk ?_; intros)
   refine ⟨k + 1, by omega, by dsimp only; omega, ?_, ?_, rfl⟩
   ·dsimp only
    rw [hst.out]
    exact agr
   ·exact agr
  | false =>
   have hxz : (p.extract k (k + 1)).size = 1 := by rw [ByteArray.size_extract]; omega
   have hst := sD hd
   have hno : at8 p k < 48 ∨ 57 < at8 p k := by
    by_cases hh : 48 ≤ at8 p k ∧ at8 p k ≤ 57
    ·have : ab2 (at8 p k) = true := aj.2 hh
     rw [this] at hd; cases hd
    ·omega
   replace hst := Lib.hid hst
   clear hrg hd
   generalize (iI p k).1 = lt at *
   (repeat' (first | (with_reducible first | apply bF | apply av | apply aO | apply aJ | apply bC | apply dY | apply bA | apply bH | apply d9 | apply bE | apply bJ | apply dX | apply bI | apply bG | apply bD) | ((with_reducible apply au); (simp only [List.map_cons, List.map_nil] <;> exact rfl)) | ((with_reducible apply aI); (simp only [List.map_cons, List.map_nil] <;> exact rfl); decide +kernel) | ((with_reducible apply bB); rfl) | ((first | ((with_reducible apply i_V); rfl; rfl; rfl) | ((first | ((with_reducible apply i_E); rfl) | ((with_reducible apply i_S); rfl)); first | rfl | (simp only [push_cast, ↓reduceIte])) | ((with_reducible apply dW); rfl; rfl) | ((with_reducible apply dZ); rfl; rfl; rfl) | (with_reducible first | apply dV | apply aL)); (simp (disch := (first | omega | (simp only [push_cast]; first | done | omega))) only [push_cast, ↓reduceIte, Nat.reduceEqDiff, Nat.reduceBEq, Nat.reduceAdd, Nat.reduceSub, Int.reduceToNat, *] <;> with_reducible exact rfl); all_goals try (first | (with_reducible first | refine hyT ?_ | refine hyF ?_ | exact hyA | exact hyB) | (intro hX; first | (cases hX; done) | ((try simp only [decide_eq_true_eq, decide_eq_false_iff_not, Bool.not_eq_true', Bool.not_eq_false'] at hX); (try have hXb := aj.1 hX))))))); all_goals try (exfalso; omega)
   all_goals
    refine ⟨k + 1, by omega, by dsimp only; omega, ?_, ?_, rfl⟩
    ·dsimp only
     rw [hst.out]
     exact agr
    ·exact agr
 ·obtain rfl : k = p.size := by omega
  clear hrg
  exact wlkF
def φPv : Fun := F1 dS fun p => if aaC p = true then some (.lst true 1 ((fU p).map fun n => .val (.int .i64 n))) else none
theorem arV {p : ByteArray} (h : aaC p = true) : φPv [.val (.string p)] = some (.lst true 1 ((fU p).map fun n => .val (.int .i64 n))) := (jM (A := dS) p).trans (if_pos h)
set_option maxHeartbeats 8000000 in
theorem agA : Sound Tryz.prog 104 φPv := by
 refine ay mixed anJ Tryz.func104 rfl 44 rfl [.tmp 2] rfl (by kernel_rfl) fun ps r hr => ?_
 obtain ⟨p, rfl, hq⟩ := bY hr
 clear hr
 split at hq
 case isFalse => cases hq
 case isTrue hpre =>
 cases hq
 refine ⟨by simp, ?_⟩
 simp only [dIs, dUs, dSs, eX, fq, eT, fE, bS, fA, bO, bP, bR, bQ]
 have hsz := lW hpre
 have hrg := pY p
 have apv := r9 (s := p) (by omega)
 rw [hpre] at apv
 unfold fU
 clear hpre
 have gpl_c76 := anK
 (refine wlk ?_; intros)
 refine aT (α := Nat × Nat × Nat) mixed (fun z => [(0, .val (.string p)), (3, .row z.2.1 1 0 (iI p z.1).2.1.length), (4, iv (iI p z.1).2.2), (5, iv z.1)])
  (fun z => [(z.2.1, 3, 1, (iI p z.1).2.1.map pvN)]) (fun z => z.2.2)
  (fun z => z.1 ≤ p.size ∧ z.2.1 < z.2.2) (fun z => p.size - z.1) (by kernel_rfl) (0, 0, 1) ⟨by simp, by simp⟩ ?_ ?_ rfl ?_
 ·simp (disch := (first | omega | (simp only [push_cast]; first | done | omega))) only [push_cast, ↓reduceIte, Nat.reduceEqDiff, Nat.reduceBEq, Nat.reduceAdd, Nat.reduceSub, Int.reduceToNat, iI, List.length_nil, *]
 ·simp (disch := (first | omega | (simp only [push_cast]; first | done | omega))) only [push_cast, ↓reduceIte, Nat.reduceEqDiff, Nat.reduceBEq, Nat.reduceAdd, Nat.reduceSub, Int.reduceToNat, iI, List.map_nil, *]
 rintro ⟨k, x, y⟩ ⟨hk, hxy⟩
 dsimp only at hk hxy
 obtain ⟨r1, r2, r3, -⟩ := hrg k hk
 by_cases h0 : k < p.size
 ·have hb8 := iM p k
  cases hd : ab2 (at8 p k) with
  | true =>
   have hst := sj hd
   have hin := aj.1 hd
   have w1 : IntKind.u8.wrap (at8 p k - 48) = at8 p k - 48 := by rw [IntKind.wrap_u8]; omega
   have w3 := eF (n := at8 p k - 48) (by omega) (by omega)
   replace hst := Lib.hid hst
   clear hrg hd
   generalize (iI p k).2.1 = o at *
   generalize (iI p k).2.2 = v at *
   generalize (iI p k).1 = lt at *
   (refine wlk ?_; intros)
   refine ⟨(k + 1, x, y), ⟨by dsimp only; omega, hxy⟩, by dsimp only; omega, ?_, ?_, rfl⟩
   ·dsimp only
    rw [hst.out]
    exact agr
   ·dsimp only
    rw [hst.out]
    exact agr
  | false =>
   have hxz : (p.extract k (k + 1)).size = 1 := by rw [ByteArray.size_extract]; omega
   have hst := sD hd
   have hno : at8 p k < 48 ∨ 57 < at8 p k := by
    by_cases hh : 48 ≤ at8 p k ∧ at8 p k ≤ 57
    ·have : ab2 (at8 p k) = true := aj.2 hh
     rw [this] at hd; cases hd
    ·omega
   replace hst := Lib.hid hst
   clear hrg hd
   generalize (iI p k).2.1 = o at *
   generalize (iI p k).2.2 = v at *
   generalize (iI p k).1 = lt at *
   (repeat' (first | (with_reducible first | apply bF | apply av | apply aO | apply aJ | apply bC | apply dY | apply bA | apply bH | apply d9 | apply bE | apply bJ | apply dX | apply bI | apply bG | apply bD) | ((with_reducible apply au); (simp only [List.map_cons, List.map_nil] <;> exact rfl)) | ((with_reducible apply aI); (simp only [List.map_cons, List.map_nil] <;> exact rfl); decide +kernel) | ((with_reducible apply bB); rfl) | ((first | ((with_reducible apply i_V); rfl; rfl; rfl) | ((first | ((with_reducible apply i_E); rfl) | ((with_reducible apply i_S); rfl)); first | rfl | (simp only [push_cast, ↓reduceIte])) | ((with_reducible apply dW); rfl; rfl) | ((with_reducible apply dZ); rfl; rfl; rfl) | (with_reducible first | apply dV | apply aL)); (simp (disch := (first | omega | (simp only [push_cast]; first | done | omega))) only [push_cast, ↓reduceIte, Nat.reduceEqDiff, Nat.reduceBEq, Nat.reduceAdd, Nat.reduceSub, Int.reduceToNat, *] <;> with_reducible exact rfl); all_goals try (first | (with_reducible first | refine hyT ?_ | refine hyF ?_ | exact hyA | exact hyB) | (intro hX; first | (cases hX; done) | ((try simp only [decide_eq_true_eq, decide_eq_false_iff_not, Bool.not_eq_true', Bool.not_eq_false'] at hX); (try have hXb := aj.1 hX))))))); all_goals try (exfalso; omega)
   all_goals
    refine ⟨(k + 1, y + 1, y + 2), ⟨by dsimp only; omega, by dsimp only; omega⟩, by dsimp only; omega, ?_, ?_, rfl⟩
    ·dsimp only
     rw [hst.out]
     exact agr
    ·dsimp only
     rw [hst.out]
     exact agr
 ·obtain rfl : k = p.size := by omega
  clear hrg
  exact wlkF
end Go.Proofs.YtngcedklbinhjaaGreatDoor
namespace Go.Proofs.YtngcedklbinhjaaGreatDoor
open Go.RowKit
set_option linter.all false
def rR (w : ByteArray) (pats : LS) : Bool := eB w && bT pats
theorem jH {w : ByteArray} {pats : LS} : rR w pats = true ↔ eB w = true ∧ bT pats = true := by simp [rR]
theorem aiR {pats : LS} (h : bT pats = true) {k : Nat} (hk : k < pats.length) : aaC (pats[k]?.getD .empty) = true := by
 unfold bT at h
 rw [Bool.and_eq_true, List.all_eq_true] at h
 rw [List.getElem?_eq_getElem hk, Option.getD_some]
 exact h.2 _ (List.getElem_mem hk)
theorem adS {pats : LS} (h : bT pats = true) : pats.length ≤ 20 := by
 unfold bT at h
 rw [Bool.and_eq_true] at h
 exact of_decide_eq_true h.1
noncomputable def qm (w : ByteArray) (pats : LS) : List Int := if rR w pats = true then iO w pats else []
abbrev alz (w : ByteArray) (pats : LS) : Prop := w.size ≤ 1048576 ∧ qF pats
noncomputable instance (w : ByteArray) (pats : LS) : Decidable (alz w pats) := Classical.propDecidable _
noncomputable def φLv : Fun := F2 dS dSs fun w pats => if alz w pats then some (.lst true 1 ((qm w pats).map fun n => .val (.int .i64 n))) else none
theorem ahr {w : ByteArray} {pats : LS} (h : alz w pats) : φLv [.val (.string w), .lst false 1 (pats.map fun s => .val (.string s))] = some (.lst true 1 ((qm w pats).map fun n => .val (.int .i64 n))) := (kX (A := dS) (B := dSs) w pats).trans (if_pos h)
noncomputable def agE : Fun := F2 dS dSs fun w pats => if rR w pats = true then some (.lst true 1 ((iO w pats).map fun n => .val (.int .i64 n))) else none
theorem alD {w : ByteArray} {pats : LS} (h : rR w pats = true) : agE [.val (.string w), .lst false 1 (pats.map fun s => .val (.string s))] = some (.lst true 1 ((iO w pats).map fun n => .val (.int .i64 n))) := (kX (A := dS) (B := dSs) w pats).trans (if_pos h)
theorem adU {sz a j : Nat} {lv o : List Int} (h : 1 ≤ a + j) (h2 : a + j ≤ sz + 1) : acP sz a j lv o = o.set (a + j - 1) (if lv[j]?.getD 0 > o[a + j - 1]?.getD 0 then lv[j]?.getD 0 else o[a + j - 1]?.getD 0) := if_pos ⟨h, h2⟩
theorem zF {sz a j : Nat} {lv o : List Int} (h : ¬ (1 ≤ a + j ∧ a + j ≤ sz + 1)) : acP sz a j lv o = o := if_neg h
theorem ajD {d lt : ByteArray} {sz a : Nat} {lv o : List Int} (h : d.extract a (a + lt.size) = lt) : lvA d sz lt lv o (a + 1) = lvJ sz a lv (lvA d sz lt lv o a) lv.length := by
 rw [lvA, if_pos h]
theorem aeg {d lt : ByteArray} {sz a : Nat} {lv o : List Int} (h : ¬ d.extract a (a + lt.size) = lt) : lvA d sz lt lv o (a + 1) = lvA d sz lt lv o a := by
 rw [lvA, if_neg h]
noncomputable def amy : Ctx := { fn := fun f => if f = 121 then some φPp else if f = 60 then some φIn else none, io := fun f => none }
theorem aq5 : aA Tryz.prog amy := ⟨(fun f φ h => by
 unfold amy at h
 dsimp only at h
 split at h
 ·rename_i hf; cases h; subst hf; exact ⟨⟨_, Tryz.func121, rfl, rfl⟩, ahY⟩
 split at h
 ·rename_i hf; cases h; subst hf; exact ⟨⟨_, Tryz.func60, rfl, rfl⟩, vU⟩
 cases h), (fun f φ h => by
 unfold amy at h
 dsimp only at h
 cases h), rfl⟩
theorem amd (ob : aF) (ps : List PV) : ah amy ob 121 ps = (ps.mapM (reify false 0 ob fuel)).bind φPp := by
 have h : amy.fn 121 = some φPp := by simp [amy]
 unfold ah
 rw [h]
 cases ps.mapM (reify false 0 ob fuel) <;> rfl
theorem aqd (ob : aF) (ps : List PV) : ah amy ob 60 ps = (ps.mapM (reify false 0 ob fuel)).bind φIn := by
 have h : amy.fn 60 = some φIn := by simp [amy]
 unfold ah
 rw [h]
 cases ps.mapM (reify false 0 ob fuel) <;> rfl
set_option maxHeartbeats 16000000 in
theorem aew : Sound Tryz.prog 112 agE := by
 refine ay mixed aq5 Tryz.func112 rfl 78 rfl [.tmp 4] rfl (by kernel_rfl) fun ps r hr => ?_
 obtain ⟨w, pats, rfl, hq⟩ := dA hr
 clear hr
 split at hq
 case isFalse => cases hq
 case isTrue hpre =>
 cases hq
 refine ⟨by simp, ?_⟩
 simp only [dIs, dUs, dSs, eX, fq, eT, fE, bS, fA, bO, bP, bR, bQ]
 obtain ⟨hw, hp⟩ := jH.1 hpre
 obtain ⟨-, hw1, hw2⟩ := aW hw
 have hpl := adS hp
 have hpa := fun k hk => aiR hp (k := k) hk
 have hds := aaT w
 have hlo := aac w pats
 have hd0 : aqM w = (⟨#[46]⟩ ++ w) ++ ⟨#[46]⟩ := rfl
 have h46 : (⟨#[46]⟩ : ByteArray).size = 1 := rfl
 have api := dR
 unfold iO
 clear hw hp hpre
 have glvi_c121 := amd; have glvi_c60 := aqd
 (refine wlk ?_; intros)
 rw [← hd0]
 clear hd0 h46
 generalize hdd : aqM w = d at *
 refine aT (α := Nat) mixed (fun k => [(0, .val (.string w)), (5, .val (.string d)), (6, .row 0 1 0 (w.size + 1)), (22, .lst false 1 (pats.map fun s => .val (.string s))), (23, iv pats.length), (24, iv k)])
  (fun k => [(0, 3, 1, (lvP w pats k).map pvN)]) (fun _ => 1)
  (fun k => k ≤ pats.length) (fun k => pats.length - k) (by kernel_rfl) 0 (Nat.zero_le _) ?_ ?_ rfl ?_
 ·exact agr
 ·simp (disch := (first | omega | (simp only [push_cast]; first | done | omega))) only [push_cast, ↓reduceIte, Nat.reduceEqDiff, Nat.reduceBEq, Nat.reduceAdd, Nat.reduceSub, Int.reduceToNat, lvP, List.map_replicate, *]
 intro k hk
 by_cases h0 : k < pats.length
 ·have hpk := hpa k h0
  have happ := apM (p := pats[k]?.getD .empty) (lW hpk).2
  obtain ⟨g1, g2, g3⟩ := oh (pats[k]?.getD .empty)
  have hps := (lW hpk).2
  have hnx : lvP w pats (k + 1) = lvA d w.size (eG (pats[k]?.getD .empty)) (fU (pats[k]?.getD .empty)) (lvP w pats k) (w.size + 3 - (eG (pats[k]?.getD .empty)).size) := by rw [lvP, hdd]
  have ho := hlo k
  replace hnx := Lib.hid hnx
  clear hpa hlo hpk
  generalize hp9 : pats[k]?.getD ByteArray.empty = p at *
  generalize eG p = lt at *
  generalize fU p = lv at *
  generalize lvP w pats k = o at *
  have hA := fun a => (ho.lvA (d := d) (lt := lt) (lv := lv) g3 a)
  (refine wlk ?_; intros)
  refine aT (α := Nat) mixed (fun a => [(0, .val (.string w)), (5, .val (.string d)), (6, .row 0 1 0 (w.size + 1)), (22, .lst false 1 (pats.map fun s => .val (.string s))), (23, iv pats.length), (24, iv k), (9, .val (.string lt)), (10, .lst true 1 (lv.map pvN)), (11, iv a)])
   (fun a => [(0, 3, 1, (lvA d w.size lt lv o a).map pvN)]) (fun _ => 1)
   (fun a => a ≤ w.size + 3 - lt.size) (fun a => w.size + 3 - lt.size - a) (by kernel_rfl) 0 (Nat.zero_le _) ?_ ?_ rfl ?_
  ·exact agr
  ·simp (disch := (first | omega | (simp only [push_cast]; first | done | omega))) only [push_cast, ↓reduceIte, Nat.reduceEqDiff, Nat.reduceBEq, Nat.reduceAdd, Nat.reduceSub, Int.reduceToNat, lvA, *]
  intro a ha
  by_cases ha0 : a < w.size + 3 - lt.size
  ·obtain ⟨oa1, oa2⟩ := hA a
   have hJ := fun j => ((hA a).lvJ (a := a) (lv := lv) g3 j)
   clear hA ho happ
   by_cases hm : d.extract a (a + lt.size) = lt
   ·have hn := ajD (sz := w.size) (lv := lv) (o := o) hm
    replace hn := Lib.hid hn
    replace hm := Lib.hid hm
    generalize lvA d w.size lt lv o a = oa at *
    have hm := hm.out
    (refine wlk ?_; intros)
    clear hm
    refine aT (α := Nat) mixed (fun j => [(0, .val (.string w)), (5, .val (.string d)), (6, .row 0 1 0 (w.size + 1)), (22, .lst false 1 (pats.map fun s => .val (.string s))), (23, iv pats.length), (24, iv k), (9, .val (.string lt)), (10, .lst true 1 (lv.map pvN)), (11, iv a), (51, .lst true 1 (lv.map pvN)), (52, iv lv.length), (53, iv j)])
     (fun j => [(0, 3, 1, (lvJ w.size a lv oa j).map pvN)]) (fun _ => 1)
     (fun j => j ≤ lv.length) (fun j => lv.length - j) (by kernel_rfl) 0 (Nat.zero_le _) ?_ ?_ rfl ?_
    ·exact agr
    ·simp (disch := (first | omega | (simp only [push_cast]; first | done | omega))) only [push_cast, ↓reduceIte, Nat.reduceEqDiff, Nat.reduceBEq, Nat.reduceAdd, Nat.reduceSub, Int.reduceToNat, lvJ, *]
    intro j hj
    by_cases hj0 : j < lv.length
    ·obtain ⟨oj1, oj2⟩ := hJ j
     clear hJ
     have hs : lvJ w.size a lv oa (j + 1) = acP w.size a j lv (lvJ w.size a lv oa j) := rfl
     have hg3 := g3 j
     by_cases hin : 1 ≤ a + j ∧ a + j ≤ w.size + 1
     ·rw [adU hin.1 hin.2] at hs
      replace hs := Lib.hid hs
      have api1 : inB ((a : Int) + j - 1) 0 w.size = true := aj.2 ⟨by omega, by omega⟩
      have hti : ((a : Int) + j - 1).toNat = a + j - 1 := by omega
      generalize lvJ w.size a lv oa j = oj at *
      (refine wlk ?_; intros)
      refine ⟨j + 1, by omega, by dsimp only; omega, ?_, ?_, rfl⟩
      ·exact agr
      ·dsimp only
       rw [hs.out]
       exact agr
     ·rw [zF hin] at hs
      replace hs := Lib.hid hs
      have api1 : inB ((a : Int) + j - 1) 0 w.size = false := Bool.eq_false_iff.2 fun q => by have := aj.1 q; omega
      generalize lvJ w.size a lv oa j = oj at *
      (refine wlk ?_; intros)
      refine ⟨j + 1, by omega, by dsimp only; omega, ?_, ?_, rfl⟩
      ·exact agr
      ·dsimp only
       rw [hs.out]
       exact agr
    ·obtain rfl : j = lv.length := by omega
     clear hJ
     (refine wlk ?_; intros)
     refine ⟨a + 1, by omega, by dsimp only; omega, ?_, ?_, rfl⟩
     ·exact agr
     ·dsimp only
      rw [hn.out]
      exact agr
   ·have hn := aeg (sz := w.size) (lv := lv) (o := o) hm
    replace hn := Lib.hid hn
    generalize lvA d w.size lt lv o a = oa at *
    (refine wlk ?_; intros)
    refine ⟨a + 1, by omega, by dsimp only; omega, ?_, ?_, rfl⟩
    ·exact agr
    ·dsimp only
     rw [hn.out]
     exact agr
  ·have hae : a = w.size + 3 - lt.size := by omega
   clear hA ho happ
   rw [← hae] at hnx
   generalize lvA d w.size lt lv o a = oa at *
   clear hae
   (refine wlk ?_; intros)
   refine ⟨k + 1, by omega, by dsimp only; omega, ?_, ?_, rfl⟩
   ·exact agr
   ·dsimp only
    rw [hnx.out]
    exact agr
 ·obtain rfl : k = pats.length := by omega
  obtain ⟨o1, o2⟩ := hlo pats.length
  clear hlo hpa
  generalize lvP w pats pats.length = o at *
  exact wlkF
noncomputable def ru : Ctx := { fn := fun f => if f = 67 then some fF else if f = 43 then some fB else if f = 112 then some agE else none, io := fun f => none }
theorem amr : aA Tryz.prog ru := ⟨(fun f φ h => by
 unfold ru at h
 dsimp only at h
 split at h
 ·rename_i hf; cases h; subst hf; exact ⟨⟨_, Tryz.func67, rfl, rfl⟩, gM⟩
 split at h
 ·rename_i hf; cases h; subst hf; exact ⟨⟨_, Tryz.func43, rfl, rfl⟩, eZ⟩
 split at h
 ·rename_i hf; cases h; subst hf; exact ⟨⟨_, Tryz.func112, rfl, rfl⟩, aew⟩
 cases h), (fun f φ h => by
 unfold ru at h
 dsimp only at h
 cases h), rfl⟩
theorem yw (ob : aF) (ps : List PV) : ah ru ob 67 ps = (ps.mapM (reify false 0 ob fuel)).bind fF := by
 have h : ru.fn 67 = some fF := by simp [ru]
 unfold ah
 rw [h]
 cases ps.mapM (reify false 0 ob fuel) <;> rfl
theorem yA (ob : aF) (ps : List PV) : ah ru ob 43 ps = (ps.mapM (reify false 0 ob fuel)).bind fB := by
 have h : ru.fn 43 = some fB := by simp [ru]
 unfold ah
 rw [h]
 cases ps.mapM (reify false 0 ob fuel) <;> rfl
theorem sM (ob : aF) (ps : List PV) : ah ru ob 112 ps = (ps.mapM (reify false 0 ob fuel)).bind agE := by
 have h : ru.fn 112 = some agE := by simp [ru]
 unfold ah
 rw [h]
 cases ps.mapM (reify false 0 ob fuel) <;> rfl
theorem ajs : Sound Tryz.prog 95 φLv := by
 refine l7 mixed amr Tryz.func95 rfl 16 rfl [.tmp 4] rfl (by kernel_rfl) fun ps r hr => ?_
 obtain ⟨w, pats, rfl, hq⟩ := dA hr
 clear hr
 split at hq
 case isFalse => cases hq
 case isTrue hpre =>
 cases hq
 refine ⟨by simp, ?_⟩
 simp only [dIs, dUs, dSs, eX, fq, eT, fE, bS, fA, bO, bP, bR, bQ]
 have ap1 := iG (s := w) (by omega)
 have ap2 := iK hpre.2
 have apl := fun h => alD (w := w) (pats := pats) h
 unfold qm rR
 unfold rR at apl
 cases hw : eB w with
 | false =>
  rw [hw] at ap1
  clear apl hpre hw
  rw [Bool.false_and, if_neg (by decide)]
  have glvi2_c67 := yw; have glvi2_c43 := yA; have glvi2_c112 := sM
  (refine wlk ?_; intros)
  all_goals ((with_reducible apply fP (by first | exact .inl rfl | exact .inr rfl)); (simp (disch := (first | omega | (simp only [push_cast]; first | done | omega))) only [push_cast, ↓reduceIte, Nat.reduceEqDiff, Nat.reduceBEq, Nat.reduceAdd, Nat.reduceSub, Int.reduceToNat, *] <;> with_reducible exact rfl))
  all_goals exact nil_le _ _
 | true =>
  cases hp : bT pats with
  | false =>
   rw [hw] at ap1
   rw [hp] at ap2
   clear apl hpre hw hp
   rw [Bool.and_false, if_neg (by decide)]
   have glvi2_c67 := yw; have glvi2_c43 := yA; have glvi2_c112 := sM
   (refine wlk ?_; intros)
   all_goals ((with_reducible apply fP (by first | exact .inl rfl | exact .inr rfl)); (simp (disch := (first | omega | (simp only [push_cast]; first | done | omega))) only [push_cast, ↓reduceIte, Nat.reduceEqDiff, Nat.reduceBEq, Nat.reduceAdd, Nat.reduceSub, Int.reduceToNat, *] <;> with_reducible exact rfl))
   all_goals exact nil_le _ _
  | true =>
   have apl := apl (by rw [hw, hp]; rfl)
   rw [hw] at ap1
   rw [hp] at ap2
   clear hpre hw hp
   rw [Bool.and_true, if_pos rfl]
   have glvi2_c67 := yw; have glvi2_c43 := yA; have glvi2_c112 := sM
   (refine wlk ?_; intros)
   all_goals ((with_reducible apply fP (by first | exact .inl rfl | exact .inr rfl)); (simp (disch := (first | omega | (simp only [push_cast]; first | done | omega))) only [push_cast, ↓reduceIte, Nat.reduceEqDiff, Nat.reduceBEq, Nat.reduceAdd, Nat.reduceSub, Int.reduceToNat, *] <;> with_reducible exact rfl))
   all_goals exact PV.le_refl _
noncomputable def yZ : Ctx := { fn := fun f => if f = 58 then some fF else if f = 48 then some fB else if f = 103 then some φPl else if f = 104 then some φPv else if f = 51 then some φIn else none, io := fun f => none }
theorem apX : aA Tryz.prog yZ := ⟨(fun f φ h => by
 unfold yZ at h
 dsimp only at h
 split at h
 ·rename_i hf; cases h; subst hf; exact ⟨⟨_, Tryz.func58, rfl, rfl⟩, gN⟩
 split at h
 ·rename_i hf; cases h; subst hf; exact ⟨⟨_, Tryz.func48, rfl, rfl⟩, fu⟩
 split at h
 ·rename_i hf; cases h; subst hf; exact ⟨⟨_, Tryz.func103, rfl, rfl⟩, ajm⟩
 split at h
 ·rename_i hf; cases h; subst hf; exact ⟨⟨_, Tryz.func104, rfl, rfl⟩, agA⟩
 split at h
 ·rename_i hf; cases h; subst hf; exact ⟨⟨_, Tryz.func51, rfl, rfl⟩, jK⟩
 cases h), (fun f φ h => by
 unfold yZ at h
 dsimp only at h
 cases h), rfl⟩
theorem abn (ob : aF) (ps : List PV) : ah yZ ob 58 ps = (ps.mapM (reify false 0 ob fuel)).bind fF := by
 have h : yZ.fn 58 = some fF := by simp [yZ]
 unfold ah
 rw [h]
 cases ps.mapM (reify false 0 ob fuel) <;> rfl
theorem acH (ob : aF) (ps : List PV) : ah yZ ob 48 ps = (ps.mapM (reify false 0 ob fuel)).bind fB := by
 have h : yZ.fn 48 = some fB := by simp [yZ]
 unfold ah
 rw [h]
 cases ps.mapM (reify false 0 ob fuel) <;> rfl
theorem yF (ob : aF) (ps : List PV) : ah yZ ob 103 ps = (ps.mapM (reify false 0 ob fuel)).bind φPl := by
 have h : yZ.fn 103 = some φPl := by simp [yZ]
 unfold ah
 rw [h]
 cases ps.mapM (reify false 0 ob fuel) <;> rfl
theorem yI (ob : aF) (ps : List PV) : ah yZ ob 104 ps = (ps.mapM (reify false 0 ob fuel)).bind φPv := by
 have h : yZ.fn 104 = some φPv := by simp [yZ]
 unfold ah
 rw [h]
 cases ps.mapM (reify false 0 ob fuel) <;> rfl
theorem abv (ob : aF) (ps : List PV) : ah yZ ob 51 ps = (ps.mapM (reify false 0 ob fuel)).bind φIn := by
 have h : yZ.fn 51 = some φIn := by simp [yZ]
 unfold ah
 rw [h]
 cases ps.mapM (reify false 0 ob fuel) <;> rfl
set_option maxHeartbeats 16000000 in
theorem ahM : Sound Tryz.prog 83 φLv := by
 refine ay mixed apX Tryz.func83 rfl 90 rfl [.tmp 4] rfl (by kernel_rfl) fun ps r hr => ?_
 obtain ⟨w, pats, rfl, hq⟩ := dA hr
 clear hr
 split at hq
 case isFalse => cases hq
 case isTrue hpre =>
 cases hq
 refine ⟨by simp, ?_⟩
 simp only [dIs, dUs, dSs, eX, fq, eT, fE, bS, fA, bO, bP, bR, bQ]
 have ap1 := iG (s := w) (by omega)
 have ap2 := iK hpre.2
 unfold qm rR
 cases hw : eB w with
 | false =>
  rw [hw] at ap1
  clear hpre hw
  rw [Bool.false_and, if_neg (by decide)]
  have glvs_c58 := abn; have glvs_c48 := acH; have glvs_c103 := yF; have glvs_c104 := yI; have glvs_c51 := abv
  exact wlkF
 | true =>
 cases hp : bT pats with
 | false =>
  rw [hw] at ap1
  rw [hp] at ap2
  clear hpre hw hp
  rw [Bool.and_false, if_neg (by decide)]
  have glvs_c58 := abn; have glvs_c48 := acH; have glvs_c103 := yF; have glvs_c104 := yI; have glvs_c51 := abv
  exact wlkF
 | true =>
 rw [hw] at ap1
 rw [hp] at ap2
 rw [Bool.and_true, if_pos rfl]
 obtain ⟨-, hw1, hw2⟩ := aW hw
 have hpl := adS hp
 have hpa := fun k hk => aiR hp (k := k) hk
 have hds := aaT w
 have hlo := aac w pats
 have hd0 : aqM w = (⟨#[46]⟩ ++ w) ++ ⟨#[46]⟩ := rfl
 have h46 : (⟨#[46]⟩ : ByteArray).size = 1 := rfl
 have api := dR
 unfold iO
 clear hw hp hpre
 have glvs_c58 := abn; have glvs_c48 := acH; have glvs_c103 := yF; have glvs_c104 := yI; have glvs_c51 := abv
 (refine wlk ?_; intros)
 rw [← hd0]
 clear hd0 h46
 generalize hdd : aqM w = d at *
 refine aT (α := Nat) mixed (fun k => [(0, .val (.string w)), (1, .lst false 1 (pats.map fun s => .val (.string s))), (5, .row 0 1 0 (w.size + 1)), (6, .val (.string d)), (7, iv k)])
  (fun k => [(0, 3, 1, (lvP w pats k).map pvN)]) (fun _ => 1)
  (fun k => k ≤ pats.length) (fun k => pats.length - k) (by kernel_rfl) 0 (Nat.zero_le _) ?_ ?_ rfl ?_
 ·exact agr
 ·simp (disch := (first | omega | (simp only [push_cast]; first | done | omega))) only [push_cast, ↓reduceIte, Nat.reduceEqDiff, Nat.reduceBEq, Nat.reduceAdd, Nat.reduceSub, Int.reduceToNat, lvP, List.map_replicate, *]
 intro k hk
 by_cases h0 : k < pats.length
 ·have hpk := hpa k h0
  have hap1 := arE hpk
  have hap2 := arV hpk
  obtain ⟨g1, g2, g3⟩ := oh (pats[k]?.getD .empty)
  have hps := (lW hpk).2
  have hnx : lvP w pats (k + 1) = lvA d w.size (eG (pats[k]?.getD .empty)) (fU (pats[k]?.getD .empty)) (lvP w pats k) (w.size + 3 - (eG (pats[k]?.getD .empty)).size) := by rw [lvP, hdd]
  have ho := hlo k
  replace hnx := Lib.hid hnx
  clear hpa hlo hpk
  generalize hp9 : pats[k]?.getD ByteArray.empty = p at *
  generalize eG p = lt at *
  generalize fU p = lv at *
  generalize lvP w pats k = o at *
  have hA := fun a => (ho.lvA (d := d) (lt := lt) (lv := lv) g3 a)
  (refine wlk ?_; intros)
  refine aT (α := Nat) mixed (fun a => [(0, .val (.string w)), (1, .lst false 1 (pats.map fun s => .val (.string s))), (5, .row 0 1 0 (w.size + 1)), (6, .val (.string d)), (7, iv k), (8, .val (.string lt)), (9, .lst true 1 (lv.map pvN)), (10, iv a)])
   (fun a => [(0, 3, 1, (lvA d w.size lt lv o a).map pvN)]) (fun _ => 1)
   (fun a => a ≤ w.size + 3 - lt.size) (fun a => w.size + 3 - lt.size - a) (by kernel_rfl) 0 (Nat.zero_le _) ?_ ?_ rfl ?_
  ·exact agr
  ·simp (disch := (first | omega | (simp only [push_cast]; first | done | omega))) only [push_cast, ↓reduceIte, Nat.reduceEqDiff, Nat.reduceBEq, Nat.reduceAdd, Nat.reduceSub, Int.reduceToNat, lvA, *]
  intro a ha
  by_cases ha0 : a < w.size + 3 - lt.size
  ·obtain ⟨oa1, oa2⟩ := hA a
   have hJ := fun j => ((hA a).lvJ (a := a) (lv := lv) g3 j)
   clear hA ho hap1 hap2
   by_cases hm : d.extract a (a + lt.size) = lt
   ·have hn := ajD (sz := w.size) (lv := lv) (o := o) hm
    replace hn := Lib.hid hn
    replace hm := Lib.hid hm
    generalize lvA d w.size lt lv o a = oa at *
    have hm := hm.out
    (refine wlk ?_; intros)
    clear hm
    refine aT (α := Nat) mixed (fun j => [(0, .val (.string w)), (1, .lst false 1 (pats.map fun s => .val (.string s))), (5, .row 0 1 0 (w.size + 1)), (6, .val (.string d)), (7, iv k), (8, .val (.string lt)), (9, .lst true 1 (lv.map pvN)), (10, iv a), (11, iv j)])
     (fun j => [(0, 3, 1, (lvJ w.size a lv oa j).map pvN)]) (fun _ => 1)
     (fun j => j ≤ lv.length) (fun j => lv.length - j) (by kernel_rfl) 0 (Nat.zero_le _) ?_ ?_ rfl ?_
    ·exact agr
    ·simp (disch := (first | omega | (simp only [push_cast]; first | done | omega))) only [push_cast, ↓reduceIte, Nat.reduceEqDiff, Nat.reduceBEq, Nat.reduceAdd, Nat.reduceSub, Int.reduceToNat, lvJ, *]
    intro j hj
    by_cases hj0 : j < lv.length
    ·obtain ⟨oj1, oj2⟩ := hJ j
     clear hJ
     have hs : lvJ w.size a lv oa (j + 1) = acP w.size a j lv (lvJ w.size a lv oa j) := rfl
     have hg3 := g3 j
     by_cases hin : 1 ≤ a + j ∧ a + j ≤ w.size + 1
     ·rw [adU hin.1 hin.2] at hs
      replace hs := Lib.hid hs
      have api1 : inB ((a : Int) + j - 1) 0 w.size = true := aj.2 ⟨by omega, by omega⟩
      have hti : ((a : Int) + j - 1).toNat = a + j - 1 := by omega
      generalize lvJ w.size a lv oa j = oj at *
      (refine wlk ?_; intros)
      refine ⟨j + 1, by omega, by dsimp only; omega, ?_, ?_, rfl⟩
      ·exact agr
      ·dsimp only
       rw [hs.out]
       exact agr
     ·rw [zF hin] at hs
      replace hs := Lib.hid hs
      have api1 : inB ((a : Int) + j - 1) 0 w.size = false := Bool.eq_false_iff.2 fun q => by have := aj.1 q; omega
      generalize lvJ w.size a lv oa j = oj at *
      (refine wlk ?_; intros)
      refine ⟨j + 1, by omega, by dsimp only; omega, ?_, ?_, rfl⟩
      ·exact agr
      ·dsimp only
       rw [hs.out]
       exact agr
    ·obtain rfl : j = lv.length := by omega
     clear hJ
     (refine wlk ?_; intros)
     refine ⟨a + 1, by omega, by dsimp only; omega, ?_, ?_, rfl⟩
     ·exact agr
     ·dsimp only
      rw [hn.out]
      exact agr
   ·have hn := aeg (sz := w.size) (lv := lv) (o := o) hm
    replace hn := Lib.hid hn
    generalize lvA d w.size lt lv o a = oa at *
    (refine wlk ?_; intros)
    refine ⟨a + 1, by omega, by dsimp only; omega, ?_, ?_, rfl⟩
    ·exact agr
    ·dsimp only
     rw [hn.out]
     exact agr
  ·have hae : a = w.size + 3 - lt.size := by omega
   clear hA ho hap1 hap2
   rw [← hae] at hnx
   generalize lvA d w.size lt lv o a = oa at *
   clear hae
   (refine wlk ?_; intros)
   refine ⟨k + 1, by omega, by dsimp only; omega, ?_, ?_, rfl⟩
   ·exact agr
   ·dsimp only
    rw [hnx.out]
    exact agr
 ·obtain rfl : k = pats.length := by omega
  obtain ⟨o1, o2⟩ := hlo pats.length
  clear hlo hpa
  generalize lvP w pats pats.length = o at *
  exact wlkF
end Go.Proofs.YtngcedklbinhjaaGreatDoor
