/- What the proof rests on, part 14: contracts of functions. No condition beyond what each states. -/
import Derived.Test.YtngcedklbinhjaaGreatDoorZBw13
namespace Go.Proofs.YtngcedklbinhjaaGreatDoor
open Go.RowKit
set_option linter.all false
noncomputable def txK (ws pats : LS) : Nat → LS
 | 0 => []
 | k + 1 => txK ws pats k ++ dD (ws[k]?.getD .empty) pats
noncomputable def txR (ws pats : LS) : LS := txK ws pats ws.length
theorem ab3 (ws pats : LS) : ∀ k, (txK ws pats k).length ≤ 21 * k
 | 0 => by simp [txK]
 | k + 1 => by
  have := ab3 ws pats k
  have h2 := kg (ws[k]?.getD .empty) pats
  rw [txK, List.length_append]
  omega
theorem aep (ws pats : LS) : ∀ k, ∀ x ∈ txK ws pats k, eB x = true
 | 0 => by simp [txK]
 | k + 1 => fun x hx => by
  rw [txK] at hx
  rcases List.mem_append.1 hx with hx | hx
  ·exact aep ws pats k x hx
  ·exact nJ x hx
theorem ai5 {ws pats : LS} {k : Nat} (h : k < (txR ws pats).length) : eB ((txR ws pats)[k]?.getD .empty) = true := by
 rw [List.getElem?_eq_getElem h, Option.getD_some]
 exact aep ws pats _ _ (List.getElem_mem h)
def nb (l : List It) : Nat := (l.filter fun x => decide (x.kd = 1)).length
theorem tZ (l l' : List It) : nb (l ++ l') = nb l + nb l' := by simp [nb]
theorem ald (ps : LS) : ∀ k, nb (wiK ps k) = k
 | 0 => rfl
 | k + 1 => by
  have ih := ald ps k
  rw [wiK, tZ]
  have h1 : nb [((1 : Int), nR (ps[k]?.getD .empty), (0 : Int), (0 : Int), (0 : Int), (0 : Int), false)] = 1 := by simp [nb, It.kd]
  rw [h1]
  split
  ·rw [ih]
  ·rw [tZ, ih]
   have h2 : nb [((3 : Int), (3 : Int), (0 : Int), (0 : Int), (0 : Int), (50 : Int), true)] = 0 := by decide
   rw [h2]
theorem alj (ws pats : LS) : ∀ k, nb (piK ws pats k) = (txK ws pats k).length
 | 0 => rfl
 | k + 1 => by
  have ih := alj ws pats k
  rw [piK, tZ, txK, List.length_append]
  have h1 : nb (wiR (ws[k]?.getD .empty) pats) = (dD (ws[k]?.getD .empty) pats).length := ald _ _
  rw [h1]
  split
  ·rw [ih]
  ·rw [tZ, ih]
   have h2 : nb [((2 : Int), (4 : Int), (3 : Int), (1 : Int), (0 : Int), (0 : Int), false)] = 0 := by decide
   rw [h2, Nat.add_zero]
theorem asU (ws pats : LS) : nb (piR ws pats) = (txR ws pats).length := by
 unfold piR
 rw [tZ, alj]
 have h2 : nb [((3 : Int), (0 : Int), (0 : Int), (0 : Int), (0 : Int), (10000 : Int), false), (2, 0, 1, 0, 1, 0, false), (3, 0, 0, 0, 0, -10000, false)] = 0 := by decide
 rw [h2]
 rfl
theorem aiw (l : List It) (n : Nat) : nbX l n ≤ nb l := by
 unfold nbX nb
 exact List.Sublist.length_le ((List.take_sublist n l).filter _)
theorem ado {l : List It} {n : Nat} (h : n < l.length) (hk : (gI l n).kd = 1) : nbX l n < nb l := by
 have h1 := aci h hk
 have h2 := aiw l (n + 1)
 omega
def frB (br : List Int) (k : Nat) : Nat := if k = 0 then 0 else (br[k - 1]?.getD 0).toNat + 1
def nk (l : List It) (tx : LS) (br : List Int) : Nat → LS
 | 0 => []
 | k + 1 => nk l tx br k ++ [lnR l tx (frB br k) (br[k]?.getD 0).toNat]
theorem oZ (l : List It) (tx : LS) (br : List Int) : ∀ k, (nk l tx br k).length = k
 | 0 => rfl
 | k + 1 => by rw [nk, List.length_append, oZ l tx br k]; rfl
theorem rX (br : List Int) (k : Nat) : frB br (k + 1) = (br[k]?.getD 0).toNat + 1 := by
 unfold frB
 rw [if_neg (by omega)]
 rfl
def ao9 (l : List It) (br : List Int) : Prop := br.length ≤ l.length ∧ ∀ k, k < br.length → 0 ≤ br[k]?.getD 0 ∧ fI l (frB br k) (br[k]?.getD 0).toNat = true
theorem anS {l : List It} {wd most : Int} (hl : bM l = true) (hm : most ≤ 10000) : ∀ (f a : Nat) (lk : Int), a ≤ l.length → ∀ k, k < (bkF l wd most f a lk).length → 0 ≤ (bkF l wd most f a lk)[k]?.getD 0 ∧ fI l (if k = 0 then a else ((bkF l wd most f a lk)[k - 1]?.getD 0).toNat + 1) ((bkF l wd most f a lk)[k]?.getD 0).toNat = true
 | 0, a, lk, _, k, hk => by simp [bkF] at hk
 | f + 1, a, lk, ha, k, hk => by
  by_cases h : a = l.length
  ·subst h; rw [vH] at hk; simp at hk
  ·cases hr : aX l wd most a lk with
   | none => rw [bkF, if_neg h, hr] at hk; simp at hk
   | some r =>
    obtain ⟨x, c0, hx, hL⟩ := mU (by omega) hr
    obtain ⟨hq, -, -⟩ := qE hL
    have h2 := (gy.1 hq).1
    rw [mQ h hr] at hk ⊢
    have ih := anS (wd := wd) hl hm f (r.2.1 + 1) r.2.2 (by omega)
    generalize bkF l wd most f (r.2.1 + 1) r.2.2 = t at *
    cases k with
    | zero => exact ⟨by simp, by simpa using hq⟩
    | succ k =>
     rw [List.length_cons] at hk
     obtain ⟨i1, i2⟩ := ih k (by omega)
     refine ⟨by simpa using i1, ?_⟩
     rw [if_neg (by omega), List.getElem?_cons_succ, Nat.add_sub_cancel]
     cases k with
     | zero => simpa using i2
     | succ k =>
      rw [if_neg (by omega), Nat.add_sub_cancel] at i2
      rw [List.getElem?_cons_succ]
      exact i2
theorem aea {l : List It} {wd most : Int} (hl : bM l = true) (hm : most ≤ 10000) : ao9 l (dN l wd most) :=
 ⟨abl hl hm _ _ _ (Nat.zero_le _), fun k hk => anS hl hm _ _ _ (Nat.zero_le _) k hk⟩
theorem ao9.at_ {l : List It} {br : List Int} (h : ao9 l br) {k : Nat} (hk : k < br.length) : 0 ≤ br[k]?.getD 0 ∧ frB br k ≤ (br[k]?.getD 0).toNat ∧ (br[k]?.getD 0).toNat < l.length ∧ ¬ (gI l (br[k]?.getD 0).toNat).kd = 1 := by
 obtain ⟨h1, h2⟩ := h.2 k hk
 obtain ⟨h3, h4, -⟩ := gy.1 h2
 refine ⟨h1, h3.1, h3.2, fun q => ?_⟩
 unfold lJ at h4
 rw [if_neg (by omega), decide_eq_true_eq] at h4
 omega
variable {l : List It} {tx : LS} {s : ByteArray} {n : Nat}
theorem ai8 (h : (gI l n).kd = 1) : nu l tx s n = s ++ tx[nbX l n]?.getD .empty := if_pos h
theorem aiS (h : (gI l n).kd = 2 ∧ 0 < (gI l n).wd ∧ ¬ s = ⟨#[]⟩) : nu l tx s n = s ++ ⟨#[32]⟩ := by
 unfold nu
 rw [if_neg (by omega), if_pos h]
theorem ajk (h1 : ¬ (gI l n).kd = 1) (h : ¬ ((gI l n).kd = 2 ∧ 0 < (gI l n).wd ∧ ¬ s = ⟨#[]⟩)) : nu l tx s n = s := by
 unfold nu
 rw [if_neg h1, if_neg h]
theorem yM {a : Nat} (h : ∀ k : Nat, (tx[k]?.getD ByteArray.empty).size ≤ 20) : ∀ j, (lnT l tx a j).size ≤ 20 * j
 | 0 => by simp [lnT, ByteArray.size]
 | j + 1 => by
  have ih := yM (a := a) h j
  rw [lnT]
  unfold nu
  split
  ·rw [ByteArray.size_append]
   have := h (nbX l (a + j))
   omega
  ·split
   ·rw [ByteArray.size_append, show (⟨#[32]⟩ : ByteArray).size = 1 from rfl]
    omega
   ·omega
theorem acz {ws pats : LS} (k : Nat) : ((txR ws pats)[k]?.getD .empty).size ≤ 20 := by
 by_cases h : k < (txR ws pats).length
 ·exact (aW (ai5 h)).2.2
 ·rw [List.getElem?_eq_none (by omega)]
  decide
noncomputable def lC (ws pats : LS) (wd most : Int) : Bool := qC ws pats && jO (piV ws pats) wd most
noncomputable def nQ (ws pats : LS) (wd most : Int) : LS := if lC ws pats wd most = true then nk (piR ws pats) (txR ws pats) (dN (piR ws pats) wd most) (dN (piR ws pats) wd most).length else []
end Go.Proofs.YtngcedklbinhjaaGreatDoor
namespace Go.Proofs.YtngcedklbinhjaaGreatDoor
open Go.RowKit
open Go.ChangeMaps (setBlock heap_setBlock_same heap_setBlock_other modify_eq_set)
open Go.Maps (Keyed)
set_option linter.all false
abbrev VL := List (Value × Value)
abbrev kv (e : MapEntry) : Value × Value := (e.key, e.val)
structure agc (P : Program) (k : TypeId) (es : Array MapEntry) (clock : Nat) (L : VL) : Prop where
 list : es.toList.map kv = L
 old : ∀ e ∈ es.toList, e.born < clock
 born : (es.toList.map (·.born)).Nodup
 keys : (L.map Prod.fst).Nodup
 keyed : ∀ p ∈ L, ∃ l, keyOf P k p.1 = some l
def mg (P : Program) (k : TypeId) (w : World) (b : Nat) (L : VL) : Prop := ∃ es clock, w.heap[b]? = some (.map es clock) ∧ agc P k es clock L
def yH (P : Program) (k : TypeId) (w : World) (r b : Nat) (L : VL) (left : List Value) : Prop :=
 ∃ es clock since seen c0, w.heap[b]? = some (.map es clock) ∧ agc P k es clock L ∧ w.heap[r]? = some (.mapIter (some b) since seen c0) ∧ (∀ x ∈ es.toList, x.born < since) ∧ since ≤ c0 ∧ since ≤ clock ∧ (leftOf es seen).toList.map (·.key) = left
variable {P : Program} {k t e : TypeId} {w w' : World} {b r : Nat} {L : VL} {left : List Value} {key v : Value} {kl : Lit}
theorem mg.lt (h : mg P k w b L) : b < w.heap.size := by
 obtain ⟨es, clock, hb, _⟩ := h
 exact (Array.getElem?_eq_some_iff.1 hb).1
theorem mg.made (w : World) : mg P k (w.alloc (.map #[] 0)) w.heap.size [] :=
 ⟨#[], 0, (MapKept.heap_alloc w _).1, rfl, by simp, by simp, by simp, by simp⟩
theorem agc.uX {es : Array MapEntry} {clock : Nat} (H : agc P k es clock L) {e0 : MapEntry} (h : e0 ∈ es.toList) : (e0.key, e0.val) ∈ L := by
 rw [← H.list]
 exact List.mem_map.2 ⟨e0, h, rfl⟩
theorem agc.all {es : Array MapEntry} {clock : Nat} (H : agc P k es clock L) : ∀ e ∈ es.toList, ∃ l, keyOf P k e.key = some l := fun e he => H.keyed _ (H.uX he)
theorem zX {L : VL} (h : (L.map Prod.fst).Nodup) {key v v' : Value} (h1 : (key, v) ∈ L) (h2 : (key, v') ∈ L) : v = v' := by
 induction L with
 | nil => simp at h1
 | cons x L ih =>
  rw [List.map_cons, List.nodup_cons] at h
  rcases List.mem_cons.1 h1 with e1 | h1
  ·rcases List.mem_cons.1 h2 with e2 | h2
   ·have := e1.trans e2.symm
    exact (Prod.ext_iff.1 this).2
   ·exact absurd (List.mem_map.2 ⟨_, h2, by rw [← e1]⟩) h.1
  ·rcases List.mem_cons.1 h2 with e2 | h2
   ·exact absurd (List.mem_map.2 ⟨_, h1, by rw [← e2]⟩) h.1
   ·exact ih h.2 h1 h2
theorem mg.adW (h : mg P k w b L) (K : Keyed P k) (ht : P.underlying t = some (.map k e)) (c : Bool) (hkey : keyOf P k key = some kl) (hm : (key, v) ∈ L) :
  (Instr.lookup t (.map (some b)) key c).run P w = .ok (if c then .tuple #[v, .bool true] else v) w := by
 obtain ⟨es, clock, hb, H⟩ := h
 rcases K.find w hkey es.toList H.all with ⟨h1, h2⟩ | ⟨j, e0, h1, h2, h3⟩
 ·rw [← H.list] at hm
  obtain ⟨e0, he, h4⟩ := List.mem_map.1 hm
  exact absurd (Prod.ext_iff.1 h4).1 (h2 e0 he)
 ·have hv : e0.val = v := zX H.keys (h3 ▸ H.uX (List.mem_of_getElem? h2)) hm
  rw [← hv]
  simp [Instr.lookup, run_underlying ht, MapKept.run_getObj_map hb, K.check w _ hkey, h1, Result.andThen]
theorem mg.aqt (h : mg P k w b L) (K : Keyed P k) (ht : P.underlying t = some (.map k e)) (c : Bool) (hkey : keyOf P k key = some kl) {z : Value} (hz : (zeroValue e).run P w = .ok z w) (hm : ∀ p ∈ L, p.1 ≠ key) :
  (Instr.lookup t (.map (some b)) key c).run P w = .ok (if c then .tuple #[z, .bool false] else z) w := by
 obtain ⟨es, clock, hb, H⟩ := h
 rcases K.find w hkey es.toList H.all with ⟨h1, h2⟩ | ⟨j, e0, h1, h2, h3⟩
 ·simp [Instr.lookup, run_underlying ht, MapKept.run_getObj_map hb, K.check w _ hkey, h1, hz, Result.andThen]
 ·exact absurd h3 (hm _ (H.uX (List.mem_of_getElem? h2)))
theorem jP {o o' : Obj} (hb : w.heap[b]? = some o) : w.grownBy (setBlock w b o') (some b) :=
 ⟨rfl, rfl, rfl, by simp [setBlock], fun i _ hi => by
  have : i ≠ b := fun e1 => hi (by rw [e1])
  simp [setBlock, Array.getElem?_setIfInBounds, Ne.symm this]⟩
theorem agc.push {es : Array MapEntry} {clock : Nat} (H : agc P k es clock L) (hkey : keyOf P k key = some kl) (hm : ∀ p ∈ L, p.1 ≠ key) : agc P k (es.push ⟨key, v, clock⟩) (clock + 1) (L ++ [(key, v)]) := by
 refine ⟨?_, fun e0 he => ?_, ?_, ?_, fun p hp => ?_⟩
 ·rw [Array.toList_push, List.map_append, H.list]; rfl
 ·rw [Array.toList_push] at he
  rcases List.mem_append.1 he with he | he
  ·have := H.old e0 he; omega
  ·rw [List.mem_singleton.1 he]; exact Nat.lt_succ_self _
 ·rw [Array.toList_push, List.map_append, List.nodup_append]
  refine ⟨H.born, by simp, fun a ha c hc => ?_⟩
  obtain ⟨e0, he, rfl⟩ := List.mem_map.1 ha
  simp only [List.map_cons, List.map_nil, List.mem_singleton] at hc
  have := H.old e0 he
  omega
 ·rw [List.map_append, List.nodup_append]
  refine ⟨H.keys, by simp, fun a ha c hc => ?_⟩
  obtain ⟨p, hp, rfl⟩ := List.mem_map.1 ha
  simp only [List.map_cons, List.map_nil, List.mem_singleton] at hc
  rw [hc]
  exact hm p hp
 ·rcases List.mem_append.1 hp with hp | hp
  ·exact H.keyed p hp
  ·rw [List.mem_singleton.1 hp]; exact ⟨kl, hkey⟩
theorem mg.aqg (h : mg P k w b L) (K : Keyed P k) (ht : P.underlying t = some (.map k e)) (hkey : keyOf P k key = some kl) (hm : ∀ p ∈ L, p.1 ≠ key) :
  ∃ w', (Instr.mapUpdate t (.map (some b)) key v).run P w = .ok () w' ∧ mg P k w' b (L ++ [(key, v)]) ∧ w.grownBy w' (some b) ∧ w'.heap.size = w.heap.size := by
 obtain ⟨es, clock, hb, H⟩ := h
 rcases K.find w hkey es.toList H.all with ⟨h1, h2⟩ | ⟨j, e0, h1, h2, h3⟩
 ·refine ⟨setBlock w b (.map (es.push ⟨key, v, clock⟩) (clock + 1)), ?_, ⟨_, _, heap_setBlock_same hb _, H.push hkey hm⟩, jP hb, by simp [setBlock]⟩
  simp [Instr.mapUpdate, run_underlying ht, MapKept.run_getObj_map hb, K.check w false hkey, h1, MapKept.run_setObj_map _ hb, Result.andThen, setBlock]
 ·exact absurd h3 (hm _ (H.uX (List.mem_of_getElem? h2)))
theorem agc.set {es : Array MapEntry} {clock : Nat} {L1 L2 : VL} {v0 : Value} {j : Nat} {e0 : MapEntry} (H : agc P k es clock (L1 ++ (key, v0) :: L2)) (h2 : es.toList[j]? = some e0) (h3 : e0.key = key) :
  agc P k (es.modify j fun e' => { e' with key := key, val := v }) clock (L1 ++ (key, v) :: L2) ∧ (es.modify j fun e' => { e' with key := key, val := v }).toList = es.toList.set j { e0 with key := key, val := v } := by
 have hl : (es.modify j (fun e' => { e' with key := key, val := v })).toList = es.toList.set j { e0 with key := key, val := v } := by rw [Array.toList_modify, modify_eq_set _ _ _ _ h2]
 have hL : (L1 ++ (key, v0) :: L2)[j]? = some (key, e0.val) := by rw [← H.list, List.getElem?_map, h2, ← h3]; rfl
 have hj : j = L1.length := by
  have hjl := (List.getElem?_eq_some_iff.1 hL).1
  refine (List.getElem?_inj (by simpa using hjl) H.keys).1 ?_
  rw [List.getElem?_map, hL]
  simp
 refine ⟨⟨?_, fun x hx => ?_, ?_, ?_, fun p hp => ?_⟩, hl⟩
 ·rw [hl, List.map_set, H.list, hj]
  simp
 ·rw [hl] at hx
  rcases List.mem_or_eq_of_mem_set hx with hx | rfl
  ·exact H.old x hx
  ·exact H.old e0 (List.mem_of_getElem? h2)
 ·rw [hl, List.map_set]
  have : (es.toList.map (·.born))[j]? = some e0.born := by rw [List.getElem?_map, h2]; rfl
  have e2 : (es.toList.map (·.born)).set j e0.born = es.toList.map (·.born) := by
   obtain ⟨hlt, he⟩ := List.getElem?_eq_some_iff.1 this
   exact he ▸ List.set_getElem_self hlt
  rw [show ({ e0 with key := key, val := v } : MapEntry).born = e0.born from rfl, e2]
  exact H.born
 ·have := H.keys
  simpa using this
 ·rcases List.mem_append.1 hp with hp | hp
  ·exact H.keyed p (List.mem_append.2 (.inl hp))
  ·rcases List.mem_cons.1 hp with rfl | hp
   ·exact H.keyed (key, v0) (by simp)
   ·exact H.keyed p (by simp [hp])
theorem mg.ar3 {L1 L2 : VL} {v0 : Value} (h : mg P k w b (L1 ++ (key, v0) :: L2)) (K : Keyed P k) (ht : P.underlying t = some (.map k e)) (hkey : keyOf P k key = some kl) :
  ∃ w', (Instr.mapUpdate t (.map (some b)) key v).run P w = .ok () w' ∧ mg P k w' b (L1 ++ (key, v) :: L2) ∧ w.grownBy w' (some b) ∧ w'.heap.size = w.heap.size := by
 obtain ⟨es, clock, hb, H⟩ := h
 rcases K.find w hkey es.toList H.all with ⟨h1, h2⟩ | ⟨j, e0, h1, h2, h3⟩
 ·have hm : (key, v0) ∈ es.toList.map kv := by rw [H.list]; simp
  obtain ⟨e0, he, h4⟩ := List.mem_map.1 hm
  exact absurd (Prod.ext_iff.1 h4).1 (h2 e0 he)
 ·have hj : es[j]? = some e0 := by simpa using h2
  refine ⟨setBlock w b (.map (es.modify j fun e' => { e' with key := key, val := v }) clock), ?_, ⟨_, _, heap_setBlock_same hb _, (H.set h2 h3).1⟩, jP hb, by simp [setBlock]⟩
  simp [Instr.mapUpdate, run_underlying ht, MapKept.run_getObj_map hb, K.check w false hkey, h1, hj, h3, K.stays w hkey, MapKept.run_setObj_map _ hb, Result.andThen, setBlock]
theorem yH.ne (h : yH P k w r b L left) : r ≠ b := by
 obtain ⟨es, clock, since, seen, c0, hb, _, hr, _⟩ := h
 intro e1
 rw [e1, hb] at hr
 cases hr
theorem mg.range (h : mg P k w b L) (ht : P.underlying t = some (.map k e)) :
  ∃ w', (Instr.range t (.map (some b))).run P w = .ok (.pointer (some ⟨w.heap.size, 0, none⟩)) w' ∧ yH P k w' w.heap.size b L (L.map Prod.fst) ∧ w.grownBy w' none ∧ w'.heap.size = w.heap.size + 1 := by
 have hlt := h.lt
 obtain ⟨es, clock, hb, H⟩ := h
 refine ⟨_, run_range_map w t k e b es clock ht hb, ⟨es, clock, clock, #[], clock, ((MapKept.heap_alloc w _).2 b hlt).trans hb, H, (MapKept.heap_alloc w _).1, H.old, Nat.le_refl _, Nat.le_refl _, ?_⟩, World.grownBy_alloc w _ none, by simp⟩
 rw [← H.list, List.map_map]
 simp only [leftOf, Array.toList_filter]
 rw [List.filter_eq_self.2 (fun x _ => by simp)]
 rfl
theorem yH.next (h : yH P k w r b L left) (ty : TypeId) :
  (left = [] ∧ (Instr.next (.pointer (some ⟨r, 0, none⟩)) false ty).run P w = .ok (.tuple #[.bool false]) w) ∨
  ∃ key v w' left', key ∈ left ∧ (key, v) ∈ L ∧ (Instr.next (.pointer (some ⟨r, 0, none⟩)) false ty).run P w = .ok (.tuple #[.bool true, key, v]) w' ∧ yH P k w' r b L left' ∧
   (∀ x, x ∈ left' ↔ x ∈ left ∧ x ≠ key) ∧ left'.length < left.length ∧ w.grownBy w' (some r) ∧ w'.heap.size = w.heap.size ∧ ∀ w2 : World, w2.heap[r]? = w'.heap[r]? → w2.heap[b]? = w'.heap[b]? → (Instr.entry (.pointer (some ⟨r, 0, none⟩))).run P w2 = .ok (.tuple #[key, v]) w2 := by
 have hne := h.ne
 obtain ⟨es, clock, since, seen, c0, hb, H, hr, hold, hsc, hsk, rfl⟩ := h
 rcases run_next_at (P := P) w ty r b since c0 seen es clock hr hb hold hsc with ⟨h0, hrun⟩ | ⟨e, he, w1, hal, hrun⟩
 ·refine Or.inl ⟨?_, hrun⟩
  have : (leftOf es seen).toList = [] := List.eq_nil_of_length_eq_zero (by rw [Array.length_toList]; exact h0)
  rw [this]
  rfl
 ·obtain ⟨hem, hes⟩ := mem_left he
  have hr1 : w1.heap[r]? = some (.mapIter (some b) since seen c0) := by rcases hal with rfl | rfl <;> exact hr
  have hb1 : w1.heap[b]? = some (.map es clock) := by rcases hal with rfl | rfl <;> exact hb
  have hset := MapKept.heap_set (o' := .mapIter (some b) since (seen.push e.born) clock) hr1
  have hb' : (setBlock w1 r (.mapIter (some b) since (seen.push e.born) clock)).heap[b]? = some (.map es clock) := (hset.2 b (fun e1 => hne e1.symm)).trans hb1
  refine Or.inr ⟨e.key, e.val, _, _, List.mem_map.2 ⟨e, he, rfl⟩, H.uX hem, hrun, ⟨es, clock, since, seen.push e.born, clock, hb', H, hset.1, hold, hsk, hsk, rfl⟩, fun x => ?_, ?_, ?_, ?_,
    fun w2 h1 h2 => run_entry_at w2 r b since seen es clock e (h1.trans hset.1) (h2.trans hb') hem H.born⟩
  ·have key1 : ∀ y ∈ es.toList, y.key = e.key → y.born = e.born := fun y hy h1 => by
    have hk := H.keys
    rw [← H.list, List.map_map] at hk
    obtain ⟨i, hi, rfl⟩ := List.getElem_of_mem hy
    obtain ⟨j, hj, rfl⟩ := List.getElem_of_mem hem
    have : i = j := by
     refine (List.getElem?_inj (by simpa using hi) hk).1 ?_
     rw [List.getElem?_map, List.getElem?_map, List.getElem?_eq_getElem hi, List.getElem?_eq_getElem hj]
     exact congrArg some h1
    subst this
    rfl
   constructor
   ·intro hx
    obtain ⟨y, hy, rfl⟩ := List.mem_map.1 hx
    obtain ⟨y1, y2⟩ := mem_left hy
    rw [Array.contains_push] at y2
    simp only [Bool.or_eq_false_iff] at y2
    refine ⟨List.mem_map.2 ⟨y, ?_, rfl⟩, fun h1 => ?_⟩
    ·simp only [leftOf, Array.mem_toList_iff, Array.mem_filter]
     exact ⟨by simpa using y1, by simp only [Bool.not_eq_true']; exact y2.1⟩
    ·have := key1 y y1 h1
     simp [this] at y2
   ·rintro ⟨hx, hxe⟩
    obtain ⟨y, hy, rfl⟩ := List.mem_map.1 hx
    obtain ⟨y1, y2⟩ := mem_left hy
    refine List.mem_map.2 ⟨y, ?_, rfl⟩
    simp only [leftOf, Array.mem_toList_iff, Array.mem_filter]
    refine ⟨by simpa using y1, ?_⟩
    rw [Array.contains_push, y2]
    have hbn : y.born ≠ e.born := fun h1 => hxe (by
     have hk := H.born
     obtain ⟨i, hi, rfl⟩ := List.getElem_of_mem y1
     obtain ⟨j, hj, rfl⟩ := List.getElem_of_mem hem
     have : i = j := by
      refine (List.getElem?_inj (by simpa using hi) hk).1 ?_
      rw [List.getElem?_map, List.getElem?_map, List.getElem?_eq_getElem hi, List.getElem?_eq_getElem hj]
      exact congrArg some h1
     subst this
     rfl)
    simp [hbn]
  ·have := left_shrinks es seen e he
   simpa using this
  ·rcases hal with rfl | rfl <;> exact ⟨rfl, rfl, rfl, by simp [setBlock], fun i _ hi => hset.2 i (fun e1 => hi (by rw [e1]))⟩
  ·rcases hal with rfl | rfl <;> simp [setBlock]
theorem yH.upd {L1 L2 : VL} {v0 : Value} (h : yH P k w r b (L1 ++ (key, v0) :: L2) left) (K : Keyed P k) (ht : P.underlying t = some (.map k e)) (hkey : keyOf P k key = some kl) :
  ∃ w', (Instr.mapUpdate t (.map (some b)) key v).run P w = .ok () w' ∧ yH P k w' r b (L1 ++ (key, v) :: L2) left ∧ w.grownBy w' (some b) ∧ w'.heap.size = w.heap.size := by
 have hne := h.ne
 obtain ⟨es, clock, since, seen, c0, hb, H, hr, hold, hsc, hsk, rfl⟩ := h
 rcases K.find w hkey es.toList H.all with ⟨h1, h2⟩ | ⟨j, e0, h1, h2, h3⟩
 ·have hm : (key, v0) ∈ es.toList.map kv := by rw [H.list]; simp
  obtain ⟨e0, he, h4⟩ := List.mem_map.1 hm
  exact absurd (Prod.ext_iff.1 h4).1 (h2 e0 he)
 ·have hj : es[j]? = some e0 := by simpa using h2
  obtain ⟨hE, hl⟩ := H.set (v := v) h2 h3
  refine ⟨setBlock w b (.map (es.modify j fun e' => { e' with key := key, val := v }) clock), ?_, ⟨_, clock, since, seen, c0, heap_setBlock_same hb _, hE, (heap_setBlock_other hb _ hne).trans hr, fun x hx => ?_, hsc, hsk, ?_⟩, jP hb, by simp [setBlock]⟩
  ·simp [Instr.mapUpdate, run_underlying ht, MapKept.run_getObj_map hb, K.check w false hkey, h1, hj, h3, K.stays w hkey, MapKept.run_setObj_map _ hb, Result.andThen, setBlock]
  ·rw [hl] at hx
   rcases List.mem_or_eq_of_mem_set hx with hx | rfl
   ·exact hold x hx
   ·exact hold e0 (List.mem_of_getElem? h2)
  ·simp only [leftOf, Array.toList_filter, hl]
   have hs : ∀ (l : List MapEntry) (j : Nat), l[j]? = some e0 → ((l.set j { e0 with key := key, val := v }).filter fun e => !seen.contains e.born).map (·.key) = (l.filter fun e => !seen.contains e.born).map (·.key) := by
    intro l
    induction l with
    | nil => intro j hj; simp at hj
    | cons x l ih =>
     intro j hj
     cases j with
     | zero =>
      simp only [List.getElem?_cons_zero, Option.some.injEq] at hj
      subst hj
      rw [List.set_cons_zero, List.filter_cons, List.filter_cons]
      dsimp only
      split
      ·rw [List.map_cons, List.map_cons, h3]
      ·rfl
     | succ j =>
      rw [List.getElem?_cons_succ] at hj
      rw [List.set_cons_succ, List.filter_cons, List.filter_cons]
      split
      ·rw [List.map_cons, List.map_cons, ih j hj]
      ·exact ih j hj
   exact hs _ j h2
end Go.Proofs.YtngcedklbinhjaaGreatDoor
namespace Go.Proofs.YtngcedklbinhjaaGreatDoor
open Go.RowKit
set_option linter.all false
theorem agO (l : List It) : ∀ (f n m : Nat), n ≤ m → m < stN l f n → ¬ (gI l m).kd = 1 ∧ forced (gI l m) = false
 | 0, n, m, h1, h2 => by simp only [stN] at h2; omega
 | f + 1, n, m, h1, h2 => by
  unfold stN at h2
  split at h2
  ·rename_i hc
   by_cases h : m = n
   ·subst h; exact hc.2
   ·exact agO l f (n + 1) m (by omega) h2
  ·omega
theorem ahs (l : List It) : ∀ (f n : Nat), l.length ≤ f + n → stN l f n < l.length → (gI l (stN l f n)).kd = 1 ∨ forced (gI l (stN l f n)) = true
 | 0, n, h1, h2 => by simp only [stN] at h2; omega
 | f + 1, n, h1, h2 => by
  unfold stN at h2 ⊢
  split at h2
  ·rename_i hc
   rw [if_pos hc]
   exact ahs l f (n + 1) (by omega) h2
  ·rename_i hc
   rw [if_neg hc]
   by_cases hk : (gI l n).kd = 1
   ·exact .inl hk
   ·right
    cases hf : forced (gI l n) with
    | true => rfl
    | false => exact absurd ⟨h2, hk, hf⟩ hc
theorem aoa {l : List It} {a b n : Nat} (h : rA l a b = true) (h1 : a ≤ n) (h2 : n < b) : forced (gI l n) = false := by
 unfold rA at h
 rw [List.all_eq_true] at h
 have := h (n - a) (List.mem_range.2 (by omega))
 rw [show a + (n - a) = n by omega] at this
 simpa using this
def qW (l : List It) (tx : LS) (s : ByteArray) (n : Nat) : ByteArray :=
 if (gI l n).kd = 1 then s ++ (tx[nbX l n]?.getD .empty) else if 0 < (gI l n).wd then s ++ ⟨#[32]⟩ else s
def liF (l : List It) (tx : LS) (is : List Int) : ByteArray := is.foldl (fun s n => qW l tx s n.toNat) ⟨#[]⟩
theorem yE (l : List It) (tx : LS) (is : List Int) (n : Int) : liF l tx (is ++ [n]) = qW l tx (liF l tx is) n.toNat := by simp [liF, List.foldl_append]
theorem xG {l : List It} {tx : LS} {is : List Int} {j : Nat} (h : j < is.length) : liF l tx (is.take (j + 1)) = qW l tx (liF l tx (is.take j)) (is[j]?.getD 0).toNat := by
 rw [List.take_succ_eq_append_getElem h, yE, List.getElem?_eq_getElem h, Option.getD_some]
theorem xO {l : List It} {tx : LS} (h : ∀ k : Nat, (tx[k]?.getD ByteArray.empty).size ≤ 20) (is : List Int) : ∀ j, j ≤ is.length → (liF l tx (is.take j)).size ≤ 20 * j
 | 0, _ => by simp [liF, ByteArray.size]
 | j + 1, hj => by
  have ih := xO (l := l) h is j (by omega)
  rw [xG (by omega)]
  unfold qW
  split
  ·rw [ByteArray.size_append]
   have := h (nbX l (is[j]?.getD 0).toNat)
   omega
  ·split
   ·rw [ByteArray.size_append, show (⟨#[32]⟩ : ByteArray).size = 1 from rfl]
    omega
   ·omega
theorem adC {s : ByteArray} (h : 1 ≤ s.size) : ¬ s = ⟨#[]⟩ := fun e => by subst e; simp [ByteArray.size] at h
theorem aAM {l : List It} {tx : LS} {a en : Nat} (hl : bM l = true) (hq : fI l a en = true) (htx : ∀ k, k < nb l → 1 ≤ (tx[k]?.getD .empty).size) : ∀ i, aH l a + i ≤ en → liF l tx (mZ l (aH l a) (aH l a + i)) = lnT l tx a (aH l a + i - a) ∧ (0 < i → 1 ≤ (lnT l tx a (aH l a + i - a)).size) := by
 obtain ⟨⟨ha, hen⟩, -, -, hs, hf⟩ := gy.1 hq
 have hsa := (wS (l := l) (a := a)).1
 have hfront : ∀ i, a + i ≤ aH l a → lnT l tx a i = ⟨#[]⟩ := by
  intro i
  induction i with
  | zero => intro _; rfl
  | succ i ih =>
   intro h
   have h1 := agO l (l.length - a) a (a + i) (by omega) (show a + i < aH l a by omega)
   rw [lnT, ih (by omega), ajk h1.1 (fun q => q.2.2 rfl)]
 intro i
 induction i with
 | zero =>
  intro h
  refine ⟨?_, fun h => by omega⟩
  rw [Nat.add_zero, sG (Nat.le_refl _), hfront _ (by omega)]
  rfl
 | succ i ih =>
  intro h
  obtain ⟨e1, e2⟩ := ih (by omega)
  have hlt : aH l a + i < l.length := by omega
  have hI := gZ hl hlt
  have hS : lnT l tx a (aH l a + (i + 1) - a) = nu l tx (lnT l tx a (aH l a + i - a)) (aH l a + i) := by
   rw [show aH l a + (i + 1) - a = (aH l a + i - a) + 1 by omega, lnT, show a + (aH l a + i - a) = aH l a + i by omega]
  have hfirst : i = 0 → (gI l (aH l a + i)).kd = 1 := fun h0 => by
   subst h0
   rcases ahs l (l.length - a) a (by omega) (show aH l a < l.length by omega) with h1 | h1
   ·exact h1
   ·have h2 := aoa hf hsa (show aH l a < en by omega)
    have h3 : forced (gI l (aH l a)) = true := h1
    rw [h2] at h3
    cases h3
  rw [hS, ← Nat.add_assoc]
  generalize lnT l tx a (aH l a + i - a) = s at *
  by_cases k1 : (gI l (aH l a + i)).kd = 1
  ·rw [oD (by omega) (by omega), yE, e1, Int.toNat_natCast, ai8 k1]
   unfold qW
   rw [if_pos k1]
   refine ⟨rfl, fun _ => ?_⟩
   have := htx _ (ado hlt k1)
   rw [ByteArray.size_append]
   omega
  ·have hi0 : 0 < i := by
    rcases Nat.eq_zero_or_pos i with h0 | h0
    ·exact absurd (hfirst h0) k1
    ·exact h0
   have hs1 := e2 hi0
   by_cases k3 : (gI l (aH l a + i)).kd = 3
   ·rw [xI (by omega) k3, e1, ajk k1 (fun q => by have := q.1; omega)]
    exact ⟨rfl, fun _ => hs1⟩
   ·have k2 : (gI l (aH l a + i)).kd = 2 := by
     have h5 : (gI l (aH l a + i)).kd = 1 ∨ (gI l (aH l a + i)).kd = 2 ∨ (gI l (aH l a + i)).kd = 3 := hI.kd
     omega
    rw [oD (by omega) k3, yE, e1, Int.toNat_natCast]
    unfold qW
    rw [if_neg k1]
    by_cases hw : 0 < (gI l (aH l a + i)).wd
    ·rw [if_pos hw, aiS ⟨k2, hw, adC hs1⟩]
     refine ⟨rfl, fun _ => ?_⟩
     rw [ByteArray.size_append]
     omega
    ·rw [if_neg hw, ajk k1 (fun q => hw q.2.1)]
     exact ⟨rfl, fun _ => hs1⟩
theorem aj9 {l : List It} {tx : LS} {a en : Nat} (hl : bM l = true) (hq : fI l a en = true) (htx : ∀ k, k < nb l → 1 ≤ (tx[k]?.getD .empty).size) : liF l tx (mZ l (aH l a) en) = lnT l tx a (en - a) := by
 have hs := (gy.1 hq).2.2.2.1
 have := (aAM hl hq htx (en - aH l a) (by omega)).1
 rwa [show aH l a + (en - aH l a) = en by omega] at this
theorem anp {ws pats : LS} {k : Nat} (h : k < (txR ws pats).length) : 1 ≤ ((txR ws pats)[k]?.getD .empty).size := (aW (ai5 h)).2.1
def bxL (l : List It) (tx : LS) (k : Nat) : VL := ((List.range k).filter fun n : Nat => decide ((gI l n).kd = 1)).map fun n : Nat => (Value.int .i64 (n : Int), Value.string (tx[nbX l n]?.getD .empty))
theorem ajG {l : List It} {tx : LS} {k : Nat} (h : (gI l k).kd = 1) : bxL l tx (k + 1) = bxL l tx k ++ [(.int .i64 (k : Int), .string (tx[nbX l k]?.getD .empty))] := by
 simp [bxL, List.range_succ, List.filter_append, h]
theorem anI {l : List It} {tx : LS} {k : Nat} (h : ¬ (gI l k).kd = 1) : bxL l tx (k + 1) = bxL l tx k := by
 simp [bxL, List.range_succ, List.filter_append, h]
theorem aiJ {l : List It} {tx : LS} : ∀ {k : Nat}, k ≤ l.length → (bxL l tx k).length = nbX l k
 | 0, _ => rfl
 | k + 1, h => by
  have ih := aiJ (l := l) (tx := tx) (k := k) (by omega)
  by_cases hk : (gI l k).kd = 1
  ·rw [ajG hk, List.length_append, ih, aci (by omega) hk]; rfl
  ·rw [anI hk, ih, ahR (by omega) hk]
theorem ap8 {l : List It} {tx : LS} {k n : Nat} (h : n < k) (hk : (gI l n).kd = 1) : (Value.int .i64 (n : Int), Value.string (tx[nbX l n]?.getD .empty)) ∈ bxL l tx k :=
 List.mem_map.2 ⟨n, List.mem_filter.2 ⟨List.mem_range.2 h, by simpa using hk⟩, rfl⟩
theorem aiz {l : List It} {tx : LS} {k : Nat} {p : Value × Value} (h : p ∈ bxL l tx k) : ∃ n : Nat, n < k ∧ p.1 = .int .i64 (n : Int) := by
 obtain ⟨n, h1, rfl⟩ := List.mem_map.1 h
 exact ⟨n, List.mem_range.1 (List.mem_filter.1 h1).1, rfl⟩
theorem aoW {l : List It} {tx : LS} {k : Nat} : ∀ p ∈ bxL l tx k, p.1 ≠ .int .i64 (k : Int) := fun p hp e => by
 obtain ⟨n, h1, h2⟩ := aiz hp
 rw [h2] at e
 simp only [Value.int.injEq, true_and] at e
 omega
theorem ajV {l : List It} {tx : LS} (k : Nat) : ((bxL l tx k).map Prod.fst).Nodup := by
 unfold bxL
 rw [List.map_map]
 refine List.Pairwise.map _ (fun a b h => ?_) (List.Pairwise.filter _ List.nodup_range)
 simp only [Function.comp, ne_eq, Value.int.injEq, true_and]
 omega
end Go.Proofs.YtngcedklbinhjaaGreatDoor
namespace Go.Proofs.YtngcedklbinhjaaGreatDoor
open Go.RowKit
set_option linter.all false
noncomputable def φBb : Fun := F3 nA dI dI fun l wd most => if afr l then some (.tup [.lst true 1 ((apK l wd most).map fun n => .val (.int .i64 n)), bv (jO l wd most)]) else none
theorem ajR {l : List It} {wd most : Int} (h : afr l) : φBb [gG l, .val (.int .i64 wd), .val (.int .i64 most)] = some (.tup [.lst true 1 ((apK l wd most).map fun n => .val (.int .i64 n)), .val (.bool (jO l wd most))]) := (aa0 (A := nA) (B := dI) (C := dI) l wd most).trans (if_pos h)
theorem kI {l : List It} {wd most : Int} {a j en : Nat} (he : l.length - (j + 1) = en) (h : iT l wd most a en = none) (k : Int) : bW l wd most a k (aX l wd most) (j + 1) = bW l wd most a k (aX l wd most) j := by
 rw [bW, he, iR h]
theorem sJ {l : List It} {wd most : Int} {a j en : Nat} {x : Int × Int} (he : l.length - (j + 1) = en) (h : iT l wd most a en = some x) (h2 : aX l wd most (en + 1) x.2 = none) (k : Int) : bW l wd most a k (aX l wd most) (j + 1) = bW l wd most a k (aX l wd most) j := by
 rw [bW, he, kJ h h2]
theorem u7 {l : List It} {wd most : Int} {a j en : Nat} {x : Int × Int} {r : Ch} (he : l.length - (j + 1) = en) (h : iT l wd most a en = some x) (h2 : aX l wd most (en + 1) x.2 = some r) (k : Int) :
  bW l wd most a k (aX l wd most) (j + 1) = if (bW l wd most a k (aX l wd most) j).all (fun y => decide (x.1 + jm l a en k x.2 + r.1 < y.1)) = true then some (x.1 + jm l a en k x.2 + r.1, en, x.2) else bW l wd most a k (aX l wd most) j := by
 rw [bW, he, kU h h2]
theorem aaS {l : List It} {wd most : Int} {a en : Nat} (h : fI l a en = true) (h2 : 0 ≤ (iL l wd a en).1 ∧ (iL l wd a en).1 ≤ most) : iT l wd most a en = some (mq (iL l wd a en).1 (gI l en).cost, gU (iL l wd a en).2 (iL l wd a en).1) := if_pos ⟨h, h2⟩
def g0 (n k : Nat) : Nat → Nat → Bool := fun i j => decide (i = n ∧ j < k)
theorem aol (n : Nat) : tab n (g0 n 0) = tab n (fun _ _ => false) := iJ fun i j _ _ => by simp [g0]
theorem aok (n k : Nat) : tab n (wC (g0 n k) n k true) = tab n (g0 n (k + 1)) := iJ fun i j _ _ => by
 unfold wC g0
 by_cases h : i = n ∧ j = k
 ·rw [if_pos h, decide_eq_true (by omega)]
 ·rw [if_neg h]
  congr 1
  apply propext
  omega
theorem aEj (l : List It) (wd most : Int) : tab l.length (tB (tbA l wd most l.length)) = tab l.length (fun _ _ => 0) ∧ tab l.length (tG (tbA l wd most l.length)) = tab l.length (g0 l.length 4) ∧ tab l.length (tN (tbA l wd most l.length)) = tab l.length (fun _ _ => 0) :=
 ⟨iJ fun i k h1 h2 => by
   unfold tB
   rw [abx i k h1 h2]
   split <;> rfl,
  iJ fun i k h1 h2 => by
   unfold tG
   rw [abx i k h1 h2]
   unfold g0
   split
   ·rw [decide_eq_true (by omega)]; rfl
   ·rw [decide_eq_false (by omega)]; rfl,
  iJ fun i k h1 h2 => by
   unfold tN
   rw [abx i k h1 h2]
   split <;> rfl⟩
theorem zW {l : List It} {wd most : Int} {a en : Nat} (h : fI l a en = false) : iT l wd most a en = none := if_neg fun q => by rw [h] at q; cases q.1
theorem aam {l : List It} {wd most : Int} {a en : Nat} (h : ¬ (0 ≤ (iL l wd a en).1 ∧ (iL l wd a en).1 ≤ most)) : iT l wd most a en = none := if_neg fun q => h q.2
noncomputable def GBb : Ctx := { fn := fun f => if f = 50 then some rF else if f = 51 then some φIn else if f = 52 then some φBq else if f = 53 then some φLq else if f = 54 then some φBd else if f = 55 then some φLk else if f = 56 then some φCo else if f = 57 then some φBw else none, io := fun f => none }
theorem at6 : aA Tryz.prog GBb := ⟨(fun f φ h => by
 unfold GBb at h
 dsimp only at h
 split at h
 ·rename_i hf; cases h; subst hf; exact ⟨⟨_, Tryz.func50, rfl, rfl⟩, afw⟩
 split at h
 ·rename_i hf; cases h; subst hf; exact ⟨⟨_, Tryz.func51, rfl, rfl⟩, jK⟩
 split at h
 ·rename_i hf; cases h; subst hf; exact ⟨⟨_, Tryz.func52, rfl, rfl⟩, zP⟩
 split at h
 ·rename_i hf; cases h; subst hf; exact ⟨⟨_, Tryz.func53, rfl, rfl⟩, ahZ⟩
 split at h
 ·rename_i hf; cases h; subst hf; exact ⟨⟨_, Tryz.func54, rfl, rfl⟩, aj2⟩
 split at h
 ·rename_i hf; cases h; subst hf; exact ⟨⟨_, Tryz.func55, rfl, rfl⟩, akc⟩
 split at h
 ·rename_i hf; cases h; subst hf; exact ⟨⟨_, Tryz.func56, rfl, rfl⟩, agw⟩
 split at h
 ·rename_i hf; cases h; subst hf; exact ⟨⟨_, Tryz.func57, rfl, rfl⟩, agQ⟩
 cases h), (fun f φ h => by
 unfold GBb at h
 dsimp only at h
 cases h), rfl⟩
theorem aaZ (ob : aF) (ps : List PV) : ah GBb ob 50 ps = (ps.mapM (reify false 0 ob fuel)).bind rF := by
 have h : GBb.fn 50 = some rF := by simp [GBb]
 unfold ah
 rw [h]
 cases ps.mapM (reify false 0 ob fuel) <;> rfl
theorem zD (ob : aF) (ps : List PV) : ah GBb ob 51 ps = (ps.mapM (reify false 0 ob fuel)).bind φIn := by
 have h : GBb.fn 51 = some φIn := by simp [GBb]
 unfold ah
 rw [h]
 cases ps.mapM (reify false 0 ob fuel) <;> rfl
theorem zh (ob : aF) (ps : List PV) : ah GBb ob 52 ps = (ps.mapM (reify false 0 ob fuel)).bind φBq := by
 have h : GBb.fn 52 = some φBq := by simp [GBb]
 unfold ah
 rw [h]
 cases ps.mapM (reify false 0 ob fuel) <;> rfl
theorem zm (ob : aF) (ps : List PV) : ah GBb ob 53 ps = (ps.mapM (reify false 0 ob fuel)).bind φLq := by
 have h : GBb.fn 53 = some φLq := by simp [GBb]
 unfold ah
 rw [h]
 cases ps.mapM (reify false 0 ob fuel) <;> rfl
theorem aae (ob : aF) (ps : List PV) : ah GBb ob 54 ps = (ps.mapM (reify false 0 ob fuel)).bind φBd := by
 have h : GBb.fn 54 = some φBd := by simp [GBb]
 unfold ah
 rw [h]
 cases ps.mapM (reify false 0 ob fuel) <;> rfl
theorem aaG (ob : aF) (ps : List PV) : ah GBb ob 55 ps = (ps.mapM (reify false 0 ob fuel)).bind φLk := by
 have h : GBb.fn 55 = some φLk := by simp [GBb]
 unfold ah
 rw [h]
 cases ps.mapM (reify false 0 ob fuel) <;> rfl
theorem zU (ob : aF) (ps : List PV) : ah GBb ob 56 ps = (ps.mapM (reify false 0 ob fuel)).bind φCo := by
 have h : GBb.fn 56 = some φCo := by simp [GBb]
 unfold ah
 rw [h]
 cases ps.mapM (reify false 0 ob fuel) <;> rfl
theorem aaD (ob : aF) (ps : List PV) : ah GBb ob 57 ps = (ps.mapM (reify false 0 ob fuel)).bind φBw := by
 have h : GBb.fn 57 = some φBw := by simp [GBb]
 unfold ah
 rw [h]
 cases ps.mapM (reify false 0 ob fuel) <;> rfl
set_option maxHeartbeats 32000000 in
theorem ah4 : Sound Tryz.prog 26 φBb := by
 refine ay mixed at6 Tryz.func26 rfl 218 rfl [.tmp 6, .tmp 7] rfl (by kernel_rfl) fun ps r hr => ?_
 obtain ⟨l, wd, most, rfl, hq⟩ := jq hr
 clear hr
 split at hq
 case isFalse => cases hq
 case isTrue hpre =>
 cases hq
 refine ⟨by simp, ?_⟩
 simp only [dIs, dUs, dSs, eX, fq, eT, fE, bS, fA, bO, bP, bR, bQ]
 have apv := xq hpre
 have api := dR
 have hl0 : l.length ≤ 1000 := hpre
 show pq _ _ _ _ _ (eO [gG l, .val (.int .i64 wd), .val (.int .i64 most)]).tm _ _
 unfold apK
 by_cases hg : bM l = true ∧ 0 < l.length ∧ (0 ≤ wd ∧ wd ≤ 1000) ∧ (0 ≤ most ∧ most ≤ 10000)
 ·obtain ⟨hB, hn, hw, hm⟩ := hg
  have hl := cK hB
  have hok : jO l wd most = (aX l wd most 0 1).isSome := by
   unfold jO
   rw [hB, decide_eq_true hn, aj.2 hw, aj.2 hm]
   rfl
  rw [hok]
  clear hok hpre
  rw [hB] at apv
  have api1 : inB wd 0 1000 = true := aj.2 hw
  have api2 : inB most 0 10000 = true := aj.2 hm
  have gbb_c50 := aaZ; have gbb_c51 := zD; have gbb_c52 := zh; have gbb_c53 := zm; have gbb_c54 := aae; have gbb_c55 := aaG; have gbb_c56 := zU; have gbb_c57 := aaD
  (refine wlk ?_; intros)
  obtain ⟨t1, t2, t3⟩ := aEj l wd most
  refine aT (α := Nat) mixed (fun k => [(0, gG l), (1, iv wd), (2, iv most), (8, .row 0 1 0 0), (9, iv l.length), (10, .row 1 4 0 (l.length + 1)), (11, .row 2 4 0 (l.length + 1)), (12, .row 3 4 0 (l.length + 1)), (13, iv k)])
   (fun k => [(0, 3, 1, []), (1, 101, 4, (tab l.length fun _ _ => 0).map aa3), (2, 95, 4, (tab l.length (g0 l.length k)).map ama), (3, 101, 4, (tab l.length fun _ _ => 0).map aa3)]) (fun _ => 4)
   (fun k => k ≤ 4) (fun k => 4 - k) (by kernel_rfl) 0 (Nat.zero_le _) ?_ ?_ rfl ?_
  ·exact agr
  ·simp (disch := (first | omega | (simp only [push_cast]; first | done | omega))) only [push_cast, ↓reduceIte, Nat.reduceEqDiff, Nat.reduceBEq, Nat.reduceAdd, Nat.reduceSub, Int.reduceToNat, aol, *]
  intro k hk
  by_cases hk4 : k < 4
  ·have hs := aok l.length k
   clear t1 t2 t3
   (refine wlk ?_; intros)
   refine ⟨k + 1, by omega, by dsimp only; omega, ?_, ?_, rfl⟩
   ·exact agr
   ·exact agr
  obtain rfl : k = 4 := by omega
  (refine wlk ?_; intros)
  refine aT (α := Nat × Int) mixed (fun z => [(0, gG l), (1, iv wd), (2, iv most), (8, .row 0 1 0 0), (9, iv l.length), (10, .row 1 4 0 (l.length + 1)), (11, .row 2 4 0 (l.length + 1)), (12, .row 3 4 0 (l.length + 1)), (14, iv z.2)])
   (fun z => [(0, 3, 1, []), (1, 101, 4, (tab l.length (tB (tbA l wd most z.1))).map aa3), (2, 95, 4, (tab l.length (tG (tbA l wd most z.1))).map ama), (3, 101, 4, (tab l.length (tN (tbA l wd most z.1))).map aa3)]) (fun _ => 4)
   (fun z => z.1 ≤ l.length ∧ z.2 = (z.1 : Int) - 2) (fun z => z.1) (by kernel_rfl) (l.length, (l.length : Int) - 2) ⟨Nat.le_refl _, rfl⟩ ?_ ?_ rfl ?_
  ·exact agr
  ·exact agr
  clear t1 t2 t3 hk hk4
  rintro ⟨m, v⟩ ⟨hml, hv⟩
  dsimp only at hml hv
  by_cases h1 : 1 ≤ m
  ·obtain ⟨a, rfl⟩ : ∃ a, m = a + 1 := ⟨m - 1, by omega⟩
   obtain rfl : v = (a : Int) - 1 := by omega
   clear hv h1
   have hal : a < l.length := by omega
   have hcan : (a : Int) - 1 + 1 = a := by omega
   by_cases hskip : 0 < a ∧ lJ l (a - 1) = false
   ·obtain ⟨ha0, hbq⟩ := hskip
    have apq := yV (n := a - 1) hB (by omega)
    rw [hbq, show ((a - 1 : Nat) : Int) = (a : Int) - 1 by omega] at apq
    have hE := Lib.hid (dn (ak0 (wd := wd) (most := most) hal ha0 hbq))
    clear hbq
    (refine wlk ?_; intros)
    refine ⟨(a, (a : Int) - 1 - 1), ⟨by dsimp only; omega, by dsimp only; omega⟩, by dsimp only; omega, ?_, ?_, rfl⟩
    ·exact agr
    ·obtain ⟨e1, e2, e3⟩ := hE.out
     exact agr
   ·have hgo : 0 < a → φBq [gG l, .val (.int .i64 ((a : Int) - 1))] = some (.val (.bool true)) := fun ha0 => by
     have apq := yV (n := a - 1) hB (by omega)
     rw [show ((a - 1 : Nat) : Int) = (a : Int) - 1 by omega] at apq
     rw [apq]
     cases hb : lJ l (a - 1) with
     | true => rfl
     | false => exact absurd ⟨ha0, hb⟩ hskip
    clear hskip
    by_cases ha0 : 0 < a
    ·have apq := hgo ha0
     clear hgo
     (refine wlk ?_; intros)
     refine aT (α := Nat × Int) mixed (fun z => [(0, gG l), (1, iv wd), (2, iv most), (8, .row 0 1 0 0), (9, iv l.length), (10, .row 1 4 0 (l.length + 1)), (11, .row 2 4 0 (l.length + 1)), (12, .row 3 4 0 (l.length + 1)), (14, iv ((a : Int) - 1)), (15, iv z.2)])
      (fun z => [(0, 3, 1, []), (1, 101, 4, (tab l.length (tB (tbJ l wd most a z.1))).map aa3), (2, 95, 4, (tab l.length (tG (tbJ l wd most a z.1))).map ama), (3, 101, 4, (tab l.length (tN (tbJ l wd most a z.1))).map aa3)]) (fun _ => 4)
      (fun z => z.1 + a ≤ l.length ∧ z.2 = (l.length : Int) - 1 - z.1) (fun z => l.length - z.1) (by kernel_rfl) (0, (l.length : Int) - 1) ⟨by dsimp only; omega, by simp⟩ ?_ ?_ rfl ?_
     ·exact agr
     ·obtain ⟨e1, e2, e3⟩ := dn (aev (l := l) (wd := wd) (most := most) (a := a))
      exact agr
     rintro ⟨j, u⟩ ⟨hj, hu⟩
     dsimp only at hj hu
     by_cases h2 : j + a < l.length
     ·obtain ⟨en, rfl⟩ : ∃ en : Nat, u = en := ⟨u.toNat, by omega⟩
      have he : l.length - (j + 1) = en := by omega
      have hu1 : (en : Int) ≤ l.length - 1 - j := by omega
      have hu2 : (l.length : Int) - 1 - j ≤ en := by omega
      replace he := Lib.hid he
      clear hu
      have hae : a ≤ en := by omega
      have hel : en < l.length := by omega
      have apl := agV hB hae hel
      have hskip : (∀ k : Int, bW l wd most a k (aX l wd most) (j + 1) = bW l wd most a k (aX l wd most) j) → tab l.length (tB (tbJ l wd most a j)) = tab l.length (tB (tbJ l wd most a (j + 1))) ∧ tab l.length (tG (tbJ l wd most a j)) = tab l.length (tG (tbJ l wd most a (j + 1))) ∧ tab l.length (tN (tbJ l wd most a j)) = tab l.length (tN (tbJ l wd most a (j + 1))) := fun h => dn (adu h)
      cases hq : fI l a en with
      | false =>
       rw [hq] at apl
       have hE := Lib.hid (hskip (kI he.out (zW hq)))
       clear hskip hq
       (refine wlk ?_; intros)
       refine ⟨(j + 1, (en : Int) - 1), ⟨by dsimp only; omega, by dsimp only; omega⟩, by dsimp only; omega, ?_, ?_, rfl⟩
       ·exact agr
       ·obtain ⟨e1, e2, e3⟩ := hE.out
        exact agr
      | true =>
      rw [hq] at apl
      have hst := (gy.1 hq).2.2.2.1
      have apb := ac4 hB hae hel hw hst
      by_cases hb : 0 ≤ (iL l wd a en).1 ∧ (iL l wd a en).1 ≤ most
      ·have hcst : aha (l[en]?.getD it0).2.2.2.2.2.1 := (gZ hB hel).cost
       have hL : iT l wd most a en = some (mq (iL l wd a en).1 (l[en]?.getD it0).2.2.2.2.2.1, gU (iL l wd a en).2 (iL l wd a en).1) := aaS hq hb
       clear hq hst
       generalize iL l wd a en = bd at *
       obtain ⟨bad, st⟩ := bd
       dsimp only at hb hL apb
       have apk := xw (s := st) (bad := bad) ⟨hb.1, by omega⟩
       have apc := abK (bad := bad) ⟨hb.1, by omega⟩ hcst
       have hcr := o7 (bad := bad) ⟨hb.1, by omega⟩ hcst
       have hkr := mE st bad
       obtain ⟨kk, hkk⟩ : ∃ kk : Nat, gU st bad = kk := ⟨(gU st bad).toNat, by omega⟩
       rw [hkk] at hL apk hkr
       clear hkk hcst
       cases hr : aX l wd most (en + 1) kk with
       | none =>
        have hG : tG (tbJ l wd most a j) (en + 1) kk = false := by unfold tG; rw [jX (by omega), hr]; rfl
        have hE := Lib.hid (hskip (sJ he.out hL hr))
        clear hskip hL hr
        (refine wlk ?_; intros)
        refine ⟨(j + 1, (en : Int) - 1), ⟨by dsimp only; omega, by dsimp only; omega⟩, by dsimp only; omega, ?_, ?_, rfl⟩
        ·exact agr
        ·obtain ⟨e1, e2, e3⟩ := hE.out
         exact agr
       | some r =>
        have hG : tG (tbJ l wd most a j) (en + 1) kk = true := by unfold tG; rw [jX (by omega), hr]; rfl
        have hBv : tB (tbJ l wd most a j) (en + 1) kk = r.1 := by unfold tB; rw [jX (by omega), hr]; rfl
        have hrr := (eD hB hm.2 (by omega) hr).1
        have hlive := fun k => u7 he.out hL hr k
        clear hskip hL hr
        generalize hyy : l[en]?.getD it0 = yy at *
        obtain ⟨y1, y2, y3, y4, y5, y6, y7⟩ := yy
        dsimp only at apc hcr hlive
        generalize mq bad y6 = co at *
        obtain ⟨rc, rn, rk⟩ := r
        dsimp only at hBv hrr hlive
        replace hlive := Lib.hid hlive
        (refine wlk ?_; intros)
        refine aT (α := Nat) mixed (fun b => [(0, gG l), (1, iv wd), (2, iv most), (8, .row 0 1 0 0), (9, iv l.length), (10, .row 1 4 0 (l.length + 1)), (11, .row 2 4 0 (l.length + 1)), (12, .row 3 4 0 (l.length + 1)), (14, iv ((a : Int) - 1)), (15, iv en), (18, iv kk), (19, iv (co + rc)), (20, iv b)])
         (fun b => [(0, 3, 1, []), (1, 101, 4, (tab l.length (tB (tbK l wd most a j b))).map aa3), (2, 95, 4, (tab l.length (tG (tbK l wd most a j b))).map ama), (3, 101, 4, (tab l.length (tN (tbK l wd most a j b))).map aa3)]) (fun _ => 4)
         (fun b => b ≤ 4) (fun b => 4 - b) (by kernel_rfl) 0 (Nat.zero_le _) ?_ ?_ rfl ?_
        ·exact agr
        ·obtain ⟨e1, e2, e3⟩ := dn (adT (l := l) (wd := wd) (most := most) (a := a) (j := j))
         exact agr
        clear hG hBv apc apk apb apl
        intro b hb4
        by_cases hb3 : b < 4
        ·have apw := ah0 (be := (b : Int)) (lk := (kk : Int)) hB hae hel ⟨by omega, by omega⟩ ⟨by omega, by omega⟩
         have hbw := lU l a en b kk
         have hx := hlive.out (b : Int)
         generalize jm l a en b kk = bw at *
         cases hacc : bW l wd most a b (aX l wd most) j with
         | none =>
          rw [hacc] at hx
          replace hx : _ = some _ := hx
          have hG : tG (tbK l wd most a j b) a b = false := by unfold tG; rw [mJ, hacc]; rfl
          have hE := Lib.hid (dn (su hx))
          clear hx hacc
          (refine wlk ?_; intros)
          refine ⟨b + 1, by omega, by dsimp only; omega, ?_, ?_, rfl⟩
          ·exact agr
          ·have hE2 := hE.out
           rw [← adB, ← adV, ← adF] at hE2
           obtain ⟨e1, e2, e3⟩ := hE2
           dsimp only at e1 e2 e3
           rw [show co + bw + rc = co + rc + bw by omega] at e1
           exact agr
         | some y =>
          rw [hacc] at hx
          have hG : tG (tbK l wd most a j b) a b = true := by unfold tG; rw [mJ, hacc]; rfl
          have hB2 : tB (tbK l wd most a j b) a b = y.1 := by unfold tB; rw [mJ, hacc]; rfl
          have hyr := (qb hB hm.2 hal hacc).1
          by_cases hlt : co + rc + bw < y.1
          ·rw [if_pos (show (some y).all (fun y => decide (co + bw + rc < y.1)) = true from decide_eq_true (show co + bw + rc < y.1 by omega))] at hx
           have hE := Lib.hid (dn (su hx))
           clear hx hacc
           generalize y.1 = yc at *
           (refine wlk ?_; intros)
           refine ⟨b + 1, by omega, by dsimp only; omega, ?_, ?_, rfl⟩
           ·exact agr
           ·have hE2 := hE.out
            rw [← adB, ← adV, ← adF] at hE2
            obtain ⟨e1, e2, e3⟩ := hE2
            dsimp only at e1 e2 e3
            rw [show co + bw + rc = co + rc + bw by omega] at e1
            exact agr
          ·rw [if_neg (show ¬ (some y).all (fun y => decide (co + bw + rc < y.1)) = true from fun q => hlt (by have := of_decide_eq_true (show decide (co + bw + rc < y.1) = true from q); omega))] at hx
           have hE := Lib.hid (dn (adO (hx.trans hacc.symm)))
           clear hx hacc
           generalize y.1 = yc at *
           (refine wlk ?_; intros)
           refine ⟨b + 1, by omega, by dsimp only; omega, ?_, ?_, rfl⟩
           ·exact agr
           ·obtain ⟨e1, e2, e3⟩ := hE.out
            exact agr
        ·obtain rfl : b = 4 := by omega
         have hE := Lib.hid (dn (agI (l := l) (wd := wd) (most := most) (a := a) (j := j)))
         clear hlive
         (refine wlk ?_; intros)
         refine ⟨(j + 1, (en : Int) - 1), ⟨by dsimp only; omega, by dsimp only; omega⟩, by dsimp only; omega, ?_, ?_, rfl⟩
         ·exact agr
         ·obtain ⟨e1, e2, e3⟩ := hE.out
          exact agr
      ·have hE := Lib.hid (hskip (kI he.out (aam hb)))
       clear hskip hq
       generalize iL l wd a en = bd at *
       obtain ⟨bad, st⟩ := bd
       dsimp only at hb apb
       by_cases hb0 : bad < 0
       ·clear hb
        (refine wlk ?_; intros)
        refine ⟨(j + 1, (en : Int) - 1), ⟨by dsimp only; omega, by dsimp only; omega⟩, by dsimp only; omega, ?_, ?_, rfl⟩
        ·exact agr
        ·obtain ⟨e1, e2, e3⟩ := hE.out
         exact agr
       ·have hb1 : most < bad := by omega
        clear hb
        (refine wlk ?_; intros)
        refine ⟨(j + 1, (en : Int) - 1), ⟨by dsimp only; omega, by dsimp only; omega⟩, by dsimp only; omega, ?_, ?_, rfl⟩
        ·exact agr
        ·obtain ⟨e1, e2, e3⟩ := hE.out
         exact agr
     ·obtain rfl : j = l.length - a := by omega
      have hE := Lib.hid (dn (ahu (wd := wd) (most := most) hal))
      (refine wlk ?_; intros)
      refine ⟨(a, (a : Int) - 1 - 1), ⟨by dsimp only; omega, by dsimp only; omega⟩, by dsimp only; omega, ?_, ?_, rfl⟩
      ·exact agr
      ·obtain ⟨e1, e2, e3⟩ := hE.out
       exact agr
    ·clear hgo
     (refine wlk ?_; intros)
     refine aT (α := Nat × Int) mixed (fun z => [(0, gG l), (1, iv wd), (2, iv most), (8, .row 0 1 0 0), (9, iv l.length), (10, .row 1 4 0 (l.length + 1)), (11, .row 2 4 0 (l.length + 1)), (12, .row 3 4 0 (l.length + 1)), (14, iv ((a : Int) - 1)), (15, iv z.2)])
      (fun z => [(0, 3, 1, []), (1, 101, 4, (tab l.length (tB (tbJ l wd most a z.1))).map aa3), (2, 95, 4, (tab l.length (tG (tbJ l wd most a z.1))).map ama), (3, 101, 4, (tab l.length (tN (tbJ l wd most a z.1))).map aa3)]) (fun _ => 4)
      (fun z => z.1 + a ≤ l.length ∧ z.2 = (l.length : Int) - 1 - z.1) (fun z => l.length - z.1) (by kernel_rfl) (0, (l.length : Int) - 1) ⟨by dsimp only; omega, by simp⟩ ?_ ?_ rfl ?_
     ·exact agr
     ·obtain ⟨e1, e2, e3⟩ := dn (aev (l := l) (wd := wd) (most := most) (a := a))
      exact agr
     rintro ⟨j, u⟩ ⟨hj, hu⟩
     dsimp only at hj hu
     by_cases h2 : j + a < l.length
     ·obtain ⟨en, rfl⟩ : ∃ en : Nat, u = en := ⟨u.toNat, by omega⟩
      have he : l.length - (j + 1) = en := by omega
      have hu1 : (en : Int) ≤ l.length - 1 - j := by omega
      have hu2 : (l.length : Int) - 1 - j ≤ en := by omega
      replace he := Lib.hid he
      clear hu
      have hae : a ≤ en := by omega
      have hel : en < l.length := by omega
      have apl := agV hB hae hel
      have hskip : (∀ k : Int, bW l wd most a k (aX l wd most) (j + 1) = bW l wd most a k (aX l wd most) j) → tab l.length (tB (tbJ l wd most a j)) = tab l.length (tB (tbJ l wd most a (j + 1))) ∧ tab l.length (tG (tbJ l wd most a j)) = tab l.length (tG (tbJ l wd most a (j + 1))) ∧ tab l.length (tN (tbJ l wd most a j)) = tab l.length (tN (tbJ l wd most a (j + 1))) := fun h => dn (adu h)
      cases hq : fI l a en with
      | false =>
       rw [hq] at apl
       have hE := Lib.hid (hskip (kI he.out (zW hq)))
       clear hskip hq
       (refine wlk ?_; intros)
       refine ⟨(j + 1, (en : Int) - 1), ⟨by dsimp only; omega, by dsimp only; omega⟩, by dsimp only; omega, ?_, ?_, rfl⟩
       ·exact agr
       ·obtain ⟨e1, e2, e3⟩ := hE.out
        exact agr
      | true =>
      rw [hq] at apl
      have hst := (gy.1 hq).2.2.2.1
      have apb := ac4 hB hae hel hw hst
      by_cases hb : 0 ≤ (iL l wd a en).1 ∧ (iL l wd a en).1 ≤ most
      ·have hcst : aha (l[en]?.getD it0).2.2.2.2.2.1 := (gZ hB hel).cost
       have hL : iT l wd most a en = some (mq (iL l wd a en).1 (l[en]?.getD it0).2.2.2.2.2.1, gU (iL l wd a en).2 (iL l wd a en).1) := aaS hq hb
       clear hq hst
       generalize iL l wd a en = bd at *
       obtain ⟨bad, st⟩ := bd
       dsimp only at hb hL apb
       have apk := xw (s := st) (bad := bad) ⟨hb.1, by omega⟩
       have apc := abK (bad := bad) ⟨hb.1, by omega⟩ hcst
       have hcr := o7 (bad := bad) ⟨hb.1, by omega⟩ hcst
       have hkr := mE st bad
       obtain ⟨kk, hkk⟩ : ∃ kk : Nat, gU st bad = kk := ⟨(gU st bad).toNat, by omega⟩
       rw [hkk] at hL apk hkr
       clear hkk hcst
       cases hr : aX l wd most (en + 1) kk with
       | none =>
        have hG : tG (tbJ l wd most a j) (en + 1) kk = false := by unfold tG; rw [jX (by omega), hr]; rfl
        have hE := Lib.hid (hskip (sJ he.out hL hr))
        clear hskip hL hr
        (refine wlk ?_; intros)
        refine ⟨(j + 1, (en : Int) - 1), ⟨by dsimp only; omega, by dsimp only; omega⟩, by dsimp only; omega, ?_, ?_, rfl⟩
        ·exact agr
        ·obtain ⟨e1, e2, e3⟩ := hE.out
         exact agr
       | some r =>
        have hG : tG (tbJ l wd most a j) (en + 1) kk = true := by unfold tG; rw [jX (by omega), hr]; rfl
        have hBv : tB (tbJ l wd most a j) (en + 1) kk = r.1 := by unfold tB; rw [jX (by omega), hr]; rfl
        have hrr := (eD hB hm.2 (by omega) hr).1
        have hlive := fun k => u7 he.out hL hr k
        clear hskip hL hr
        generalize hyy : l[en]?.getD it0 = yy at *
        obtain ⟨y1, y2, y3, y4, y5, y6, y7⟩ := yy
        dsimp only at apc hcr hlive
        generalize mq bad y6 = co at *
        obtain ⟨rc, rn, rk⟩ := r
        dsimp only at hBv hrr hlive
        replace hlive := Lib.hid hlive
        (refine wlk ?_; intros)
        refine aT (α := Nat) mixed (fun b => [(0, gG l), (1, iv wd), (2, iv most), (8, .row 0 1 0 0), (9, iv l.length), (10, .row 1 4 0 (l.length + 1)), (11, .row 2 4 0 (l.length + 1)), (12, .row 3 4 0 (l.length + 1)), (14, iv ((a : Int) - 1)), (15, iv en), (18, iv kk), (19, iv (co + rc)), (20, iv b)])
         (fun b => [(0, 3, 1, []), (1, 101, 4, (tab l.length (tB (tbK l wd most a j b))).map aa3), (2, 95, 4, (tab l.length (tG (tbK l wd most a j b))).map ama), (3, 101, 4, (tab l.length (tN (tbK l wd most a j b))).map aa3)]) (fun _ => 4)
         (fun b => b ≤ 4) (fun b => 4 - b) (by kernel_rfl) 0 (Nat.zero_le _) ?_ ?_ rfl ?_
        ·exact agr
        ·obtain ⟨e1, e2, e3⟩ := dn (adT (l := l) (wd := wd) (most := most) (a := a) (j := j))
         exact agr
        clear hG hBv apc apk apb apl
        intro b hb4
        by_cases hb3 : b < 4
        ·have apw := ah0 (be := (b : Int)) (lk := (kk : Int)) hB hae hel ⟨by omega, by omega⟩ ⟨by omega, by omega⟩
         have hbw := lU l a en b kk
         have hx := hlive.out (b : Int)
         generalize jm l a en b kk = bw at *
         cases hacc : bW l wd most a b (aX l wd most) j with
         | none =>
          rw [hacc] at hx
          replace hx : _ = some _ := hx
          have hG : tG (tbK l wd most a j b) a b = false := by unfold tG; rw [mJ, hacc]; rfl
          have hE := Lib.hid (dn (su hx))
          clear hx hacc
          (refine wlk ?_; intros)
          refine ⟨b + 1, by omega, by dsimp only; omega, ?_, ?_, rfl⟩
          ·exact agr
          ·have hE2 := hE.out
           rw [← adB, ← adV, ← adF] at hE2
           obtain ⟨e1, e2, e3⟩ := hE2
           dsimp only at e1 e2 e3
           rw [show co + bw + rc = co + rc + bw by omega] at e1
           exact agr
         | some y =>
          rw [hacc] at hx
          have hG : tG (tbK l wd most a j b) a b = true := by unfold tG; rw [mJ, hacc]; rfl
          have hB2 : tB (tbK l wd most a j b) a b = y.1 := by unfold tB; rw [mJ, hacc]; rfl
          have hyr := (qb hB hm.2 hal hacc).1
          by_cases hlt : co + rc + bw < y.1
          ·rw [if_pos (show (some y).all (fun y => decide (co + bw + rc < y.1)) = true from decide_eq_true (show co + bw + rc < y.1 by omega))] at hx
           have hE := Lib.hid (dn (su hx))
           clear hx hacc
           generalize y.1 = yc at *
           (refine wlk ?_; intros)
           refine ⟨b + 1, by omega, by dsimp only; omega, ?_, ?_, rfl⟩
           ·exact agr
           ·have hE2 := hE.out
            rw [← adB, ← adV, ← adF] at hE2
            obtain ⟨e1, e2, e3⟩ := hE2
            dsimp only at e1 e2 e3
            rw [show co + bw + rc = co + rc + bw by omega] at e1
            exact agr
          ·rw [if_neg (show ¬ (some y).all (fun y => decide (co + bw + rc < y.1)) = true from fun q => hlt (by have := of_decide_eq_true (show decide (co + bw + rc < y.1) = true from q); omega))] at hx
           have hE := Lib.hid (dn (adO (hx.trans hacc.symm)))
           clear hx hacc
           generalize y.1 = yc at *
           (refine wlk ?_; intros)
           refine ⟨b + 1, by omega, by dsimp only; omega, ?_, ?_, rfl⟩
           ·exact agr
           ·obtain ⟨e1, e2, e3⟩ := hE.out
            exact agr
        ·obtain rfl : b = 4 := by omega
         have hE := Lib.hid (dn (agI (l := l) (wd := wd) (most := most) (a := a) (j := j)))
         clear hlive
         (refine wlk ?_; intros)
         refine ⟨(j + 1, (en : Int) - 1), ⟨by dsimp only; omega, by dsimp only; omega⟩, by dsimp only; omega, ?_, ?_, rfl⟩
         ·exact agr
         ·obtain ⟨e1, e2, e3⟩ := hE.out
          exact agr
      ·have hE := Lib.hid (hskip (kI he.out (aam hb)))
       clear hskip hq
       generalize iL l wd a en = bd at *
       obtain ⟨bad, st⟩ := bd
       dsimp only at hb apb
       by_cases hb0 : bad < 0
       ·clear hb
        (refine wlk ?_; intros)
        refine ⟨(j + 1, (en : Int) - 1), ⟨by dsimp only; omega, by dsimp only; omega⟩, by dsimp only; omega, ?_, ?_, rfl⟩
        ·exact agr
        ·obtain ⟨e1, e2, e3⟩ := hE.out
         exact agr
       ·have hb1 : most < bad := by omega
        clear hb
        (refine wlk ?_; intros)
        refine ⟨(j + 1, (en : Int) - 1), ⟨by dsimp only; omega, by dsimp only; omega⟩, by dsimp only; omega, ?_, ?_, rfl⟩
        ·exact agr
        ·obtain ⟨e1, e2, e3⟩ := hE.out
         exact agr
     ·obtain rfl : j = l.length - a := by omega
      have hE := Lib.hid (dn (ahu (wd := wd) (most := most) hal))
      (refine wlk ?_; intros)
      refine ⟨(a, (a : Int) - 1 - 1), ⟨by dsimp only; omega, by dsimp only; omega⟩, by dsimp only; omega, ?_, ?_, rfl⟩
      ·exact agr
      ·obtain ⟨e1, e2, e3⟩ := hE.out
       exact agr
  ·obtain rfl : m = 0 := by omega
   have hG : tG (tbA l wd most 0) 0 1 = (aX l wd most 0 1).isSome := by unfold tG; rw [adx]; rfl
   have hbl : (dN l wd most).length ≤ l.length := abl hB hm.2 _ _ _ (Nat.zero_le _)
   have hb0 : dN l wd most = [] ++ bkF l wd most (l.length + 1) 0 ((1 : Nat) : Int) := rfl
   cases hs : aX l wd most 0 1 with
   | none =>
    rw [hs] at hG
    simp only [Option.isSome_none] at hG ⊢
    rw [if_neg (by decide)]
    clear hb0 hbl
    exact wlkF
   | some r0 =>
    rw [hs] at hG
    simp only [Option.isSome_some] at hG ⊢
    rw [show (if True then dN l wd most else []) = dN l wd most from if_pos trivial]
    generalize dN l wd most = res at *
    replace hb0 := Lib.hid hb0
    have hs0 : (aX l wd most 0 ((1 : Nat) : Int)).isSome = true := by
     show (aX l wd most 0 1).isSome = true
     rw [hs]; rfl
    replace hs0 := Lib.hid hs0
    clear hs
    (refine wlk ?_; intros)
    clear hG
    refine aT (α := Nat × Int × Nat × LI × Nat × Nat × Nat) mixed (fun z => [(0, gG l), (1, iv wd), (2, iv most), (8, .row z.2.2.2.2.1 1 0 z.2.2.2.1.length), (9, iv l.length), (12, .row 3 4 0 (l.length + 1)), (22, iv z.2.1), (23, iv z.2.2.1)])
     (fun z => [(3, 101, 4, (tab l.length (tN (tbA l wd most 0))).map aa3), (z.2.2.2.2.1, 3, 1, z.2.2.2.1.map pvN)]) (fun z => z.2.2.2.2.2.1)
     (fun z => z.1 ≤ l.length ∧ z.2.1 = (z.1 : Int) - 1 ∧ z.2.2.1 < 4 ∧ (aX l wd most z.1 (z.2.2.1 : Int)).isSome = true ∧ z.2.2.2.1.length ≤ z.1 ∧ (¬ z.2.2.2.2.1 = 3 ∧ z.2.2.2.2.1 < z.2.2.2.2.2.1 ∧ 4 ≤ z.2.2.2.2.2.1) ∧ l.length + 1 ≤ z.2.2.2.2.2.2 + z.1 ∧ res = z.2.2.2.1 ++ bkF l wd most z.2.2.2.2.2.2 z.1 (z.2.2.1 : Int)) (fun z => l.length - z.1) (by kernel_rfl)
     (0, -1, 1, [], 0, 4, l.length + 1) ⟨Nat.zero_le _, rfl, by simp, hs0.out, Nat.le_refl _, by simp, by simp, hb0.out⟩ ?_ ?_ rfl ?_
    ·exact agi
    ·exact agr
    rintro ⟨a, v, kk, out, x, y, f⟩ ⟨hal, hv, hkk, hs, hol, ⟨hx3, hxy, hy4⟩, hf, hres⟩
    dsimp only at hal hv hkk hs hol hx3 hxy hy4 hf hres
    have hx3' : ¬ 3 = x := fun q => hx3 q.symm
    subst hv
    clear hs0 hb0
    by_cases hlt : a < l.length
    ·obtain ⟨r, hr⟩ : ∃ r, aX l wd most a (kk : Int) = some r := Option.isSome_iff_exists.1 hs
     obtain ⟨f', rfl⟩ : ∃ f', f = f' + 1 := ⟨f - 1, by omega⟩
     rw [mQ (by omega) hr] at hres
     have hN : tN (tbA l wd most 0) a kk = (r.2.1 : Int) := by unfold tN; rw [adx, hr]; rfl
     obtain ⟨-, hb2⟩ := eD hB hm.2 hal hr
     obtain ⟨⟨ha1, ha2⟩, hk0, hk3⟩ := hb2 hlt
     obtain ⟨x', c0, hx', hL⟩ := mU hlt hr
     obtain ⟨hq, hbd, hpair⟩ := qE hL
     have hlk : r.2.2 = gU (iL l wd a r.2.1).2 (iL l wd a r.2.1).1 := congrArg Prod.snd hpair
     obtain ⟨-, -, -, hst, -⟩ := gy.1 hq
     have apb := ac4 hB ha1 ha2 hw hst
     have apk := xw (s := (iL l wd a r.2.1).2) (bad := (iL l wd a r.2.1).1) ⟨hbd.1, by omega⟩
     rw [← hlk] at apk
     clear hL hpair hlk hq hst hr hs hb2
     obtain ⟨rc, en, rk⟩ := r
     dsimp only at hres hN ha1 ha2 hk0 hk3 hx' hbd apb apk
     obtain ⟨k2, rfl⟩ : ∃ k2 : Nat, rk = k2 := ⟨rk.toNat, by omega⟩
     generalize iL l wd a en = bd at *
     obtain ⟨bad, st⟩ := bd
     dsimp only at hbd apb apk
     have hcan : (a : Int) - 1 + 1 = a := by omega
     replace hres := Lib.hid hres
     replace hx' := Lib.hid hx'
     have hkk2 : k2 < 4 := by omega
     (refine wlk ?_; intros)
     refine ⟨(en + 1, (en : Int), k2, out ++ [(en : Int)], y + 1, y + 2, f'), ⟨by dsimp only; omega, by dsimp only; omega, hkk2, by dsimp only; rw [hx'.out]; rfl, by simp; omega, ⟨by dsimp only; omega, by dsimp only; omega, by dsimp only; omega⟩, by dsimp only; omega, by dsimp only; rw [hres.out]; simp⟩, by dsimp only; omega, ?_, ?_, rfl⟩
     ·exact agr
     ·exact agr
    ·obtain rfl : a = l.length := by omega
     rw [vH, List.append_nil] at hres
     subst hres
     clear hs
     exact wlkF
 ·have hok : jO l wd most = false := Bool.eq_false_iff.2 fun q => by
   obtain ⟨q1, q2, q3, q4, -⟩ := gu.1 q
   exact hg ⟨q1, q2, q3, q4⟩
  rw [hok, if_neg (by decide)]
  clear hok hpre
  cases hB : bM l with
  | false =>
   rw [hB] at apv
   clear hg hB
   have gbb_c50 := aaZ; have gbb_c51 := zD; have gbb_c52 := zh; have gbb_c53 := zm; have gbb_c54 := aae; have gbb_c55 := aaG; have gbb_c56 := zU; have gbb_c57 := aaD
   exact wlkF
  | true =>
  rw [hB] at apv
  by_cases hw : 0 ≤ wd ∧ wd ≤ 1000
  ·have api1 : inB wd 0 1000 = true := aj.2 hw
   by_cases hm : 0 ≤ most ∧ most ≤ 10000
   ·have api2 : inB most 0 10000 = true := aj.2 hm
    have hl0 : l.length < 1 := by
     by_cases h : l.length < 1
     ·exact h
     ·exact absurd ⟨hB, by omega, hw, hm⟩ hg
    clear hg hB
    have gbb_c50 := aaZ; have gbb_c51 := zD; have gbb_c52 := zh; have gbb_c53 := zm; have gbb_c54 := aae; have gbb_c55 := aaG; have gbb_c56 := zU; have gbb_c57 := aaD
    exact wlkF
   ·have api2 : inB most 0 10000 = false := Bool.eq_false_iff.2 fun q => hm (aj.1 q)
    clear hg hB hm
    have gbb_c50 := aaZ; have gbb_c51 := zD; have gbb_c52 := zh; have gbb_c53 := zm; have gbb_c54 := aae; have gbb_c55 := aaG; have gbb_c56 := zU; have gbb_c57 := aaD
    exact wlkF
  ·have api1 : inB wd 0 1000 = false := Bool.eq_false_iff.2 fun q => hw (aj.1 q)
   clear hg hB hw
   have gbb_c50 := aaZ; have gbb_c51 := zD; have gbb_c52 := zh; have gbb_c53 := zm; have gbb_c54 := aae; have gbb_c55 := aaG; have gbb_c56 := zU; have gbb_c57 := aaD
   exact wlkF
end Go.Proofs.YtngcedklbinhjaaGreatDoor
namespace Go.Proofs.YtngcedklbinhjaaGreatDoor
open Go.RowKit
set_option linter.all false
noncomputable def avW : ahb := G4 dSs dSs dI dI fun ws pats wd most => if qF ws ∧ qF pats then some (.tup [.row 0 1 0 (nQ ws pats wd most).length, bv (lC ws pats wd most)], [(9, 1, (nQ ws pats wd most).map fun s => .val (.string s))]) else none
theorem auE {l l' : LS} : (l.map fun s => PV.val (.string s)) ++ (l'.map fun s => PV.val (.string s)) = (l ++ l').map fun s => PV.val (.string s) := List.map_append.symm
attribute [push_cast]
 auE
noncomputable def agd : Ctx := { fn := fun f => if f = 25 then some φPi else if f = 26 then some φBb else if f = 27 then some φPr else none, io := fun f => none }
theorem asV : aA Tryz.prog agd := ⟨(fun f φ h => by
 unfold agd at h
 dsimp only at h
 split at h
 ·rename_i hf; cases h; subst hf; exact ⟨⟨_, Tryz.func25, rfl, rfl⟩, aiZ⟩
 split at h
 ·rename_i hf; cases h; subst hf; exact ⟨⟨_, Tryz.func26, rfl, rfl⟩, ah4⟩
 split at h
 ·rename_i hf; cases h; subst hf; exact ⟨⟨_, Tryz.func27, rfl, rfl⟩, zL⟩
 cases h), (fun f φ h => by
 unfold agd at h
 dsimp only at h
 cases h), rfl⟩
theorem abY (ob : aF) (ps : List PV) : ah agd ob 25 ps = (ps.mapM (reify false 0 ob fuel)).bind φPi := by
 have h : agd.fn 25 = some φPi := by simp [agd]
 unfold ah
 rw [h]
 cases ps.mapM (reify false 0 ob fuel) <;> rfl
theorem acF (ob : aF) (ps : List PV) : ah agd ob 26 ps = (ps.mapM (reify false 0 ob fuel)).bind φBb := by
 have h : agd.fn 26 = some φBb := by simp [agd]
 unfold ah
 rw [h]
 cases ps.mapM (reify false 0 ob fuel) <;> rfl
theorem acZ (ob : aF) (ps : List PV) : ah agd ob 27 ps = (ps.mapM (reify false 0 ob fuel)).bind φPr := by
 have h : agd.fn 27 = some φPr := by simp [agd]
 unfold ah
 rw [h]
 cases ps.mapM (reify false 0 ob fuel) <;> rfl
set_option maxHeartbeats 32000000 in
theorem ak3 : nH Tryz.prog 7 avW := by
 refine aaX mixed asV Tryz.func7 rfl 127 rfl [.tmp 8, .tmp 9] rfl (by kernel_rfl) fun ps r cs' hr => ?_
 obtain ⟨ws, pats, wd, most, rfl, hq⟩ := abe hr
 clear hr
 split at hq
 case isFalse => cases hq
 case isTrue hpre =>
 cases hq
 refine ⟨by simp, ?_⟩
 simp only [dIs, dUs, dSs, eX, fq, eT, fE, bS, fA, bO, bP, bR, bQ]
 have api := aoB hpre
 unfold nQ lC
 cases hp : qC ws pats with
 | false =>
  rw [hp] at api
  simp only [Bool.false_and]
  rw [if_neg (by decide)]
  generalize piV ws pats = l at *
  clear hp
  have hl : l = [] ∨ True := .inr trivial
  clear hl
  have gpgl_c25 := abY; have gpgl_c26 := acF; have gpgl_c27 := acZ
  (refine wlk ?_; intros)
  all_goals ((with_reducible apply qj (0) (by first | exact .inl rfl | exact .inr rfl)); (focus (simp (disch := (first | omega | (simp only [push_cast]; first | done | omega))) only [push_cast, ↓reduceIte, Nat.reduceEqDiff, Nat.reduceBEq, Nat.reduceAdd, Nat.reduceSub, Int.reduceToNat, *] <;> with_reducible exact rfl)); (focus (simp (disch := (first | omega | (simp only [push_cast]; first | done | omega))) only [push_cast, ↓reduceIte, Nat.reduceEqDiff, Nat.reduceBEq, Nat.reduceAdd, Nat.reduceSub, Int.reduceToNat, *] <;> with_reducible exact rfl)))
 | true =>
 have hB := an0 hp
 have hV : piV ws pats = piR ws pats := if_pos hp
 rw [hp] at api
 simp only [Bool.true_and]
 have hl := cK hB
 have apb := ajR (l := piV ws pats) (wd := wd) (most := most) (show (piV ws pats).length ≤ 1000 by omega)
 have hnb := asU ws pats
 rw [← hV] at hnb ⊢
 have hwl := uD (pJ.1 hp).1
 have hap : ∀ k, k < ws.length → φPr [.val (.string (ws[k]?.getD .empty)), .lst false 1 (pats.map fun s => .val (.string s))] = some (.lst true 1 ((dD (ws[k]?.getD .empty) pats).map fun s => .val (.string s))) := fun k hk => aa9 ⟨hpre.1.2 k, hpre.2⟩
 have htl := ab3 ws pats
 have htz : ∀ k : Nat, ((txR ws pats)[k]?.getD ByteArray.empty).size ≤ 20 := acz
 have hpl : ∀ k : Nat, (dD (ws[k]?.getD ByteArray.empty) pats).length ≤ 21 := fun k => kg _ _
 have hob : jO (piV ws pats) wd most = true → ao9 (piV ws pats) (dN (piV ws pats) wd most) := fun h => aea hB (gu.1 h).2.2.2.1.2
 have hrr : jO (piV ws pats) wd most = true → apK (piV ws pats) wd most = dN (piV ws pats) wd most := fun h => if_pos h
 clear hp hB hV
 generalize piV ws pats = l at *
 cases hb : jO l wd most with
 | false =>
  rw [hb] at apb
  rw [if_neg (by decide)]
  clear hob hrr hnb hap htl htz hpl hpre hb
  have gpgl_c25 := abY; have gpgl_c26 := acF; have gpgl_c27 := acZ
  (refine wlk ?_; intros)
  all_goals ((with_reducible apply qj (0) (by first | exact .inl rfl | exact .inr rfl)); (focus (simp (disch := (first | omega | (simp only [push_cast]; first | done | omega))) only [push_cast, ↓reduceIte, Nat.reduceEqDiff, Nat.reduceBEq, Nat.reduceAdd, Nat.reduceSub, Int.reduceToNat, *] <;> with_reducible exact rfl)); (focus (simp (disch := (first | omega | (simp only [push_cast]; first | done | omega))) only [push_cast, ↓reduceIte, Nat.reduceEqDiff, Nat.reduceBEq, Nat.reduceAdd, Nat.reduceSub, Int.reduceToNat, *] <;> with_reducible exact rfl)))
 | true =>
  have hbr := hob hb
  rw [hb, hrr hb] at apb
  rw [if_pos rfl]
  clear hob hrr hb hpre
  generalize dN l wd most = br at *
  obtain ⟨hbl, -⟩ := id hbr
  have hbat := fun k hk => hbr.at_ (k := k) hk
  clear hbr
  have htR : txR ws pats = txK ws pats ws.length := rfl
  have gpgl_c25 := abY; have gpgl_c26 := acF; have gpgl_c27 := acZ
  (refine wlk ?_; intros)
  refine aT (α := Nat × Nat × Nat) mixed (fun z => [(0, .lst false 1 (ws.map pvS)), (1, .lst false 1 (pats.map pvS)), (10, .row 0 1 0 0), (11, .lst true 7 (l.map gJ)), (13, .lst true 1 (br.map pvN)), (15, .row z.2.1 1 0 (txK ws pats z.1).length), (16, iv z.1)])
   (fun z => [(0, 9, 1, []), (z.2.1, 9, 1, (txK ws pats z.1).map pvS)]) (fun z => z.2.2)
   (fun z => z.1 ≤ ws.length ∧ 0 < z.2.1 ∧ z.2.1 < z.2.2) (fun z => ws.length - z.1) (by kernel_rfl) (0, 1, 2) ⟨Nat.zero_le _, by simp, by simp⟩ ?_ ?_ rfl ?_
  ·simp (disch := (first | omega | (simp only [push_cast]; first | done | omega))) only [push_cast, ↓reduceIte, Nat.reduceEqDiff, Nat.reduceBEq, Nat.reduceAdd, Nat.reduceSub, Int.reduceToNat, txK, List.length_nil, *]
  ·simp (disch := (first | omega | (simp only [push_cast]; first | done | omega))) only [push_cast, ↓reduceIte, Nat.reduceEqDiff, Nat.reduceBEq, Nat.reduceAdd, Nat.reduceSub, Int.reduceToNat, txK, List.map_nil, *]
  rintro ⟨k, x, y⟩ ⟨hk, hx0, hxy⟩
  dsimp only at hk hx0 hxy
  have hlk := htl k
  by_cases h0 : k < ws.length
  ·have apk := hap k h0
   have hlp := hpl k
   have hn : txK ws pats (k + 1) = txK ws pats k ++ dD (ws[k]?.getD .empty) pats := rfl
   replace hn := Lib.hid hn
   generalize txK ws pats k = out at *
   generalize dD (ws[k]?.getD .empty) pats = ps at *
   clear htl hap hpl htR hnb htz hbat
   (refine wlk ?_; intros)
   refine ⟨(k + 1, y, y + 1), ⟨by dsimp only; omega, by dsimp only; omega, by dsimp only; omega⟩, by dsimp only; omega, ?_, ?_, rfl⟩
   ·dsimp only
    rw [hn.out]
    exact agr
   ·dsimp only
    rw [hn.out]
    exact agr
  ·obtain rfl : k = ws.length := by omega
   rw [← htR]
   rw [← htR] at hlk
   have hts := fun a => yM (l := l) (tx := txR ws pats) (a := a) htz
   have htz2 : ∀ k : Nat, ((txR ws pats)[k]?.getD ByteArray.empty).size ≤ 20 := htz
   have htxl : (txR ws pats).length ≤ 252 := by omega
   generalize txR ws pats = tx at *
   clear htl hap hpl htR htz
   have hlnk := oZ l tx br
   (refine wlk ?_; intros)
   refine aT (α := Nat × Nat × Nat × Int) mixed (fun z => [(10, .row z.2.1 1 0 z.1), (11, .lst true 7 (l.map gJ)), (13, .lst true 1 (br.map pvN)), (15, .row x 1 0 tx.length), (17, iv (nbX l (frB br z.1))), (18, iv z.2.2.2), (19, iv z.1)])
    (fun z => [(x, 9, 1, tx.map pvS), (z.2.1, 9, 1, (nk l tx br z.1).map pvS)]) (fun z => z.2.2.1)
    (fun z => z.1 ≤ br.length ∧ (¬ z.2.1 = x ∧ x < z.2.2.1 ∧ z.2.1 < z.2.2.1) ∧ z.2.2.2 = (frB br z.1 : Int) - 1) (fun z => br.length - z.1) (by kernel_rfl) (0, 0, y, -1) ⟨Nat.zero_le _, ⟨by dsimp only; omega, hxy, by dsimp only; omega⟩, rfl⟩ ?_ ?_ rfl ?_
   ·simp (disch := (first | omega | (simp only [push_cast]; first | done | omega))) only [push_cast, ↓reduceIte, Nat.reduceEqDiff, Nat.reduceBEq, Nat.reduceAdd, Nat.reduceSub, Int.reduceToNat, frB, nbX, List.take_zero, List.filter_nil, List.length_nil, *]
   ·simp (disch := (first | omega | (simp only [push_cast]; first | done | omega))) only [push_cast, ↓reduceIte, Nat.reduceEqDiff, Nat.reduceBEq, Nat.reduceAdd, Nat.reduceSub, Int.reduceToNat, nk, List.map_nil, *]
   rintro ⟨k, o, y2, v⟩ ⟨hkb, ⟨hox, hxy2, hoy⟩, hv⟩
   dsimp only at hkb hox hxy2 hoy hv
   subst hv
   have hxo : ¬ x = o := fun q => hox q.symm
   clear hk h0 hlk
   have hlk := hlnk k
   by_cases hk : k < br.length
   ·obtain ⟨b1, b2, b3, b4⟩ := hbat k hk
    have hn : nk l tx br (k + 1) = nk l tx br k ++ [lnR l tx (frB br k) (br[k]?.getD 0).toNat] := rfl
    have hfs := rX br k
    replace hn := Lib.hid hn
    replace hfs := Lib.hid hfs
    generalize nk l tx br k = out at *
    generalize frB br k = a at *
    obtain ⟨en, hen⟩ : ∃ en : Nat, br[k]?.getD 0 = en := ⟨(br[k]?.getD 0).toNat, by omega⟩
    rw [hen, Int.toNat_natCast] at hn hfs b2 b3 b4
    rw [hen] at b1
    have hmk : lnR l tx a en = if (l[en]?.getD it0).2.2.2.2.2.2 = true then lnT l tx a (en - a) ++ ⟨#[45]⟩ else lnT l tx a (en - a) := rfl
    replace b4 : ¬ (l[en]?.getD it0).1 = 1 := b4
    have hbox : nbX l (en + 1) = nbX l en := ahR b3 b4
    replace hmk := Lib.hid hmk
    replace hbox := Lib.hid hbox
    clear hbat hlnk
    have h45 : (⟨#[45]⟩ : ByteArray).size = 1 := rfl
    have h32 : (⟨#[32]⟩ : ByteArray).size = 1 := rfl
    (refine wlk ?_; intros)
    refine aT (α := Nat) mixed (fun j => [(10, .row o 1 0 k), (11, .lst true 7 (l.map gJ)), (13, .lst true 1 (br.map pvN)), (15, .row x 1 0 tx.length), (17, iv (nbX l (a + j))), (18, iv ((a : Int) - 1)), (19, iv k), (20, .val (.string (lnT l tx a j))), (21, iv ((a + j : Nat) : Int))])
     (fun _ => [(x, 9, 1, tx.map pvS), (o, 9, 1, out.map pvS)]) (fun _ => y2)
     (fun j => a + j ≤ en) (fun j => en - j) (by kernel_rfl) 0 (by omega) ?_ ?_ rfl ?_
    ·have hl0 : lnT l tx a 0 = ⟨#[]⟩ := rfl
     have hcan : (a : Int) - 1 + 1 = a := by omega
     exact agr
    ·exact agr
    intro j hj
    have hsz := hts a j
    by_cases hje : a + j < en
    ·have hal : a + j < l.length := by omega
     have hS : lnT l tx a (j + 1) = nu l tx (lnT l tx a j) (a + j) := rfl
     have hbx1 := fun q => aci (l := l) (n := a + j) hal q
     have hbx2 := fun q => ahR (l := l) (n := a + j) hal q
     have hlt1 := fun q => ado (l := l) (n := a + j) hal q
     have hq1 := fun q => ai8 (l := l) (tx := tx) (s := lnT l tx a j) (n := a + j) q
     have hq2 := fun q => aiS (l := l) (tx := tx) (s := lnT l tx a j) (n := a + j) q
     have hq3 := fun q r => ajk (l := l) (tx := tx) (s := lnT l tx a j) (n := a + j) q r
     rw [hnb] at hlt1
     rw [← hS] at hq1 hq2 hq3
     have hnx := aiw l (a + j)
     rw [hnb] at hnx
     clear hS hmk hn hfs hbox
     generalize hs9 : lnT l tx a j = s at *
     generalize hs8 : lnT l tx a (j + 1) = s2 at *
     replace hs9 := Lib.hid hs9
     replace hs8 := Lib.hid hs8
     generalize hnb2 : nbX l (a + j + 1) = nn2 at *
     replace hnb2 := Lib.hid hnb2
     generalize nbX l (a + j) = nn at *
     clear hnb b4
     change ∀ q : (l[a + j]?.getD it0).1 = 1, _ at hbx1 hlt1 hq1
     change ∀ q : ¬ (l[a + j]?.getD it0).1 = 1, _ at hbx2 hq3
     change ∀ q : (l[a + j]?.getD it0).1 = 2 ∧ 0 < (l[a + j]?.getD it0).2.1 ∧ ¬ s = ⟨#[]⟩, _ at hq2
     have hq3' : ¬ (l[a + j]?.getD it0).1 = 1 → ¬ ((l[a + j]?.getD it0).1 = 2 ∧ 0 < (l[a + j]?.getD it0).2.1 ∧ ¬ s = ⟨#[]⟩) → s2 = s := hq3
     clear hq3
     generalize hyy : l[a + j]?.getD it0 = yy at *
     obtain ⟨y1, y2', y3, y4, y5, y6, y7⟩ := yy
     dsimp only at hbx1 hbx2 hlt1 hq1 hq2 hq3'
     have hfin : ∀ nn' : Nat, ∀ s' : ByteArray, nn2 = nn' → s2 = s' → nbX l (a + (j + 1)) = nn' ∧ lnT l tx a (j + 1) = s' := fun nn' s' h1 h2 => ⟨by rw [← h1]; exact hnb2.out, by rw [← h2]; exact hs8.out⟩
     by_cases k1 : y1 = 1
     ·have hf := Lib.hid (hfin _ _ (hbx1 k1) (hq1 k1))
      have hn9 := hlt1 k1
      have ht9 := htz2 nn
      clear hbx1 hbx2 hlt1 hq1 hq2 hq3' hfin
      subst k1
      (refine wlk ?_; intros)
      refine ⟨j + 1, by dsimp only; omega, by dsimp only; omega, ?_, ?_, rfl⟩
      ·dsimp only
       rw [hf.out.1, hf.out.2]
       exact agi
      ·exact agr
     ·by_cases k2 : y1 = 2 ∧ 0 < y2' ∧ ¬ s = ⟨#[]⟩
      ·have hf := Lib.hid (hfin _ _ (hbx2 k1) (hq2 k2))
       clear hbx1 hbx2 hlt1 hq1 hq2 hq3' hfin
       obtain ⟨rfl, k2, k3⟩ := k2
       (refine wlk ?_; intros)
       refine ⟨j + 1, by dsimp only; omega, by dsimp only; omega, ?_, ?_, rfl⟩
       ·dsimp only
        rw [hf.out.1, hf.out.2]
        exact agi
       ·exact agr
      ·have hf := Lib.hid (hfin _ _ (hbx2 k1) (hq3' k1 k2))
       clear hbx1 hbx2 hlt1 hq1 hq2 hq3' hfin
       by_cases k3 : y1 = 2
       ·by_cases k4 : 0 < y2'
        ·have k5 : s = ⟨#[]⟩ := Classical.byContradiction fun q => k2 ⟨k3, k4, q⟩
         clear k2
         subst k3 k5
         (refine wlk ?_; intros)
         refine ⟨j + 1, by dsimp only; omega, by dsimp only; omega, ?_, ?_, rfl⟩
         ·dsimp only
          rw [hf.out.1, hf.out.2]
          exact agi
         ·exact agr
        ·clear k2
         subst k3
         (refine wlk ?_; intros)
         refine ⟨j + 1, by dsimp only; omega, by dsimp only; omega, ?_, ?_, rfl⟩
         ·dsimp only
          rw [hf.out.1, hf.out.2]
          exact agi
         ·exact agr
       ·clear k2
        (refine wlk ?_; intros)
        refine ⟨j + 1, by dsimp only; omega, by dsimp only; omega, ?_, ?_, rfl⟩
        ·dsimp only
         rw [hf.out.1, hf.out.2]
         exact agi
        ·exact agr
    ·have hje2 : j = en - a := by omega
     have hae : a + j = en := by omega
     rw [hae]
     rw [← hje2] at hmk
     generalize lnT l tx a j = s at *
     clear hje2
     have hcl : (((en : Int) - 1) + 1) = en := by omega
     have hfe : frB br (k + 1) = en + 1 := hfs.out
     have hnx : nbX l (frB br (k + 1)) = nbX l en := by rw [hfe]; exact hbox.out
     replace hfe := Lib.hid hfe
     replace hnx := Lib.hid hnx
     clear hae b4 hfs hbox hcl hnb
     generalize hyy : l[en]?.getD it0 = yy at *
     obtain ⟨y1, y2', y3, y4, y5, y6, y7⟩ := yy
     have hmk2 := hmk.out
     clear hmk
     dsimp only at hmk2
     cases y7 with
     | true =>
      rw [if_pos rfl] at hmk2
      rw [hmk2] at hn
      clear hmk2
      (refine wlk ?_; intros)
      refine ⟨(k + 1, y2 + 1, y2 + 2, (en : Int)), ⟨by dsimp only; omega, ⟨by dsimp only; omega, by dsimp only; omega, by dsimp only; omega⟩, by dsimp only; rw [hfe.out]; omega⟩, by dsimp only; omega, ?_, ?_, rfl⟩
      ·dsimp only
       rw [hnx.out]
       exact agi
      ·dsimp only
       rw [hn.out]
       exact agr
     | false =>
      rw [if_neg (by decide)] at hmk2
      rw [hmk2] at hn
      clear hmk2
      (refine wlk ?_; intros)
      refine ⟨(k + 1, y2 + 1, y2 + 2, (en : Int)), ⟨by dsimp only; omega, ⟨by dsimp only; omega, by dsimp only; omega, by dsimp only; omega⟩, by dsimp only; rw [hfe.out]; omega⟩, by dsimp only; omega, ?_, ?_, rfl⟩
      ·dsimp only
       rw [hnx.out]
       exact agi
      ·dsimp only
       rw [hn.out]
       exact agr
   ·obtain rfl : k = br.length := by omega
    generalize nk l tx br br.length = out at *
    (refine wlk ?_; intros)
    all_goals ((with_reducible apply qj (o) (by first | exact .inl rfl | exact .inr rfl)); (focus (simp (disch := (first | omega | (simp only [push_cast]; first | done | omega))) only [push_cast, ↓reduceIte, Nat.reduceEqDiff, Nat.reduceBEq, Nat.reduceAdd, Nat.reduceSub, Int.reduceToNat, *] <;> with_reducible exact rfl)); (focus (simp (disch := (first | omega | (simp only [push_cast]; first | done | omega))) only [push_cast, ↓reduceIte, Nat.reduceEqDiff, Nat.reduceBEq, Nat.reduceAdd, Nat.reduceSub, Int.reduceToNat, *] <;> with_reducible exact rfl)))
noncomputable def ai9 : Fun := aaP avW
theorem afB : Sound Tryz.prog 7 ai9 := ak3.pure
theorem amM {ws pats : LS} {wd most : Int} (h : qF ws ∧ qF pats) : ai9 [.lst false 1 (ws.map fun s => .val (.string s)), .lst false 1 (pats.map fun s => .val (.string s)), .val (.int .i64 wd), .val (.int .i64 most)] = some (.tup [.lst true 1 ((nQ ws pats wd most).map fun s => .val (.string s)), .val (.bool (lC ws pats wd most))]) := by
 refine ku (r := .tup [.row 0 1 0 (nQ ws pats wd most).length, .val (.bool (lC ws pats wd most))]) (cs0 := [(9, 1, (nQ ws pats wd most).map fun s => .val (.string s))]) ((aqk (A := dSs) (B := dSs) (C := dI) (D := dI) ws pats wd most).trans (if_pos h)) ?_
 rw [zi]
 (simp (disch := (first | omega | (simp only [push_cast]; first | done | omega))) only [push_cast, ↓reduceIte, Nat.reduceEqDiff, Nat.reduceBEq, Nat.reduceAdd, Nat.reduceSub, Int.reduceToNat, *] <;> with_reducible exact rfl)
end Go.Proofs.YtngcedklbinhjaaGreatDoor
