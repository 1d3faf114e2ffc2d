/- Rows put back into a new grid make the grid again: the plain law. -/
import Derived.Test.YtenldjifipnjpaaDoorPxGoD
namespace Go.Proofs.YtenldjifipnjpaaDoor
open Go.RowKit
set_option linter.all false
theorem push_l : ∀ (l : List Int) (acc : ByteArray), (List.foldl (fun r (n : Int) => r.push (UInt8.ofNat n.toNat)) acc l).data.toList = acc.data.toList ++ l.map fun n => UInt8.ofNat n.toNat
  | [], acc => by simp
  | n :: l, acc => by
    rw [List.foldl_cons, push_l l]
    show (acc.data.push _).toList ++ _ = _
    rw [Array.toList_push, List.append_assoc]
    rfl
theorem bytesOf_l (l : List Int) : (bytesOf l).data.toList = l.map fun n => UInt8.ofNat n.toNat := (push_l l .empty).trans (List.nil_append _)
theorem u8_back {l : List Int} (h : ∀ x ∈ l, 0 ≤ x ∧ x ≤ 255) : (l.map fun n => UInt8.ofNat n.toNat).map (fun x => (x.toNat : Int)) = l := by
  rw [List.map_map]
  have : ∀ x ∈ l, ((fun x : UInt8 => (x.toNat : Int)) ∘ fun n : Int => UInt8.ofNat n.toNat) x = x := fun x hx => by
    have h1 := h x hx
    show ((UInt8.ofNat x.toNat).toNat : Int) = x
    rw [UInt8.toNat_ofNat']
    omega
  exact (List.map_congr_left this).trans (List.map_id _)
theorem trim_rest : ∀ (n : Nat) (u : List UInt8), u.length = n → ∃ m, u = Lib.trimRightB u 32 ++ List.replicate m 32
  | 0, u, h => ⟨0, by
      have : u = [] := List.eq_nil_of_length_eq_zero h
      subst this
      rfl⟩
  | n + 1, u, h => by
    have hne : u ≠ [] := fun e => by subst e; simp at h
    have e := (List.dropLast_concat_getLast hne).symm
    generalize u.dropLast = l at e
    generalize u.getLast hne = z at e
    subst e
    by_cases hz : z = 32
    · subst hz
      obtain ⟨m, hm⟩ := trim_rest n l (by simpa using h)
      refine ⟨m + 1, ?_⟩
      rw [trimL_cut, List.replicate_succ', ← List.append_assoc, ← hm]
    · exact ⟨0, by rw [trimL_done l hz]; simp⟩
/-- A row is its text and the spaces behind it. -/
theorem row_split {r : List Int} (h : ∀ x ∈ r, 0 ≤ x ∧ x ≤ 255) : (trimS (bytesOf r)).size ≤ r.length ∧ r = strI (trimS (bytesOf r)) ++ List.replicate (r.length - (trimS (bytesOf r)).size) 32 := by
  obtain ⟨m, hm⟩ := trim_rest _ (bytesOf r).data.toList rfl
  have e1 : strI (trimS (bytesOf r)) = (Lib.trimRightB (bytesOf r).data.toList 32).map fun x => (x.toNat : Int) := rfl
  have e2 : r = strI (trimS (bytesOf r)) ++ List.replicate m 32 := by
    have := congrArg (List.map fun x : UInt8 => (x.toNat : Int)) hm
    rw [List.map_append, ← e1, bytesOf_l, u8_back h, List.map_replicate] at this
    exact this
  have e3 := congrArg List.length e2
  rw [List.length_append, strI_length, List.length_replicate] at e3
  refine ⟨by omega, ?_⟩
  rw [show r.length - (trimS (bytesOf r)).size = m by omega]
  exact e2
/-- The first p cells are the grid's, the others are spaces. -/
def mixG (l : List Int) (p : Nat) : List Int := l.take p ++ List.replicate (l.length - p) 32
theorem mixG_length {l : List Int} {p : Nat} (h : p ≤ l.length) : (mixG l p).length = l.length := by
  unfold mixG
  rw [List.length_append, List.length_take, List.length_replicate]
  omega
theorem mixG_zero {l : List Int} : mixG l 0 = List.replicate l.length 32 := by simp [mixG]
theorem mixG_full {l : List Int} : mixG l l.length = l := by simp [mixG]
theorem gridB_all {wd : Int} {l : List Int} (h : gridB wd l = true) : ∀ x ∈ l, 32 ≤ x ∧ x ≤ 126 := by
  unfold gridB at h
  simp only [Bool.and_eq_true, Bool.not_eq_true'] at h
  intro x hx
  have h2 := List.any_eq_false.1 h.2 x hx
  have h3 : inB x 32 126 = true := by simpa using h2
  exact inB_iff.1 h3
theorem gridB_mix {wd : Int} {l : List Int} {p : Nat} (h : gridB wd l = true) (hp : p ≤ l.length) : gridB wd (mixG l p) = true := by
  have hall := gridB_all h
  unfold gridB at h ⊢
  rw [mixG_length hp]
  simp only [Bool.and_eq_true, Bool.not_eq_true'] at h ⊢
  refine ⟨h.1, List.any_eq_false.2 fun x hx => ?_⟩
  have hx2 : 32 ≤ x ∧ x ≤ 126 := by
    unfold mixG at hx
    rcases List.mem_append.1 hx with hx | hx
    · exact hall x (List.mem_of_mem_take hx)
    · have := (List.mem_replicate.1 hx).2
      omega
  simp [inB_iff.2 hx2]
theorem okU_mix {wd : Int} {l : List Int} {p : Nat} (h : gridB wd l = true) (hp : p ≤ l.length) (hl : l.length ≤ 3600) : okU (mixG l p) := by
  refine ⟨by rw [mixG_length hp]; omega, List.all_eq_true.2 fun x hx => ?_⟩
  have := gridB_all (gridB_mix h hp) x hx
  exact inB_iff.2 (by omega)
/-- The text of a row. -/
def rowT (W : Nat) (l : List Int) (k : Nat) : ByteArray := trimS (bytesOf ((l.drop (k * W)).take W))
theorem gridF_rows {W : Nat} (hW : 0 < W) : ∀ (n f : Nat) (zs : List Int) (acc : LS), zs.length = n * W → n * W ≤ f → gridF W f zs acc = acc ++ (List.range n).map (rowT W zs)
  | 0, f, zs, acc, h, _ => by rw [gridF_nil (by omega)]; simp
  | n + 1, f, zs, acc, h, hf => by
    have e : (n + 1) * W = n * W + W := Nat.succ_mul n W
    obtain ⟨g, rfl⟩ : ∃ g, f = g + 1 := ⟨f - 1, by omega⟩
    unfold gridF
    rw [if_neg (by omega), gridF_rows hW n g _ _ (by rw [List.length_drop]; omega) (by omega), List.range_succ_eq_map, List.map_cons, List.map_map, List.append_assoc]
    have e2 : rowT W zs 0 = trimS (bytesOf (zs.take W)) := by simp [rowT]
    have e3 : ∀ k, (rowT W zs ∘ Nat.succ) k = rowT W (zs.drop W) k := fun k => by
      show trimS (bytesOf ((zs.drop ((k + 1) * W)).take W)) = trimS (bytesOf (((zs.drop W).drop (k * W)).take W))
      rw [List.drop_drop, Nat.succ_mul, Nat.add_comm]
    rw [e2, List.map_congr_left fun k _ => e3 k]
    rfl
theorem gridR_rows {W n : Nat} {l : List Int} (hW : 0 < W) (h : l.length = n * W) : gridR (W : Int) l = (List.range n).map (rowT W l) := by
  unfold gridR
  rw [Int.toNat_natCast, gridF_rows hW n _ _ _ h (by omega), List.nil_append]
/-- One row more. -/
theorem put_row {W n k : Nat} {l : List Int} (hW : 0 < W) (hG : gridB (W : Int) l = true) (h : l.length = n * W) (hk : k < n) :
    (rowT W l k).size ≤ W ∧ (putPre (W : Int) (mixG l (k * W)) 0 k (rowT W l k) && prB (rowT W l k)) = true ∧ putL (W : Int) (mixG l (k * W)) 0 k (rowT W l k) = mixG l ((k + 1) * W) ∧ k * W + W ≤ l.length := by
  have hkw : (k + 1) * W = k * W + W := Nat.succ_mul k W
  have hle : k * W + W ≤ l.length := by
    have := Nat.mul_le_mul_right W (show k + 1 ≤ n from hk)
    omega
  have hall := gridB_all hG
  have hr : ∀ x ∈ (l.drop (k * W)).take W, 32 ≤ x ∧ x ≤ 126 := fun x hx => hall x (List.mem_of_mem_drop (List.mem_of_mem_take hx))
  have hlr : ((l.drop (k * W)).take W).length = W := by rw [List.length_take, List.length_drop]; omega
  obtain ⟨hs, he⟩ := row_split (r := (l.drop (k * W)).take W) fun x hx => by have := hr x hx; omega
  rw [hlr] at hs he
  have hfold : rowT W l k = trimS (bytesOf ((l.drop (k * W)).take W)) := rfl
  rw [← hfold] at hs he
  have hpr : prB (rowT W l k) = true := prB_yes fun j hj => by
    rw [← strI_at, List.getElem?_eq_getElem (by rw [strI_length]; exact hj), Option.getD_some]
    refine inB_iff.2 (hr _ ?_)
    rw [he]
    exact List.mem_append_left _ (List.getElem_mem _)
  have hdiv : ((mixG l (k * W)).length : Int) / (W : Int) = n := by
    rw [mixG_length (by omega), h, Int.natCast_mul]
    exact Int.mul_ediv_cancel _ (by omega)
  refine ⟨hs, ?_, ?_, hle⟩
  · unfold putPre
    rw [hdiv, hpr, inB_iff.2 (show (0 : Int) ≤ 0 ∧ (0 : Int) ≤ W by omega), inB_iff.2 (show (0 : Int) ≤ k ∧ (k : Int) ≤ (n : Int) - 1 by omega), decide_eq_true (show ((rowT W l k).size : Int) ≤ (W : Int) - 0 by omega)]
    rfl
  · unfold putL
    have e1 : ((k : Int) * (W : Int) + 0).toNat = k * W := by
      rw [Int.add_zero, ← Int.natCast_mul, Int.toNat_natCast]
    have e2 : (mixG l (k * W)).take (k * W) = l.take (k * W) := by
      unfold mixG
      rw [List.take_append_of_le_length (by rw [List.length_take]; omega), List.take_take, Nat.min_self]
    have e3 : (mixG l (k * W)).drop (k * W + (rowT W l k).size) = List.replicate (l.length - k * W - (rowT W l k).size) 32 := by
      have e0 : (l.take (k * W)).drop (k * W) = [] := List.drop_of_length_le (by rw [List.length_take]; omega)
      unfold mixG
      rw [← List.drop_drop, List.drop_append_of_le_length (by rw [List.length_take]; omega), e0, List.nil_append, List.drop_replicate]
    rw [e1, e2, e3]
    unfold mixG
    rw [hkw, List.take_add, List.append_assoc, List.append_assoc]
    congr 1
    rw [he]
    rw [List.append_assoc, List.replicate_append_replicate]
    congr 2
    omega
end Go.Proofs.YtenldjifipnjpaaDoor
