/- WordsOfLines, of the program (under way). -/
import Derived.Test.YtenldjifipnjpaaDoorPxWol
import Derived.Test.YtenldjifipnjpaaDoorPxPut
import Derived.Test.YtenldjifipnjpaaDoorPxJust
import Derived.Test.YtenldjifipnjpaaDoorPxSplit
import Derived.Lib.Builder
namespace Go.Proofs.YtenldjifipnjpaaDoor
open Go.RowKit
set_option linter.all false
/-- A row that is known to be the call's own, as an object. -/
theorem own_objS {J : Bool → Nat → Prop} {w w' : World} {e n : Nat} {v : Value} {l : List ByteArray} (hn : 0 < n) (hl : l.length = n) (hJ : ∀ k b, J k b → b < w.heap.size) (h : w'.ownsRow w.heap.size e 1 v n (l.map Value.string)) :
    ∃ b κ, w.heap.size ≤ b ∧ ObjsIO (addN J fun _ => False) w' (fun _ => b) (fun _ => κ) [(e, 1, l.map fun n => .val (.string n))] ∧ Rep (ghIO (addN J fun _ => False) (fun _ => b) (fun _ => κ) 1) w' (.row 0 1 0 n) v := by
  obtain ⟨h0, h1⟩ := h
  rcases h1 with ⟨rfl, h1⟩ | ⟨b, cap, cur, rfl, h2, h3, h4, h5, h6, h7⟩
  · omega
  · rw [Nat.mul_one] at h6 h7
    refine ⟨b, cur.size, h2, ⟨fun o ho => ⟨lt_of_heap h3, fun k hk => ?_⟩, fun o o' ho ho' _ => by simp at ho ho'; omega, fun o cc hc => ?_⟩, ?_⟩
    · rcases hk with hk | ⟨_, hk⟩
      · have := hJ k _ hk
        omega
      · exact hk
    · have ho : o = 0 := by have := (List.getElem?_eq_some_iff.1 hc).1; simp at this; exact this
      subst ho
      simp only [List.getElem?_cons_zero, Option.some.injEq] at hc
      subst hc
      refine ⟨⟨cur, h3, rfl⟩, by simp [ghIO]; omega, ?_⟩
      refine RepEs.of fun i x hx => ?_
      rw [List.getElem?_map, Option.map_eq_some_iff] at hx
      obtain ⟨y, hy, rfl⟩ := hx
      refine ⟨.string y, by simp [Rep], ⟨by simp [Value.cells, Value.oneCell'], fun j hj => ?_⟩, rfl⟩
      have hj0 : j = 0 := by simp [Value.cells] at hj; exact hj
      subst hj0
      have e1 : cur.toList[i]? = some (.string y) := by
        have hi : i < n := by have := (List.getElem?_eq_some_iff.1 hy).1; omega
        have e2 : (cur.toList.take n)[i]? = some (.string y) := by rw [h7]; simp [hy]
        rw [List.getElem?_take, if_pos hi] at e2
        exact e2
      simp only [World.cell?, ghIO, h3, Nat.zero_add, Nat.mul_one, Nat.add_zero]
      simpa [Value.cells] using e1
    · simp only [Rep, ghIO]
      exact ⟨cap, by simp, h4, by simp only [maxLen] at h5; omega, by omega, ⟨by simp, fun q => q⟩⟩
theorem linesB_snoc : ∀ (a : List (List UInt8)) (x : List UInt8), linesB (a ++ [x]) = linesB a ++ lineB x
  | [], x => by simp [linesB]
  | s :: a, x => by
    show lineB s ++ linesB (a ++ [x]) = lineB s ++ linesB a ++ lineB x
    rw [linesB_snoc a x, List.append_assoc]
theorem linesB_take {l : LS} {k : Nat} (h : k < l.length) : linesB ((l.take (k + 1)).map (·.data.toList)) = linesB ((l.take k).map (·.data.toList)) ++ lineB l[k].data.toList := by
  rw [List.take_succ_eq_append_getElem h, List.map_append, List.map_cons, List.map_nil, linesB_snoc]
theorem lineB_len (s : List UInt8) : (lineB s).length ≤ s.length + 1 := by
  unfold lineB
  split
  · rw [List.length_take]; omega
  · rw [List.length_append]; simp
theorem linesB_len {l : LS} : ∀ k, k ≤ l.length → (linesB ((l.take k).map (·.data.toList))).length ≤ sumS (l.take k) + k
  | 0, _ => by simp [linesB]
  | k + 1, hk => by
    have ih := linesB_len (l := l) k (by omega)
    have h1 := sumS_take (l := l) (k := k) (by omega)
    rw [List.getElem?_eq_getElem (show k < l.length by omega), Option.getD_some] at h1
    have h2 := lineB_len l[k].data.toList
    have h3 : l[k].data.toList.length = l[k].size := Array.length_toList
    rw [linesB_take (by omega), List.length_append]
    omega
theorem ownsRow_base {w : World} {B B' e n : Nat} {v : Value} {xs : List Value} (h : w.ownsRow B e 1 v n xs) (hB : B' ≤ B) : w.ownsRow B' e 1 v n xs := by
  obtain ⟨h0, h1⟩ := h
  refine ⟨h0, h1.imp id ?_⟩
  rintro ⟨g, cap, cur, h2, h3, h4⟩
  exact ⟨g, cap, cur, h2, Nat.le_trans hB h3, h4⟩
theorem one_cell (w : World) (v : Value) (T : TypeId) : ∀ (j : Nat) u, [v][j]? = some u → (w.alloc (.cells #[v] T)).cell? ((⟨w.heap.size, 0, none⟩ : Addr).add j) = some u := by
  intro j u hj
  match j, hj with
  | 0, hj => simp at hj; subst hj; simp [Addr.add]
theorem str_ne_bne {x : ByteArray} (h : ¬ x = ⟨#[]⟩) : x.toList.isEmpty = false := by
  cases hb : x.toList.isEmpty with
  | false => rfl
  | true =>
    rw [Lib.toList_data] at hb
    exact absurd (toL_nil.1 (List.isEmpty_iff.1 hb)) h
set_option maxHeartbeats 4000000 in
set_option maxRecDepth 100000 in
theorem wol_any {w : World} {a : Option Addr} {b off n c : Nat} {l R : LS} (hR : R = wolR l) (hz : l.length = n) (hn : n ≤ 1048576) (ha : 0 < n → a = some ⟨b, off, none⟩ ∧ b < w.heap.size) (hs : StrAt w b off l) (hsum : sumS l ≤ 1048576) :
    Calls Tryd.prog 14 #[.slice a n c] w fun e w' => ∃ v, e = .returned v ∧ Below w.heap.size w w' ∧ w'.ownsRow w.heap.size 9 1 v R.length (R.map Value.string) ∧ (R = [] → v = .slice none 0 0) := by
  have HZ := Lib.hid hz
  have HS := Lib.hid hs
  have HA := Lib.hid ha
  have HR := Lib.hid hR
  clear hz hs ha hR
  go_enter Tryd.func14, Tryd.ntmps14
  go_wp2
  go_loopw [13] (fun i wr => ∃ k : Nat, k ≤ n ∧ i = .int .i64 k ∧ Aside (Lib.IsBuilder 58 5 w.heap.size w.heap.size (Lib.byteCells (linesB ((l.take k).map (·.data.toList)))) wr) ∧ Aside (Below w.heap.size w wr)) (fun i _ => n - (intOf i).toNat)
  case atStart => exact ⟨0, Nat.zero_le _, rfl, (show Lib.IsBuilder _ _ _ _ _ _ from Lib.fresh_isBuilder _ _ _), (show Below _ _ _ from below_alloc (Below.refl _ _))⟩
  case round =>
    obtain ⟨k, hk, rfl, AB, AW⟩ := hrel
    by_cases hlt : k < n
    · obtain ⟨rfl, hb⟩ := HA.out (by omega)
      have hkl : k < l.length := by rw [HZ.out]; exact hlt
      have hc := (HS.out.below hb AW.out) k _ (List.getElem?_eq_getElem hkl)
      have hjl := linesB_len (l := l) k (by rw [HZ.out]; exact hk)
      have hst := sumS_take (l := l) hkl
      have hle := sumS_take_le l (k + 1)
      have hjs := linesB_take hkl
      rw [List.getElem?_eq_getElem hkl, Option.getD_some] at hst
      generalize l[k] = x at *
      have HJ := Lib.hid hjs
      have i1 : (0 : Int) ≤ (k : Int) := by omega
      have i2 : (k : Int) < (n : Int) := by omega
      have hbw : w.heap.size ≤ wr.heap.size := AW.out.size
      cases hy : Lib.hasSuffix x.data.toList [45] with
      | true =>
        have e1 : Lib.trimSuffix x.data.toList [45] = lineB x.data.toList := by
          unfold Lib.trimSuffix lineB
          rw [if_pos hy, if_pos hy]
          rfl
        have hcut : ∀ W, Calls Tryd.prog 44 #[.string x, .string ⟨#[45]⟩] W fun e w' => e = .returned (.tuple #[.string ⟨(lineB x.data.toList).toArray⟩, .bool true]) ∧ w' = W := fun W => by
          have h := YtenldjifipnjpaaDoor.strings_CutSuffix x ⟨#[45]⟩ W (by omega)
          rw [show (⟨#[45]⟩ : ByteArray).data.toList = [45] from rfl, e1, hy] at h
          exact h
        have hx2 := lineB_len x.data.toList
        have hx3 : x.data.toList.length = x.size := Array.length_toList
        have hx4 : (⟨(lineB x.data.toList).toArray⟩ : ByteArray).size = (lineB x.data.toList).length := rfl
        have hwr := fun (W : World) (hW : Lib.IsBuilder 58 5 w.heap.size w.heap.size (Lib.byteCells (linesB ((l.take k).map (·.data.toList)))) W) (hs : w.heap.size ≤ W.heap.size) => write_any (s := ⟨(lineB x.data.toList).toArray⟩) hW (by omega) hs
        have HCUT := Lib.hid hcut
        have HWR := Lib.hid hwr
        clear hcut hwr hjs hst hle hx2 hx3 hx4 hy e1
        go_wp2_with (first
          | (go_at_call 44; refine (HCUT.out _).mono ?_; rintro e w2 ⟨rfl, rfl⟩)
          | (go_at_call 45; refine (HWR.out _ AB.out hbw).mono ?_; rintro e w3 ⟨rfl, hab2, hb2⟩; have AB2 := Lib.hid hab2; have AW2 := Lib.hid (AW.out.trans hb2); clear hab2 hb2))
        go_roundw
        case rel => exact ⟨k + 1, by omega, by go_num, (show Lib.IsBuilder _ _ _ _ _ _ from by rw [HJ.out]; exact AB2.out), (show Below _ _ _ from AW2.out)⟩
        case measure => simp [intOf]; omega
      | false =>
        have hn9 : ¬ Lib.hasSuffix x.data.toList [45] = true := by rw [hy]; decide
        have e1 : (x ++ ⟨#[32]⟩ : ByteArray).data.toList = lineB x.data.toList := by
          unfold lineB
          rw [if_neg hn9, ByteArray.data_append, Array.toList_append]
        have hcut : ∀ W, Calls Tryd.prog 44 #[.string x, .string ⟨#[45]⟩] W fun e w' => e = .returned (.tuple #[.string ⟨(Lib.trimSuffix x.data.toList [45]).toArray⟩, .bool false]) ∧ w' = W := fun W => by
          have h := YtenldjifipnjpaaDoor.strings_CutSuffix x ⟨#[45]⟩ W (by omega)
          rw [show (⟨#[45]⟩ : ByteArray).data.toList = [45] from rfl, hy] at h
          exact h
        have hx4 : (x ++ ⟨#[32]⟩ : ByteArray).size = x.size + 1 := by rw [ByteArray.size_append]; rfl
        have hwr := fun (W : World) (hW : Lib.IsBuilder 58 5 w.heap.size w.heap.size (Lib.byteCells (linesB ((l.take k).map (·.data.toList)))) W) (hs : w.heap.size ≤ W.heap.size) => write_any (s := x ++ ⟨#[32]⟩) hW (by omega) hs
        have E1 := Lib.hid e1
        have HCUT := Lib.hid hcut
        have HWR := Lib.hid hwr
        have hxs : x.size ≤ 1048576 := by omega
        clear hcut hwr hjs hst hle hx4 hy e1 hn9
        go_wp2_with (first
          | (go_at_call 44; refine (HCUT.out _).mono ?_; rintro e w2 ⟨rfl, rfl⟩)
          | (go_at_call 45; refine (HWR.out _ AB.out hbw).mono ?_; rintro e w3 ⟨rfl, hab2, hb2⟩; have AB2 := Lib.hid hab2; have AW2 := Lib.hid (AW.out.trans hb2); clear hab2 hb2))
        go_roundw
        case rel => exact ⟨k + 1, by omega, by go_num, (show Lib.IsBuilder _ _ _ _ _ _ from by rw [HJ.out, ← E1.out]; exact AB2.out), (show Below _ _ _ from AW2.out)⟩
        case measure => simp [intOf]; omega
    · obtain rfl : k = n := by omega
      have hlz := HZ.out
      obtain ⟨G, hG⟩ : ∃ G, G = linesB (l.map (·.data.toList)) := ⟨_, rfl⟩
      have hgl := linesB_len (l := l) k (by omega)
      have hab := AB.out
      rw [List.take_of_length_le (by omega)] at hgl hab
      rw [← hG] at hgl hab
      have AB0 := Lib.hid hab
      have hgs : (⟨G.toArray⟩ : ByteArray).size = G.length := rfl
      have hsp := fun W => split_one 32 ⟨G.toArray⟩ W (by rw [hgs]; omega)
      have hpl := piecesB_le 32 ⟨G.toArray⟩
      rw [hgs] at hpl
      have hwr : R = (piecesB 32 ⟨G.toArray⟩).filter fun x => decide (¬ x = ⟨#[]⟩) := by
        rw [HR.out]
        refine toL_inj ?_
        have h := words_split ⟨G.toArray⟩
        have e : (fun x : ByteArray => decide (x.data.toList ≠ [])) = fun x => decide (¬ x = ⟨#[]⟩) := by
          funext x
          exact decide_eq_decide.2 (not_congr toL_nil)
        rw [e] at h
        rw [show (piecesB 32 ⟨G.toArray⟩) = Lib.splitB ⟨#[32]⟩ 0 (Lib.countB ⟨G.toArray⟩ ⟨#[32]⟩) ⟨G.toArray⟩ from rfl, h, hG]
        unfold wolR
        rw [List.map_map]
        exact List.map_id _
      generalize hps : piecesB 32 ⟨G.toArray⟩ = ps at *
      have hsp2 : ∀ W, Calls Tryd.prog 46 #[.string ⟨G.toArray⟩, .string ⟨#[32]⟩] W fun e w' => e = .returned (.slice (some ⟨W.heap.size, 0, none⟩) ps.length ps.length) ∧ w' = W.alloc (.cells (ps.map Value.string).toArray 9) := hsp
      have HSP := Lib.hid hsp2
      have HWR := Lib.hid hwr
      have hb0 := AW.out
      have HB0 := Lib.hid hb0
      have hbz := AW.out.size
      clear hsp hsp2 hwr hps hab AB hG hlz HS HA HZ hgs AW hb0 HR
      go_wp2_with (first
        | (go_at_call 47; refine (YtenldjifipnjpaaDoor.Builder_String_any w.heap.size w.heap.size G _ AB0.out hbz).mono ?_; rintro e w5 ⟨rfl, hb5⟩; have HB5 := Lib.hid hb5; clear hb5)
        | (go_at_call 46; refine (HSP.out w5).mono ?_; rintro e w6 ⟨rfl, rfl⟩))
      have hw6 := heap_alloc_new w5 (.cells (ps.map Value.string).toArray 9)
      have hz6 : (w5.alloc (.cells (ps.map Value.string).toArray 9)).heap.size = w5.heap.size + 1 := by simp
      have hb6 : Below w.heap.size w (w5.alloc (.cells (ps.map Value.string).toArray 9)) := below_alloc (HB0.out.trans HB5.out)
      have hz8 : w.heap.size ≤ w5.heap.size := Nat.le_trans hbz HB5.out.size
      clear hbz
      generalize w5.alloc (.cells (ps.map Value.string).toArray 9) = w6 at *
      generalize w5.heap.size = B at *
      have HW6 := Lib.hid hw6
      have HB6 := Lib.hid hb6
      clear hw6 hb6 HB5 HB0 AB0 HSP
      go_loopw [8, 32] (fun v i wr => ∃ k : Nat, k ≤ ps.length ∧ i = .int .i64 k ∧ Aside (wr.ownsRow w6.heap.size 9 1 v ((ps.take k).filter fun x => decide (¬ x = ⟨#[]⟩)).length (((ps.take k).filter fun x => decide (¬ x = ⟨#[]⟩)).map Value.string)) ∧ Aside (Below w6.heap.size w6 wr) ∧ Aside ((ps.take k).filter (fun x => decide (¬ x = ⟨#[]⟩)) = [] → v = .slice none 0 0)) (fun _ i _ => ps.length - (intOf i).toNat)
      case atStart => exact ⟨0, Nat.zero_le _, rfl, (show World.ownsRow _ _ _ _ _ _ _ from World.ownsRow_nil _ _ _ _), (show Below _ _ _ from Below.refl _ _), (show _ → _ from fun _ => rfl)⟩
      case round =>
        obtain ⟨k, hk, rfl, AO, AW2, AN⟩ := hrel
        by_cases hlt : k < ps.length
        · have hcx : wr.cell? ⟨B, k, none⟩ = some (.string ps[k]) := by
            rw [AW2.out.cell (p := ⟨B, k, none⟩) (show B < w6.heap.size by omega)]
            simp only [World.cell?, HW6.out]
            simp [hlt]
          have hfl : ((ps.take (k + 1)).filter fun x => decide (¬ x = ⟨#[]⟩)) = ((ps.take k).filter fun x => decide (¬ x = ⟨#[]⟩)) ++ if ps[k] = ⟨#[]⟩ then [] else [ps[k]] := by
            rw [List.take_succ_eq_append_getElem hlt, List.filter_append]
            congr 1
            by_cases h : ps[k] = ⟨#[]⟩ <;> simp [h]
          have hfle := List.length_filter_le (fun x => decide (¬ x = ⟨#[]⟩)) (ps.take k)
          rw [List.length_take] at hfle
          generalize ps[k] = x at *
          generalize hK0 : ((ps.take k).filter fun x => decide (¬ x = ⟨#[]⟩)) = K0 at *
          clear hK0
          have HF := Lib.hid hfl
          have i1 : (0 : Int) ≤ (k : Int) := by omega
          have i2 : (k : Int) < (ps.length : Int) := by omega
          have hbw : w6.heap.size ≤ wr.heap.size := AW2.out.size
          have hKs : K0.length ≤ 2097154 := by omega
          clear hfl hfle
          by_cases hx : x = ⟨#[]⟩
          · rw [if_pos hx, List.append_nil] at HF
            subst hx
            go_wp2
            go_roundw
            case rel => exact ⟨k + 1, by omega, by go_num, (show World.ownsRow _ _ _ _ _ _ _ from by rw [HF.out]; exact AO.out), (show Below _ _ _ from AW2.out), (show _ → _ from by rw [HF.out]; exact AN.out)⟩
            case measure => simp [intOf]; omega
          · rw [if_neg hx] at HF
            obtain ⟨i0, hi, hz0, hz1, hz2⟩ := info_parts (show (Tryd.prog.info? 9).map (fun i => (i.zero, i.size, i.bytes)) = some (some (.string ByteArray.empty), 1, 16) by kernel_rfl)
            have hne := str_ne_bne hx
            go_wp2_with (at_builtin; refine wpList_append_own _ rfl _ _ 22 rfl w6.heap.size 9 i0 (.string ByteArray.empty) 1 16 Tryd.underlying22 hi hz0 hz1 hz2 rfl (by decide) _ _ _ rfl (AO.out.alloc _) ⟨wr.heap.size, 0, none⟩ 1 1 [.string x] rfl rfl (one_cell _ _ _) (by intro u hu; simp at hu; subst hu; rfl) (by unfold maxLen; omega) (by omega) (by simp; omega) ?_; intro v' w1 hown' hgrow _; have HO1 := Lib.hid hown'; have HGR := Lib.hid hgrow; clear hown' hgrow)
            go_wp2
            go_roundw
            case rel =>
              have hlt8 := fun q hq => (AO.out.lt q hq).1
              refine ⟨k + 1, by omega, by go_num, (show World.ownsRow _ _ _ _ _ _ _ from by rw [HF.out, List.length_append, List.map_append]; exact HO1.out), (show Below _ _ _ from (AW2.out.alloc hbw _).grown HGR.out (by simp; omega) hlt8), (show _ → _ from by rw [HF.out]; simp)⟩
            case measure => simp [intOf]; omega
        · obtain rfl : k = ps.length := by omega
          rw [List.take_of_length_le (Nat.le_refl _)] at AO AN
          rw [← HWR.out] at AO AN
          go_wp2
          go_ret
          exact ⟨_, rfl, below_trans HB6.out AW2.out, ownsRow_base AO.out (by omega), AN.out⟩
end Go.Proofs.YtenldjifipnjpaaDoor
