/- Copies, comparisons and sizes of slices of texts. -/
import Derived.Test.YtijeoiffkgemdaaProg
import Derived.Test.YtijeoiffkgemdaaIn
import Derived.Test.YtijeoiffkgemdaaPlain
import Derived.Test.YtijeoiffkgemdaaFill
namespace Go.Proofs.Ytijeoiffkgemdaa
open Go.RowKit
set_option linter.unusedVariables false

def sizes (ss : List ByteArray) (k : Nat) : Nat := ((ss.take k).map ByteArray.size).sum
theorem sizes_succ (ss : List ByteArray) (k : Nat) (h : k < ss.length) : sizes ss (k + 1) = sizes ss k + (ss[k]?.getD ByteArray.empty).size := by
  unfold sizes
  rw [List.take_succ_eq_append_getElem h, List.map_append, List.sum_append]
  simp only [List.map_cons, List.map_nil, List.sum_cons, List.sum_nil, List.getElem?_eq_getElem h, Option.getD_some, Nat.add_zero]
theorem str_empty {s : ByteArray} (h : s.size = 0) : s.toList.isEmpty = true := by
  rw [ByteArray.toList_eq]
  have : s.data.toList = [] := List.eq_nil_of_length_eq_zero (by simpa using h)
  rw [this]; rfl
theorem str_full {s : ByteArray} (h : ¬ s.size = 0) : s.toList.isEmpty = false := by
  rw [ByteArray.toList_eq]
  cases hl : s.data.toList with
  | nil =>
    exfalso
    apply h
    have h2 : s.data.toList.length = 0 := by rw [hl]; rfl
    simpa using h2
  | cons _ _ => rfl
def hyph (s : ByteArray) : Bool := if h : 0 < s.size then ((s[s.size - 1].toNat : Int) == 45) else false
theorem last_byte (s : ByteArray) (hp : 0 < s.size) : (s.extract (s.size - 1) s.size).toList = [s[s.size - 1]] := by
  have hl : s.size - 1 < s.data.toList.length := by simp; omega
  rw [ByteArray.toList_eq, ByteArray.data_extract, Array.toList_extract]
  have : s.size = s.data.toList.length := by simp
  simp only [List.extract]
  rw [List.drop_eq_getElem_cons hl, show s.size - 1 + 1 = s.data.toList.length by omega, List.drop_length]
  rw [show s.size - (s.size - 1) = 1 by omega]
  rfl
theorem hyph_last (s : ByteArray) (hp : 0 < s.size) : ((s.extract (s.size - 1) s.size).toList == [45]) = hyph s := by
  rw [last_byte s hp, hyph, dif_pos hp]
  have h : ∀ x : UInt8, ([x] == [45]) = ((x.toNat : Int) == 45) := by
    intro x
    rw [Bool.eq_iff_iff]
    simp only [beq_iff_eq, List.cons.injEq, and_true]
    constructor
    · rintro rfl; rfl
    · intro h; exact UInt8.toNat_inj.1 (by have : (45 : UInt8).toNat = 45 := rfl; omega)
  exact h _
def hyphs (ss : List ByteArray) (k : Nat) : Nat := ((ss.take k).filter hyph).length
theorem hyphs_succ (ss : List ByteArray) (k : Nat) (h : k < ss.length) : hyphs ss (k + 1) = hyphs ss k + (if hyph (ss[k]?.getD ByteArray.empty) then 1 else 0) := by
  unfold hyphs
  rw [List.take_succ_eq_append_getElem h, List.filter_append, List.length_append]
  simp only [List.filter_cons, List.filter_nil, List.getElem?_eq_getElem h, Option.getD_some]
  split <;> simp
theorem hyphs_le (ss : List ByteArray) (k : Nat) : hyphs ss k ≤ k := by
  unfold hyphs
  exact Nat.le_trans (List.length_filter_le _ _) (List.length_take_le _ _)

set_option maxHeartbeats 2000000 in
theorem specHyphenLines_any (a : Option Addr) (n cap : Nat) (ss : List ByteArray) (w : World) (h : StrsAt w a n cap ss) :
    Calls Try.prog 25 #[.slice a n cap] w fun e w' => e = .returned (.int .i64 (hyphs ss n)) ∧ Below w.heap.size w w' := by
  obtain ⟨hlen, hcap, hmax, hrng, hat⟩ := h
  have HL := Lib.hid hlen
  have HA := Lib.hid hat
  have HR := Lib.hid hrng
  clear hlen hat hrng
  go_enter Try.func25, Try.ntmps25
  go_wp2
  go_loopw [3, 4] (fun c i wr => ∃ k : Nat, k ≤ n ∧ i = .int .i64 k ∧ c = .int .i64 (hyphs ss k) ∧ Below w.heap.size w wr) (fun _ i _ => n - (intOf i).toNat)
  case atStart => exact ⟨0, Nat.zero_le _, rfl, by simp [hyphs], Below.refl _ _⟩
  case round =>
    obtain ⟨k, hk, rfl, rfl, hbr⟩ := hrel
    by_cases hlt : k < n
    · obtain ⟨b, off, rfl, hcs⟩ := HA.out (by omega)
      have hle := hyphs_le ss k
      have HS := Lib.hid (hyphs_succ ss k (by rw [HL.out]; exact hlt))
      have r1 := HR.out k
      have c1' := (hbr.cell (World.block_lt_of_cell? w _ (hcs k hlt))).trans (hcs k hlt)
      obtain ⟨s, hse⟩ : ∃ s, s = ss[k]?.getD ByteArray.empty := ⟨_, rfl⟩
      rw [← hse] at c1' r1
      have HE := Lib.hid hse
      clear hse hcs
      have i1 : (0 : Int) ≤ (k : Int) := by omega
      have i2 : (k : Int) < (n : Int) := by omega
      by_cases hz : s.size = 0
      · have e1 := str_empty hz
        have hh : hyph s = false := by simp [hyph, hz]
        have HH := Lib.hid hh
        clear hh
        go_wp2
        go_roundw
        case rel => exact ⟨k + 1, by omega, by go_num, by rw [HS.out, ← HE.out, HH.out]; rfl, by (repeat (first | (with_reducible exact Below.refl _ _) | (with_reducible assumption) | (with_reducible apply below_alloc) | ((with_reducible apply Below.setCell); rotate_left; (focus (first | omega | (simp; done) | (simp; omega)))) | (with_reducible apply Below.drew) | (with_reducible apply below_drewN) | (with_reducible refine below_trans ?_ (by assumption))))⟩
        case measure => simp [intOf]; omega
      · have e1 := str_full hz
        have hp : 0 < s.size := by omega
        cases h45 : ((s[s.size - 1].toNat : Int) == 45) with
        | true =>
          have hh : hyph s = true := by rw [hyph, dif_pos hp]; exact h45
          have HH := Lib.hid hh
          clear hh
          go_wp2
          go_roundw
          case rel => exact ⟨k + 1, by omega, by go_num, by rw [HS.out, ← HE.out, HH.out]; go_num, by (repeat (first | (with_reducible exact Below.refl _ _) | (with_reducible assumption) | (with_reducible apply below_alloc) | ((with_reducible apply Below.setCell); rotate_left; (focus (first | omega | (simp; done) | (simp; omega)))) | (with_reducible apply Below.drew) | (with_reducible apply below_drewN) | (with_reducible refine below_trans ?_ (by assumption))))⟩
          case measure => simp [intOf]; omega
        | false =>
          have hh : hyph s = false := by rw [hyph, dif_pos hp]; exact h45
          have HH := Lib.hid hh
          clear hh
          go_wp2
          go_roundw
          case rel => exact ⟨k + 1, by omega, by go_num, by rw [HS.out, ← HE.out, HH.out]; rfl, by (repeat (first | (with_reducible exact Below.refl _ _) | (with_reducible assumption) | (with_reducible apply below_alloc) | ((with_reducible apply Below.setCell); rotate_left; (focus (first | omega | (simp; done) | (simp; omega)))) | (with_reducible apply Below.drew) | (with_reducible apply below_drewN) | (with_reducible refine below_trans ?_ (by assumption))))⟩
          case measure => simp [intOf]; omega
    · have hkn : k = n := by omega
      subst hkn
      go_wp2
      go_ret
      exact ⟨rfl, by (repeat (first | (with_reducible exact Below.refl _ _) | (with_reducible assumption) | (with_reducible apply below_alloc) | ((with_reducible apply Below.setCell); rotate_left; (focus (first | omega | (simp; done) | (simp; omega)))) | (with_reducible apply Below.drew) | (with_reducible apply below_drewN) | (with_reducible refine below_trans ?_ (by assumption))))⟩
set_option maxHeartbeats 2000000 in
theorem hasHyphen_any (s : ByteArray) (w : World) (hs : s.size ≤ 9223372036854775807) :
    Calls Try.prog 53 #[.string s, .string ⟨#[45]⟩] w fun e w' => e = .returned (.bool (hyph s)) ∧ w = w' := by
  by_cases hz : s.size = 0
  · have hh : hyph s = false := by simp [hyph, hz]
    have HH := Lib.hid hh
    clear hh
    go_enter Try.func53, Try.ntmps53
    go_wp2
    go_ret
    exact ⟨by (rw [HH.out]; first | done | rfl), rfl⟩
  · have hp : 0 < s.size := by omega
    have HH := Lib.hid (hyph_last s hp)
    go_enter Try.func53, Try.ntmps53
    go_wp2
    go_ret
    exact ⟨by rw [← HH.out]; rfl, rfl⟩
set_option maxHeartbeats 2000000 in
theorem implHyphenLines_any (a : Option Addr) (n cap : Nat) (ss : List ByteArray) (w : World) (h : StrsAt w a n cap ss) :
    Calls Try.prog 27 #[.slice a n cap] w fun e w' => e = .returned (.int .i64 (hyphs ss n)) ∧ Below w.heap.size w w' := by
  obtain ⟨hlen, hcap, hmax, hrng, hat⟩ := h
  have HL := Lib.hid hlen
  have HA := Lib.hid hat
  have HR := Lib.hid hrng
  clear hlen hat hrng
  go_enter Try.func27, Try.ntmps27
  go_wp2
  go_loopw [3, 8] (fun c i wr => ∃ k : Nat, k ≤ n ∧ i = .int .i64 k ∧ c = .int .i64 (hyphs ss k) ∧ Below w.heap.size w wr) (fun _ i _ => n - (intOf i).toNat)
  case atStart => exact ⟨0, Nat.zero_le _, rfl, by simp [hyphs], Below.refl _ _⟩
  case round =>
    obtain ⟨k, hk, rfl, rfl, hbr⟩ := hrel
    by_cases hlt : k < n
    · obtain ⟨b, off, rfl, hcs⟩ := HA.out (by omega)
      have hle := hyphs_le ss k
      have HS := Lib.hid (hyphs_succ ss k (by rw [HL.out]; exact hlt))
      have r1 := HR.out k
      have c1' := (hbr.cell (World.block_lt_of_cell? w _ (hcs k hlt))).trans (hcs k hlt)
      obtain ⟨s, hse⟩ : ∃ s, s = ss[k]?.getD ByteArray.empty := ⟨_, rfl⟩
      rw [← hse] at c1' r1
      have HE := Lib.hid hse
      clear hse hcs
      have i1 : (0 : Int) ≤ (k : Int) := by omega
      have i2 : (k : Int) < (n : Int) := by omega
      cases hh : hyph s with
      | true =>
        go_wp2_with (go_at_call 53; refine (hasHyphen_any _ _ r1).mono ?_; rintro e w1 ⟨rfl, rfl⟩)
        go_roundw
        case rel => exact ⟨k + 1, by omega, by go_num, by rw [HS.out, ← HE.out, hh]; go_num, by (repeat (first | (with_reducible exact Below.refl _ _) | (with_reducible assumption) | (with_reducible apply below_alloc) | ((with_reducible apply Below.setCell); rotate_left; (focus (first | omega | (simp; done) | (simp; omega)))) | (with_reducible apply Below.drew) | (with_reducible apply below_drewN) | (with_reducible refine below_trans ?_ (by assumption))))⟩
        case measure => simp [intOf]; omega
      | false =>
        go_wp2_with (go_at_call 53; refine (hasHyphen_any _ _ r1).mono ?_; rintro e w1 ⟨rfl, rfl⟩)
        go_roundw
        case rel => exact ⟨k + 1, by omega, by go_num, by rw [HS.out, ← HE.out, hh]; rfl, by (repeat (first | (with_reducible exact Below.refl _ _) | (with_reducible assumption) | (with_reducible apply below_alloc) | ((with_reducible apply Below.setCell); rotate_left; (focus (first | omega | (simp; done) | (simp; omega)))) | (with_reducible apply Below.drew) | (with_reducible apply below_drewN) | (with_reducible refine below_trans ?_ (by assumption))))⟩
        case measure => simp [intOf]; omega
    · have hkn : k = n := by omega
      subst hkn
      go_wp2
      go_ret
      exact ⟨rfl, by (repeat (first | (with_reducible exact Below.refl _ _) | (with_reducible assumption) | (with_reducible apply below_alloc) | ((with_reducible apply Below.setCell); rotate_left; (focus (first | omega | (simp; done) | (simp; omega)))) | (with_reducible apply Below.drew) | (with_reducible apply below_drewN) | (with_reducible refine below_trans ?_ (by assumption))))⟩
theorem infoStr : (Try.prog.info? 9).map (fun i => (i.zero, i.size, i.bytes)) = some (some (.string ByteArray.empty), 1, 16) := by kernel_rfl
def strAt (ss : List ByteArray) (i : Nat) : Value := .string (ss[i]?.getD ByteArray.empty)
def NewStrs (w : World) (ss : List ByteArray) (n : Nat) (e : Ending) (w' : World) : Prop :=
  ∃ b, e = .returned (.slice (some ⟨b, 0, none⟩) n n) ∧ w.heap.size ≤ b ∧ OwnC w' b ((List.range n).map (strAt ss)).toArray 9 ∧ Below w.heap.size w w'
set_option maxHeartbeats 2000000 in
theorem toStringS_any (a : Option Addr) (n cap : Nat) (ss : List ByteArray) (w : World) (hn : n ≤ 1048576) (h : StrsAt w a n cap ss) :
    Calls Try.prog 26 #[.slice a n cap] w (NewStrs w ss n) := by
  obtain ⟨hlen, hcap, hmax, hrng, hat⟩ := h
  have HL := Lib.hid hlen
  have HA := Lib.hid hat
  clear hlen hat hrng
  have hmk := run_mk (P := Try.prog) (strAt ss) 36 9 (.string ByteArray.empty) 16 n Try.underlying36 infoStr rfl (by omega) (by omega)
  go_enter Try.func26, Try.ntmps26
  go_wp2
  clear hmk
  go_loopw [4] (fun i wr => ∃ k : Nat, k ≤ n ∧ i = .int .i64 k ∧ OwnC wr w.heap.size (fillTo (strAt ss) (.string ByteArray.empty) k n) 9 ∧ Below w.heap.size w wr) (fun i _ => n - (intOf i).toNat)
  case atStart => exact ⟨0, Nat.zero_le _, rfl, OwnC.new _ _ _, by (repeat (first | (with_reducible exact Below.refl _ _) | (with_reducible assumption) | (with_reducible apply below_alloc) | ((with_reducible apply Below.setCell); rotate_left; (focus (first | omega | (simp; done) | (simp; omega)))) | (with_reducible apply Below.drew) | (with_reducible apply below_drewN) | (with_reducible refine below_trans ?_ (by assumption))))⟩
  case round =>
    obtain ⟨k, hk, rfl, ho, hbr⟩ := hrel
    by_cases hlt : k < n
    · obtain ⟨b, off, rfl, hcs⟩ := HA.out (by omega)
      have c1 : wr.cell? ⟨b, off + k, none⟩ = some (.string (ss[k]?.getD ByteArray.empty)) := (hbr.cell (World.block_lt_of_cell? w _ (hcs k hlt))).trans (hcs k hlt)
      have c2 : wr.cell? ⟨w.heap.size, k, none⟩ = some (.string ByteArray.empty) := by rw [ho.facts.1 k, fillTo_at _ _ hlt]; simp
      have f2 : wr.frozen? ⟨w.heap.size, k, none⟩ = false := ho.facts.2.1 k
      have HO := Lib.hid (fillTo_set (strAt ss) (.string ByteArray.empty) hlt ▸ ho.set k (strAt ss k))
      have i1 : (0 : Int) ≤ (k : Int) := by omega
      have i2 : (k : Int) < (n : Int) := by omega
      clear hcs ho
      go_wp2
      go_roundw
      case rel => exact ⟨k + 1, by omega, by go_num, HO.out, by (repeat (first | (with_reducible exact Below.refl _ _) | (with_reducible assumption) | (with_reducible apply below_alloc) | ((with_reducible apply Below.setCell); rotate_left; (focus (first | omega | (simp; done) | (simp; omega)))) | (with_reducible apply Below.drew) | (with_reducible apply below_drewN) | (with_reducible refine below_trans ?_ (by assumption))))⟩
      case measure => simp [intOf]; omega
    · have hkn : k = n := by omega
      subst hkn
      rw [fillTo_full] at ho
      have HO := Lib.hid ho
      clear ho
      go_wp2
      go_ret
      exact ⟨w.heap.size, rfl, Nat.le_refl _, HO.out, by (repeat (first | (with_reducible exact Below.refl _ _) | (with_reducible assumption) | (with_reducible apply below_alloc) | ((with_reducible apply Below.setCell); rotate_left; (focus (first | omega | (simp; done) | (simp; omega)))) | (with_reducible apply Below.drew) | (with_reducible apply below_drewN) | (with_reducible refine below_trans ?_ (by assumption))))⟩
set_option maxHeartbeats 2000000 in
theorem eqStringS_any (a a' : Option Addr) (n cap cap' : Nat) (ss : List ByteArray) (w : World) (h : StrsAt w a n cap ss) (h' : StrsAt w a' n cap' ss) :
    Calls Try.prog 28 #[.slice a n cap, .slice a' n cap'] w fun e w' => e = .returned (.bool true) ∧ Below w.heap.size w w' := by
  obtain ⟨hlen, hcap, hmax, hrng, hat⟩ := h
  obtain ⟨_, _, _, _, hat'⟩ := h'
  have HA := Lib.hid hat
  have HA' := Lib.hid hat'
  clear hat hat'
  go_enter Try.func28, Try.ntmps28
  go_wp2
  go_loopw [5] (fun i wr => ∃ k : Nat, k ≤ n ∧ i = .int .i64 k ∧ Below w.heap.size w wr) (fun i _ => n - (intOf i).toNat)
  case atStart => exact ⟨0, Nat.zero_le _, rfl, Below.refl _ _⟩
  case round =>
    obtain ⟨k, hk, rfl, hbr⟩ := hrel
    by_cases hlt : k < n
    · obtain ⟨b, off, rfl, hcs⟩ := HA.out (by omega)
      obtain ⟨b', off', rfl, hcs'⟩ := HA'.out (by omega)
      have c1 : wr.cell? ⟨b, off + k, none⟩ = some (.string (ss[k]?.getD ByteArray.empty)) := (hbr.cell (World.block_lt_of_cell? w _ (hcs k hlt))).trans (hcs k hlt)
      have c2 : wr.cell? ⟨b', off' + k, none⟩ = some (.string (ss[k]?.getD ByteArray.empty)) := (hbr.cell (World.block_lt_of_cell? w _ (hcs' k hlt))).trans (hcs' k hlt)
      have i1 : (0 : Int) ≤ (k : Int) := by omega
      have i2 : (k : Int) < (n : Int) := by omega
      clear hcs hcs' hrng
      go_wp2_with fail
      go_quiet (fail)
      go_wp2
      go_roundw
      case rel => exact ⟨k + 1, by omega, by go_num, by (repeat (first | (with_reducible exact Below.refl _ _) | (with_reducible assumption) | (with_reducible apply below_alloc) | ((with_reducible apply Below.setCell); rotate_left; (focus (first | omega | (simp; done) | (simp; omega)))) | (with_reducible apply Below.drew) | (with_reducible apply below_drewN) | (with_reducible refine below_trans ?_ (by assumption))))⟩
      case measure => simp [intOf]; omega
    · have hkn : k = n := by omega
      subst hkn
      go_wp2
      go_ret
      exact ⟨rfl, by (repeat (first | (with_reducible exact Below.refl _ _) | (with_reducible assumption) | (with_reducible apply below_alloc) | ((with_reducible apply Below.setCell); rotate_left; (focus (first | omega | (simp; done) | (simp; omega)))) | (with_reducible apply Below.drew) | (with_reducible apply below_drewN) | (with_reducible refine below_trans ?_ (by assumption))))⟩
def Sized (left : Int) (n : Nat) (ss : List ByteArray) (w : World) (e : Ending) (w' : World) : Prop :=
  ∃ k : Int, e = .returned (.int .i64 k) ∧ Below w.heap.size w w' ∧ -1 ≤ k ∧ (0 ≤ k → (n : Int) + (sizes ss n : Int) + k = left)
set_option maxHeartbeats 2000000 in
theorem szStringS_any (a : Option Addr) (n cap : Nat) (ss : List ByteArray) (left : Int) (w : World) (h0 : 0 ≤ left) (hl : left ≤ 1048576) (h : StrsAt w a n cap ss) :
    Calls Try.prog 24 #[.slice a n cap, .int .i64 left] w (Sized left n ss w) := by
  obtain ⟨hlen, hcap, hmax, hrng, hat⟩ := h
  have HL := Lib.hid hlen
  have HA := Lib.hid hat
  have HR := Lib.hid hrng
  clear hlen hat hrng
  have i0 : (0 : Int) ≤ (n : Int) := by omega
  by_cases hs : left - (n : Int) < 0
  · go_enter Try.func24, Try.ntmps24
    go_wp2
    go_ret
    exact ⟨-1, rfl, Below.refl _ _, by omega, by omega⟩
  · go_enter Try.func24, Try.ntmps24
    go_wp2
    go_loopw [1, 5] (fun l i wr => ∃ k : Nat, k ≤ n ∧ i = .int .i64 k ∧ l = .int .i64 (left - (n : Int) - (sizes ss k : Int)) ∧ 0 ≤ left - (n : Int) - (sizes ss k : Int) ∧ Below w.heap.size w wr) (fun _ i _ => n - (intOf i).toNat)
    case atStart => exact ⟨0, Nat.zero_le _, rfl, by simp [sizes], by simp [sizes]; omega, Below.refl _ _⟩
    case round =>
      obtain ⟨k, hk, rfl, rfl, hp, hbr⟩ := hrel
      by_cases hlt : k < n
      · obtain ⟨b, off, rfl, hcs⟩ := HA.out (by omega)
        have c1 : wr.cell? ⟨b, off + k, none⟩ = some (.string (ss[k]?.getD ByteArray.empty)) := (hbr.cell (World.block_lt_of_cell? w _ (hcs k hlt))).trans (hcs k hlt)
        have r1 := HR.out k
        have HS := Lib.hid (sizes_succ ss k (by rw [HL.out]; exact hlt))
        have i1 : (0 : Int) ≤ (k : Int) := by omega
        have i2 : (k : Int) < (n : Int) := by omega
        clear hcs
        by_cases hneg : left - (n : Int) - (sizes ss k : Int) - ((ss[k]?.getD ByteArray.empty).size : Int) < 0
        · go_wp2
          go_ret
          exact ⟨-1, rfl, by (repeat (first | (with_reducible exact Below.refl _ _) | (with_reducible assumption) | (with_reducible apply below_alloc) | ((with_reducible apply Below.setCell); rotate_left; (focus (first | omega | (simp; done) | (simp; omega)))) | (with_reducible apply Below.drew) | (with_reducible apply below_drewN) | (with_reducible refine below_trans ?_ (by assumption)))), by omega, by omega⟩
        · go_wp2
          go_roundw
          case rel => exact ⟨k + 1, by omega, by go_num, by rw [HS.out]; go_num, by rw [HS.out]; omega, by (repeat (first | (with_reducible exact Below.refl _ _) | (with_reducible assumption) | (with_reducible apply below_alloc) | ((with_reducible apply Below.setCell); rotate_left; (focus (first | omega | (simp; done) | (simp; omega)))) | (with_reducible apply Below.drew) | (with_reducible apply below_drewN) | (with_reducible refine below_trans ?_ (by assumption))))⟩
          case measure => simp [intOf]; omega
      · have hkn : k = n := by omega
        subst hkn
        go_wp2
        go_ret
        exact ⟨_, rfl, by (repeat (first | (with_reducible exact Below.refl _ _) | (with_reducible assumption) | (with_reducible apply below_alloc) | ((with_reducible apply Below.setCell); rotate_left; (focus (first | omega | (simp; done) | (simp; omega)))) | (with_reducible apply Below.drew) | (with_reducible apply below_drewN) | (with_reducible refine below_trans ?_ (by assumption)))), by omega, by omega⟩
end Go.Proofs.Ytijeoiffkgemdaa
