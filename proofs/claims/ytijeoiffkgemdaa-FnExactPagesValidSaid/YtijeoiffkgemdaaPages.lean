/- PagesValid, of the program and of the reference; copies and comparisons of slices of numbers. -/
import Derived.Test.YtijeoiffkgemdaaProg
import Derived.Test.YtijeoiffkgemdaaIn
import Derived.Test.YtijeoiffkgemdaaPlain
import Derived.Test.YtijeoiffkgemdaaFill
namespace Go.Proofs.Ytijeoiffkgemdaa
open Go.RowKit
set_option linter.unusedVariables false

set_option maxHeartbeats 2000000 in
theorem specPagesValid_any (a : Option Addr) (n cap : Nat) (zs : List Int) (w : World) (h : IntsAt w a n cap zs) :
    Calls Try.prog 18 #[.slice a n cap] w fun e w' => e = .returned (.bool (pagesB zs)) ∧ Below w.heap.size w w' := by
  obtain ⟨hlen, hcap, hmax, hrng, hat⟩ := h
  have HL := Lib.hid hlen
  have HA := Lib.hid hat
  clear hlen hat
  go_enter Try.func18, Try.ntmps18
  go_wp2
  go_loopw [3] (fun i wr => ∃ k : Nat, k ≤ n ∧ i = .int .i64 k ∧ okPages zs k = true ∧ Below w.heap.size w wr) (fun i _ => n - (intOf i).toNat)
  case atStart => exact ⟨0, Nat.zero_le _, rfl, rfl, Below.refl _ _⟩
  case round =>
    obtain ⟨k, hk, rfl, hok, hbr⟩ := hrel
    by_cases hlt : k < n
    · obtain ⟨b, off, rfl, hcs⟩ := HA.out (by omega)
      have hblt : b < w.heap.size := World.block_lt_of_cell? w _ (hcs 0 (by omega))
      have c1 : wr.cell? ⟨b, off + k, none⟩ = some (.int .i64 (zs[k]?.getD 0)) := (hbr.cell (by exact hblt)).trans (hcs k hlt)
      have r1 := hrng k
      have r2 := hrng (k - 1)
      have i1 : (0 : Int) ≤ (k : Int) := by omega
      have i2 : (k : Int) < (n : Int) := by omega
      clear hrng
      have hp : okPages zs n = true → okPage zs k = true := fun h0 => by
        cases hx : okPage zs k with
        | true => rfl
        | false => rw [okPages_mono hlt hx] at h0; cases h0
      have HP := Lib.hid hp
      have HOK := Lib.hid hok
      clear hp hok
      cases h1 : inB (zs[k]?.getD 0) 1 999 with
      | false =>
        have hx : pagesB zs = false := by
          have hx : okPage zs k = false := by simp [okPage, h1]
          simp only [pagesB, Bool.and_eq_false_iff]
          left
          rw [HL.out]
          exact okPages_mono hlt hx
        have HX := Lib.hid hx
        clear hx
        go_wp2_with fail
        go_quiet ((go_at_call 47; exact Calls.quiet_of_same ((l1In_any _ _ _ _).mono fun _ _ ⟨h1, h2⟩ => ⟨h1, h2.symm⟩)))
        go_wp2
        go_ret
        exact ⟨by (rw [HX.out]; first | done | rfl), by (repeat (first | (with_reducible exact Below.refl _ _) | (with_reducible assumption) | (with_reducible apply below_alloc) | ((with_reducible apply Below.setCell); rotate_left; (focus (first | omega | (simp; done) | (simp; omega)))) | (with_reducible apply Below.drew) | (with_reducible apply below_drewN) | (with_reducible refine below_trans ?_ (by assumption))))⟩
      | true =>
        by_cases h0 : k = 0
        · subst h0
          have h2 : okPages zs 1 = true := by simp [okPages, okPage, List.range_succ, h1]
          have H2 := Lib.hid h2
          clear h2
          rw [Nat.add_zero] at c1
          go_wp2_with fail
          go_quiet ((go_at_call 47; exact Calls.quiet_of_same ((l1In_any _ _ _ _).mono fun _ _ ⟨h1, h2⟩ => ⟨h1, h2.symm⟩)))
          go_wp2
          go_roundw
          case rel => exact ⟨1, by omega, by go_num, H2.out, by (repeat (first | (with_reducible exact Below.refl _ _) | (with_reducible assumption) | (with_reducible apply below_alloc) | ((with_reducible apply Below.setCell); rotate_left; (focus (first | omega | (simp; done) | (simp; omega)))) | (with_reducible apply Below.drew) | (with_reducible apply below_drewN) | (with_reducible refine below_trans ?_ (by assumption))))⟩
          case measure => simp [intOf]; omega
        · have hd0 : decide (0 < k) = true := by simp; omega
          have i4 : (0 : Int) ≤ (k : Int) - 1 := by omega
          have i5 : (k : Int) - 1 < (n : Int) := by omega
          have i6 : ((k : Int) - 1).toNat = k - 1 := by omega
          have c2 : wr.cell? ⟨b, off + (k - 1), none⟩ = some (.int .i64 (zs[k - 1]?.getD 0)) := (hbr.cell (by exact hblt)).trans (hcs (k - 1) (by omega))
          by_cases h3 : zs[k]?.getD 0 ≤ zs[k - 1]?.getD 0
          · have hx : pagesB zs = false := by
              have hx : okPage zs k = false := by simp [okPage, h0]; omega
              simp only [pagesB, Bool.and_eq_false_iff]
              left
              rw [HL.out]
              exact okPages_mono hlt hx
            have HX := Lib.hid hx
            clear hx
            go_wp2_with fail
            go_quiet ((go_at_call 47; exact Calls.quiet_of_same ((l1In_any _ _ _ _).mono fun _ _ ⟨h1, h2⟩ => ⟨h1, h2.symm⟩)))
            go_wp2
            go_ret
            exact ⟨by (rw [HX.out]; first | done | rfl), by (repeat (first | (with_reducible exact Below.refl _ _) | (with_reducible assumption) | (with_reducible apply below_alloc) | ((with_reducible apply Below.setCell); rotate_left; (focus (first | omega | (simp; done) | (simp; omega)))) | (with_reducible apply Below.drew) | (with_reducible apply below_drewN) | (with_reducible refine below_trans ?_ (by assumption))))⟩
          · have h2 : okPages zs (k + 1) = true := by rw [okPages_succ, HOK.out]; simp [okPage, h0, h1]; omega
            have H2 := Lib.hid h2
            clear h2
            have hd : decide (zs[k]?.getD 0 ≤ zs[k - 1]?.getD 0) = false := by simpa using h3
            go_wp2_with fail
            go_quiet ((go_at_call 47; exact Calls.quiet_of_same ((l1In_any _ _ _ _).mono fun _ _ ⟨h1, h2⟩ => ⟨h1, h2.symm⟩)))
            go_wp2
            go_roundw
            case rel => exact ⟨k + 1, by omega, by go_num, H2.out, by (repeat (first | (with_reducible exact Below.refl _ _) | (with_reducible assumption) | (with_reducible apply below_alloc) | ((with_reducible apply Below.setCell); rotate_left; (focus (first | omega | (simp; done) | (simp; omega)))) | (with_reducible apply Below.drew) | (with_reducible apply below_drewN) | (with_reducible refine below_trans ?_ (by assumption))))⟩
            case measure => simp [intOf]; omega
    · have hkn : k = n := by omega
      subst hkn
      have hx : pagesB zs = decide ((k : Int) ≤ 30) := by
        rw [pagesB, HL.out, hok]
        simp
        omega
      have HX := Lib.hid hx
      clear hx hok
      go_wp2
      go_ret
      exact ⟨by (rw [HX.out]; first | done | rfl), by (repeat (first | (with_reducible exact Below.refl _ _) | (with_reducible assumption) | (with_reducible apply below_alloc) | ((with_reducible apply Below.setCell); rotate_left; (focus (first | omega | (simp; done) | (simp; omega)))) | (with_reducible apply Below.drew) | (with_reducible apply below_drewN) | (with_reducible refine below_trans ?_ (by assumption))))⟩
set_option maxHeartbeats 2000000 in
theorem implPagesValid_any (a : Option Addr) (n cap : Nat) (zs : List Int) (w : World) (h : IntsAt w a n cap zs) :
    Calls Try.prog 20 #[.slice a n cap] w fun e w' => e = .returned (.bool (pagesB zs)) ∧ Below w.heap.size w w' := by
  obtain ⟨hlen, hcap, hmax, hrng, hat⟩ := h
  have HL := Lib.hid hlen
  have HA := Lib.hid hat
  clear hlen hat
  go_enter Try.func20, Try.ntmps20
  go_wp2
  go_loopw [7] (fun i wr => ∃ k : Nat, k ≤ n ∧ i = .int .i64 k ∧ okPages zs k = true ∧ Below w.heap.size w wr) (fun i _ => n - (intOf i).toNat)
  case atStart => exact ⟨0, Nat.zero_le _, rfl, rfl, Below.refl _ _⟩
  case round =>
    obtain ⟨k, hk, rfl, hok, hbr⟩ := hrel
    by_cases hlt : k < n
    · obtain ⟨b, off, rfl, hcs⟩ := HA.out (by omega)
      have hblt : b < w.heap.size := World.block_lt_of_cell? w _ (hcs 0 (by omega))
      have c1 : wr.cell? ⟨b, off + k, none⟩ = some (.int .i64 (zs[k]?.getD 0)) := (hbr.cell (by exact hblt)).trans (hcs k hlt)
      have r1 := hrng k
      have r2 := hrng (k - 1)
      have i1 : (0 : Int) ≤ (k : Int) := by omega
      have i2 : (k : Int) < (n : Int) := by omega
      clear hrng
      have hp : okPages zs n = true → okPage zs k = true := fun h0 => by
        cases hx : okPage zs k with
        | true => rfl
        | false => rw [okPages_mono hlt hx] at h0; cases h0
      have HP := Lib.hid hp
      have HOK := Lib.hid hok
      clear hp hok
      cases h1 : inB (zs[k]?.getD 0) 1 999 with
      | false =>
        have hx : pagesB zs = false := by
          have hx : okPage zs k = false := by simp [okPage, h1]
          simp only [pagesB, Bool.and_eq_false_iff]
          left
          rw [HL.out]
          exact okPages_mono hlt hx
        have HX := Lib.hid hx
        clear hx
        go_wp2_with (go_at_call 49; refine (isPage_any _ _).mono ?_; rintro e w1 ⟨rfl, rfl⟩)
        go_ret
        exact ⟨by (rw [HX.out]; first | done | rfl), by (repeat (first | (with_reducible exact Below.refl _ _) | (with_reducible assumption) | (with_reducible apply below_alloc) | ((with_reducible apply Below.setCell); rotate_left; (focus (first | omega | (simp; done) | (simp; omega)))) | (with_reducible apply Below.drew) | (with_reducible apply below_drewN) | (with_reducible refine below_trans ?_ (by assumption))))⟩
      | true =>
        by_cases h0 : k = 0
        · subst h0
          have h2 : okPages zs 1 = true := by simp [okPages, okPage, List.range_succ, h1]
          have H2 := Lib.hid h2
          clear h2
          rw [Nat.add_zero] at c1
          go_wp2_with (go_at_call 49; refine (isPage_any _ _).mono ?_; rintro e w1 ⟨rfl, rfl⟩)
          go_roundw
          case rel => exact ⟨1, by omega, by go_num, H2.out, by (repeat (first | (with_reducible exact Below.refl _ _) | (with_reducible assumption) | (with_reducible apply below_alloc) | ((with_reducible apply Below.setCell); rotate_left; (focus (first | omega | (simp; done) | (simp; omega)))) | (with_reducible apply Below.drew) | (with_reducible apply below_drewN) | (with_reducible refine below_trans ?_ (by assumption))))⟩
          case measure => simp [intOf]; omega
        · have hd0 : decide (0 < k) = true := by simp; omega
          have i4 : (0 : Int) ≤ (k : Int) - 1 := by omega
          have i5 : (k : Int) - 1 < (n : Int) := by omega
          have i6 : ((k : Int) - 1).toNat = k - 1 := by omega
          have c2 : wr.cell? ⟨b, off + (k - 1), none⟩ = some (.int .i64 (zs[k - 1]?.getD 0)) := (hbr.cell (by exact hblt)).trans (hcs (k - 1) (by omega))
          by_cases h3 : zs[k]?.getD 0 ≤ zs[k - 1]?.getD 0
          · have hx : pagesB zs = false := by
              have hx : okPage zs k = false := by simp [okPage, h0]; omega
              simp only [pagesB, Bool.and_eq_false_iff]
              left
              rw [HL.out]
              exact okPages_mono hlt hx
            have HX := Lib.hid hx
            clear hx
            go_wp2_with (go_at_call 49; refine (isPage_any _ _).mono ?_; rintro e w1 ⟨rfl, rfl⟩)
            go_ret
            exact ⟨by (rw [HX.out]; first | done | rfl), by (repeat (first | (with_reducible exact Below.refl _ _) | (with_reducible assumption) | (with_reducible apply below_alloc) | ((with_reducible apply Below.setCell); rotate_left; (focus (first | omega | (simp; done) | (simp; omega)))) | (with_reducible apply Below.drew) | (with_reducible apply below_drewN) | (with_reducible refine below_trans ?_ (by assumption))))⟩
          · have h2 : okPages zs (k + 1) = true := by rw [okPages_succ, HOK.out]; simp [okPage, h0, h1]; omega
            have H2 := Lib.hid h2
            clear h2
            have hd : decide (zs[k]?.getD 0 ≤ zs[k - 1]?.getD 0) = false := by simpa using h3
            go_wp2_with (go_at_call 49; refine (isPage_any _ _).mono ?_; rintro e w1 ⟨rfl, rfl⟩)
            go_roundw
            case rel => exact ⟨k + 1, by omega, by go_num, H2.out, by (repeat (first | (with_reducible exact Below.refl _ _) | (with_reducible assumption) | (with_reducible apply below_alloc) | ((with_reducible apply Below.setCell); rotate_left; (focus (first | omega | (simp; done) | (simp; omega)))) | (with_reducible apply Below.drew) | (with_reducible apply below_drewN) | (with_reducible refine below_trans ?_ (by assumption))))⟩
            case measure => simp [intOf]; omega
    · have hkn : k = n := by omega
      subst hkn
      have hx : pagesB zs = decide ((k : Int) ≤ 30) := by
        rw [pagesB, HL.out, hok]
        simp
        omega
      have HX := Lib.hid hx
      clear hx hok
      go_wp2
      go_ret
      exact ⟨by (rw [HX.out]; first | done | rfl), by (repeat (first | (with_reducible exact Below.refl _ _) | (with_reducible assumption) | (with_reducible apply below_alloc) | ((with_reducible apply Below.setCell); rotate_left; (focus (first | omega | (simp; done) | (simp; omega)))) | (with_reducible apply Below.drew) | (with_reducible apply below_drewN) | (with_reducible refine below_trans ?_ (by assumption))))⟩
theorem infoInt : (Try.prog.info? 3).map (fun i => (i.zero, i.size, i.bytes)) = some (some (.int .i64 0), 1, 8) := by kernel_rfl
def intAt (zs : List Int) (i : Nat) : Value := .int .i64 (zs[i]?.getD 0)
def NewInts (w : World) (zs : List Int) (n : Nat) (e : Ending) (w' : World) : Prop :=
  ∃ b, e = .returned (.slice (some ⟨b, 0, none⟩) n n) ∧ w.heap.size ≤ b ∧ OwnC w' b ((List.range n).map (intAt zs)).toArray 3 ∧ Below w.heap.size w w'
set_option maxHeartbeats 2000000 in
theorem toIntS_any (a : Option Addr) (n cap : Nat) (zs : List Int) (w : World) (hn : n ≤ 1048576) (h : IntsAt w a n cap zs) :
    Calls Try.prog 19 #[.slice a n cap] w (NewInts w zs n) := by
  obtain ⟨hlen, hcap, hmax, hrng, hat⟩ := h
  have HL := Lib.hid hlen
  have HA := Lib.hid hat
  clear hlen hat hrng
  have hmk := run_mk (P := Try.prog) (intAt zs) 28 3 (.int .i64 0) 8 n Try.underlying28 infoInt rfl (by omega) (by omega)
  go_enter Try.func19, Try.ntmps19
  go_wp2
  clear hmk
  go_loopw [4] (fun i wr => ∃ k : Nat, k ≤ n ∧ i = .int .i64 k ∧ OwnC wr w.heap.size (fillTo (intAt zs) (.int .i64 0) k n) 3 ∧ Below w.heap.size w wr) (fun i _ => n - (intOf i).toNat)
  case atStart => exact ⟨0, Nat.zero_le _, rfl, OwnC.new _ _ _, by (repeat (first | (with_reducible exact Below.refl _ _) | (with_reducible assumption) | (with_reducible apply below_alloc) | ((with_reducible apply Below.setCell); rotate_left; (focus (first | omega | (simp; done) | (simp; omega)))) | (with_reducible apply Below.drew) | (with_reducible apply below_drewN) | (with_reducible refine below_trans ?_ (by assumption))))⟩
  case round =>
    obtain ⟨k, hk, rfl, ho, hbr⟩ := hrel
    by_cases hlt : k < n
    · obtain ⟨b, off, rfl, hcs⟩ := HA.out (by omega)
      have c1 : wr.cell? ⟨b, off + k, none⟩ = some (.int .i64 (zs[k]?.getD 0)) := (hbr.cell (World.block_lt_of_cell? w _ (hcs k hlt))).trans (hcs k hlt)
      have c2 : wr.cell? ⟨w.heap.size, k, none⟩ = some (.int .i64 0) := by rw [ho.facts.1 k, fillTo_at _ _ hlt]; simp
      have f2 : wr.frozen? ⟨w.heap.size, k, none⟩ = false := ho.facts.2.1 k
      have HO := Lib.hid (fillTo_set (intAt zs) (.int .i64 0) hlt ▸ ho.set k (intAt zs k))
      have i1 : (0 : Int) ≤ (k : Int) := by omega
      have i2 : (k : Int) < (n : Int) := by omega
      clear hcs ho
      go_wp2
      go_roundw
      case rel => exact ⟨k + 1, by omega, by go_num, HO.out, by (repeat (first | (with_reducible exact Below.refl _ _) | (with_reducible assumption) | (with_reducible apply below_alloc) | ((with_reducible apply Below.setCell); rotate_left; (focus (first | omega | (simp; done) | (simp; omega)))) | (with_reducible apply Below.drew) | (with_reducible apply below_drewN) | (with_reducible refine below_trans ?_ (by assumption))))⟩
      case measure => simp [intOf]; omega
    · have hkn : k = n := by omega
      subst hkn
      rw [fillTo_full] at ho
      have HO := Lib.hid ho
      clear ho
      go_wp2
      go_ret
      exact ⟨w.heap.size, rfl, Nat.le_refl _, HO.out, by (repeat (first | (with_reducible exact Below.refl _ _) | (with_reducible assumption) | (with_reducible apply below_alloc) | ((with_reducible apply Below.setCell); rotate_left; (focus (first | omega | (simp; done) | (simp; omega)))) | (with_reducible apply Below.drew) | (with_reducible apply below_drewN) | (with_reducible refine below_trans ?_ (by assumption))))⟩
set_option maxHeartbeats 2000000 in
theorem eqIntS_any (a a' : Option Addr) (n cap cap' : Nat) (zs : List Int) (w : World) (h : IntsAt w a n cap zs) (h' : IntsAt w a' n cap' zs) :
    Calls Try.prog 21 #[.slice a n cap, .slice a' n cap'] w fun e w' => e = .returned (.bool true) ∧ Below w.heap.size w w' := by
  obtain ⟨hlen, hcap, hmax, hrng, hat⟩ := h
  obtain ⟨_, _, _, _, hat'⟩ := h'
  have HA := Lib.hid hat
  have HA' := Lib.hid hat'
  clear hat hat'
  go_enter Try.func21, Try.ntmps21
  go_wp2
  go_loopw [5] (fun i wr => ∃ k : Nat, k ≤ n ∧ i = .int .i64 k ∧ Below w.heap.size w wr) (fun i _ => n - (intOf i).toNat)
  case atStart => exact ⟨0, Nat.zero_le _, rfl, Below.refl _ _⟩
  case round =>
    obtain ⟨k, hk, rfl, hbr⟩ := hrel
    by_cases hlt : k < n
    · obtain ⟨b, off, rfl, hcs⟩ := HA.out (by omega)
      obtain ⟨b', off', rfl, hcs'⟩ := HA'.out (by omega)
      have c1 : wr.cell? ⟨b, off + k, none⟩ = some (.int .i64 (zs[k]?.getD 0)) := (hbr.cell (World.block_lt_of_cell? w _ (hcs k hlt))).trans (hcs k hlt)
      have c2 : wr.cell? ⟨b', off' + k, none⟩ = some (.int .i64 (zs[k]?.getD 0)) := (hbr.cell (World.block_lt_of_cell? w _ (hcs' k hlt))).trans (hcs' k hlt)
      have i1 : (0 : Int) ≤ (k : Int) := by omega
      have i2 : (k : Int) < (n : Int) := by omega
      clear hcs hcs' hrng
      go_wp2_with fail
      go_quiet (fail)
      go_wp2
      go_roundw
      case rel => exact ⟨k + 1, by omega, by go_num, by (repeat (first | (with_reducible exact Below.refl _ _) | (with_reducible assumption) | (with_reducible apply below_alloc) | ((with_reducible apply Below.setCell); rotate_left; (focus (first | omega | (simp; done) | (simp; omega)))) | (with_reducible apply Below.drew) | (with_reducible apply below_drewN) | (with_reducible refine below_trans ?_ (by assumption))))⟩
      case measure => simp [intOf]; omega
    · have hkn : k = n := by omega
      subst hkn
      go_wp2
      go_ret
      exact ⟨rfl, by (repeat (first | (with_reducible exact Below.refl _ _) | (with_reducible assumption) | (with_reducible apply below_alloc) | ((with_reducible apply Below.setCell); rotate_left; (focus (first | omega | (simp; done) | (simp; omega)))) | (with_reducible apply Below.drew) | (with_reducible apply below_drewN) | (with_reducible refine below_trans ?_ (by assumption))))⟩
end Go.Proofs.Ytijeoiffkgemdaa
