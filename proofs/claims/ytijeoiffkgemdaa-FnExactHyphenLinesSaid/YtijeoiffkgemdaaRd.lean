/- The reader of the reference's draws: contracts of l20Open, pick and odd. -/
import Derived.Test.YtijeoiffkgemdaaProg
import Derived.Test.YtijeoiffkgemdaaIn
import Derived.Laws.Bits64
namespace Go.Proofs.Ytijeoiffkgemdaa
open Go.RowKit
set_option linter.unusedVariables false

theorem bits_xor_i64 (a b : Nat) (ha : a < 1099511627776) (hb : b < 1099511627776) :
    bits .xor .i64 (a : Int) (b : Int) = ((a ^^^ b : Nat) : Int) := by
  have hx : a ^^^ b < 2 ^ 40 := Nat.xor_lt_two_pow (by omega) (by omega)
  have h1 : (BitVec.ofInt 64 (a : Int)).toNat = a := ofInt_u64 a (by omega)
  have h2 : (BitVec.ofInt 64 (b : Int)).toNat = b := ofInt_u64 b (by omega)
  have h3 : (BitVec.ofInt 64 (a : Int) ^^^ BitVec.ofInt 64 (b : Int)).toNat = a ^^^ b := by rw [BitVec.toNat_xor, h1, h2]
  have h4 : bits .xor .i64 (a : Int) (b : Int) = IntKind.i64.wrap (((BitVec.ofInt 64 (a : Int) ^^^ BitVec.ofInt 64 (b : Int)).toNat : Nat) : Int) := rfl
  rw [h4, h3]
  exact IntWalk.i64_in _ (by omega)

/-- A slice of bytes that came in. -/
def BytesAt (w : World) (a : Option Addr) (n : Nat) : Prop :=
  0 < n → ∃ b off, a = some ⟨b, off, none⟩ ∧ ∀ i, i < n → ∃ c : Int, (0 ≤ c ∧ c ≤ 255) ∧ w.cell? ⟨b, off + i, none⟩ = some (.int .u8 c)

theorem BytesAt.below {w w' : World} {a : Option Addr} {n : Nat} (h : BytesAt w a n) (hb : Below w.heap.size w w') : BytesAt w' a n := fun h0 => by
  obtain ⟨b, off, rfl, hc⟩ := h h0
  refine ⟨b, off, rfl, fun i hi => ?_⟩
  obtain ⟨c, hcb, hcc⟩ := hc i hi
  exact ⟨c, hcb, (hb.cell (World.block_lt_of_cell? w _ hcc)).trans hcc⟩
theorem BytesAt.alloc {w : World} {a : Option Addr} {n : Nat} (h : BytesAt w a n) (o : Obj) : BytesAt (w.alloc o) a n :=
  h.below ((Below.refl _ _).alloc (Nat.le_refl _) o)

/-- The reader at block rb has read p bytes of the slice v. -/
structure Rd (w : World) (rb p : Nat) (v : Value) : Prop where
  blk : w.heap[rb]? = some (.cells #[v, .int .i64 p] 98 (0, 0))
  code : ∃ a n cap, v = .slice a n cap ∧ n ≤ 2000 ∧ (0 < n → ∃ b off, a = some ⟨b, off, none⟩ ∧ b < rb ∧ ∀ i, i < n → ∃ c : Int, (0 ≤ c ∧ c ≤ 255) ∧ w.cell? ⟨b, off + i, none⟩ = some (.int .u8 c))

def Picked (n : Int) (w : World) (rb p : Nat) (v : Value) (e : Ending) (w' : World) : Prop :=
  ∃ k : Int, e = .returned (.int .i64 k) ∧ 0 ≤ k ∧ (1 ≤ n → k < n) ∧ (n < 1 → k = 0) ∧ Rd w' rb (p + 1) v ∧ w.grownBy w' (some rb)

theorem Rd.grown {w w' : World} {rb p : Nat} {v : Value} (h : Rd w rb p v) {r : Option Nat} (hg : w.grownBy w' r) (hr : ∀ k, r = some k → rb < k) : Rd w' rb p v := by
  obtain ⟨hblk, a, m, cap, rfl, hm, hcode⟩ := h
  have hlt := (Array.getElem?_eq_some_iff.1 hblk).1
  refine ⟨by rw [hg.block rb hlt (fun e => by have := hr rb e.symm; omega)]; exact hblk, a, m, cap, rfl, hm, fun h0 => ?_⟩
  obtain ⟨b, off, rfl, hbr, hcells⟩ := hcode h0
  refine ⟨b, off, rfl, hbr, fun i hi => ?_⟩
  obtain ⟨c, hcb, hc'⟩ := hcells i hi
  exact ⟨c, hcb, hg.cell hc' (fun e => by have := hr b e.symm; omega)⟩

theorem Rd.below {w w' : World} {rb p : Nat} {v : Value} (h : Rd w rb p v) (hb : Below w.heap.size w w') : Rd w' rb p v :=
  h.grown (r := none) ⟨hb.os, hb.tape, hb.output, hb.size, fun k hk _ => hb.block k hk⟩ (by simp)

theorem Rd.step {w : World} {rb p : Nat} {v : Value} (h : Rd w rb p v) : Rd (w.setCell ⟨rb, 1, none⟩ (.int .i64 (p + 1))) rb (p + 1) v := by
  obtain ⟨hblk, a, m, cap, rfl, hm, hcode⟩ := h
  refine ⟨?_, a, m, cap, rfl, hm, fun h0 => ?_⟩
  · simp [World.setCell, Array.getElem?_modify, hblk]
  · obtain ⟨b, off, rfl, hbr, hcells⟩ := hcode h0
    refine ⟨b, off, rfl, hbr, fun i hi => ?_⟩
    obtain ⟨c, hcb, hc'⟩ := hcells i hi
    exact ⟨c, hcb, by rw [World.cell?_setCell_other _ _ _ _ (by intro e; simp only [Addr.mk.injEq] at e; omega)]; exact hc'⟩

theorem Rd.alloc {w : World} {rb p : Nat} {v : Value} (h : Rd w rb p v) (o : Obj) : Rd (w.alloc o) rb p v :=
  h.below ((Below.refl _ _).alloc (Nat.le_refl _) o)
theorem Rd.setCell {w : World} {rb p : Nat} {v : Value} (h : Rd w rb p v) {a : Addr} (ha : rb < a.block) (u : Value) : Rd (w.setCell a u) rb p v := by
  exact h.grown (grown_setCell (grown_refl w (some a.block)) (Or.inr rfl) u) (by simp; omega)
theorem Rd.drew {w : World} {rb p : Nat} {v : Value} (h : Rd w rb p v) : Rd w.drew rb p v := ⟨h.blk, h.code⟩
theorem Rd.drewN {w : World} {rb p : Nat} {v : Value} (h : Rd w rb p v) (q : Nat) : Rd (w.drewN q) rb p v := ⟨h.blk, h.code⟩

theorem pick_rng {E n : Int} (h : 0 ≤ E) (h2 : E < 1099511627776) (hn : 1 ≤ n) :
    0 ≤ (bits .xor .i64 E (E / 64)).tmod n ∧ (bits .xor .i64 E (E / 64)).tmod n < n := by
  obtain ⟨e, rfl⟩ := Int.eq_ofNat_of_zero_le h
  have h3 : (e : Int) / 64 = ((e / 64 : Nat) : Int) := by omega
  rw [h3, bits_xor_i64 e (e / 64) (by omega) (by omega)]
  exact ⟨Int.tmod_nonneg _ (by omega), Int.tmod_lt_of_pos _ (by omega)⟩

theorem rd_lt {w : World} {rb p : Nat} {v : Value} (h : Rd w rb p v) : rb < w.heap.size := (Array.getElem?_eq_some_iff.1 h.blk).1

set_option maxHeartbeats 2000000 in
theorem pick_any (rb p : Nat) (v : Value) (n : Int) (w : World) (hr : Rd w rb p v) (hn : n ≤ 1000000) (hp : p ≤ 1000000) :
    Calls Try.prog 63 #[.pointer (some ⟨rb, 0, none⟩), .int .i64 n] w (Picked n w rb p v) := by
  have HR := Lib.hid (Rd.step hr)
  have HG := Lib.hid (grown_setCell (grown_refl w (some rb)) (p := ⟨rb, 1, none⟩) (Or.inr rfl) (.int .i64 (p + 1)))
  obtain ⟨hblk, a, m, cap, rfl, hm, hcode⟩ := hr
  have c0 : w.cell? ⟨rb, 0, none⟩ = some (.slice a m cap) := by simp [World.cell?, hblk]
  have c1 : w.cell? ⟨rb, 1, none⟩ = some (.int .i64 p) := by simp [World.cell?, hblk]
  have f1 : w.frozen? ⟨rb, 1, none⟩ = false := by simp [World.frozen?, hblk]
  clear hblk
  by_cases h1 : n < 1
  · clear hcode
    go_enter Try.func63, Try.ntmps63
    go_wp2
    go_ret
    exact ⟨0, rfl, by omega, by omega, fun _ => rfl, HR.out, HG.out⟩
  · by_cases h2 : m = 0
    · subst h2
      clear hcode
      go_enter Try.func63, Try.ntmps63
      go_wp2
      go_ret
      exact ⟨0, rfl, by omega, by omega, fun _ => rfl, HR.out, HG.out⟩
    · have hm0 : 0 < m := by omega
      obtain ⟨b, off, rfl, hbr, hcells⟩ := hcode hm0
      have hbr' : ¬ rb = b := by omega
      have hbr2 : ¬ b = rb := by omega
      by_cases h3 : p < m
      · obtain ⟨c, hcb, hc⟩ := hcells p h3
        clear hcells hcode
        go_enter Try.func63, Try.ntmps63
        go_wp2
        go_ret
        exact ⟨c % n, rfl, Int.emod_nonneg _ (by omega), fun _ => Int.emod_lt_of_pos _ (by omega), by omega, HR.out, HG.out⟩
      · obtain ⟨x, hxb, hx⟩ := hcells (p % m) (Nat.mod_lt _ hm0)
        obtain ⟨y, hyb, hy⟩ := hcells ((p * 7 + 3) % m) (Nat.mod_lt _ hm0)
        clear hcells hcode
        have q1 : 0 ≤ (p : Int) % (m : Int) := Int.emod_nonneg _ (by omega)
        have q2 : (p : Int) % (m : Int) < (m : Int) := Int.emod_lt_of_pos _ (by omega)
        have q3 : ((p : Int) % (m : Int)).toNat = p % m := by rw [← Int.natCast_emod, Int.toNat_natCast]
        have q4 : 0 ≤ ((p : Int) * 7 + 3) % (m : Int) := Int.emod_nonneg _ (by omega)
        have q5 : ((p : Int) * 7 + 3) % (m : Int) < (m : Int) := Int.emod_lt_of_pos _ (by omega)
        have q6 : (((p : Int) * 7 + 3) % (m : Int)).toNat = (p * 7 + 3) % m := by
          rw [show ((p : Int) * 7 + 3) = ((p * 7 + 3 : Nat) : Int) by omega, ← Int.natCast_emod, Int.toNat_natCast]
        have q7 : ((m : Int) == 0) = false := by simp; omega
        have q8 : 0 ≤ (p : Int) / (m : Int) := Int.ediv_nonneg (by omega) (by omega)
        have q9 : (p : Int) / (m : Int) ≤ 1000000 := by
          have := Int.ediv_le_self (a := (p : Int)) (m : Int) (by omega)
          omega
        have HX := Lib.hid (pick_rng (E := x * 131 + y * 1117 + (p : Int) * 29 + (p : Int) / (m : Int) * 53) (n := n) (by omega) (by omega) (by omega))
        go_enter Try.func63, Try.ntmps63
        go_wp2
        go_quiet (fail)
        go_wp2
        go_ret
        exact ⟨_, rfl, HX.out.1, fun _ => HX.out.2, by omega, HR.out.drewN _, grown_drewN HG.out _⟩
def Odd (w : World) (rb p : Nat) (v : Value) (e : Ending) (w' : World) : Prop :=
  ∃ (k : Bool) (p' : Nat), e = .returned (.bool k) ∧ p ≤ p' ∧ p' ≤ p + 1 ∧ Rd w' rb p' v ∧ w.grownBy w' (some rb)
theorem odd_any (rb p : Nat) (v : Value) (n : Int) (w : World) (hr : Rd w rb p v) (h0 : 0 ≤ n) (hn : n ≤ 1000000) (hp : p ≤ 1000000) :
    Calls Try.prog 74 #[.pointer (some ⟨rb, 0, none⟩), .int .i64 n] w (Odd w rb p v) := by
  have HR := Lib.hid hr
  by_cases h1 : n = 0
  · subst h1
    go_enter Try.func74, Try.ntmps74
    go_wp2_with fail
    go_ret
    exact ⟨_, p, rfl, Nat.le_refl _, Nat.le_succ _, HR.out, grown_refl _ _⟩
  · have h2 : 0 < n := by omega
    go_enter Try.func74, Try.ntmps74
    go_wp2_with (go_at_call 63; refine (pick_any rb p v _ _ HR.out (by omega) hp).mono ?_; rintro e w1 ⟨k, rfl, hk0, hk1, hk2, hr1, hg1⟩; have HR1 := Lib.hid hr1; have HG1 := Lib.hid hg1; clear hr1 hg1)
    go_ret
    exact ⟨_, p + 1, rfl, Nat.le_succ _, Nat.le_refl _, HR1.out, HG1.out⟩
def Opened (w : World) (e : Ending) (w' : World) : Prop :=
  ∃ v, e = .returned (.pointer (some ⟨w.heap.size, 0, none⟩)) ∧ Rd w' w.heap.size 0 v ∧ Below w.heap.size w w' ∧ w'.heap.size = w.heap.size + 1
theorem open_any (a : Option Addr) (n cap : Nat) (w : World) (hcap : n ≤ cap) (hmax : cap ≤ 9223372036854775807) (hb : BytesAt w a n) :
    Calls Try.prog 51 #[.slice a n cap] w (Opened w) := by
  by_cases h1 : 2000 < n
  · obtain ⟨b, off, rfl, hcells⟩ := hb (by omega)
    have HC := Lib.hid hcells
    clear hb hcells
    have h2 : (2000 : Int) < (n : Int) := by omega
    go_enter Try.func51, Try.ntmps51
    go_wp2
    go_ret
    refine ⟨.slice (some ⟨b, off, none⟩) 2000 cap, rfl, ⟨?_, _, _, _, rfl, by omega, fun _ => ⟨b, off, rfl, ?_, ?_⟩⟩, ?_, ?_⟩
    · exact heap_alloc_new _ _
    · obtain ⟨c, _, hc⟩ := HC.out 0 (by omega)
      exact World.block_lt_of_cell? w _ hc
    · intro i hi
      obtain ⟨c, hcb, hc⟩ := HC.out i (by omega)
      refine ⟨c, hcb, ?_⟩
      rw [World.cell?_alloc_lt _ _ _ (World.block_lt_of_cell? w _ hc)]
      exact hc
    · (repeat (first | (with_reducible exact Below.refl _ _) | (with_reducible assumption) | (with_reducible apply below_alloc) | ((with_reducible apply Below.setCell); rotate_left; (focus (first | omega | (simp; done) | (simp; omega)))) | (with_reducible apply Below.drew) | (with_reducible apply below_drewN) | (with_reducible refine below_trans ?_ (by assumption))))
    · simp
  · have HC := Lib.hid hb
    clear hb
    have h2 : (n : Int) ≤ 2000 := by omega
    go_enter Try.func51, Try.ntmps51
    go_wp2
    go_ret
    refine ⟨.slice a n cap, rfl, ⟨?_, _, _, _, rfl, by omega, fun h0 => ?_⟩, ?_, ?_⟩
    · exact heap_alloc_new _ _
    · obtain ⟨b, off, rfl, hcells⟩ := HC.out h0
      refine ⟨b, off, rfl, ?_, ?_⟩
      · obtain ⟨c, _, hc⟩ := hcells 0 (by omega)
        exact World.block_lt_of_cell? w _ hc
      · intro i hi
        obtain ⟨c, hcb, hc⟩ := hcells i (by omega)
        refine ⟨c, hcb, ?_⟩
        rw [World.cell?_alloc_lt _ _ _ (World.block_lt_of_cell? w _ hc)]
        exact hc
    · (repeat (first | (with_reducible exact Below.refl _ _) | (with_reducible assumption) | (with_reducible apply below_alloc) | ((with_reducible apply Below.setCell); rotate_left; (focus (first | omega | (simp; done) | (simp; omega)))) | (with_reducible apply Below.drew) | (with_reducible apply below_drewN) | (with_reducible refine below_trans ?_ (by assumption))))
    · simp
end Go.Proofs.Ytijeoiffkgemdaa
