/- Draws of boxes. -/
import Derived.Test.YtijeoiffkgemdaaProg
import Derived.Test.YtijeoiffkgemdaaRd
namespace Go.Proofs.Ytijeoiffkgemdaa
open Go.RowKit
set_option linter.unusedVariables false

def BoxDrawn (w : World) (rb p m : Nat) (v : Value) (e : Ending) (w' : World) : Prop :=
  ∃ (a b c d : Int) (p' : Nat), e = .returned (.agg #[.int .i64 a, .int .i64 b, .int .i64 c, .int .i64 d]) ∧ p ≤ p' ∧ p' ≤ p + m ∧ Rd w' rb p' v ∧ w.grownBy w' (some rb)

def BoxSt (w wx : World) (rb p m : Nat) (v s5 : Value) : Prop :=
  ∃ (bb : Nat) (a b c d : Int) (p' : Nat), s5 = .pointer (some ⟨bb, 0, none⟩) ∧ w.heap.size < bb ∧ p ≤ p' ∧ p' ≤ p + m ∧ Rd wx rb p' v ∧ w.grownBy wx (some rb) ∧
    OwnC wx bb #[.int .i64 a, .int .i64 b, .int .i64 c, .int .i64 d] 25 ∧ OwnC wx w.heap.size #[.int .i64 0, .int .i64 0, .int .i64 0, .int .i64 0] 25

set_option maxHeartbeats 4000000 in
theorem l20Box_any (rb p : Nat) (v : Value) (n : Int) (w : World) (hr : Rd w rb p v) (h0 : 0 ≤ n) (hn : n ≤ 1000000) (hp : p ≤ 900000) :
    Calls Try.prog 50 #[.pointer (some ⟨rb, 0, none⟩), .int .i64 n] w (BoxDrawn w rb p 8 v) := by
  have hrb := rd_lt hr
  have hne : ∀ k, w.heap.size ≤ k → ¬ k = rb := fun k hk => by omega
  go_enter Try.func50, Try.ntmps50
  go_upto_region 1 with fail
  go_cut [5] (fun s5 wx => BoxSt w wx rb p 4 v s5)
  case first =>
    go_wp2_with (first | (go_at_call 63; refine (pick_any _ _ _ _ _ (by repeat (first | (with_reducible assumption) | (with_reducible apply Rd.alloc) | ((with_reducible apply Rd.setCell); rotate_left; (focus (first | omega | (simp; done) | (simp; omega)))) | (with_reducible apply Rd.drew))) (by omega) (by omega)).mono ?_; rintro e w1 ⟨k, rfl, hk0, hk1, hk2, hr, hgn⟩; have hz : w.heap.size ≤ w1.heap.size := (by have hq := hgn.size; (try simp at hq); omega); (first | (replace hg := grown_trans hg hgn; clear hc hf hs; obtain ⟨hc, hf, hs⟩ := gcell hg; clear hgn) | (have hg2 := grown_alloc_trans hg hgn; clear hc hf hs; obtain ⟨hc, hf, hs⟩ := gcell hg2; obtain ⟨hc2, hf2, hs2⟩ := gcell hgn; clear hg; have hg := hg2; clear hg2) | (obtain ⟨hc, hf, hs⟩ := gcell hgn; have hg := hgn; clear hgn))))
    go_meet
    case rel =>
      have hq := hg.size
      simp at hq
      exact ⟨_, _, _, _, _, _, rfl, by omega, by omega, by omega, hr.alloc _, (by (repeat (first | (with_reducible exact grown_refl _ _) | (with_reducible assumption) | (with_reducible apply grown_alloc) | ((with_reducible apply grown_setCellN); rotate_left; (focus (first | omega | (simp; done) | (simp; omega)))) | (with_reducible apply grown_drew) | (with_reducible apply grown_drewN) | (with_reducible refine grown_trans ?_ (by assumption)) | (with_reducible refine grown_below ?_ (by assumption))))), OwnC.new _ _ _, (by repeat (first | (with_reducible assumption) | (with_reducible exact OwnC.new _ _ _) | (with_reducible apply OwnC.set4) | (with_reducible apply OwnC.set3) | (with_reducible apply OwnC.set2) | (with_reducible refine OwnC.set ?_ _ _) | (with_reducible apply OwnC.alloc) | (with_reducible apply OwnC.drew) | (with_reducible apply OwnC.drewN) | ((with_reducible apply OwnC.other); rotate_left; (focus (first | omega | (simp; done) | (simp; omega)))) | ((with_reducible refine OwnC.grownR ?_ (by assumption) ?_); rotate_left; (focus (first | omega | (simp; done) | (simp; omega)))) | (with_reducible refine OwnC.below ?_ (by assumption))))⟩
  case rest =>
    obtain ⟨bb, a, b, c, d, p1, rfl, hbb, hp1, hp2, hr, hg0, o1, o2⟩ := hcut
    obtain ⟨x1, y1, z1⟩ := o1.facts
    have hz : w.heap.size ≤ wc.heap.size := hg0.size
    have hbr : ¬ bb = rb := by omega
    have z2 : bb < wc.heap.size + 1 := by omega
    go_upto_if 18 with (first | (go_at_call 63; refine (pick_any _ _ _ _ _ (by repeat (first | (with_reducible assumption) | (with_reducible apply Rd.alloc) | ((with_reducible apply Rd.setCell); rotate_left; (focus (first | omega | (simp; done) | (simp; omega)))) | (with_reducible apply Rd.drew))) (by omega) (by omega)).mono ?_; rintro e w1 ⟨k, rfl, hk0, hk1, hk2, hr, hgn⟩; have hz : w.heap.size ≤ w1.heap.size := (by have hq := hgn.size; (try simp at hq); omega); (first | (replace hg := grown_trans hg hgn; clear hc hf hs; obtain ⟨hc, hf, hs⟩ := gcell hg; clear hgn) | (have hg2 := grown_alloc_trans hg hgn; clear hc hf hs; obtain ⟨hc, hf, hs⟩ := gcell hg2; obtain ⟨hc2, hf2, hs2⟩ := gcell hgn; clear hg; have hg := hg2; clear hg2) | (obtain ⟨hc, hf, hs⟩ := gcell hgn; have hg := hgn; clear hgn))))
    go_cut [5] (fun s5 wx => BoxSt w wx rb p 6 v s5)
    case first =>
      go_wp2_with (first | (go_at_call_of 63 (Value.int IntKind.i64 2); refine (pick_any _ _ _ _ _ (by repeat (first | (with_reducible assumption) | (with_reducible apply Rd.alloc) | ((with_reducible apply Rd.setCell); rotate_left; (focus (first | omega | (simp; done) | (simp; omega)))) | (with_reducible apply Rd.drew))) (by omega) (by omega)).mono ?_; rintro e w1 ⟨k, rfl, hk0, hk1, hk2, hr, hgn⟩; have hk3 := hk1 (by omega); clear hk1 hk2; obtain rfl | rfl : k = 0 ∨ k = 1 := (by omega); all_goals (have hz : w.heap.size ≤ w1.heap.size := (by have hq := hgn.size; (try simp at hq); omega); (first | (replace hg := grown_trans hg hgn; clear hc hf hs; obtain ⟨hc, hf, hs⟩ := gcell hg; clear hgn) | (have hg2 := grown_alloc_trans hg hgn; clear hc hf hs; obtain ⟨hc, hf, hs⟩ := gcell hg2; obtain ⟨hc2, hf2, hs2⟩ := gcell hgn; clear hg; have hg := hg2; clear hg2) | (obtain ⟨hc, hf, hs⟩ := gcell hgn; have hg := hgn; clear hgn)))))
      all_goals go_meet
      all_goals
        case rel =>
          have ow1 := o1.grownR hg (by omega)
          have ow2 := o2.grownR hg (by omega)
          first
            | exact ⟨bb, _, _, _, _, p1 + 1, rfl, hbb, by omega, by omega, hr, (by (repeat (first | (with_reducible exact grown_refl _ _) | (with_reducible assumption) | (with_reducible apply grown_alloc) | ((with_reducible apply grown_setCellN); rotate_left; (focus (first | omega | (simp; done) | (simp; omega)))) | (with_reducible apply grown_drew) | (with_reducible apply grown_drewN) | (with_reducible refine grown_trans ?_ (by assumption)) | (with_reducible refine grown_below ?_ (by assumption))))), ow1, ow2⟩
            | exact ⟨bb, _, _, _, _, p1 + 1 + 1, rfl, hbb, by omega, by omega, (by repeat (first | (with_reducible assumption) | (with_reducible apply Rd.alloc) | ((with_reducible apply Rd.setCell); rotate_left; (focus (first | omega | (simp; done) | (simp; omega)))) | (with_reducible apply Rd.drew))), (by (repeat (first | (with_reducible exact grown_refl _ _) | (with_reducible assumption) | (with_reducible apply grown_alloc) | ((with_reducible apply grown_setCellN); rotate_left; (focus (first | omega | (simp; done) | (simp; omega)))) | (with_reducible apply grown_drew) | (with_reducible apply grown_drewN) | (with_reducible refine grown_trans ?_ (by assumption)) | (with_reducible refine grown_below ?_ (by assumption))))), OwnC.set4 ow1 _ _ _ _, (by repeat (first | (with_reducible assumption) | (with_reducible exact OwnC.new _ _ _) | (with_reducible apply OwnC.set4) | (with_reducible apply OwnC.set3) | (with_reducible apply OwnC.set2) | (with_reducible refine OwnC.set ?_ _ _) | (with_reducible apply OwnC.alloc) | (with_reducible apply OwnC.drew) | (with_reducible apply OwnC.drewN) | ((with_reducible apply OwnC.other); rotate_left; (focus (first | omega | (simp; done) | (simp; omega)))) | ((with_reducible refine OwnC.grownR ?_ (by assumption) ?_); rotate_left; (focus (first | omega | (simp; done) | (simp; omega)))) | (with_reducible refine OwnC.below ?_ (by assumption))))⟩
    case rest =>
      clear hc hf hs hg hr hz x1 y1 z1 z2 o1 o2
      obtain ⟨bb, a, b, c, d, p1, rfl, hbb, hp1, hp2, hr, hg0, o1, o2⟩ := hcut
      obtain ⟨x1, y1, z1⟩ := o1.facts
      have hz : w.heap.size ≤ wc.heap.size := hg0.size
      have hbr : ¬ bb = rb := by omega
      have z2 : bb < wc.heap.size + 1 := by omega
      go_upto_if 27 with (first | (go_at_call 74; refine (odd_any _ _ _ _ _ (by repeat (first | (with_reducible assumption) | (with_reducible apply Rd.alloc) | ((with_reducible apply Rd.setCell); rotate_left; (focus (first | omega | (simp; done) | (simp; omega)))) | (with_reducible apply Rd.drew))) (by omega) (by omega) (by omega)).mono ?_; rintro e w1 ⟨ok, pn, rfl, hp1, hp2, hr, hgn⟩; have hz : w.heap.size ≤ w1.heap.size := (by have hq := hgn.size; (try simp at hq); omega); (first | (replace hg := grown_trans hg hgn; clear hc hf hs; obtain ⟨hc, hf, hs⟩ := gcell hg; clear hgn) | (have hg2 := grown_alloc_trans hg hgn; clear hc hf hs; obtain ⟨hc, hf, hs⟩ := gcell hg2; obtain ⟨hc2, hf2, hs2⟩ := gcell hgn; clear hg; have hg := hg2; clear hg2) | (obtain ⟨hc, hf, hs⟩ := gcell hgn; have hg := hgn; clear hgn))))
      go_cut [5] (fun s5 wx => BoxSt w wx rb p 8 v s5)
      case first =>
        go_wp2_with (first | (go_at_call_of 63 (Value.int IntKind.i64 4); refine (pick_any _ _ _ _ _ (by repeat (first | (with_reducible assumption) | (with_reducible apply Rd.alloc) | ((with_reducible apply Rd.setCell); rotate_left; (focus (first | omega | (simp; done) | (simp; omega)))) | (with_reducible apply Rd.drew))) (by omega) (by omega)).mono ?_; rintro e w1 ⟨k, rfl, hk0, hk1, hk2, hr, hgn⟩; have hk3 := hk1 (by omega); clear hk1 hk2; obtain rfl | rfl | rfl | rfl : k = 0 ∨ k = 1 ∨ k = 2 ∨ k = 3 := (by omega); all_goals (have hz : w.heap.size ≤ w1.heap.size := (by have hq := hgn.size; (try simp at hq); omega); (first | (replace hg := grown_trans hg hgn; clear hc hf hs; obtain ⟨hc, hf, hs⟩ := gcell hg; clear hgn) | (have hg2 := grown_alloc_trans hg hgn; clear hc hf hs; obtain ⟨hc, hf, hs⟩ := gcell hg2; obtain ⟨hc2, hf2, hs2⟩ := gcell hgn; clear hg; have hg := hg2; clear hg2) | (obtain ⟨hc, hf, hs⟩ := gcell hgn; have hg := hgn; clear hgn)))))
        all_goals go_meet
        all_goals
          case rel =>
            have ow1 := o1.grownR hg (by omega)
            have ow2 := o2.grownR hg (by omega)
            first
              | exact ⟨bb, _, _, _, _, pn, rfl, hbb, by omega, by omega, hr, (by (repeat (first | (with_reducible exact grown_refl _ _) | (with_reducible assumption) | (with_reducible apply grown_alloc) | ((with_reducible apply grown_setCellN); rotate_left; (focus (first | omega | (simp; done) | (simp; omega)))) | (with_reducible apply grown_drew) | (with_reducible apply grown_drewN) | (with_reducible refine grown_trans ?_ (by assumption)) | (with_reducible refine grown_below ?_ (by assumption))))), ow1, ow2⟩
              | exact ⟨bb, _, _, _, _, pn + 1, rfl, hbb, by omega, by omega, (by repeat (first | (with_reducible assumption) | (with_reducible apply Rd.alloc) | ((with_reducible apply Rd.setCell); rotate_left; (focus (first | omega | (simp; done) | (simp; omega)))) | (with_reducible apply Rd.drew))), (by (repeat (first | (with_reducible exact grown_refl _ _) | (with_reducible assumption) | (with_reducible apply grown_alloc) | ((with_reducible apply grown_setCellN); rotate_left; (focus (first | omega | (simp; done) | (simp; omega)))) | (with_reducible apply grown_drew) | (with_reducible apply grown_drewN) | (with_reducible refine grown_trans ?_ (by assumption)) | (with_reducible refine grown_below ?_ (by assumption))))), OwnC.set4 ow1 _ _ _ _, (by repeat (first | (with_reducible assumption) | (with_reducible exact OwnC.new _ _ _) | (with_reducible apply OwnC.set4) | (with_reducible apply OwnC.set3) | (with_reducible apply OwnC.set2) | (with_reducible refine OwnC.set ?_ _ _) | (with_reducible apply OwnC.alloc) | (with_reducible apply OwnC.drew) | (with_reducible apply OwnC.drewN) | ((with_reducible apply OwnC.other); rotate_left; (focus (first | omega | (simp; done) | (simp; omega)))) | ((with_reducible refine OwnC.grownR ?_ (by assumption) ?_); rotate_left; (focus (first | omega | (simp; done) | (simp; omega)))) | (with_reducible refine OwnC.below ?_ (by assumption))))⟩
      case rest =>
        obtain ⟨bb, a, b, c, d, p1, rfl, hbb, hp1, hp2, hr, hg0, o1, o2⟩ := hcut
        have ow := OwnC.set4 o2 (.int .i64 a) (.int .i64 b) (.int .i64 c) (.int .i64 d)
        obtain ⟨x1, y1, z1⟩ := o1.facts
        obtain ⟨x2, y2, z2⟩ := o2.facts
        go_wp2
        refine bodyPost_ret (v := .agg #[.int .i64 a, .int .i64 b, .int .i64 c, .int .i64 d]) (by simp [results, Try.results50, go_sem, ow.facts.1]) rfl ?_
        exact ⟨a, b, c, d, p1, rfl, hp1, hp2, (by repeat (first | (with_reducible assumption) | (with_reducible apply Rd.alloc) | ((with_reducible apply Rd.setCell); rotate_left; (focus (first | omega | (simp; done) | (simp; omega)))) | (with_reducible apply Rd.drew))), (by (repeat (first | (with_reducible exact grown_refl _ _) | (with_reducible assumption) | (with_reducible apply grown_alloc) | ((with_reducible apply grown_setCellN); rotate_left; (focus (first | omega | (simp; done) | (simp; omega)))) | (with_reducible apply grown_drew) | (with_reducible apply grown_drewN) | (with_reducible refine grown_trans ?_ (by assumption)) | (with_reducible refine grown_below ?_ (by assumption)))))⟩
def BoxOut (w : World) (e : Ending) (w' : World) : Prop :=
  ∃ (a b c d : Int), e = .returned (.agg #[.int .i64 a, .int .i64 b, .int .i64 c, .int .i64 d]) ∧ Below w.heap.size w w'
theorem DrawBoxValid_any (a : Option Addr) (n cap : Nat) (w : World) (hcap : n ≤ cap) (hmax : cap ≤ 9223372036854775807) (hb : BytesAt w a n) :
    Calls Try.prog 22 #[.slice a n cap] w (BoxOut w) := by
  have HB := Lib.hid (hb.alloc (.cells #[.int .i64 0, .int .i64 0, .int .i64 0, .int .i64 0] 25))
  have o2 := OwnC.new w #[.int .i64 0, .int .i64 0, .int .i64 0, .int .i64 0] 25
  have HO := Lib.hid o2
  clear hb o2
  go_enter Try.func22, Try.ntmps22
  go_wp2_with fail
  refine (open_any _ _ _ _ hcap hmax HB.out).mono ?_
  rintro e w1 ⟨v, rfl, hr, hbw, hsz⟩
  have o2 := HO.out.below hbw
  simp only [World.size_alloc] at hr hsz
  have hbw2 := below_alloc_trans (Below.refl _ _) hbw
  clear hbw
  go_wp2_with fail
  refine (l20Box_any _ _ _ _ _ hr (by omega) (by omega) (by omega)).mono ?_
  rintro e w2 ⟨x0, x1, x2, x3, p', rfl, hp1, hp2, hr2, hg⟩
  have o3 := o2.grown hg (by simp)
  obtain ⟨c1, f1, z1⟩ := o3.facts
  have ow := OwnC.set4 o3 (.int .i64 x0) (.int .i64 x1) (.int .i64 x2) (.int .i64 x3)
  have hb3 := below_grown hbw2 hg (by omega)
  clear hr hr2
  go_wp2
  refine bodyPost_ret (v := .agg #[.int .i64 x0, .int .i64 x1, .int .i64 x2, .int .i64 x3]) (by simp [results, Try.results22, go_sem, ow.facts.1]) rfl ⟨x0, x1, x2, x3, rfl, ?_⟩
  (repeat (first | (with_reducible exact Below.refl _ _) | (with_reducible assumption) | (with_reducible apply below_alloc) | ((with_reducible apply Below.setCell); rotate_left; (focus (first | omega | (simp; done) | (simp; omega)))) | (with_reducible apply Below.drew) | (with_reducible apply below_drewN) | (with_reducible refine below_trans ?_ (by assumption))))
end Go.Proofs.Ytijeoiffkgemdaa
