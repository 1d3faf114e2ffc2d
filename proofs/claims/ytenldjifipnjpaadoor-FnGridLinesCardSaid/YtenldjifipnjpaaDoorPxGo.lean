/- GridOf answers as the reference's. -/
import Derived.Test.YtenldjifipnjpaaDoorPxRep
import Derived.Test.YtenldjifipnjpaaDoorPxPutE
namespace Go.Proofs.YtenldjifipnjpaaDoor
open Go.RowKit
set_option linter.all false
theorem gOf_lift0 {w h : Int} (hG : gridO w h = false) : liftN ΨGridOf [.val (.int .i64 w), .val (.int .i64 h)] [] = some (.agg [.val (.int .i64 0), .val (.slice none 0 0)], []) := by
  refine (liftN_of (cs := []) (qs := [.val (.int .i64 w), .val (.int .i64 h)]) (cs1 := []) (r := .agg [.val (.int .i64 0), .val (.slice none 0 0)]) (cs0 := []) rfl (ΨGridOf_ap.trans (by unfold gridZ; rw [hG]; rfl)) rfl rfl).trans ?_
  rfl
theorem gOf_row {w h : Int} (hG : gridO w h = true) : ∃ L : List Int, 1 ≤ L.length ∧ L.length ≤ 3600 ∧ liftN ΨGridOf [.val (.int .i64 w), .val (.int .i64 h)] [] = some (.agg [.val (.int .i64 w), .row 0 1 0 L.length], [(5, 1, L.map fun n => .val (.int .u8 n))]) := by
  have har := area_rng hG
  have e := gOf_lift hG
  have hl : (List.replicate (w * h).toNat (32 : Int)).length = (w * h).toNat := List.length_replicate
  refine ⟨List.replicate (w * h).toNat 32, by omega, by omega, ?_⟩
  rw [hl]
  exact e
end Go.Proofs.YtenldjifipnjpaaDoor
