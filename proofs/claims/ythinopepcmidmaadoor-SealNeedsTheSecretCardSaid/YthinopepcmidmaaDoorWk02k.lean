/-
  The reference's small functions on strings, hashes and digests.
-/
import Derived.Test.YthinopepcmidmaaDoorAp8
import Derived.Test.YthinopepcmidmaaDoorWe
import Derived.BigRegion
import Derived.BigQuiet
set_option linter.unusedSimpArgs false
set_option linter.unusedVariables false
set_option maxRecDepth 100000
set_option maxHeartbeats 1600000
namespace Go.Proofs.YthinopepcmidmaaDoor
open Go.RowKit
theorem bcell_get {h : List UInt8} {k : Nat} (hk : k < h.length) : (h.map B8)[k]? = some (.int .u8 ((h[k]).toNat : Int)) := by
  rw [List.getElem?_map, List.getElem?_eq_getElem hk]; rfl
theorem b8_snoc {h : List UInt8} {k : Nat} (hk : k < h.length) : (h.take k).map B8 ++ [.int .u8 ((h[k]).toNat : Int)] = (h.take (k + 1)).map B8 := by
  rw [take_snoc hk, List.map_append]; rfl
theorem b32C (h : List UInt8) (w : World) (hl : h.length = 32) :
    Calls Tryd.prog 54 #[.agg (h.map B8).toArray] w fun e w' => e = .returned (.string ⟨h.toArray⟩) ∧ Below w.heap.size w w' := by
  have HL := Lib.hid hl
  clear hl
  go_enter Tryd.func54, Tryd.ntmps54
  go_wp2
  have B0 : Blk (w.alloc (.cells (h.map B8).toArray 74)) w.heap.size 74 (h.map B8) := Blk.new rfl
  go_loopw [3, 4] (fun v i wr => ∃ k : Nat, k ≤ 32 ∧ i = .int .i64 (k : Int) ∧ wr.ownsRow (w.heap.size + 1) 5 1 v k ((h.take k).map B8) ∧ Blk wr w.heap.size 74 (h.map B8) ∧ Below w.heap.size w wr ∧ w.heap.size + 1 ≤ wr.heap.size) (fun _ i _ => 32 - (intOf i).toNat)
  case atStart => exact ⟨0, by omega, rfl, own_nil _ _ _, B0, (Below.refl _ _).alloc (Nat.le_refl _) _, by simp⟩
  case round =>
    clear B0
    obtain ⟨k, hk, rfl, hown, hB, hb, hz⟩ := hrel
    have hR := Rd.of_own hown
    obtain ⟨A1, c1, rfl, hc1, hc2⟩ := hR.form
    by_cases hlt : k < 32
    · have hlt2 : k < h.length := by rw [HL.out]; exact hlt
      have ci : wr.cell? ⟨w.heap.size, k, none⟩ = some (.int .u8 ((h[k]'hlt2).toNat : Int)) := hB.cell (bcell_get hlt2)
      have HS := Lib.hid (b8_snoc hlt2)
      clear hR
      generalize h[k]'hlt2 = x at ci HS
      go_wp2_with (at_builtin; refine app8 rfl rfl (w.heap.size + 1) _ (k) _ rfl hown rfl rfl (by omega) (hz) ?_; intro A2 c2 w2 hown2 hc3 hc4 hb2)
      go_roundw
      case rel =>
        rw [HS.out] at hown2
        exact ⟨k + 1, by omega, by go_num, hown2, hB.below hb2 (by omega), hb.trans (hb2.mono (by omega)), Nat.le_trans hz hb2.size⟩
      case measure => simp [intOf]; omega
    · obtain rfl : k = 32 := by omega
      rw [List.take_of_length_le (by rw [HL.out]; omega)] at hR
      have hs := run_str 69 9 5 Tryd.underlying69 Tryd.underlying5 Tryd.underlying9 hR
      clear hR hown
      go_wp2
      go_ret
      exact ⟨rfl, hb⟩
/-- The concatenation of pieces. -/
def cat (ss : List (List UInt8)) : List UInt8 := ss.flatten
theorem cat_snoc {ss : List (List UInt8)} {k : Nat} {s : List UInt8} {r : List (List UInt8)} (h : ss.drop k = s :: r) : cat (ss.take (k + 1)) = cat (ss.take k) ++ s := by
  unfold cat
  rw [drop_take h]
  simp
theorem cat_len {ss : List (List UInt8)} {M : Nat} (h : ∀ s ∈ ss, s.length ≤ M) : (cat ss).length ≤ ss.length * M := by
  induction ss with
  | nil => simp [cat]
  | cons s ss ih =>
    have h1 := h s (by simp)
    have h2 := ih (fun x hx => h x (by simp [hx]))
    unfold cat at *
    simp only [List.flatten_cons, List.length_append, List.length_cons, Nat.succ_mul]
    omega
/-- Whether two lists are equal. -/
def sameL (a b : List (List UInt8)) : Bool := a == b
end Go.Proofs.YthinopepcmidmaaDoor
