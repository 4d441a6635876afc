/-
  The reference's small functions on strings, hashes and digests.
-/
import Derived.Test.YtmmomcililideaaDoorAp8
import Derived.Test.YtmmomcililideaaDoorWe
import Derived.BigRegion
import Derived.BigQuiet
set_option linter.unusedSimpArgs false
set_option linter.unusedVariables false
namespace Go.Proofs.YtmmomcililideaaDoor
open Go.RowKit

theorem bcell_get {h : List UInt8} {k : Nat} (hk : k < h.length) : (h.map B8)[k]? = some (.int .u8 ((h[k]).toNat : Int)) := by
  rw [List.getElem?_map, List.getElem?_eq_getElem hk]; rfl
theorem b8_snoc {h : List UInt8} {k : Nat} (hk : k < h.length) : (h.take k).map B8 ++ [.int .u8 ((h[k]).toNat : Int)] = (h.take (k + 1)).map B8 := by
  rw [take_snoc hk, List.map_append]; rfl

set_option maxRecDepth 100000 in
theorem b32C (h : List UInt8) (w : World) (hl : h.length = 32) :
    Calls Tryd.prog 27 #[.agg (h.map B8).toArray] w fun e w' => e = .returned (.string ⟨h.toArray⟩) ∧ Below w.heap.size w w' := by
  have HL := Lib.hid hl
  clear hl
  go_enter Tryd.func27, Tryd.ntmps27
  go_wp2
  have B0 : Blk (w.alloc (.cells (h.map B8).toArray 24)) w.heap.size 24 (h.map B8) := Blk.new rfl
  go_loopw [3, 4] (fun v i wr => ∃ k : Nat, k ≤ 32 ∧ i = .int .i64 (k : Int) ∧ wr.ownsRow (w.heap.size + 1) 5 1 v k ((h.take k).map B8) ∧ Blk wr w.heap.size 24 (h.map B8) ∧ Below w.heap.size w wr ∧ w.heap.size + 1 ≤ wr.heap.size) (fun _ i _ => 32 - (intOf i).toNat)
  case atStart => exact ⟨0, by omega, rfl, own_nil _ _ _, B0, (Below.refl _ _).alloc (Nat.le_refl _) _, by simp⟩
  case round =>
    clear B0
    obtain ⟨k, hk, rfl, hown, hB, hb, hz⟩ := hrel
    have hR := Rd.of_own hown
    obtain ⟨A1, c1, rfl, hc1, hc2⟩ := hR.form
    by_cases hlt : k < 32
    · have hlt2 : k < h.length := by rw [HL.out]; exact hlt
      have ci : wr.cell? ⟨w.heap.size, k, none⟩ = some (.int .u8 ((h[k]'hlt2).toNat : Int)) := hB.cell (bcell_get hlt2)
      have HS := Lib.hid (b8_snoc hlt2)
      clear hR
      generalize h[k]'hlt2 = x at ci HS
      go_wp2_with (at_builtin; refine app8 rfl rfl (w.heap.size + 1) _ (k) _ rfl hown rfl rfl (by omega) (hz) ?_; intro A2 c2 w2 hown2 hc3 hc4 hb2)
      go_roundw
      case rel =>
        rw [HS.out] at hown2
        exact ⟨k + 1, by omega, by go_num, hown2, hB.below hb2 (by omega), hb.trans (hb2.mono (by omega)), Nat.le_trans hz hb2.size⟩
      case measure => simp [intOf]; omega
    · obtain rfl : k = 32 := by omega
      rw [List.take_of_length_le (by rw [HL.out]; omega)] at hR
      have hs := run_str 22 9 5 Tryd.underlying22 Tryd.underlying5 Tryd.underlying9 hR
      clear hR hown
      go_wp2
      go_ret
      exact ⟨rfl, hb⟩

set_option maxRecDepth 100000 in
theorem textC (h : List UInt8) (w : World) (hl : h.length = 16) :
    Calls Tryd.prog 34 #[.agg (h.map B8).toArray] w fun e w' => e = .returned (.string ⟨h.toArray⟩) ∧ Below w.heap.size w w' := by
  have HL := Lib.hid hl
  clear hl
  go_enter Tryd.func34, Tryd.ntmps34
  go_wp2
  have B0 : Blk (w.alloc (.cells (h.map B8).toArray 41)) w.heap.size 41 (h.map B8) := Blk.new rfl
  go_loopw [3, 4] (fun v i wr => ∃ k : Nat, k ≤ 16 ∧ i = .int .i64 (k : Int) ∧ wr.ownsRow (w.heap.size + 1) 5 1 v k ((h.take k).map B8) ∧ Blk wr w.heap.size 41 (h.map B8) ∧ Below w.heap.size w wr ∧ w.heap.size + 1 ≤ wr.heap.size) (fun _ i _ => 16 - (intOf i).toNat)
  case atStart => exact ⟨0, by omega, rfl, own_nil _ _ _, B0, (Below.refl _ _).alloc (Nat.le_refl _) _, by simp⟩
  case round =>
    clear B0
    obtain ⟨k, hk, rfl, hown, hB, hb, hz⟩ := hrel
    have hR := Rd.of_own hown
    obtain ⟨A1, c1, rfl, hc1, hc2⟩ := hR.form
    by_cases hlt : k < 16
    · have hlt2 : k < h.length := by rw [HL.out]; exact hlt
      have ci : wr.cell? ⟨w.heap.size, k, none⟩ = some (.int .u8 ((h[k]'hlt2).toNat : Int)) := hB.cell (bcell_get hlt2)
      have HS := Lib.hid (b8_snoc hlt2)
      clear hR
      generalize h[k]'hlt2 = x at ci HS
      go_wp2_with (at_builtin; refine app8 rfl rfl (w.heap.size + 1) _ (k) _ rfl hown rfl rfl (by omega) (hz) ?_; intro A2 c2 w2 hown2 hc3 hc4 hb2)
      go_roundw
      case rel =>
        rw [HS.out] at hown2
        exact ⟨k + 1, by omega, by go_num, hown2, hB.below hb2 (by omega), hb.trans (hb2.mono (by omega)), Nat.le_trans hz hb2.size⟩
      case measure => simp [intOf]; omega
    · obtain rfl : k = 16 := by omega
      rw [List.take_of_length_le (by rw [HL.out]; omega)] at hR
      have hs := run_str 22 9 5 Tryd.underlying22 Tryd.underlying5 Tryd.underlying9 hR
      clear hR hown
      go_wp2
      go_ret
      exact ⟨rfl, hb⟩

/-- The concatenation of pieces. -/
def cat (ss : List (List UInt8)) : List UInt8 := ss.flatten
theorem cat_snoc {ss : List (List UInt8)} {k : Nat} {s : List UInt8} {r : List (List UInt8)} (h : ss.drop k = s :: r) : cat (ss.take (k + 1)) = cat (ss.take k) ++ s := by
  unfold cat
  rw [drop_take h]
  simp
theorem cat_len {ss : List (List UInt8)} {M : Nat} (h : ∀ s ∈ ss, s.length ≤ M) : (cat ss).length ≤ ss.length * M := by
  induction ss with
  | nil => simp [cat]
  | cons s ss ih =>
    have h1 := h s (by simp)
    have h2 := ih (fun x hx => h x (by simp [hx]))
    unfold cat at *
    simp only [List.flatten_cons, List.length_append, List.length_cons, Nat.succ_mul]
    omega

set_option maxRecDepth 100000 in
theorem joinedC (A : Option Addr) (n c : Nat) (ss : List (List UInt8)) (w : World) (hr : Rd w 1 (.slice A n c) n (ss.map tx)) (hn : n ≤ 12) (hs : ∀ s ∈ ss, s.length ≤ 400) :
    Calls Tryd.prog 18 #[.slice A n c] w fun e w' => e = .returned (.string ⟨(cat ss).toArray⟩) ∧ w = w' := by
  have HT := Lib.hid hr.n_eq
  have hcat := ByteArray.mk_append_mk
  go_enter Tryd.func18, Tryd.ntmps18
  go_wp2
  go_loop [3, 4] (fun v i => ∃ k : Nat, k ≤ n ∧ i = .int .i64 (k : Int) ∧ v = .string ⟨(cat (ss.take k)).toArray⟩) (fun _ i => n - (intOf i).toNat)
  case atStart => exact ⟨0, by omega, rfl, rfl⟩
  case round =>
    obtain ⟨k, hk, rfl, rfl⟩ := hrel
    by_cases hlt : k < n
    · obtain ⟨b, off, s, rfl, hb, hc, hm, hd⟩ := hr.atG (k := k) (by rw [HT.out]; exact hlt)
      have hsl := hs s hm
      have hc' : w.cell? ⟨b, off + k, none⟩ = some (.string ⟨s.toArray⟩) := hc
      have hpl : (cat (ss.take k)).length ≤ 12 * 400 := Nat.le_trans (cat_len (M := 400) fun x hx => hs x (List.mem_of_mem_take hx)) (Nat.mul_le_mul_right _ (by rw [List.length_take]; omega))
      have HS := Lib.hid (cat_snoc hd.out)
      clear hc hs hd
      generalize cat (ss.take k) = p at hpl HS ⊢
      go_wp2
      go_round
      case rel => exact ⟨k + 1, by omega, by go_num, by rw [HS.out]⟩
      case measure => simp [intOf]; omega
    · obtain rfl : k = n := by omega
      have ht : ss.take k = ss := List.take_of_length_le (by rw [HT.out]; omega)
      have HS := Lib.hid ht
      clear ht
      go_wp2
      go_ret
      exact ⟨by show Ending.returned (.string ⟨(cat (ss.take k)).toArray⟩) = _; rw [HS.out], rfl⟩

/-- Whether two lists are equal. -/
def sameL (a b : List (List UInt8)) : Bool := a == b
set_option maxRecDepth 100000 in
theorem sameC (A A' : Option Addr) (n m c c' : Nat) (a b : List (List UInt8)) (w : World) (hr : Rd w 1 (.slice A n c) n (a.map tx)) (hr' : Rd w 1 (.slice A' m c') m (b.map tx)) (hn : n ≤ 12) (hm : m ≤ 12) :
    Calls Tryd.prog 22 #[.slice A n c, .slice A' m c'] w fun e w' => e = .returned (.bool (sameL a b)) ∧ ∃ k, w' = w.drewN k := by
  have hl := hr.n_eq
  have hl' := hr'.n_eq
  by_cases hnm : n = m
  · subst hnm
    have HA := Lib.hid hl
    have HB := Lib.hid hl'
    clear hl hl'
    go_enter Tryd.func22, Tryd.ntmps22
    go_wp2
    go_loopw [5] (fun i wr => ∃ k : Nat, k ≤ n ∧ i = .int .i64 (k : Int) ∧ a.take k = b.take k ∧ ∃ q, wr = w.drewN q) (fun i _ => n - (intOf i).toNat)
    case atStart => exact ⟨0, by omega, rfl, by simp, 0, rfl⟩
    case round =>
      obtain ⟨k, hk, rfl, heq, q, rfl⟩ := hrel
      have HE := Lib.hid heq
      clear heq
      by_cases hlt : k < n
      · obtain ⟨b1, off, s, rfl, hb, hc, hm1, hd⟩ := hr.atG (k := k) (by rw [HA.out]; exact hlt)
        obtain ⟨b2, off2, t, rfl, hb2, hc2, hm2, hd2⟩ := hr'.atG (k := k) (by rw [HB.out]; exact hlt)
        have e1 : w.cell? ⟨b1, off + k, none⟩ = some (.string ⟨s.toArray⟩) := hc
        have e2 : w.cell? ⟨b2, off2 + k, none⟩ = some (.string ⟨t.toArray⟩) := hc2
        have e3 : (w.drewN q).cell? ⟨b1, off + k, none⟩ = some (.string ⟨s.toArray⟩) := hc
        have e4 : (w.drewN q).cell? ⟨b2, off2 + k, none⟩ = some (.string ⟨t.toArray⟩) := hc2
        clear hc hc2
        by_cases hst : s = t
        · subst hst
          go_wp2
          go_quiet (fail)
          go_wp2
          go_roundw
          case rel =>
            refine ⟨k + 1, by omega, by go_num, ?_, _, rfl⟩
            rw [drop_take hd.out, drop_take hd2.out, HE.out]
          case measure => simp [intOf]; omega
        · have hf : sameL a b = false := by
            unfold sameL
            rw [beq_eq_false_iff_ne]
            intro h
            subst h
            have h1 := hd.out
            rw [hd2.out] at h1
            injection h1 with h1 _
            exact hst h1.symm
          have HF := Lib.hid hf
          have hb1 : (s == t) = false := by simpa using hst
          clear hf
          go_wp2
          go_quiet (fail)
          go_wp2
          go_ret
          exact ⟨by rw [HF.out]; rfl, q + nq, by first | rfl | exact World.drewN_drewN _ _ _⟩
      · obtain rfl : k = n := by omega
        have hf : sameL a b = true := by
          have h := HE.out
          rw [List.take_of_length_le (by rw [HA.out]; omega), List.take_of_length_le (by rw [HB.out]; omega)] at h
          unfold sameL
          rw [h]
          exact beq_self_eq_true _
        have HF := Lib.hid hf
        clear hf
        go_wp2
        go_ret
        exact ⟨by rw [HF.out]; rfl, _, rfl⟩
  · have hf : sameL a b = false := by
      unfold sameL
      rw [beq_eq_false_iff_ne]
      intro h
      subst h
      exact hnm (hl.symm.trans hl')
    rw [hf]
    have hne : (n : Int) ≠ (m : Int) := by omega
    have hne2 : ((n : Int) != (m : Int)) = true := by rw [bne_iff_ne]; exact hne
    clear hf hl hl'
    go_enter Tryd.func22, Tryd.ntmps22
    go_wp2
    go_ret
    exact ⟨rfl, 0, rfl⟩
end Go.Proofs.YtmmomcililideaaDoor
