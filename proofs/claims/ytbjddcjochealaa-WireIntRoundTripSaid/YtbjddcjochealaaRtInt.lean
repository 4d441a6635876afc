/-
  'rivermarklaw01.WireIntRoundTrip' returns true: for every integer, decoding its encoding, whatever bytes (at most 2000) follow it, returns the integer and the length of the encoding, which is from 1 to 10. No condition.
-/
import Derived.Test.YtbjddcjochealaaWk01k
import Derived.Test.YtbjddcjochealaaAp
import Derived.Test.YtbjddcjochealaaLaw01
namespace Go.Proofs.Ytbjddcjochealaa
open Go.RowKit

set_option maxRecDepth 100000 in
theorem walkRtInt (n : Int) (A : Option Addr) (l c : Nat) (bs : List UInt8) (w : World) (h1 : -9223372036854775808 ≤ n) (h2 : n ≤ 9223372036854775807) (hl : bs.length = l) (hr : Rd w 1 (.slice A l c) l (bs.map B8)) :
    Calls Try.prog 6 #[.int .i64 n, .slice A l c] w fun e w' => e = .returned (.bool true) ∧ Below w.heap.size w w' := by
  have hcap := hr.cap
  unfold maxLen at hcap
  obtain ⟨hc1, hc2⟩ := hcap
  by_cases hlt : l ≤ 2000
  · have hE := encI_length n
    have hd := decI_enc h1 h2 bs
    have HD := Lib.hid hd
    have HL := Lib.hid hl
    clear hd hl
    go_enter Try.func6, Try.ntmps6
    go_wp2_with (first
      | (go_at_call 14; refine (wInt _ _ h1 h2).mono ?_; rintro e w1 ⟨v1, rfl, hown, hb1⟩; have hR1 := Rd.of_own hown; obtain ⟨A1, c1, rfl, hcc, hcm⟩ := hR1.form)
      | (at_builtin; refine append_cp rfl (.tmp 21) (.tmp 22) 28 rfl 5 _ 1 1 Try.underlying28 info_u8 rfl (by decide) _ _ _ rfl (hR1.fit (by omega)) _ l _ rfl (hr.below hb1) (B8s_one _) (by omega) (by unfold maxLen; omega) ?_; intro A2 c2 w2 hR2 hb2)
      | (go_at_call 24; refine (wGetInt' _ _ _ _ (encI n ++ bs) (by rw [List.map_append]; exact hR2) (by omega)).mono ?_; rw [HD.out]; rintro e w3 ⟨rfl, rfl⟩; simp only [outI])
      | (go_at_call 12; refine (sanityC _).mono ?_; rintro e w4 ⟨rfl, hb4⟩))
    go_ret
    exact ⟨ret_true (by omega), hb1.trans (Below.mono (hb2.trans (Below.mono hb4 hb2.size)) hb1.size)⟩
  · go_enter Try.func6, Try.ntmps6
    go_wp2_with (go_at_call 12; refine (sanityC _).mono ?_; rintro e w1 ⟨rfl, hb1⟩)
    go_ret
    exact ⟨rfl, hb1⟩
end Go.Proofs.Ytbjddcjochealaa
