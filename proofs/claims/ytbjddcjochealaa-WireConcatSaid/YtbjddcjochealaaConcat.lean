/-
  'rivermarklaw01.WireConcat' returns true: the encodings of a string and of a list of integers (of at most 2000 bytes and elements in all), written one after the other, are decoded one after the other. No condition.
-/
import Derived.Test.YtbjddcjochealaaWk01k
import Derived.Test.YtbjddcjochealaaAp
import Derived.Test.YtbjddcjochealaaLaw01
namespace Go.Proofs.Ytbjddcjochealaa
open Go.RowKit

theorem encL_len {l : List Int} : (encL encI l).length ≤ 10 + 10 * l.length := by
  have h1 := encI_length l.length
  have h2 : ∀ l : List Int, (l.map encI).flatten.length ≤ 10 * l.length := by
    intro l
    induction l with
    | nil => simp
    | cons x l ih =>
      have := encI_length x
      simp only [List.map_cons, List.flatten_cons, List.length_append, List.length_cons]
      omega
  have := h2 l
  unfold encL
  rw [List.length_append]
  omega

set_option maxRecDepth 100000 in
theorem walkConcat (s : List UInt8) (A : Option Addr) (n c : Nat) (l : List Int) (w : World) (hs : s.length ≤ 140737488351232) (hn : n * 8 ≤ 140737488351232) (hl : l.length = n) (hr : Rd w 1 (.slice A n c) n (l.map (Value.int .i64)))
    (hx : ∀ x ∈ l, -9223372036854775808 ≤ x ∧ x ≤ 9223372036854775807) :
    Calls Try.prog 10 #[.string ⟨s.toArray⟩, .slice A n c] w fun e w' => e = .returned (.bool true) ∧ Below w.heap.size w w' := by
  subst hl
  by_cases hlt : s.length + l.length ≤ 2000
  · have hE := encI_length s.length
    have hE2 := encL_len (l := l)
    have hE3 := (encI_length l.length).1
    have hE4 : (encS s).length = (encI s.length).length + s.length := by unfold encS; simp
    have hE5 : (encI l.length).length ≤ (encL encI l).length := by unfold encL; simp
    have HS1 : Hid (getS (encS s ++ encL encI l) = .ok (s, (encS s).length)) := getS_enc s (encL encI l) (by omega)
    have HI1 : Hid (getL decI 1 (encL encI l) = .ok (l, (encL encI l).length)) := by have := getL_enc codecI (by omega) l [] hx (by omega); rwa [List.append_nil] at this
    have hle1 : (encS s).length ≤ 4010 := by omega
    have HX := Lib.hid hE4
    clear hE4
    go_enter Try.func10, Try.ntmps10
    go_wp2_with (first
      | (go_at_call 16; refine (wBytes _ _ (by omega)).mono ?_; rintro e w1 ⟨v1, rfl, hown1, hb1⟩)
      | (go_at_call 18; refine (wInts _ _ _ l (hr.below hb1) (by omega) hx (by omega)).mono ?_; rintro e w2 ⟨v2, rfl, hown2, hb2⟩; have hown1' := own_below hown1 hb2; have hb12 := hb1.trans (hb2.mono hb1.size))
      | (at_builtin; refine append_rd rfl (.tmp 20) (.tmp 22) 28 rfl w.heap.size 5 _ 1 1 Try.underlying28 info_u8 rfl (by decide) _ _ _ rfl hown1' _ _ _ rfl (Rd.of_own hown2) (B8s_one _) (by omega) (by unfold maxLen; omega) hb12.size ?_; intro v3 w3 hown3 hg3 hb3; have hb13 := hb12.trans hb3; rw [← List.map_append] at hown3; have hR3 := Rd.of_own hown3; clear hown3; obtain ⟨A3, c3, rfl, hc3, hm3⟩ := hR3.form)
      | (go_at_call 26; refine (wGetBytes' _ _ _ _ (encS s ++ encL encI l) hR3 (by omega)).mono ?_; rw [HS1.out]; rintro e w4 ⟨rfl, rfl⟩; simp only [outS]))
    have hcut := hR3.cutA (k := (encS s).length) (m := (encL encI l).length) (by omega) (by omega)
    rw [map_cut, List.drop_left, List.take_length] at hcut
    refine (wGetInts _ _ _ (encL encI l) hcut (by omega)).mono ?_
    rw [HI1.out]
    rintro e w4 ⟨v4, rfl, hown4, hb4⟩
    have hb14 := hb13.trans (hb4.mono hb13.size)
    have hR4 := Rd.of_own hown4
    obtain ⟨A4, c4, rfl, _, _⟩ := hR4.form
    clear hown4 hcut
    have hq : (l == l) = true := by simp
    go_wp2_with (first
      | (go_at_call 12; refine (sanityC _).mono ?_; rintro e w5 ⟨rfl, hb5⟩; have hb15 := hb14.trans (hb5.mono hb14.size))
      | (go_at_call 30; refine (sameInts _ _ _ _ _ _ _ l l (hR4.below hb5) (hr.below hb15) (by omega)).mono ?_; rw [hq]; rintro e w6 ⟨rfl, hb6⟩))
    go_ret
    exact ⟨rfl, hb15.trans (hb6.mono hb15.size)⟩
  · go_enter Try.func10, Try.ntmps10
    go_wp2_with (go_at_call 12; refine (sanityC _).mono ?_; rintro e w1 ⟨rfl, hb1⟩)
    go_ret
    exact ⟨rfl, hb1⟩
end Go.Proofs.Ytbjddcjochealaa
