/-
  'rivermarklaw01.WireTruncated' returns true: every proper prefix of an encoding (of a bounded length) yields the error for what is too short. No condition.
-/
import Derived.Test.YtbjddcjochealaaUni
import Derived.Test.YtbjddcjochealaaFew
namespace Go.Proofs.Ytbjddcjochealaa
open Go.RowKit

theorem encL_sz {l : List Int} : (encL encI l).length ≤ 10 + 10 * l.length := by
  have h1 := encI_length l.length
  have h2 : ∀ l : List Int, (l.map encI).flatten.length ≤ 10 * l.length := by
    intro l
    induction l with
    | nil => simp
    | cons x l ih =>
      have := encI_length x
      simp only [List.map_cons, List.flatten_cons, List.length_append, List.length_cons]
      omega
  have := h2 l
  unfold encL
  rw [List.length_append]
  omega
theorem encL_szS {l : List (List UInt8)} : (encL encS l).length ≤ 10 + 10 * l.length + tot l := by
  have h1 := encI_length l.length
  have h2 : ∀ l : List (List UInt8), (l.map encS).flatten.length ≤ 10 * l.length + tot l := by
    intro l
    induction l with
    | nil => simp
    | cons x l ih =>
      have := encI_length x.length
      simp only [List.map_cons, List.flatten_cons, List.length_append, List.length_cons, tot, List.sum_cons, encS]
      unfold tot at ih
      omega
  have := h2 l
  unfold encL
  rw [List.length_append]
  omega
theorem encL_szD {l : List (List UInt8)} (h : ∀ x ∈ l, x.length = 16) : (encL id l).length ≤ 10 + 16 * l.length := by
  have h1 := encI_length l.length
  have h2 : ∀ l : List (List UInt8), (∀ x ∈ l, x.length = 16) → (l.map id).flatten.length ≤ 16 * l.length := by
    intro l
    induction l with
    | nil => simp
    | cons x l ih =>
      intro h
      have h3 := h x (by simp)
      have := ih fun y hy => h y (by simp [hy])
      simp only [List.map_cons, List.flatten_cons, List.length_append, List.length_cons, id]
      omega
  have := h2 l h
  unfold encL
  rw [List.length_append]
  omega

theorem tot_le_mul {N : Nat} : ∀ y : List (List UInt8), (∀ z ∈ y, z.length ≤ N) → tot y ≤ y.length * N
  | [], _ => by simp [tot]
  | z :: y, h => by
    have h2 := h z (by simp)
    have h3 := tot_le_mul y fun u hu => h u (by simp [hu])
    simp only [tot, List.map_cons, List.sum_cons, List.length_cons] at *
    rw [Nat.add_mul, Nat.one_mul]
    omega
theorem cutI {n : Int} (h1 : -9223372036854775808 ≤ n) (h2 : n ≤ 9223372036854775807) : ∀ i, i < (encI n).length → re (decI ((encI n).take i)) = 10 := fun i hi => by rw [decI_cut h1 h2 hi]; rfl
theorem cutS {s : List UInt8} (h : s.length ≤ 9223372036854775807) : ∀ i, i < (encS s).length → re (getS ((encS s).take i)) = 10 := fun i hi => by rw [getS_cut h hi]; rfl
theorem cutL {α : Type} {f : α → List UInt8} {one : List UInt8 → Except Int (α × Nat)} {least : Nat} {ok : α → Prop} (hc : Codec f one least ok) (l : List α) (h : ∀ x ∈ l, ok x) (hl : l.length ≤ 9223372036854775807) :
    ∀ i, i < (encL f l).length → re (getL one least ((encL f l).take i)) = 10 := fun i hi => by rw [getL_cut hc l i h hl hi]; rfl

set_option maxRecDepth 100000 in
set_option maxHeartbeats 1600000 in
theorem walkTrunc (n : Int) (s : List UInt8) (A2 A3 A4 : Option Addr) (n2 n3 n4 c2 c3 c4 : Nat) (l : List Int) (x d : List (List UInt8)) (w : World) (i1 : -9223372036854775808 ≤ n) (i2 : n ≤ 9223372036854775807)
    (hs : s.length ≤ 140737488351232) (z2 : n2 * 8 ≤ 140737488351232) (z4 : n4 * 16 ≤ 140737488351232) (hr2 : Rd w 1 (.slice A2 n2 c2) n2 (l.map (Value.int .i64))) (hr3 : Rd w 1 (.slice A3 n3 c3) n3 (x.map tx)) (hr4 : Rd w 16 (.slice A4 n4 c4) n4 (fl cd d))
    (hl : ∀ y ∈ l, -9223372036854775808 ≤ y ∧ y ≤ 9223372036854775807) (hx : ∀ y ∈ x, y.length ≤ 140737488351232) (hd : ∀ y ∈ d, y.length = 16) (z3 : n3 ≤ 9223372036854775807) (e4 : d.length = n4) :
    Calls Try.prog 9 #[.int .i64 n, .string ⟨s.toArray⟩, .slice A2 n2 c2, .slice A3 n3 c3, .slice A4 n4 c4] w fun e w' => e = .returned (.bool true) ∧ Below w.heap.size w w' := by
  have e2 := hr2.n_eq
  have e3 := hr3.n_eq
  by_cases ha : s.length + 10 * n2 + 16 * n4 ≤ 400
  · by_cases hb : n3 ≤ 40
    · have ht : tot x ≤ 40 * 140737488351232 := by
        have h0 := tot_le_mul x hx
        exact Nat.le_trans h0 (Nat.mul_le_mul_right _ (by omega))
      by_cases hf : n3 + tot x ≤ 2000
      · have f1 := encI_length n
        have f2 : (encS s).length ≤ 420 := by have := encI_length s.length; unfold encS; rw [List.length_append]; omega
        have f3 : (encL encI l).length ≤ 420 := by have := encL_sz (l := l); omega
        have f4 : (encL encS x).length ≤ 2420 := by have := encL_szS (l := x); omega
        have f5 : (encL id d).length ≤ 420 := by have := encL_szD hd; omega
        have hx1 : ∀ y ∈ x, y.length ≤ 4294967296 := fun y hy => by have := tot_mem hy; omega
        have g1 := Lib.hid (cutI i1 i2)
        have g2 := Lib.hid (cutS (s := s) (by omega))
        have g3 := Lib.hid (cutL codecI l hl (by omega))
        have g4 := Lib.hid (cutL codecS x (fun y hy => by have := hx1 y hy; omega) (by omega))
        have g5 := Lib.hid (cutL codecD d hd (by omega))
        subst e2 e3 e4
        have HX := Lib.hid hx1
        have HL := Lib.hid hl
        have HD := Lib.hid hd
        clear hx hx1 hl hd
        go_enter Try.func9, Try.ntmps9
        go_wp2_with fail
        refine (fewYes _ _ _ _ x hr3 hf).mono ?_
        rintro e w0 ⟨rfl, rfl⟩
        go_wp2_with fail
        refine (wInt _ _ i1 i2).mono ?_
        rintro e w1 ⟨v1, rfl, hown1, hb1⟩
        have R1 := Rd.of_own hown1
        obtain ⟨A1, c1, rfl, _, _⟩ := R1.form
        go_wp2_with fail
        refine (wBytes _ _ (by omega)).mono ?_
        rintro e w2 ⟨v2, rfl, hown2, hb2⟩
        have R2 := Rd.of_own hown2
        obtain ⟨A2', c2', rfl, _, _⟩ := R2.form
        have b2 := hb1.trans (hb2.mono hb1.size)
        go_wp2_with fail
        refine (wInts _ _ _ l (hr2.below b2) (by omega) HL.out (by omega)).mono ?_
        rintro e w3 ⟨v3, rfl, hown3, hb3⟩
        have R3 := Rd.of_own hown3
        obtain ⟨A3', c3', rfl, _, _⟩ := R3.form
        have b3 := b2.trans (hb3.mono b2.size)
        go_wp2_with fail
        refine (wStrings _ _ _ x (hr3.below b3) (by omega) HX.out (by omega)).mono ?_
        rintro e w4 ⟨v4, rfl, hown4, hb4⟩
        have R4 := Rd.of_own hown4
        obtain ⟨A4', c4', rfl, _, _⟩ := R4.form
        have b4 := b3.trans (hb4.mono b3.size)
        go_wp2_with fail
        refine (wDigests _ _ _ d (hr4.below b4) (by omega) HD.out (by omega)).mono ?_
        rintro e w5 ⟨v5, rfl, hown5, hb5⟩
        have R5 := Rd.of_own hown5
        obtain ⟨A5', c5', rfl, _, _⟩ := R5.form
        have b5 := b4.trans (hb5.mono b4.size)
        go_wp2_with fail
        have C : Cl (w5.alloc (.cells #[.slice A1 (encI n).length c1, .slice A2' (encS s).length c2', .slice A3' (encL encI l).length c3', .slice A4' (encL encS x).length c4', .slice A5' (encL id d).length c5'] 28)) w5.heap.size 0 [.slice A1 (encI n).length c1, .slice A2' (encS s).length c2', .slice A3' (encL encI l).length c3', .slice A4' (encL encS x).length c4', .slice A5' (encL id d).length c5'] := Cl.new rfl
        have hsz : w5.heap.size < (w5.alloc (.cells #[.slice A1 (encI n).length c1, .slice A2' (encS s).length c2', .slice A3' (encL encI l).length c3', .slice A4' (encL encS x).length c4', .slice A5' (encL id d).length c5'] 28)).heap.size := by simp
        have b6 := b5.trans ((Below.refl w5.heap.size w5).alloc (Nat.le_refl _) (.cells #[.slice A1 (encI n).length c1, .slice A2' (encS s).length c2', .slice A3' (encL encI l).length c3', .slice A4' (encL encS x).length c4', .slice A5' (encL id d).length c5'] 28) |>.mono b5.size)
        have D1 := ((((R1.below hb2).below hb3).below hb4).below hb5).alloc (.cells #[.slice A1 (encI n).length c1, .slice A2' (encS s).length c2', .slice A3' (encL encI l).length c3', .slice A4' (encL encS x).length c4', .slice A5' (encL id d).length c5'] 28)
        have D2 := (((R2.below hb3).below hb4).below hb5).alloc (.cells #[.slice A1 (encI n).length c1, .slice A2' (encS s).length c2', .slice A3' (encL encI l).length c3', .slice A4' (encL encS x).length c4', .slice A5' (encL id d).length c5'] 28)
        have D3 := ((R3.below hb4).below hb5).alloc (.cells #[.slice A1 (encI n).length c1, .slice A2' (encS s).length c2', .slice A3' (encL encI l).length c3', .slice A4' (encL encS x).length c4', .slice A5' (encL id d).length c5'] 28)
        have D4 := (R4.below hb5).alloc (.cells #[.slice A1 (encI n).length c1, .slice A2' (encS s).length c2', .slice A3' (encL encI l).length c3', .slice A4' (encL encS x).length c4', .slice A5' (encL id d).length c5'] 28)
        have D5 := R5.alloc (.cells #[.slice A1 (encI n).length c1, .slice A2' (encS s).length c2', .slice A3' (encL encI l).length c3', .slice A4' (encL encS x).length c4', .slice A5' (encL id d).length c5'] 28)
        generalize w5.alloc (.cells #[.slice A1 (encI n).length c1, .slice A2' (encS s).length c2', .slice A3' (encL encI l).length c3', .slice A4' (encL encS x).length c4', .slice A5' (encL id d).length c5'] 28) = W0 at C hsz b6 D1 D2 D3 D4 D5 ⊢
        have C0 := C 0 _ rfl
        have C1 := C 1 _ rfl
        have C2 := C 2 _ rfl
        have C3 := C 3 _ rfl
        have C4 := C 4 _ rfl
        clear C R1 R2 R3 R4 R5 hown1 hown2 hown3 hown4 hown5 b2 b3 b4 b5 hb1 hb2 hb3 hb4 hb5 hr2 hr3 hr4
        generalize w5.heap.size = B5 at *
        go_loopw [49] (fun i wr => ∃ k : Int, 0 ≤ k ∧ k ≤ 5 ∧ i = .int .i64 k ∧ Below W0.heap.size W0 wr) (fun i _ => (5 - intOf i).toNat)
        case atStart => exact ⟨0, by omega, by omega, rfl, Below.refl _ _⟩
        case round =>
          obtain ⟨k, hk0, hk5, rfl, hb⟩ := hrel
          obtain ⟨wo, rfl⟩ : ∃ wo : World, wo = wr := ⟨_, rfl⟩
          have hce := (fun j (u : Value) (h : W0.cell? ⟨B5, j, none⟩ = some u) => (hb.cell (p := ⟨B5, j, none⟩) hsz).trans h)
          have E0 := hce _ _ C0
          have E1 := hce _ _ C1
          have E2 := hce _ _ C2
          have E3 := hce _ _ C3
          have E4 := hce _ _ C4
          clear hce C0 C1 C2 C3 C4
          obtain rfl | rfl | rfl | rfl | rfl | rfl : k = 0 ∨ k = 1 ∨ k = 2 ∨ k = 3 ∨ k = 4 ∨ k = 5 := by omega
          · go_wp2
            go_loopw [57] (fun i wr => ∃ j : Nat, j ≤ (encI n).length ∧ i = .int .i64 (j : Int) ∧ Below W0.heap.size W0 wr) (fun i _ => (encI n).length - (intOf i).toNat)
            case atStart => exact ⟨0, by omega, rfl, hb⟩
            case round =>
              obtain ⟨j, hj, rfl, hb'⟩ := hrel
              by_cases hlt : j < (encI n).length
              · have hcut := (D1.below hb').pre (k := j) (by omega)
                rw [← List.map_take] at hcut
                have HG := Lib.hid (g1.out j (by omega))
                go_wp2_with fail
                refine (uInt _ _ _ _ _ hcut (by omega)).mono ?_
                rw [HG.out]
                clear hcut
                rintro e w6 ⟨rfl, rfl⟩
                go_wp2
                go_roundw
                case rel => exact ⟨j + 1, by omega, by go_num, hb'⟩
                case measure => simp [intOf]; omega
              · go_wp2
                go_roundw
                case rel => exact ⟨1, by omega, by omega, rfl, hb'⟩
                case measure => simp [intOf]
          · go_wp2
            go_loopw [57] (fun i wr => ∃ j : Nat, j ≤ (encS s).length ∧ i = .int .i64 (j : Int) ∧ Below W0.heap.size W0 wr) (fun i _ => (encS s).length - (intOf i).toNat)
            case atStart => exact ⟨0, by omega, rfl, hb⟩
            case round =>
              obtain ⟨j, hj, rfl, hb'⟩ := hrel
              by_cases hlt : j < (encS s).length
              · have hcut := (D2.below hb').pre (k := j) (by omega)
                rw [← List.map_take] at hcut
                have HG := Lib.hid (g2.out j (by omega))
                go_wp2_with fail
                refine (uStr _ _ _ _ _ hcut (by omega)).mono ?_
                rw [HG.out]
                clear hcut
                rintro e w6 ⟨rfl, rfl⟩
                go_wp2
                go_roundw
                case rel => exact ⟨j + 1, by omega, by go_num, hb'⟩
                case measure => simp [intOf]; omega
              · go_wp2
                go_roundw
                case rel => exact ⟨2, by omega, by omega, rfl, hb'⟩
                case measure => simp [intOf]
          · go_wp2
            go_loopw [57] (fun i wr => ∃ j : Nat, j ≤ (encL encI l).length ∧ i = .int .i64 (j : Int) ∧ Below W0.heap.size W0 wr) (fun i _ => (encL encI l).length - (intOf i).toNat)
            case atStart => exact ⟨0, by omega, rfl, hb⟩
            case round =>
              obtain ⟨j, hj, rfl, hb'⟩ := hrel
              by_cases hlt : j < (encL encI l).length
              · have hcut := (D3.below hb').pre (k := j) (by omega)
                rw [← List.map_take] at hcut
                have HG := Lib.hid (g3.out j (by omega))
                go_wp2_with fail
                refine (uInts _ _ _ _ _ hcut (by omega)).mono ?_
                rw [HG.out]
                clear hcut
                rintro e w6 ⟨A6, c6, rfl, R6, hb6⟩
                have hb7 := hb'.trans (hb6.mono hb'.size)
                clear R6 hb6
                go_wp2
                go_roundw
                case rel => exact ⟨j + 1, by omega, by go_num, hb7⟩
                case measure => simp [intOf]; omega
              · go_wp2
                go_roundw
                case rel => exact ⟨3, by omega, by omega, rfl, hb'⟩
                case measure => simp [intOf]
          · by_cases h5 : (encL encS x).length ≤ 500
            · go_wp2
              go_loopw [57] (fun i wr => ∃ j : Nat, j ≤ (encL encS x).length ∧ i = .int .i64 (j : Int) ∧ Below W0.heap.size W0 wr) (fun i _ => (encL encS x).length - (intOf i).toNat)
              case atStart => exact ⟨0, by omega, rfl, hb⟩
              case round =>
                obtain ⟨j, hj, rfl, hb'⟩ := hrel
                by_cases hlt : j < (encL encS x).length
                · have hcut := (D4.below hb').pre (k := j) (by omega)
                  rw [← List.map_take] at hcut
                  have HG := Lib.hid (g4.out j (by omega))
                  go_wp2_with fail
                  refine (uStrs _ _ _ _ _ hcut (by omega)).mono ?_
                  rw [HG.out]
                  clear hcut
                  rintro e w6 ⟨A6, c6, rfl, R6, hb6⟩
                  have hb7 := hb'.trans (hb6.mono hb'.size)
                  clear R6 hb6
                  go_wp2
                  go_roundw
                  case rel => exact ⟨j + 1, by omega, by go_num, hb7⟩
                  case measure => simp [intOf]; omega
                · go_wp2
                  go_roundw
                  case rel => exact ⟨4, by omega, by omega, rfl, hb'⟩
                  case measure => simp [intOf]
            · go_wp2
              go_loopw [57] (fun i wr => ∃ j : Nat, j ≤ 500 ∧ i = .int .i64 (j : Int) ∧ Below W0.heap.size W0 wr) (fun i _ => 500 - (intOf i).toNat)
              case atStart => exact ⟨0, by omega, rfl, hb⟩
              case round =>
                obtain ⟨j, hj, rfl, hb'⟩ := hrel
                by_cases hlt : j < 500
                · have hcut := (D4.below hb').pre (k := j) (by omega)
                  rw [← List.map_take] at hcut
                  have HG := Lib.hid (g4.out j (by omega))
                  go_wp2_with fail
                  refine (uStrs _ _ _ _ _ hcut (by omega)).mono ?_
                  rw [HG.out]
                  clear hcut
                  rintro e w6 ⟨A6, c6, rfl, R6, hb6⟩
                  have hb7 := hb'.trans (hb6.mono hb'.size)
                  clear R6 hb6
                  go_wp2
                  go_roundw
                  case rel => exact ⟨j + 1, by omega, by go_num, hb7⟩
                  case measure => simp [intOf]; omega
                · go_wp2
                  go_roundw
                  case rel => exact ⟨4, by omega, by omega, rfl, hb'⟩
                  case measure => simp [intOf]
          · go_wp2
            go_loopw [57] (fun i wr => ∃ j : Nat, j ≤ (encL id d).length ∧ i = .int .i64 (j : Int) ∧ Below W0.heap.size W0 wr) (fun i _ => (encL id d).length - (intOf i).toNat)
            case atStart => exact ⟨0, by omega, rfl, hb⟩
            case round =>
              obtain ⟨j, hj, rfl, hb'⟩ := hrel
              by_cases hlt : j < (encL id d).length
              · have hcut := (D5.below hb').pre (k := j) (by omega)
                rw [← List.map_take] at hcut
                have HG := Lib.hid (g5.out j (by omega))
                go_wp2_with fail
                refine (uDgs _ _ _ _ _ hcut (by omega)).mono ?_
                rw [HG.out]
                clear hcut
                rintro e w6 ⟨A6, c6, rfl, R6, hb6⟩
                have hb7 := hb'.trans (hb6.mono hb'.size)
                clear R6 hb6
                go_wp2
                go_roundw
                case rel => exact ⟨j + 1, by omega, by go_num, hb7⟩
                case measure => simp [intOf]; omega
              · go_wp2
                go_roundw
                case rel => exact ⟨5, by omega, by omega, rfl, hb'⟩
                case measure => simp [intOf]
          · go_wp2_with fail
            refine (sanityC _).mono ?_
            rintro e w6 ⟨rfl, hb6⟩
            go_wp2
            go_ret
            have hb7 := hb.trans (hb6.mono hb.size)
            exact ⟨rfl, b6.trans (hb7.mono b6.size)⟩
      · go_enter Try.func9, Try.ntmps9
        go_wp2_with fail
        refine (fewNo _ _ _ _ x hr3 (by omega) (by omega)).mono ?_
        rintro e w0 ⟨rfl, rfl⟩
        go_wp2_with fail
        refine (sanityC _).mono ?_
        rintro e w6 ⟨rfl, hb6⟩
        go_wp2
        go_ret
        exact ⟨rfl, hb6⟩
    · go_enter Try.func9, Try.ntmps9
      go_wp2_with fail
      refine (sanityC _).mono ?_
      rintro e w6 ⟨rfl, hb6⟩
      go_wp2
      go_ret
      exact ⟨rfl, hb6⟩
  · go_enter Try.func9, Try.ntmps9
    go_wp2_with fail
    refine (sanityC _).mono ?_
    rintro e w6 ⟨rfl, hb6⟩
    go_wp2
    go_ret
    exact ⟨rfl, hb6⟩
end Go.Proofs.Ytbjddcjochealaa
