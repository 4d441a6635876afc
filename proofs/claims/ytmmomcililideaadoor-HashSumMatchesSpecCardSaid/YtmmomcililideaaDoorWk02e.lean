/-
  Streams: Sum.
-/
import Derived.Test.YtmmomcililideaaDoorWk02d
set_option linter.unusedSimpArgs false
set_option linter.unusedVariables false
namespace Go.Proofs.YtmmomcililideaaDoor
open Go.RowKit

theorem pad_step (j : Nat) : ((128 :: List.replicate j 0 : List UInt8).map B8) ++ [.int .u8 0] = (128 :: List.replicate (j + 1) 0 : List UInt8).map B8 := by
  have e : ([.int .u8 0] : List Value) = [(0 : UInt8)].map B8 := rfl
  rw [e, ← List.map_append, List.replicate_succ', List.cons_append]
theorem be8_step {n i : Nat} (d : Nat) (hi : i < 8) (hd : 2 ^ (56 - 8 * i) = d) {x : Int} (hx : x = ((n / d % 256 : Nat) : Int)) (l : List UInt8) : ((l ++ (be8 n).take i).map B8) ++ [.int .u8 x] = (l ++ (be8 n).take (i + 1)).map B8 := by
  have hl : i < (be8 n).length := by simpa [be8] using hi
  rw [← List.take_append_getElem hl, ← List.append_assoc, List.map_append (l₂ := [_])]
  congr 1
  simp only [List.map_cons, List.map_nil, List.cons.injEq, and_true]
  have e : (be8 n)[i] = UInt8.ofNat (n / 2 ^ (56 - 8 * i)) := by simp [be8]
  rw [e]
  refine B8_of _ _ ?_
  rw [hx, UInt8.toNat_ofNat', hd]
def outA (s : S8) (i : Nat) : List UInt8 := (out32 s).take i ++ List.replicate (32 - i) 0
theorem out32_len (s : S8) : (out32 s).length = 32 := by simp [out32]
theorem outA_step {s : S8} {i : Nat} (hi : i < 32) (d : Nat) (hd : 2 ^ (24 - 8 * (i % 4)) = d) {x : Int} (hx : x = ((un (s.l.getD (i / 4) 0) / d % 256 : Nat) : Int)) :
    ((outA s i).map B8).set i (.int .u8 x) = (outA s (i + 1)).map B8 := by
  have hl := out32_len s
  have e : Value.int .u8 x = B8 ((out32 s)[i]'(by omega)) := by
    refine B8_of _ _ ?_
    have e2 : (out32 s)[i]'(by omega) = UInt8.ofNat ((s.l.getD (i / 4) 0).toNat / 2 ^ (24 - 8 * (i % 4))) := by simp [out32]
    rw [e2, hx, UInt8.toNat_ofNat', hd]
    rfl
  rw [e]
  unfold outA
  rw [← List.map_set, List.set_append_right _ _ (by rw [List.length_take]; omega), List.length_take, Nat.min_eq_left (by omega), Nat.sub_self]
  have e1 : 32 - i = (32 - (i + 1)) + 1 := by omega
  rw [e1, List.replicate_succ, List.set_cons_zero]
  congr 1
  rw [← List.take_append_getElem (show i < (out32 s).length by omega), List.append_assoc]
  rfl
theorem l_get {s : S8} {blk : List UInt8} {n a : Nat} (ha : a < 8) : (strm s blk n)[a]? = some (.int .u32 (un (s.l.getD a 0) : Int)) := by
  have hl : (s.l.map W4).length = 8 := rfl
  have hl2 : s.l.length = 8 := rfl
  unfold strm
  rw [List.getElem?_append_left (by omega)]
  simp [List.getElem?_eq_getElem (show a < s.l.length by omega), W4]
theorem own_new {w : World} {e : TypeId} {x : Value} (B : Nat) (hB : B ≤ w.heap.size) : (w.alloc (.cells #[x] e)).ownsRow B e 1 (.slice (some ⟨w.heap.size, 0, none⟩) 1 1) 1 [x] :=
  ⟨rfl, .inr ⟨w.heap.size, 1, #[x], rfl, hB, heap_alloc_new w _, Nat.le_refl _, by unfold maxLen; omega, rfl, rfl⟩⟩
theorem size_o32 : (Tryd.prog.info? 24).map (·.size) = some 32 := by kernel_rfl
def o32 : List Value := List.replicate 32 (.int .u8 0)
theorem o32_len : o32.length = 32 := rfl
theorem sha_len (m : List UInt8) : (sha m).length = 32 := by simp [sha, out32]

set_option maxRecDepth 100000 in
set_option maxHeartbeats 1600000 in
theorem sumC (m : List UInt8) (v : Value) (w : World) (hv : IsStr m v) (hl : m.length ≤ 1125899906842624) (hK : KK w) :
    Calls Tryd.prog 19 #[v] w fun e w' => e = .returned (.agg ((sha m).map B8).toArray) ∧ Below w.heap.size w w' := by
  obtain ⟨blk, hT, rfl⟩ := hv
  have hz := zeroSt
  have cn0 := strm_at (s := absorb iv m) (n := m.length) hT.1
  obtain ⟨S, hS⟩ : ∃ S, S = strm (absorb iv m) blk m.length := ⟨_, rfl⟩
  rw [← hS] at cn0 ⊢
  have HS := Lib.hid hS
  clear hS
  have Cn0 := Lib.hid cn0
  clear cn0
  go_enter Tryd.func19, Tryd.ntmps19
  go_upto_region 1 with fail
  have ew : (w.alloc (.cells S.toArray 34)).alloc (.cells #[.int .u8 0, .int .u8 0, .int .u8 0, .int .u8 0, .int .u8 0, .int .u8 0, .int .u8 0, .int .u8 0, .int .u8 0, .int .u8 0, .int .u8 0, .int .u8 0, .int .u8 0, .int .u8 0, .int .u8 0, .int .u8 0, .int .u8 0, .int .u8 0, .int .u8 0, .int .u8 0, .int .u8 0, .int .u8 0, .int .u8 0, .int .u8 0, .int .u8 0, .int .u8 0, .int .u8 0, .int .u8 0, .int .u8 0, .int .u8 0, .int .u8 0, .int .u8 0] 24) = ((w.alloc (.cells S.toArray 34)).alloc (.cells o32.toArray 24)) := rfl
  rw [ew]
  clear ew
  have B0 : Blk ((w.alloc (.cells S.toArray 34)).alloc (.cells o32.toArray 24)) w.heap.size 34 S := (Blk.new rfl).alloc _
  have B1 : Blk ((w.alloc (.cells S.toArray 34)).alloc (.cells o32.toArray 24)) (w.heap.size + 1) 24 o32 := Blk.newAt rfl (by simp)
  have b2 : Below w.heap.size w ((w.alloc (.cells S.toArray 34)).alloc (.cells o32.toArray 24)) := ((Below.refl w.heap.size w).alloc (Nat.le_refl _) _).alloc (by simp) _
  have z2 : w.heap.size + 2 ≤ ((w.alloc (.cells S.toArray 34)).alloc (.cells o32.toArray 24)).heap.size := by simp
  generalize ((w.alloc (.cells S.toArray 34)).alloc (.cells o32.toArray 24)) = w2 at B0 B1 b2 z2 ⊢
  have cn : w2.cell? ⟨w.heap.size, 72, none⟩ = some (.int .u64 (m.length : Int)) := B0.cell Cn0.out
  go_wp2
  have hown0 : (w2.alloc (.cells #[.int .u8 128] 5)).ownsRow (w.heap.size + 2) 5 1 (.slice (some ⟨w2.heap.size, 0, none⟩) 1 1) 1 [.int .u8 128] := own_new _ z2
  have b3 := b2.alloc b2.size (.cells #[.int .u8 128] 5)
  have B03 := B0.alloc (.cells #[.int .u8 128] 5)
  have B13 := B1.alloc (.cells #[.int .u8 128] 5)
  have z3 : w.heap.size + 2 ≤ (w2.alloc (.cells #[.int .u8 128] 5)).heap.size := by simp; omega
  obtain ⟨z, hze⟩ : ∃ z, z = zerosFor m.length := ⟨_, rfl⟩
  have hz1 : z < 64 ∧ (m.length + 1 + z) % 64 = 56 := by rw [hze]; unfold zerosFor; omega
  have hz2 : ∀ j, j < z → (m.length + 1 + j) % 64 ≠ 56 := fun j hj => by rw [hze] at hj; unfold zerosFor at hj; omega
  have HZ := Lib.hid hz2
  have HZE := Lib.hid hze
  obtain ⟨hz3, hz4⟩ := hz1
  have HZ4 := Lib.hid hz4
  clear hz2 hze hz4
  go_loopw [4] (fun v wr => ∃ j : Nat, j ≤ z ∧ wr.ownsRow (w.heap.size + 2) 5 1 v (j + 1) ((128 :: List.replicate j 0 : List UInt8).map B8) ∧ Blk wr w.heap.size 34 S ∧ Blk wr (w.heap.size + 1) 24 o32 ∧ Below w.heap.size w wr ∧ w.heap.size + 2 ≤ wr.heap.size)
    (fun v _ => match v with | .slice _ n _ => 65 - n | _ => 0)
  case atStart => exact ⟨0, by omega, hown0, B03, B13, b3, z3⟩
  case round =>
    clear hown0 B03 B13 b3 z3 B0 B1 b2 z2 cn
    obtain ⟨j, hj, hown, hB0, hB1, hb, hz5⟩ := hrel
    have hR := Rd.of_own hown
    obtain ⟨A1, c1, rfl, hc1, hc2⟩ := hR.form
    clear hR
    have cn : wr.cell? ⟨w.heap.size, 72, none⟩ = some (.int .u64 (m.length : Int)) := hB0.cell Cn0.out
    by_cases hjz : j < z
    · have ht := HZ.out j hjz
      have hne : (((m.length : Int) + ((j : Int) + 1)) % 64 != 56) = true := by rw [bne_iff_ne]; omega
      clear ht
      go_wp2_with (at_builtin; refine append_one _ 5 rfl (.tmp 20) (.tmp 21) 22 rfl (w.heap.size + 2) 5 _ 1 Tryd.underlying22 info_u8 rfl _ (j + 1) _ rfl hown rfl rfl (by omega) (by unfold maxLen; omega) hz5 ?_; intro v2 w2 hown2 hg2 hb2; have hR2 := Rd.of_own hown2; obtain ⟨A2, c2, rfl, hc3, hc4⟩ := hR2.form; clear hR2 hg2)
      go_roundw
      case rel =>
        rw [pad_step] at hown2
        exact ⟨j + 1, by omega, hown2, hB0.below hb2 (by omega), hB1.below hb2 (by omega), hb.trans (hb2.mono (by omega)), Nat.le_trans hz5 hb2.size⟩
      case measure => simp; omega
    · obtain rfl : j = z := by omega
      have ht := HZ4.out
      have hne : (((m.length : Int) + ((j : Int) + 1)) % 64 != 56) = false := by simp; omega
      clear ht
      obtain ⟨wo, rfl⟩ : ∃ wo : World, wo = wr := ⟨_, rfl⟩
      have hownP : wo.ownsRow (w.heap.size + 2) 5 1 (.slice A1 (j + 1) c1) (j + 1 + (0 : Int).toNat) (((128 :: List.replicate j 0 : List UInt8) ++ (be8 (8 * m.length)).take (0 : Int).toNat).map B8) := by simpa using hown
      go_wp2
      go_loopw [4, 23] (fun v i wr => ∃ i0 : Int, 0 ≤ i0 ∧ i0 ≤ 8 ∧ i = .int .i64 i0 ∧ wr.ownsRow (w.heap.size + 2) 5 1 v (j + 1 + i0.toNat) (((128 :: List.replicate j 0 : List UInt8) ++ (be8 (8 * m.length)).take i0.toNat).map B8) ∧ Blk wr w.heap.size 34 S ∧ Blk wr (w.heap.size + 1) 24 o32 ∧ Below w.heap.size w wr ∧ w.heap.size + 2 ≤ wr.heap.size)
        (fun _ i _ => (8 - intOf i).toNat)
      case atStart => exact ⟨0, by omega, by omega, rfl, hownP, hB0, hB1, hb, hz5⟩
      case round =>
        clear hownP hown hB0 hB1 hb hz5 hne cn hc1 hc2
        obtain ⟨i0, hi0, hi8, rfl, hown, hB0, hB1, hb, hz5⟩ := hrel
        have hR := Rd.of_own hown
        obtain ⟨A3, c3', rfl, hc1, hc2⟩ := hR.form
        clear hR
        obtain rfl | rfl | rfl | rfl | rfl | rfl | rfl | rfl | rfl : i0 = 0 ∨ i0 = 1 ∨ i0 = 2 ∨ i0 = 3 ∨ i0 = 4 ∨ i0 = 5 ∨ i0 = 6 ∨ i0 = 7 ∨ i0 = 8 := by omega
        · simp only [show ((0 : Int)).toNat = 0 from rfl] at hown hc1
          go_wp2_with (at_builtin; refine append_one _ 5 rfl (.tmp 26) (.tmp 33) 22 rfl (w.heap.size + 2) 5 _ 1 Tryd.underlying22 info_u8 rfl _ (j + 1 + 0) _ rfl hown rfl rfl (by omega) (by unfold maxLen; omega) hz5 ?_; intro v2 w2 hown2 hg2 hb2; have hR2 := Rd.of_own hown2; obtain ⟨A2, c2, rfl, hc3, hc4⟩ := hR2.form; clear hR2 hg2)
          go_roundw
          case rel =>
            rw [be8_step (n := 8 * m.length) (i := 0) 72057594037927936 (by omega) rfl (by omega)] at hown2
            exact ⟨1, by omega, by omega, rfl, hown2, hB0.below hb2 (by omega), hB1.below hb2 (by omega), hb.trans (hb2.mono (by omega)), Nat.le_trans hz5 hb2.size⟩
          case measure => simp [intOf]
        · simp only [show ((1 : Int)).toNat = 1 from rfl] at hown hc1
          go_wp2_with (at_builtin; refine append_one _ 5 rfl (.tmp 26) (.tmp 33) 22 rfl (w.heap.size + 2) 5 _ 1 Tryd.underlying22 info_u8 rfl _ (j + 1 + 1) _ rfl hown rfl rfl (by omega) (by unfold maxLen; omega) hz5 ?_; intro v2 w2 hown2 hg2 hb2; have hR2 := Rd.of_own hown2; obtain ⟨A2, c2, rfl, hc3, hc4⟩ := hR2.form; clear hR2 hg2)
          go_roundw
          case rel =>
            rw [be8_step (n := 8 * m.length) (i := 1) 281474976710656 (by omega) rfl (by omega)] at hown2
            exact ⟨2, by omega, by omega, rfl, hown2, hB0.below hb2 (by omega), hB1.below hb2 (by omega), hb.trans (hb2.mono (by omega)), Nat.le_trans hz5 hb2.size⟩
          case measure => simp [intOf]
        · simp only [show ((2 : Int)).toNat = 2 from rfl] at hown hc1
          go_wp2_with (at_builtin; refine append_one _ 5 rfl (.tmp 26) (.tmp 33) 22 rfl (w.heap.size + 2) 5 _ 1 Tryd.underlying22 info_u8 rfl _ (j + 1 + 2) _ rfl hown rfl rfl (by omega) (by unfold maxLen; omega) hz5 ?_; intro v2 w2 hown2 hg2 hb2; have hR2 := Rd.of_own hown2; obtain ⟨A2, c2, rfl, hc3, hc4⟩ := hR2.form; clear hR2 hg2)
          go_roundw
          case rel =>
            rw [be8_step (n := 8 * m.length) (i := 2) 1099511627776 (by omega) rfl (by omega)] at hown2
            exact ⟨3, by omega, by omega, rfl, hown2, hB0.below hb2 (by omega), hB1.below hb2 (by omega), hb.trans (hb2.mono (by omega)), Nat.le_trans hz5 hb2.size⟩
          case measure => simp [intOf]
        · simp only [show ((3 : Int)).toNat = 3 from rfl] at hown hc1
          go_wp2_with (at_builtin; refine append_one _ 5 rfl (.tmp 26) (.tmp 33) 22 rfl (w.heap.size + 2) 5 _ 1 Tryd.underlying22 info_u8 rfl _ (j + 1 + 3) _ rfl hown rfl rfl (by omega) (by unfold maxLen; omega) hz5 ?_; intro v2 w2 hown2 hg2 hb2; have hR2 := Rd.of_own hown2; obtain ⟨A2, c2, rfl, hc3, hc4⟩ := hR2.form; clear hR2 hg2)
          go_roundw
          case rel =>
            rw [be8_step (n := 8 * m.length) (i := 3) 4294967296 (by omega) rfl (by omega)] at hown2
            exact ⟨4, by omega, by omega, rfl, hown2, hB0.below hb2 (by omega), hB1.below hb2 (by omega), hb.trans (hb2.mono (by omega)), Nat.le_trans hz5 hb2.size⟩
          case measure => simp [intOf]
        · simp only [show ((4 : Int)).toNat = 4 from rfl] at hown hc1
          go_wp2_with (at_builtin; refine append_one _ 5 rfl (.tmp 26) (.tmp 33) 22 rfl (w.heap.size + 2) 5 _ 1 Tryd.underlying22 info_u8 rfl _ (j + 1 + 4) _ rfl hown rfl rfl (by omega) (by unfold maxLen; omega) hz5 ?_; intro v2 w2 hown2 hg2 hb2; have hR2 := Rd.of_own hown2; obtain ⟨A2, c2, rfl, hc3, hc4⟩ := hR2.form; clear hR2 hg2)
          go_roundw
          case rel =>
            rw [be8_step (n := 8 * m.length) (i := 4) 16777216 (by omega) rfl (by omega)] at hown2
            exact ⟨5, by omega, by omega, rfl, hown2, hB0.below hb2 (by omega), hB1.below hb2 (by omega), hb.trans (hb2.mono (by omega)), Nat.le_trans hz5 hb2.size⟩
          case measure => simp [intOf]
        · simp only [show ((5 : Int)).toNat = 5 from rfl] at hown hc1
          go_wp2_with (at_builtin; refine append_one _ 5 rfl (.tmp 26) (.tmp 33) 22 rfl (w.heap.size + 2) 5 _ 1 Tryd.underlying22 info_u8 rfl _ (j + 1 + 5) _ rfl hown rfl rfl (by omega) (by unfold maxLen; omega) hz5 ?_; intro v2 w2 hown2 hg2 hb2; have hR2 := Rd.of_own hown2; obtain ⟨A2, c2, rfl, hc3, hc4⟩ := hR2.form; clear hR2 hg2)
          go_roundw
          case rel =>
            rw [be8_step (n := 8 * m.length) (i := 5) 65536 (by omega) rfl (by omega)] at hown2
            exact ⟨6, by omega, by omega, rfl, hown2, hB0.below hb2 (by omega), hB1.below hb2 (by omega), hb.trans (hb2.mono (by omega)), Nat.le_trans hz5 hb2.size⟩
          case measure => simp [intOf]
        · simp only [show ((6 : Int)).toNat = 6 from rfl] at hown hc1
          go_wp2_with (at_builtin; refine append_one _ 5 rfl (.tmp 26) (.tmp 33) 22 rfl (w.heap.size + 2) 5 _ 1 Tryd.underlying22 info_u8 rfl _ (j + 1 + 6) _ rfl hown rfl rfl (by omega) (by unfold maxLen; omega) hz5 ?_; intro v2 w2 hown2 hg2 hb2; have hR2 := Rd.of_own hown2; obtain ⟨A2, c2, rfl, hc3, hc4⟩ := hR2.form; clear hR2 hg2)
          go_roundw
          case rel =>
            rw [be8_step (n := 8 * m.length) (i := 6) 256 (by omega) rfl (by omega)] at hown2
            exact ⟨7, by omega, by omega, rfl, hown2, hB0.below hb2 (by omega), hB1.below hb2 (by omega), hb.trans (hb2.mono (by omega)), Nat.le_trans hz5 hb2.size⟩
          case measure => simp [intOf]
        · simp only [show ((7 : Int)).toNat = 7 from rfl] at hown hc1
          go_wp2_with (at_builtin; refine append_one _ 5 rfl (.tmp 26) (.tmp 33) 22 rfl (w.heap.size + 2) 5 _ 1 Tryd.underlying22 info_u8 rfl _ (j + 1 + 7) _ rfl hown rfl rfl (by omega) (by unfold maxLen; omega) hz5 ?_; intro v2 w2 hown2 hg2 hb2; have hR2 := Rd.of_own hown2; obtain ⟨A2, c2, rfl, hc3, hc4⟩ := hR2.form; clear hR2 hg2)
          go_roundw
          case rel =>
            rw [be8_step (n := 8 * m.length) (i := 7) 1 (by omega) rfl (by omega)] at hown2
            exact ⟨8, by omega, by omega, rfl, hown2, hB0.below hb2 (by omega), hB1.below hb2 (by omega), hb.trans (hb2.mono (by omega)), Nat.le_trans hz5 hb2.size⟩
          case measure => simp [intOf]
        · simp only [show ((8 : Int)).toNat = 8 from rfl] at hown hc1
          have hpd : (128 :: List.replicate j 0 : List UInt8) ++ (be8 (8 * m.length)).take 8 = padding m.length := by
            rw [HZE.out]
            unfold padding
            rw [List.take_of_length_le (by simp [be8])]
          rw [hpd] at hown
          have hpl : (padding m.length).length = j + 1 + 8 := by rw [← hpd]; simp [be8]
          have hRP := Rd.of_own hown
          have HSH : Hid (∀ _ : Unit, sha m = out32 (absorb iv (m ++ padding m.length))) := fun _ => rfl
          clear hpd
          generalize padding m.length = pd at hown hRP hpl HSH
          have hpl2 : pd.length ≤ 200 := by omega
          clear hpl
          have hIS : IsStr m (.agg S.toArray) := ⟨blk, hT, by rw [HS.out]⟩
          have hstr := run_str 22 9 5 Tryd.underlying22 Tryd.underlying5 Tryd.underlying9 hRP
          have hKr := hK.below hb hK.1
          have hSl : S.length = 73 := by rw [HS.out]; exact strm_len hT.1
          have HSL := Lib.hid hSl
          clear hSl hRP
          go_wp2_with ((with_reducible show wpList _ _ _ _ _ _); refine op_load_agg rfl 34 (.tmp 1) rfl w.heap.size 0 rfl _ Tryd.underlying34 rfl S hB0.cl (by rw [HSL.out]; exact size_st) ?_)
          refine (addC m pd _ _ hIS (by omega) hKr).mono ?_
          rintro e w6 ⟨v6, rfl, hIS6, hb6⟩
          obtain ⟨blk6, hT6, rfl⟩ := hIS6
          have hB06 := hB0.below hb6 hB0.lt
          have hB16 := hB1.below hb6 hB1.lt
          have hb06 := hb.trans (hb6.mono hb.size)
          have hz6 : w.heap.size + 2 ≤ w6.heap.size := Nat.le_trans hz5 hb6.size
          have hS6l : (strm (absorb iv (m ++ pd)) blk6 (m ++ pd).length).length = 73 := strm_len hT6.1
          have hS6g : ∀ a : Nat, a < 8 → (strm (absorb iv (m ++ pd)) blk6 (m ++ pd).length)[a]? = some (.int .u32 (un ((absorb iv (m ++ pd)).l.getD a 0) : Int)) := fun a ha => l_get ha
          have hS6o := strm_one (absorb iv (m ++ pd)) blk6 (m ++ pd).length
          generalize strm (absorb iv (m ++ pd)) blk6 (m ++ pd).length = S6 at hS6l hS6g hS6o ⊢
          generalize absorb iv (m ++ pd) = st at hS6g HSH
          have HS6l := Lib.hid hS6l
          have HS6g := Lib.hid hS6g
          have HS6o := Lib.hid hS6o
          clear hS6l hS6g hS6o hb6 hstr hown hB0 hB1 hb hz5 hT hIS hKr
          go_wp2_with ((with_reducible show wpList _ _ _ _ _ _); refine op_store_blk rfl 34 (.tmp 1) (.tmp 39) rfl w.heap.size 34 _ hB06 rfl S6 rfl (by rw [HSL.out, HS6l.out]) HS6o.out (by rw [HS6l.out]; exact size_st) ?_; intro w7 hB07 hoth7 hbel7 hsz7; have hB17 := hoth7 _ _ _ (by omega) hB16; have hb7 := hbel7 _ _ hb06 (Nat.le_refl _); have hz7 : w.heap.size + 2 ≤ w7.heap.size := by omega)
          have BO : Blk (w7.alloc (.cells #[.int .u8 0, .int .u8 0, .int .u8 0, .int .u8 0, .int .u8 0, .int .u8 0, .int .u8 0, .int .u8 0, .int .u8 0, .int .u8 0, .int .u8 0, .int .u8 0, .int .u8 0, .int .u8 0, .int .u8 0, .int .u8 0, .int .u8 0, .int .u8 0, .int .u8 0, .int .u8 0, .int .u8 0, .int .u8 0, .int .u8 0, .int .u8 0, .int .u8 0, .int .u8 0, .int .u8 0, .int .u8 0, .int .u8 0, .int .u8 0, .int .u8 0, .int .u8 0] 24)) w6.heap.size 24 ((outA st 0).map B8) := Blk.newAt rfl hsz7.symm
          have BS := hB07.alloc (.cells #[.int .u8 0, .int .u8 0, .int .u8 0, .int .u8 0, .int .u8 0, .int .u8 0, .int .u8 0, .int .u8 0, .int .u8 0, .int .u8 0, .int .u8 0, .int .u8 0, .int .u8 0, .int .u8 0, .int .u8 0, .int .u8 0, .int .u8 0, .int .u8 0, .int .u8 0, .int .u8 0, .int .u8 0, .int .u8 0, .int .u8 0, .int .u8 0, .int .u8 0, .int .u8 0, .int .u8 0, .int .u8 0, .int .u8 0, .int .u8 0, .int .u8 0, .int .u8 0] 24)
          have BR := hB17.alloc (.cells #[.int .u8 0, .int .u8 0, .int .u8 0, .int .u8 0, .int .u8 0, .int .u8 0, .int .u8 0, .int .u8 0, .int .u8 0, .int .u8 0, .int .u8 0, .int .u8 0, .int .u8 0, .int .u8 0, .int .u8 0, .int .u8 0, .int .u8 0, .int .u8 0, .int .u8 0, .int .u8 0, .int .u8 0, .int .u8 0, .int .u8 0, .int .u8 0, .int .u8 0, .int .u8 0, .int .u8 0, .int .u8 0, .int .u8 0, .int .u8 0, .int .u8 0, .int .u8 0] 24)
          have b8 := hb7.alloc hb7.size (.cells #[.int .u8 0, .int .u8 0, .int .u8 0, .int .u8 0, .int .u8 0, .int .u8 0, .int .u8 0, .int .u8 0, .int .u8 0, .int .u8 0, .int .u8 0, .int .u8 0, .int .u8 0, .int .u8 0, .int .u8 0, .int .u8 0, .int .u8 0, .int .u8 0, .int .u8 0, .int .u8 0, .int .u8 0, .int .u8 0, .int .u8 0, .int .u8 0, .int .u8 0, .int .u8 0, .int .u8 0, .int .u8 0, .int .u8 0, .int .u8 0, .int .u8 0, .int .u8 0] 24)
          generalize w7.alloc (.cells #[.int .u8 0, .int .u8 0, .int .u8 0, .int .u8 0, .int .u8 0, .int .u8 0, .int .u8 0, .int .u8 0, .int .u8 0, .int .u8 0, .int .u8 0, .int .u8 0, .int .u8 0, .int .u8 0, .int .u8 0, .int .u8 0, .int .u8 0, .int .u8 0, .int .u8 0, .int .u8 0, .int .u8 0, .int .u8 0, .int .u8 0, .int .u8 0, .int .u8 0, .int .u8 0, .int .u8 0, .int .u8 0, .int .u8 0, .int .u8 0, .int .u8 0, .int .u8 0] 24) = w8 at BO BS BR b8 ⊢
          clear hB07 hB17 hb7 hbel7 hoth7 hsz7 hB06 hB16 hb06
          generalize w6.heap.size = gO at hz6 BO ⊢
          clear hz7 HZ HZ4
          go_loopw [40] (fun x wr => ∃ i : Nat, i ≤ 32 ∧ x = .int .i64 (i : Int) ∧ Blk wr gO 24 ((outA st i).map B8) ∧ Blk wr w.heap.size 34 S6 ∧ Blk wr (w.heap.size + 1) 24 o32 ∧ Below w.heap.size w wr)
            (fun x _ => 32 - (intOf x).toNat)
          case atStart => exact ⟨0, by omega, rfl, BO, BS, BR, b8⟩
          case round =>
            clear BO BS BR b8
            obtain ⟨i, hi, rfl, hBO, hBS, hBR, hb⟩ := hrel
            by_cases hlt : i < 32
            · obtain ⟨a, r, har, hr4⟩ : ∃ a r : Nat, i = 4 * a + r ∧ r < 4 := ⟨i / 4, i % 4, by omega, by omega⟩
              have ha8 : a < 8 := by omega
              have hdi : (i : Int) / 4 = (a : Int) := by omega
              have e1 : i / 4 = a := by omega
              have cx : wr.cell? ⟨w.heap.size, a, none⟩ = some (.int .u32 (un (st.l.getD a 0) : Int)) := hBS.cell (HS6g.out a ha8)
              have co : ∃ u, wr.cell? ⟨gO, i, none⟩ = some u := by
                have hlen : i < ((outA st i).map B8).length := by rw [List.length_map]; unfold outA; rw [List.length_append, List.length_take, out32_len, List.length_replicate]; omega
                exact ⟨_, hBO.cell (List.getElem?_eq_getElem hlen)⟩
              obtain ⟨u, cu⟩ := co
              have cf := hBO.free i
              have hux := un_lt (st.l.getD a 0)
              have E1 := Lib.hid e1
              have HAR := Lib.hid har
              have HR4 := Lib.hid hr4
              clear e1 har hr4
              generalize hX : st.l.getD a 0 = X at cx hux
              have HX := Lib.hid hX
              clear hX
              obtain rfl | rfl | rfl | rfl : r = 0 ∨ r = 1 ∨ r = 2 ∨ r = 3 := by have := HR4.out; omega
              · have hmi : (i : Int) % 4 = 0 := by have := HAR.out; omega
                have em : i % 4 = 0 := by have := HAR.out; omega
                have EM := Lib.hid em
                clear em
                go_wp2
                go_roundw
                case rel =>
                  refine ⟨i + 1, by omega, by go_num, ?_, hBS.other _ _ (by have := hz6; simp; omega), hBR.other _ _ (by have := hz6; simp; omega), hb.setCell (by have := hz6; simp; omega) _⟩
                  rw [← outA_step hlt 16777216 (by rw [EM.out]) (by rw [E1.out, HX.out])]
                  have h1 := hBO.set i (.int .u8 ((un X / 16777216 % 256 : Nat) : Int))
                  have e9 : (un X : Int) / 16777216 % 256 = ((un X / 16777216 % 256 : Nat) : Int) := by omega
                  first
                    | (rw [← e9] at h1; exact e9 ▸ h1)
                    | (rw [show (un X : Int) / 16777216 = ((un X / 16777216 % 256 : Nat) : Int) by omega]; exact h1)
                    | (rw [show (un X : Int) % 256 = ((un X / 1 % 256 : Nat) : Int) by omega]; exact h1)
                    | exact h1
                case measure => simp [intOf]; omega
              · have hmi : (i : Int) % 4 = 1 := by have := HAR.out; omega
                have em : i % 4 = 1 := by have := HAR.out; omega
                have EM := Lib.hid em
                clear em
                go_wp2
                go_roundw
                case rel =>
                  refine ⟨i + 1, by omega, by go_num, ?_, hBS.other _ _ (by have := hz6; simp; omega), hBR.other _ _ (by have := hz6; simp; omega), hb.setCell (by have := hz6; simp; omega) _⟩
                  rw [← outA_step hlt 65536 (by rw [EM.out]) (by rw [E1.out, HX.out])]
                  have h1 := hBO.set i (.int .u8 ((un X / 65536 % 256 : Nat) : Int))
                  have e9 : (un X : Int) / 65536 % 256 = ((un X / 65536 % 256 : Nat) : Int) := by omega
                  first
                    | (rw [← e9] at h1; exact e9 ▸ h1)
                    | (rw [show (un X : Int) / 65536 = ((un X / 65536 % 256 : Nat) : Int) by omega]; exact h1)
                    | (rw [show (un X : Int) % 256 = ((un X / 1 % 256 : Nat) : Int) by omega]; exact h1)
                    | exact h1
                case measure => simp [intOf]; omega
              · have hmi : (i : Int) % 4 = 2 := by have := HAR.out; omega
                have em : i % 4 = 2 := by have := HAR.out; omega
                have EM := Lib.hid em
                clear em
                go_wp2
                go_roundw
                case rel =>
                  refine ⟨i + 1, by omega, by go_num, ?_, hBS.other _ _ (by have := hz6; simp; omega), hBR.other _ _ (by have := hz6; simp; omega), hb.setCell (by have := hz6; simp; omega) _⟩
                  rw [← outA_step hlt 256 (by rw [EM.out]) (by rw [E1.out, HX.out])]
                  have h1 := hBO.set i (.int .u8 ((un X / 256 % 256 : Nat) : Int))
                  have e9 : (un X : Int) / 256 % 256 = ((un X / 256 % 256 : Nat) : Int) := by omega
                  first
                    | (rw [← e9] at h1; exact e9 ▸ h1)
                    | (rw [show (un X : Int) / 256 = ((un X / 256 % 256 : Nat) : Int) by omega]; exact h1)
                    | (rw [show (un X : Int) % 256 = ((un X / 1 % 256 : Nat) : Int) by omega]; exact h1)
                    | exact h1
                case measure => simp [intOf]; omega
              · have hmi : (i : Int) % 4 = 3 := by have := HAR.out; omega
                have em : i % 4 = 3 := by have := HAR.out; omega
                have EM := Lib.hid em
                clear em
                go_wp2
                go_roundw
                case rel =>
                  refine ⟨i + 1, by omega, by go_num, ?_, hBS.other _ _ (by have := hz6; simp; omega), hBR.other _ _ (by have := hz6; simp; omega), hb.setCell (by have := hz6; simp; omega) _⟩
                  rw [← outA_step hlt 1 (by rw [EM.out]) (by rw [E1.out, HX.out])]
                  have h1 := hBO.set i (.int .u8 ((un X / 1 % 256 : Nat) : Int))
                  have e9 : (un X : Int) / 1 % 256 = ((un X / 1 % 256 : Nat) : Int) := by omega
                  first
                    | (rw [← e9] at h1; exact e9 ▸ h1)
                    | (rw [show (un X : Int) / 1 = ((un X / 1 % 256 : Nat) : Int) by omega]; exact h1)
                    | (rw [show (un X : Int) % 256 = ((un X / 1 % 256 : Nat) : Int) by omega]; exact h1)
                    | exact h1
                case measure => simp [intOf]; omega
            · obtain rfl : i = 32 := by omega
              have h32 : (outA st 32).map B8 = (out32 st).map B8 := by unfold outA; rw [List.take_of_length_le (by rw [out32_len]; omega)]; simp
              rw [h32] at hBO
              have HSH' := HSH.out ()
              have hl32 : ((out32 st).map B8).length = 32 := by rw [List.length_map, out32_len]
              have HL32 := Lib.hid hl32
              clear hl32
              go_wp2_with (first
                | ((with_reducible show wpList _ _ _ _ _ _); refine op_load_agg rfl 24 (.tmp 6) rfl gO 0 rfl _ Tryd.underlying24 rfl ((out32 st).map B8) hBO.cl (by rw [HL32.out]; exact size_o32) ?_)
                | ((with_reducible show wpList _ _ _ _ _ _); refine op_store_blk rfl 24 (.tmp 2) (.tmp 57) rfl (w.heap.size + 1) 24 _ hBR rfl ((out32 st).map B8) rfl (by rw [HL32.out, o32_len]) (B8s_one _) (by rw [HL32.out]; exact size_o32) ?_; intro w9 hC9 hoth9 hbel9 hsz9))
              have hld := run_loadVar_cl (P := Tryd.prog) 24 _ (w.heap.size + 1) 0 ((out32 st).map B8) hC9.cl Tryd.underlying24 rfl (by rw [HL32.out]; exact size_o32)
              rw [HSH']
              refine bodyPost_ret (v := .agg ((out32 st).map B8).toArray) ?_ rfl ⟨rfl, hbel9 _ _ hb (by omega)⟩
              simp [results, Tryd.results19, asAddr, hld, Act.put]
end Go.Proofs.YtmmomcililideaaDoor
