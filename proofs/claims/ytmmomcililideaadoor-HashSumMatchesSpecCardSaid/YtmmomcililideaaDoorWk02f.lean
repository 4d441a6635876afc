/-
  The hash of bytes, as the program reckons it.
-/
import Derived.Test.YtmmomcililideaaDoorWk02e
import Derived.Test.YtmmomcililideaaDoorConv
set_option linter.unusedSimpArgs false
set_option linter.unusedVariables false
namespace Go.Proofs.YtmmomcililideaaDoor
open Go.RowKit

theorem zero32 : ∀ w : World, (zeroValue 24).run Tryd.prog w = .ok (.agg o32.toArray) w := fun _ => by kernel_rfl

set_option maxRecDepth 100000 in
set_option maxHeartbeats 1600000 in
theorem hashC (A : Option Addr) (n c : Nat) (b : List UInt8) (w : World) (hr : Rd w 1 (.slice A n c) n (b.map B8)) (hn : n ≤ 1048576) (hK : KK w) :
    Calls Tryd.prog 13 #[.slice A n c] w fun e w' => e = .returned (.agg ((sha b).map B8).toArray) ∧ Below w.heap.size w w' := by
  have hbl := hr.n_eq
  have hbl2 : b.length ≤ 1048576 := by omega
  clear hbl
  have hz := zero32
  have hr1 := hr.alloc (.cells o32.toArray 24)
  have B0 : Blk (w.alloc (.cells o32.toArray 24)) w.heap.size 24 o32 := Blk.new rfl
  have b0 := (Below.refl w.heap.size w).alloc (Nat.le_refl _) (.cells o32.toArray 24)
  go_enter Tryd.func13, Tryd.ntmps13
  go_upto_region 1 with fail
  generalize w.alloc (.cells o32.toArray 24) = W at hr1 B0 b0 ⊢
  have hK0 := hK.below b0 hK.1
  have hs0 := run_str 22 9 5 Tryd.underlying22 Tryd.underlying5 Tryd.underlying9 hr1.drew
  clear hr
  go_region_with (first
    | (go_at_call 16; refine (beginC _).mono ?_; rintro e w1 ⟨v1, rfl, hI1, hb1⟩; have hs1 := run_str 22 9 5 Tryd.underlying22 Tryd.underlying5 Tryd.underlying9 (hr1.drew.below hb1); have B1 := B0.drew.below hb1 B0.lt; have b1 := b0.drew.trans (hb1.mono b0.drew.size))
    | (go_at_call 17; refine (addC [] b v1 _ hI1 (by simp; omega) (hK.below b1 hK.1)).mono ?_; rintro e w2 ⟨v2, rfl, hI2, hb2⟩; have B2 := B1.below hb2 B1.lt; have b2 := b1.trans (hb2.mono b1.size))
    | (go_at_call 19; refine (sumC b v2 _ hI2 (by omega) (hK.below b2 hK.1)).mono ?_; rintro e w3 ⟨rfl, hb3⟩; have B3 := B2.below hb3 B2.lt; have b3 := b2.trans (hb3.mono b2.size); have hst := run_store_ys (P := Tryd.prog) B3 ((sha b).map B8) (by rw [List.length_map, sha_len, o32_len]) (B8s_one _)))
  all_goals
    have hC := B3.row ((sha b).map B8)
    have b4 := bel_row b3 (Nat.le_refl _) b3.size ((sha b).map B8).toArray
    clear hst
    generalize w3.setRow w.heap.size ((sha b).map B8).toArray = w4 at hC b4 ⊢
    go_wp2_with fail
    have hld := run_loadVar_cl (P := Tryd.prog) 24 _ w.heap.size 0 ((sha b).map B8) hC.cl Tryd.underlying24 rfl (by rw [List.length_map, sha_len]; exact size_o32)
    refine bodyPost_ret (v := .agg ((sha b).map B8).toArray) ?_ rfl ⟨rfl, b4⟩
    simp [results, Tryd.results13, asAddr, hld]

/-- The block of a key. -/
def keyBlock (key : List UInt8) : List UInt8 := let k := if key.length > 64 then sha key else key; k ++ List.replicate (64 - k.length) 0
def xorA0 (k : List UInt8) : List UInt8 := k ++ List.replicate (64 - k.length) 0
def padOf (key : List UInt8) (x : UInt8) : List UInt8 := (keyBlock key).map (· ^^^ x)

def z64 : List Value := (List.replicate 64 (0 : UInt8)).map B8
theorem z64_len : z64.length = 64 := rfl
theorem zero64 : ∀ w : World, (zeroValue 31).run Tryd.prog w = .ok (.agg z64.toArray) w := fun _ => by kernel_rfl
theorem z64_put {k : List UInt8} (h : k.length ≤ 64) : z64.take 0 ++ (k.take (min k.length 64)).map B8 ++ z64.drop (0 + min k.length 64) = (xorA0 k).map B8 := by
  unfold z64 xorA0
  rw [Nat.min_eq_left h, List.take_length, List.take_zero, List.nil_append, Nat.zero_add, List.map_append]
  congr 1
  rw [← List.map_drop, List.drop_replicate]
def xorA (kb : List UInt8) (x : UInt8) (i : Nat) : List UInt8 := (kb.take i).map (· ^^^ x) ++ kb.drop i
theorem xorA_get {kb : List UInt8} {x : UInt8} {i : Nat} (h : i < kb.length) : ((xorA kb x i).map B8)[i]? = some (B8 kb[i]) := by
  unfold xorA
  rw [List.map_append, List.getElem?_append_right (by simp; omega)]
  simp [Nat.min_eq_left (Nat.le_of_lt h), List.getElem?_eq_getElem h]
theorem xorA_step {kb : List UInt8} {x : UInt8} {i : Nat} (h : i < kb.length) : ((xorA kb x i).map B8).set i (B8 (kb[i] ^^^ x)) = (xorA kb x (i + 1)).map B8 := by
  unfold xorA
  rw [← List.map_set, List.set_append_right _ _ (by simp; omega)]
  congr 1
  rw [List.length_map, List.length_take, Nat.min_eq_left (by omega), Nat.sub_self, List.drop_eq_getElem_cons h, List.set_cons_zero, ← List.take_append_getElem h, List.map_append, List.append_assoc]
  rfl
theorem xorA_all {kb : List UInt8} {x : UInt8} (h : kb.length = 64) : xorA kb x 64 = kb.map (· ^^^ x) := by
  unfold xorA
  rw [List.take_of_length_le (by omega), List.drop_of_length_le (by omega), List.append_nil]
theorem u8x (x y : UInt8) : bits .xor .u8 (x.toNat : Int) (y.toNat : Int) = ((x ^^^ y).toNat : Int) := by
  rw [u8_xor_nat _ _ x.toNat_lt y.toNat_lt, UInt8.toNat_xor]

set_option maxRecDepth 100000 in
set_option maxHeartbeats 1600000 in
theorem padC (key : List UInt8) (x : UInt8) (w : World) (hn : key.length ≤ 1048576) (hK : KK w) :
    Calls Tryd.prog 42 #[.string ⟨key.toArray⟩, .int .u8 (x.toNat : Int)] w fun e w' => e = .returned (tx (padOf key x)) ∧ Below w.heap.size w w' := by
  by_cases hl : 64 < key.length
  · obtain ⟨c0, w1, hcv, hRc, hbc⟩ := conv_bytes (P := Tryd.prog) w 9 22 5 Tryd.underlying9 Tryd.underlying22 Tryd.underlying5 key (by omega)
    have hz32 := zero32
    go_enter Tryd.func42, Tryd.ntmps42
    go_wp2_with fail
    refine (hashC _ _ _ key _ hRc (by omega) (hK.below hbc hK.1)).mono ?_
    rintro e w2 ⟨rfl, hb2⟩
    have b2 := hbc.trans (hb2.mono hbc.size)
    obtain ⟨k, hk⟩ : ∃ k, k = sha key := ⟨_, rfl⟩
    have hkl2 : k.length = 32 := by rw [hk]; exact sha_len key
    have hkl : k.length ≤ 64 := by omega
    obtain ⟨kb, hkb⟩ : ∃ kb, kb = xorA0 k := ⟨_, rfl⟩
    have hkbl : Hid (kb.length = 64) := by show _ = _; rw [hkb]; simp [xorA0]; omega
    have HFin : Hid (∀ _ : Unit, padOf key x = kb.map (· ^^^ x)) := fun _ => by rw [hkb, hk]; unfold padOf keyBlock xorA0; rw [if_pos (by omega)]
    rw [← hk]
    have HKB := Lib.hid hkb
    clear hk hcv hRc hkb
    have b2n := b2.alloc b2.size (.cells (k.map B8).toArray 24)
    have hRn : Rd (w2.alloc (.cells (k.map B8).toArray 24)) 1 (.slice (some ⟨w2.heap.size, 0, none⟩) 32 32) 32 (k.map B8) := Rd.new rfl (by rw [List.length_map]; exact hkl2) (by unfold maxLen; omega)
    have hsn := run_str 22 9 5 Tryd.underlying22 Tryd.underlying5 Tryd.underlying9 hRn
    clear hRn
    have HK2 := Lib.hid hkl2
    clear hkl2
    go_upto_region 4 with ((with_reducible show wpList _ _ _ _ _ _); refine op_store_new w2 _ _ rfl 24 (.tmp 5) (.tmp 13) rfl rfl (k.map B8).toArray rfl (by simp [HK2.out, o32_len]) (by simpa using B8s_one k) (by simp [HK2.out, size_o32]) ?_)
    generalize w2.alloc (.cells (k.map B8).toArray 24) = W at b2n ⊢
    have hgs : w.heap.size ≤ W.heap.size := b2n.size
    have hz := zero64
    have BZ : Blk (W.alloc (.cells z64.toArray 31)) W.heap.size 31 z64 := Blk.new rfl
    have bz := b2n.alloc b2n.size (.cells z64.toArray 31)
    have hgi : goInt ((min k.length 64 : Nat) : Int) = .int .i64 (k.length : Int) := by rw [Nat.min_eq_left hkl]; rfl
    have HGI := Lib.hid hgi
    clear hgi
    go_wp2_with ((with_reducible show wpList _ _ _ (⟨some 18, _, _, _, _, _⟩ :: _) _ _); refine op_copy_str rfl (.tmp 16) (.tmp 17) 22 9 5 rfl Tryd.underlying22 size_u8 W.heap.size 0 64 64 31 _ BZ ?_ k ?_ ?_ ?_; rfl; rfl; (rw [z64_len]; omega); intro w3 hB3 hoth3 hbel3 hsz3; rw [HGI.out]; rw [z64_put hkl, ← HKB.out] at hB3; have hb3 := hbel3 _ _ bz (by have := bz.size; simp at this; omega))
    generalize W.heap.size = g at hB3 hgs ⊢
    go_loopw [19] (fun y wr => ∃ i : Nat, i ≤ 64 ∧ y = .int .i64 (i : Int) ∧ Blk wr g 31 ((xorA kb x i).map B8) ∧ Below w.heap.size w wr) (fun y _ => 64 - (intOf y).toNat)
    case atStart => exact ⟨0, by omega, rfl, hB3, hb3⟩
    case round =>
      obtain ⟨i, hi, rfl, hBi, hbi⟩ := hrel
      by_cases hlt : i < 64
      · have hlt2 : i < kb.length := by rw [hkbl.out]; exact hlt
        have ci : wr.cell? ⟨g, i, none⟩ = some (.int .u8 ((kb[i]'hlt2).toNat : Int)) := hBi.cell (xorA_get hlt2)
        have cf := hBi.free i
        have hst := xorA_step (x := x) hlt2
        have hxr := u8x (kb[i]'hlt2) x
        generalize kb[i]'hlt2 = y at ci hst hxr
        have HST := Lib.hid hst
        clear hst
        generalize hzz : (y ^^^ x).toNat = zz at hxr
        have HZZ := Lib.hid hzz
        clear hzz
        go_wp2
        go_roundw
        case rel =>
          refine ⟨i + 1, by omega, by go_num, ?_, hbi.setCell (by simpa using hgs) _⟩
          rw [← HST.out]
          have h1 := hBi.set i (B8 (y ^^^ x))
          unfold B8 at h1 ⊢
          rw [HZZ.out] at h1 ⊢
          exact h1
        case measure => simp [intOf]; omega
      · obtain rfl : i = 64 := by omega
        rw [xorA_all hkbl.out] at hBi
        have hml : (kb.map (· ^^^ x)).length = 64 := by rw [List.length_map]; exact hkbl.out
        have hRe : Rd wr 1 (.slice (some ⟨g, 0, none⟩) 64 64) 64 ((kb.map (· ^^^ x)).map B8) := Rd.of_cl hBi.cl hBi.lt (by rw [List.length_map]; exact hml) (Nat.le_refl _) (by unfold maxLen; omega)
        have hse := run_str 22 9 5 Tryd.underlying22 Tryd.underlying5 Tryd.underlying9 hRe
        have hfin := HFin.out ()
        clear hRe hml
        go_wp2
        go_ret
        exact ⟨by rw [hfin]; rfl, hbi⟩
  · obtain ⟨kb, hkb⟩ : ∃ kb, kb = xorA0 key := ⟨_, rfl⟩
    have hkl : key.length ≤ 64 := by omega
    have hkbl : Hid (kb.length = 64) := by show _ = _; rw [hkb]; simp [xorA0]; omega
    have HFin : Hid (∀ _ : Unit, padOf key x = kb.map (· ^^^ x)) := fun _ => by rw [hkb]; unfold padOf keyBlock xorA0; rw [if_neg (by omega)]
    have hgs : w.heap.size ≤ w.heap.size := Nat.le_refl _
    have HKB := Lib.hid hkb
    clear hkb
    have b0 := Below.refl w.heap.size w
    have hz := zero64
    have BZ : Blk (w.alloc (.cells z64.toArray 31)) w.heap.size 31 z64 := Blk.new rfl
    have bz := b0.alloc b0.size (.cells z64.toArray 31)
    have hgi : goInt ((min key.length 64 : Nat) : Int) = .int .i64 (key.length : Int) := by rw [Nat.min_eq_left hkl]; rfl
    have HGI := Lib.hid hgi
    clear hgi
    go_enter Tryd.func42, Tryd.ntmps42
    go_wp2_with ((with_reducible show wpList _ _ _ (⟨some 18, _, _, _, _, _⟩ :: _) _ _); refine op_copy_str rfl (.tmp 16) (.tmp 17) 22 9 5 rfl Tryd.underlying22 size_u8 w.heap.size 0 64 64 31 _ BZ ?_ key ?_ ?_ ?_; rfl; rfl; (rw [z64_len]; omega); intro w3 hB3 hoth3 hbel3 hsz3; rw [HGI.out]; rw [z64_put hkl, ← HKB.out] at hB3; have hb3 := hbel3 _ _ bz (by have := bz.size; simp at this; omega))
    go_loopw [19] (fun y wr => ∃ i : Nat, i ≤ 64 ∧ y = .int .i64 (i : Int) ∧ Blk wr w.heap.size 31 ((xorA kb x i).map B8) ∧ Below w.heap.size w wr) (fun y _ => 64 - (intOf y).toNat)
    case atStart => exact ⟨0, by omega, rfl, hB3, hb3⟩
    case round =>
      obtain ⟨i, hi, rfl, hBi, hbi⟩ := hrel
      by_cases hlt : i < 64
      · have hlt2 : i < kb.length := by rw [hkbl.out]; exact hlt
        have ci : wr.cell? ⟨w.heap.size, i, none⟩ = some (.int .u8 ((kb[i]'hlt2).toNat : Int)) := hBi.cell (xorA_get hlt2)
        have cf := hBi.free i
        have hst := xorA_step (x := x) hlt2
        have hxr := u8x (kb[i]'hlt2) x
        generalize kb[i]'hlt2 = y at ci hst hxr
        have HST := Lib.hid hst
        clear hst
        generalize hzz : (y ^^^ x).toNat = zz at hxr
        have HZZ := Lib.hid hzz
        clear hzz
        go_wp2
        go_roundw
        case rel =>
          refine ⟨i + 1, by omega, by go_num, ?_, hbi.setCell (by simp) _⟩
          rw [← HST.out]
          have h1 := hBi.set i (B8 (y ^^^ x))
          unfold B8 at h1 ⊢
          rw [HZZ.out] at h1 ⊢
          exact h1
        case measure => simp [intOf]; omega
      · obtain rfl : i = 64 := by omega
        rw [xorA_all hkbl.out] at hBi
        have hml : (kb.map (· ^^^ x)).length = 64 := by rw [List.length_map]; exact hkbl.out
        have hRe : Rd wr 1 (.slice (some ⟨w.heap.size, 0, none⟩) 64 64) 64 ((kb.map (· ^^^ x)).map B8) := Rd.of_cl hBi.cl hBi.lt (by rw [List.length_map]; exact hml) (Nat.le_refl _) (by unfold maxLen; omega)
        have hse := run_str 22 9 5 Tryd.underlying22 Tryd.underlying5 Tryd.underlying9 hRe
        have hfin := HFin.out ()
        clear hRe hml
        go_wp2
        go_ret
        exact ⟨by rw [hfin]; rfl, hbi⟩
end Go.Proofs.YtmmomcililideaaDoor
