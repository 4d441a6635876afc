/-
  HashStreamsAgree: the walk.
-/
import Derived.Test.YtmmomcililideaaDoorWk02x
import Derived.Test.YtmmomcililideaaDoorWk02t
import Derived.Test.YtmmomcililideaaDoorLxw
import Derived.Test.YtmmomcililideaaDoorKeys
import Derived.Test.YtmmomcililideaaDoorPl02c
import Derived.Test.YtmmomcililideaaDoorLwOf
import Derived.Test.YtmmomcililideaaDoorLxi
import Derived.Test.YtmmomcililideaaDoorWk02q
set_option linter.unusedSimpArgs false
set_option linter.unusedVariables false
namespace Go.Proofs.YtmmomcililideaaDoor
open Go.RowKit

theorem load_str (b k : Nat) (X : World) (v : Value) (h : X.cell? ⟨b, k, none⟩ = some v) : (loadVar 9 ⟨b, k, none⟩).run Tryd.prog X = .ok v X := by
  go_simp
/-- Block g holds a stream of m. -/
def StB (m : List UInt8) (X : World) (g : Nat) : Prop := ∃ S : List Value, IsStr m (.agg S.toArray) ∧ S.length = 73 ∧ Blk X g 34 S
theorem StB.bel {m : List UInt8} {X Y : World} {g : Nat} (h : StB m X g) (hb : Below X.heap.size X Y) : StB m Y g := by
  obtain ⟨S, h1, h2, h3⟩ := h
  exact ⟨S, h1, h2, h3.bel hb⟩
def StV (m : List UInt8) (v : Value) (_ : World) : Prop := IsStr m v
theorem StV.lasts (m : List UInt8) : Lasts (StV m) := fun _ _ _ h _ => h
theorem cat_take (ss : List (List UInt8)) {k : Nat} {s : List UInt8} {r : List (List UInt8)} (h : ss.drop k = s :: r) : cat (ss.take (k + 1)) = cat (ss.take k) ++ s := by
  unfold cat
  have h2 : ss[k]? = some s := by
    have := congrArg (·[0]?) h
    simpa using this
  obtain ⟨hk, e⟩ := List.getElem?_eq_some_iff.1 h2
  rw [List.take_succ_eq_append_getElem hk, e]
  simp
theorem cat_le {ss : List (List UInt8)} (h : ∀ s ∈ ss, s.length ≤ 400) (k : Nat) (hk : ss.length ≤ 12) : (cat (ss.take k)).length ≤ 5000 := by
  have := cat_len (ss := ss.take k) (M := 400) (fun s hs => h s (List.mem_of_mem_take hs))
  have h2 : (ss.take k).length ≤ 12 := by rw [List.length_take]; omega
  have : (ss.take k).length * 400 ≤ 12 * 400 := Nat.mul_le_mul_right _ h2
  omega
theorem Rd.pre_take {w : World} {A : Option Addr} {n c k : Nat} {ss : List (List UInt8)} (h : Rd w 1 (.slice A n c) n (ss.map tx)) (hk : k ≤ n) : Rd w 1 (.slice A k c) k ((ss.take k).map tx) := by
  have := h.pre (k := k) hk
  rwa [← List.map_take] at this

set_option maxRecDepth 100000 in
set_option maxHeartbeats 1600000 in
theorem strBad1 (A : Option Addr) (n c : Nat) (ss : List (List UInt8)) (ot : List UInt8) (q : Nat) (w : World) (hr : Rd w 1 (.slice A n c) n (ss.map tx)) (hq : q ≤ 255) (hn : n ≤ 140737488355328) (hs : ∀ s ∈ ss, s.length ≤ 140737488355328) (hol : ot.length ≤ 140737488355328) (hK : KK w) (hf : fewB ss = false) :
    Calls Tryd.prog 4 #[.slice A n c, .string ⟨ot.toArray⟩, .int .u8 (q : Int)] w fun e w' => e = .returned (.bool true) ∧ Below w.heap.size w w' := by
  have HF := Lib.hid hf
  clear hf
  have hKK : ∀ X, Below w.heap.size w X → KK X := fun X h => hK.below h hK.1
  have HKK := Lib.hid hKK
  clear hKK
  have hhrX : ∀ X, Below w.heap.size w X → Rd X 1 (.slice A n c) n (ss.map tx) := fun X h => hr.below h
  have hrX := Lib.hid hhrX
  clear hhrX
  go_enter Tryd.func4, Tryd.ntmps4
  go_wp2_with fail
  refine (sanityC _ (HKK.out _ (Below.refl _ _))).mono ?_
  rintro e w1 ⟨rfl, c0⟩
  go_wp2_with fail
  refine (fewC _ _ _ ss _ (hrX.out _ c0) hn hs).mono ?_
  rintro e w2 ⟨rfl, rfl⟩
  rw [HF.out]
  go_wp2
  go_ret
  exact ⟨rfl, c0⟩

set_option maxRecDepth 100000 in
set_option maxHeartbeats 1600000 in
theorem strBad2 (A : Option Addr) (n c : Nat) (ss : List (List UInt8)) (ot : List UInt8) (q : Nat) (w : World) (hr : Rd w 1 (.slice A n c) n (ss.map tx)) (hq : q ≤ 255) (hn : n ≤ 140737488355328) (hs : ∀ s ∈ ss, s.length ≤ 140737488355328) (hol : ot.length ≤ 140737488355328) (hK : KK w) (hf : fewB ss = true) (h4 : 400 < ot.length) :
    Calls Tryd.prog 4 #[.slice A n c, .string ⟨ot.toArray⟩, .int .u8 (q : Int)] w fun e w' => e = .returned (.bool true) ∧ Below w.heap.size w w' := by
  have HF := Lib.hid hf
  clear hf
  have hKK : ∀ X, Below w.heap.size w X → KK X := fun X h => hK.below h hK.1
  have HKK := Lib.hid hKK
  clear hKK
  have hhrX : ∀ X, Below w.heap.size w X → Rd X 1 (.slice A n c) n (ss.map tx) := fun X h => hr.below h
  have hrX := Lib.hid hhrX
  clear hhrX
  go_enter Tryd.func4, Tryd.ntmps4
  go_wp2_with fail
  refine (sanityC _ (HKK.out _ (Below.refl _ _))).mono ?_
  rintro e w1 ⟨rfl, c0⟩
  go_wp2_with fail
  refine (fewC _ _ _ ss _ (hrX.out _ c0) hn hs).mono ?_
  rintro e w2 ⟨rfl, rfl⟩
  rw [HF.out]
  go_wp2
  go_ret
  exact ⟨rfl, c0⟩

set_option maxRecDepth 100000 in
set_option maxHeartbeats 1600000 in
theorem strGood (A : Option Addr) (n c : Nat) (ss : List (List UInt8)) (ot : List UInt8) (q : Nat) (w : World) (hr : Rd w 1 (.slice A n c) n (ss.map tx)) (hq : q ≤ 255) (hn : n ≤ 140737488355328) (hs : ∀ s ∈ ss, s.length ≤ 140737488355328) (hol : ot.length ≤ 140737488355328) (hK : KK w) (hf : fewB ss = true) (h4 : ot.length ≤ 400) (K : Nat) (hKq : q % (n + 1) = K) :
    Calls Tryd.prog 4 #[.slice A n c, .string ⟨ot.toArray⟩, .int .u8 (q : Int)] w fun e w' => e = .returned (.bool true) ∧ Below w.heap.size w w' := by
  have hz := zeroStr
  have hz2 := zero32
  have hcat := ByteArray.mk_append_mk
  obtain ⟨hn0, hs4⟩ := fewB_out hf
  have hn1 := hr.n_eq
  have hn2 : n ≤ 12 := by omega
  have hKn : K ≤ n := by have := Nat.mod_lt q (show 0 < n + 1 by omega); omega
  have hcn : n ≤ c := by obtain ⟨A', c', hv, h1, _⟩ := hr.form; injection hv with _ _ h3; omega
  have hle := fun i => cat_le hs4 i hn0
  have HLE := Lib.hid hle
  have HN := Lib.hid hn1
  have HKQ : Hid ((q : Int) % ((n : Int) + 1) = (K : Int)) := by show _ = _; rw [← hKq]; push_cast; rfl
  have HF := Lib.hid hf
  clear hf hn0 hn1 hle hKq
  have hKK : ∀ X, Below w.heap.size w X → KK X := fun X h => hK.below h hK.1
  have HKK := Lib.hid hKK
  clear hKK
  have hhrX : ∀ X, Below w.heap.size w X → Rd X 1 (.slice A n c) n (ss.map tx) := fun X h => hr.below h
  have hrX := Lib.hid hhrX
  clear hhrX
  go_enter Tryd.func4, Tryd.ntmps4
  go_wp2_with fail
  refine (sanityC _ (HKK.out _ (Below.refl _ _))).mono ?_
  rintro e w1 ⟨rfl, c0⟩
  go_wp2_with fail
  refine (fewC _ _ _ ss _ (hrX.out _ c0) hn hs).mono ?_
  rintro e w2 ⟨rfl, rfl⟩
  rw [HF.out]
  go_upto_region 4 with (fail)
  refine lx_plain [] (lasts_nil) ?_
  simp only [its, Nat.zero_add, Nat.reduceAdd]
  refine lx_val (by rfl) (.int .u8 (q : Int)) (fun X _ _ => by rfl) ?_
  simp only [Act.put, List.setIfInBounds_toArray, List.set_cons_succ, List.set_cons_zero]
  refine lx_val (by rfl) (.int .i64 (q : Int)) (fun X _ _ => exec_i64 _ _ .u8 Tryd.underlying5 Tryd.underlying3 _ (by rfl) q (by rfl) (by omega) (by omega) X) ?_
  simp only [Act.put, List.setIfInBounds_toArray, List.set_cons_succ, List.set_cons_zero]
  refine lx_val (by rfl) (.slice A n c) (fun X _ _ => by rfl) ?_
  simp only [Act.put, List.setIfInBounds_toArray, List.set_cons_succ, List.set_cons_zero]
  refine lx_val (by rfl) (.int .i64 (n : Int)) (fun X _ _ => exec_lenv Tryd.underlying27 _ (by rfl) A n c (by rfl) _ rfl X) ?_
  simp only [Act.put, List.setIfInBounds_toArray, List.set_cons_succ, List.set_cons_zero]
  refine lx_val (by rfl) (.int .i64 ((n : Int) + 1)) (fun X _ _ => exec_add _ _ _ _ (by rfl) n 1 _ (by rfl) (by rfl) rfl (by omega) (by omega) X) ?_
  simp only [Act.put, List.setIfInBounds_toArray, List.set_cons_succ, List.set_cons_zero]
  refine lx_val (by rfl) (.int .i64 (K : Int)) (fun X _ _ => exec_rem _ _ _ _ (by rfl) .i64 q (n + 1) _ (by rfl) (by rfl) (by omega) (by omega) HKQ.out X) ?_
  simp only [Act.put, List.setIfInBounds_toArray, List.set_cons_succ, List.set_cons_zero]
  refine lx_val (by rfl) (.int .i64 (K : Int)) (fun X _ _ => by rfl) ?_
  simp only [Act.put, List.setIfInBounds_toArray, List.set_cons_succ, List.set_cons_zero]
  refine lx_nil ?_
  intro W0 hW0 _
  have c1 := bel_next c0 hW0
  clear hW0 c0
  go_wp2_with fail
  refine (beginC _).mono ?_
  rintro e w2 ⟨v2, rfl, hI2, hb⟩
  have c2 := bel_next c1 hb
  clear hb c1
  obtain ⟨S0, rfl, hl0, h10⟩ := isStr_open hI2
  have HL0 := Lib.hid hl0
  clear hl0
  go_wp2_with ((with_reducible show wpList _ _ _ (⟨none, .store 34 _ _, _, _, _, _⟩ :: _) _ _); refine op_store_new w2 _ _ rfl 34 (.tmp 9) (.tmp 32) rfl rfl S0.toArray rfl (by simp [HL0.out, z73_len]) (by simpa using h10) (by simp [HL0.out, size_st]) ?_)
  have B9 : StB [] (w2.alloc (.cells S0.toArray 34)) w2.heap.size := ⟨S0, hI2, HL0.out, Blk.new rfl⟩
  have c3 := bel_alloc c2 (.cells S0.toArray 34)
  have hg9 : w.heap.size ≤ w2.heap.size := c2.size
  generalize w2.alloc (.cells S0.toArray 34) = W3 at B9 c3 ⊢
  generalize w2.heap.size = g9 at B9 hg9 ⊢
  clear c2 hI2 HL0 h10
  go_loopw [10] (fun i wr => ∃ k : Nat, k ≤ K ∧ i = .int .i64 (k : Int) ∧ StB (cat (ss.take k)) wr g9 ∧ Below w.heap.size w wr) (fun i _ => K - (intOf i).toNat)
  case atStart => exact ⟨0, by omega, rfl, B9, c3⟩
  case round =>
    clear B9 c3
    obtain ⟨k, hk, rfl, B9, c3⟩ := hrel
    by_cases hlt : k < K
    · obtain ⟨b, off, s, rfl, hbb, hc, hm, hd⟩ := (hrX.out _ c3).atG (k := k) (by rw [HN.out]; omega)
      obtain ⟨S, hI, hSl, hB⟩ := B9
      have hsl := hs4 s hm
      have hpl := HLE.out k
      have HS := Lib.hid (cat_take ss hd.out)
      have HSL := Lib.hid hSl
      have hcX : ∀ X, Since wr X → X.cell? ⟨b, off + k * 1, none⟩ = some (.string ⟨s.toArray⟩) := fun X h => by rw [Nat.mul_one, Below.cell h (p := ⟨b, off + k, none⟩) hbb]; exact hc
      have HCX := Lib.hid hcX
      clear hcX hc hs hd hSl
      generalize cat (ss.take k) = p at hpl HS hI
      go_upto_region 9 with (fail)
      refine lx_region_tail [none, none, none, none, none, some (StV (p ++ s))] (by kernel_rfl) (by kernel_rfl) (by kernel_rfl) rfl (lasts_none (lasts_none (lasts_none (lasts_none (lasts_none (lasts_some (StV.lasts _) (lasts_nil))))))) ?_
      simp only [its, List.dropLast, Nat.zero_add, Nat.reduceAdd]
      refine lx_load (by rfl) 34 (.tmp 9) (by rfl) g9 0 (by rfl) _ Tryd.underlying34 rfl S hB.lt hB.cl (by rw [HSL.out]; exact size_st) ?_
      simp only [Act.put, List.setIfInBounds_toArray, List.set_cons_succ, List.set_cons_zero]
      refine lx_val (by rfl) (.slice (some ⟨b, off, none⟩) n c) (fun X _ _ => by rfl) ?_
      simp only [Act.put, List.setIfInBounds_toArray, List.set_cons_succ, List.set_cons_zero]
      refine lx_val (by rfl) (.int .i64 (k : Int)) (fun X _ _ => by rfl) ?_
      simp only [Act.put, List.setIfInBounds_toArray, List.set_cons_succ, List.set_cons_zero]
      refine lx_val (by rfl) (.pointer (some ⟨b, off + k * 1, none⟩)) (fun X _ _ => exec_ixv Tryd.underlying27 (show (Tryd.prog.info? 9).map (·.size) = some 1 by kernel_rfl) _ _ (by rfl) b off n c k (by omega) (by rfl) (by rfl) rfl X) ?_
      simp only [Act.put, List.setIfInBounds_toArray, List.set_cons_succ, List.set_cons_zero]
      refine lx_val (by rfl) (.string ⟨s.toArray⟩) (fun X hX _ => exec_ld 9 _ (by rfl) b (off + k * 1) (by rfl) _ X (HCX.out X hX) (fun X u h => load_str b (off + k * 1) X u h)) ?_
      simp only [Act.put, List.setIfInBounds_toArray, List.set_cons_succ, List.set_cons_zero]
      refine lx_make (by rfl) 17 _ _ (by rfl) [.agg S.toArray, .string ⟨s.toArray⟩] (by rfl) (fun _ => by go_simp) (fun X hX hF => (addC p s _ X hI (by omega) (HKK.out X (bel_next c3 hX))).mono fun e X' ⟨v, h1, h2, h3⟩ => ⟨v, h1, h2, h3⟩) ?_
      intro v43
      simp only [Act.put, List.setIfInBounds_toArray, List.set_cons_succ, List.set_cons_zero]
      refine lx_nil ?_
      intro X9 hX9 hF9
      have hI9 : IsStr (p ++ s) v43 := hF9 _ _ List.mem_cons_self
      have c4 := bel_next c3 hX9
      have hB9 := hB.bel hX9
      clear hX9 hF9 c3 hB
      obtain ⟨S', rfl, hl', h1'⟩ := isStr_open hI9
      have HL' := Lib.hid hl'
      clear hl'
      go_wp2_with ((with_reducible show wpList _ _ _ (⟨none, .store 34 _ _, _, _, _, _⟩ :: _) _ _); refine op_store_blk rfl 34 (.tmp 9) (.tmp 43) rfl g9 34 S hB9 rfl S' rfl (by rw [HL'.out, HSL.out]) h1' (by rw [HL'.out]; exact size_st) ?_; intro w9 hC9 hoth9 hbel9 hsz9)
      go_roundw
      case rel => exact ⟨k + 1, by omega, by go_num, by rw [HS.out]; exact ⟨S', hI9, HL'.out, hC9⟩, hbel9 _ _ c4 hg9⟩
      case measure => simp [intOf]; omega
    · obtain rfl : k = K := by omega
      obtain ⟨S, hI, hSl, hB⟩ := B9
      have HSL := Lib.hid hSl
      obtain ⟨S9, e9, _, hS91⟩ := isStr_open hI
      injection e9 with e9
      have e9 := List.toArray_inj e9
      subst e9
      clear hSl
      go_upto_region 11 with (first
        | ((with_reducible show wpList _ _ _ (⟨some 44, _, _, _, _, _⟩ :: _) _ _); refine op_load_agg rfl 34 (.tmp 9) rfl g9 0 rfl _ Tryd.underlying34 rfl S hB.cl (by rw [HSL.out]; exact size_st) ?_)
        | ((with_reducible show wpList _ _ _ (⟨none, .store 34 _ _, _, _, _, _⟩ :: _) _ _); refine op_store_new wr _ _ rfl 34 (.tmp 11) (.tmp 44) rfl rfl S.toArray rfl (by simp [HSL.out, z73_len]) (by simpa using hS91) (by simp [HSL.out, size_st]) ?_))
      have B11 : StB (cat (ss.take k)) (wr.alloc (.cells S.toArray 34)) wr.heap.size := ⟨S, hI, HSL.out, Blk.new rfl⟩
      have B9 : StB (cat (ss.take k)) (wr.alloc (.cells S.toArray 34)) g9 := ⟨S, hI, HSL.out, hB.alloc _⟩
      have c4 := bel_alloc c3 (.cells S.toArray 34)
      have hg11 : g9 < wr.heap.size := hB.lt
      generalize wr.alloc (.cells S.toArray 34) = W4 at B9 B11 c4 ⊢
      generalize wr.heap.size = g11 at B11 hg11 ⊢
      clear c3 hI HSL hS91 hB hk hlt
      go_wp2
      go_loopw [12] (fun i wr => ∃ j : Nat, k ≤ j ∧ j ≤ n ∧ i = .int .i64 (j : Int) ∧ StB (cat (ss.take j)) wr g9 ∧ StB (cat (ss.take k)) wr g11 ∧ Below w.heap.size w wr) (fun i _ => n - (intOf i).toNat)
      case atStart => exact ⟨k, by omega, by omega, rfl, B9, B11, c4⟩
      case round =>
        clear B9 B11 c4
        obtain ⟨j, hj, hjn, rfl, B9, B11, c4⟩ := hrel
        by_cases hlt : j < n
        · obtain ⟨b, off, s, rfl, hbb, hc, hm, hd⟩ := (hrX.out _ c4).atG (k := j) (by rw [HN.out]; omega)
          obtain ⟨S, hI, hSl, hB⟩ := B9
          have hsl := hs4 s hm
          have hpl := HLE.out j
          have HS := Lib.hid (cat_take ss hd.out)
          have HSL := Lib.hid hSl
          have hcX : ∀ X, Since wr X → X.cell? ⟨b, off + j * 1, none⟩ = some (.string ⟨s.toArray⟩) := fun X h => by rw [Nat.mul_one, Below.cell h (p := ⟨b, off + j, none⟩) hbb]; exact hc
          have HCX := Lib.hid hcX
          clear hcX hc hs hd hSl
          generalize hp : cat (ss.take j) = p at hpl HS hI
          clear hp
          go_upto_region 14 with (fail)
          refine lx_region_tail [none, none, none, none, none, some (StV (p ++ s))] (by kernel_rfl) (by kernel_rfl) (by kernel_rfl) rfl (lasts_none (lasts_none (lasts_none (lasts_none (lasts_none (lasts_some (StV.lasts _) (lasts_nil))))))) ?_
          simp only [its, List.dropLast, Nat.zero_add, Nat.reduceAdd]
          refine lx_load (by rfl) 34 (.tmp 9) (by rfl) g9 0 (by rfl) _ Tryd.underlying34 rfl S hB.lt hB.cl (by rw [HSL.out]; exact size_st) ?_
          simp only [Act.put, List.setIfInBounds_toArray, List.set_cons_succ, List.set_cons_zero]
          refine lx_val (by rfl) (.slice (some ⟨b, off, none⟩) n c) (fun X _ _ => by rfl) ?_
          simp only [Act.put, List.setIfInBounds_toArray, List.set_cons_succ, List.set_cons_zero]
          refine lx_val (by rfl) (.int .i64 (j : Int)) (fun X _ _ => by rfl) ?_
          simp only [Act.put, List.setIfInBounds_toArray, List.set_cons_succ, List.set_cons_zero]
          refine lx_val (by rfl) (.pointer (some ⟨b, off + j * 1, none⟩)) (fun X _ _ => exec_ixv Tryd.underlying27 (show (Tryd.prog.info? 9).map (·.size) = some 1 by kernel_rfl) _ _ (by rfl) b off n c j (by omega) (by rfl) (by rfl) rfl X) ?_
          simp only [Act.put, List.setIfInBounds_toArray, List.set_cons_succ, List.set_cons_zero]
          refine lx_val (by rfl) (.string ⟨s.toArray⟩) (fun X hX _ => exec_ld 9 _ (by rfl) b (off + j * 1) (by rfl) _ X (HCX.out X hX) (fun X u h => load_str b (off + j * 1) X u h)) ?_
          simp only [Act.put, List.setIfInBounds_toArray, List.set_cons_succ, List.set_cons_zero]
          refine lx_make (by rfl) 17 _ _ (by rfl) [.agg S.toArray, .string ⟨s.toArray⟩] (by rfl) (fun _ => by go_simp) (fun X hX hF => (addC p s _ X hI (by omega) (HKK.out X (bel_next c4 hX))).mono fun e X' ⟨v, h1, h2, h3⟩ => ⟨v, h1, h2, h3⟩) ?_
          intro v57
          simp only [Act.put, List.setIfInBounds_toArray, List.set_cons_succ, List.set_cons_zero]
          refine lx_nil ?_
          intro X9 hX9 hF9
          have hI9 : IsStr (p ++ s) v57 := hF9 _ _ List.mem_cons_self
          have c5 := bel_next c4 hX9
          have hB9 := hB.bel hX9
          have B11 := B11.bel hX9
          clear hX9 hF9 c4 hB
          obtain ⟨S', rfl, hl', h1'⟩ := isStr_open hI9
          obtain ⟨T, hIT, hTl, hBT⟩ := B11
          have HL' := Lib.hid hl'
          have HTL := Lib.hid hTl
          clear hl' hTl
          go_wp2_with ((with_reducible show wpList _ _ _ (⟨none, .store 34 _ _, _, _, _, _⟩ :: _) _ _); refine op_store_blk rfl 34 (.tmp 9) (.tmp 57) rfl g9 34 S hB9 rfl S' rfl (by rw [HL'.out, HSL.out]) h1' (by rw [HL'.out]; exact size_st) ?_; intro w9 hC9 hoth9 hbel9 hsz9)
          go_roundw
          case rel => exact ⟨j + 1, by omega, by omega, by go_num, by rw [HS.out]; exact ⟨S', hI9, HL'.out, hC9⟩, ⟨T, hIT, HTL.out, hoth9 _ _ _ (by omega) hBT⟩, hbel9 _ _ c5 hg9⟩
          case measure => simp [intOf]; omega
        · obtain rfl : j = n := by omega
          obtain ⟨S, hI, hSl, hB⟩ := B9
          obtain ⟨T, hIT, hTl, hBT⟩ := B11
          have ht : ss.take j = ss := List.take_of_length_le (by rw [HN.out]; omega)
          have hpl := HLE.out j
          have hkl := HLE.out k
          rw [ht] at hI hpl
          have hml : (cat (ss.take k) ++ ot).length ≤ 6000 := by rw [List.length_append]; omega
          have hlA := sha_len (cat ss)
          have hlB := sha_len (cat (ss.take k))
          have hlC := sha_len (cat (ss.take k) ++ ot)
          have HSL := Lib.hid hSl
          have HTL := Lib.hid hTl
          have HLA := Lib.hid hlA
          have HLB := Lib.hid hlB
          have HLC := Lib.hid hlC
          clear hSl hTl hlA hlB hlC ht hlt
          obtain ⟨M1, hM1⟩ : ∃ m, m = cat ss := ⟨_, rfl⟩
          obtain ⟨M2, hM2⟩ : ∃ m, m = cat (ss.take k) := ⟨_, rfl⟩
          rw [← hM1] at hI hpl HLA
          rw [← hM2] at hIT hml hkl HLB HLC
          have HM1 : Hid (∀ _ : Unit, cat ss = M1) := fun _ => hM1.symm
          have HM2 : Hid (∀ _ : Unit, cat (ss.take k) = M2) := fun _ => hM2.symm
          have hcm := hcat M2 ot
          have HCM : Hid ((⟨M2.toArray⟩ : ByteArray) ++ ⟨ot.toArray⟩ = ⟨(M2 ++ ot).toArray⟩) := hcm
          clear hM1 hM2 hcm
          go_wp2_with ((with_reducible show wpList _ _ _ (⟨some 58, _, _, _, _, _⟩ :: _) _ _); refine op_load_agg rfl 34 (.tmp 11) rfl g11 0 rfl _ Tryd.underlying34 rfl T hBT.cl (by rw [HTL.out]; exact size_st) ?_)
          refine (addC M2 ot _ _ hIT (by omega) (HKK.out _ c4)).mono ?_
          rintro e w5 ⟨v5, rfl, hI5, hb⟩
          have hB := hB.bel hb
          have hBT := hBT.bel hb
          have c5 := bel_next c4 hb
          clear hb c4
          obtain ⟨U, rfl, hUl, hU1⟩ := isStr_open hI5
          have HUL := Lib.hid hUl
          clear hUl
          go_upto_region 16 with ((with_reducible show wpList _ _ _ (⟨none, .store 34 _ _, _, _, _, _⟩ :: _) _ _); refine op_store_new w5 _ _ rfl 34 (.tmp 13) (.tmp 60) rfl rfl U.toArray rfl (by simp [HUL.out, z73_len]) (by simpa using hU1) (by simp [HUL.out, size_st]) ?_)
          have hBU : Blk (w5.alloc (.cells U.toArray 34)) w5.heap.size 34 U := Blk.new rfl
          have hB := hB.alloc (.cells U.toArray 34)
          have hBT := hBT.alloc (.cells U.toArray 34)
          have c6 := bel_alloc c5 (.cells U.toArray 34)
          generalize w5.alloc (.cells U.toArray 34) = W6 at hB hBT hBU c6 ⊢
          generalize w5.heap.size = g13 at hBU ⊢
          clear c5
          go_wp2_with fail
          refine (joinedC _ _ _ ss _ (hrX.out _ c6) hn2 hs4).mono ?_
          rintro e w7 ⟨rfl, rfl⟩
          rw [HM1.out ()]
          go_upto_region 17 with (fail)
          refine lx_plain_to 3 [] lasts_nil ?_
          simp only [its, List.take, List.drop, Nat.zero_add, Nat.reduceAdd]
          refine lx_val (by rfl) (.slice A j c) (fun X _ _ => by rfl) ?_
          simp only [Act.put, List.setIfInBounds_toArray, List.set_cons_succ, List.set_cons_zero]
          refine lx_val (by rfl) (.int .i64 (k : Int)) (fun X _ _ => by rfl) ?_
          simp only [Act.put, List.setIfInBounds_toArray, List.set_cons_succ, List.set_cons_zero]
          refine lx_val (by rfl) (.slice A k c) (fun X _ _ => exec_pre Tryd.underlying27 (show (Tryd.prog.info? 9).map (·.size) = some 1 by kernel_rfl) _ _ (by rfl) A j c k (by omega) (by rfl) (by rfl) rfl X) ?_
          simp only [Act.put, List.setIfInBounds_toArray, List.set_cons_succ, List.set_cons_zero]
          refine lx_nil ?_
          intro W7 hW7 _
          have hB := hB.bel hW7
          have hBT := hBT.bel hW7
          have hBU := hBU.bel hW7
          have c7 := bel_next c6 hW7
          clear hW7 c6
          go_wp2_with fail
          refine (joinedC _ _ _ (ss.take k) _ ((hrX.out _ c7).pre_take (by omega)) (by omega) (fun s hs => hs4 s (List.mem_of_mem_take hs))).mono ?_
          rintro e w8 ⟨rfl, rfl⟩
          rw [HM2.out ()]
          go_upto_region 18 with (fail)
          refine lx_plain [none, none, none, none, none, some (Bts (M1)), none, none, none, none, none, none, none, some (Bts (M2)), none, none, none, none, none, none, none, none, none, some (Bts (M2 ++ ot))] (lasts_none (lasts_none (lasts_none (lasts_none (lasts_none (lasts_some (Bts.lasts _) (lasts_none (lasts_none (lasts_none (lasts_none (lasts_none (lasts_none (lasts_none (lasts_some (Bts.lasts _) (lasts_none (lasts_none (lasts_none (lasts_none (lasts_none (lasts_none (lasts_none (lasts_none (lasts_none (lasts_some (Bts.lasts _) (lasts_nil))))))))))))))))))))))))) ?_
          simp only [its, Nat.zero_add, Nat.reduceAdd]
          refine lx_val (by rfl) (.bool true) (fun X _ _ => by rfl) ?_
          simp only [Act.put, List.setIfInBounds_toArray, List.set_cons_succ, List.set_cons_zero]
          refine lx_val (by rfl) (.bool true) (fun X _ _ => by rfl) ?_
          simp only [Act.put, List.setIfInBounds_toArray, List.set_cons_succ, List.set_cons_zero]
          refine lx_load (by rfl) 34 (.tmp 9) (by rfl) g9 0 (by rfl) _ Tryd.underlying34 rfl S hB.lt hB.cl (by rw [HSL.out]; exact size_st) ?_
          simp only [Act.put, List.setIfInBounds_toArray, List.set_cons_succ, List.set_cons_zero]
          refine lx_call (by rfl) 19 _ _ (by rfl) (.agg ((sha (M1)).map B8).toArray) [.agg S.toArray] (by rfl) (by kernel_rfl) (fun _ => by go_simp) (fun X hX hF => sumC (M1) _ X hI (by omega) (HKK.out X (bel_next c7 hX))) ?_
          simp only [Act.put, List.setIfInBounds_toArray, List.set_cons_succ, List.set_cons_zero]
          refine lx_val (by rfl) (.string ⟨M1.toArray⟩) (fun X _ _ => by rfl) ?_
          simp only [Act.put, List.setIfInBounds_toArray, List.set_cons_succ, List.set_cons_zero]
          refine lx_bytes (by rfl) 9 22 5 _ (by rfl) (M1) (by rfl) Tryd.underlying9 Tryd.underlying22 Tryd.underlying5 (by omega) ?_
          intro v72
          simp only [Act.put, List.setIfInBounds_toArray, List.set_cons_succ, List.set_cons_zero]
          refine lx_call (by rfl) 13 _ _ (by rfl) (.agg ((sha (M1)).map B8).toArray) [v72] (by rfl) (by kernel_rfl) (fun _ => by go_simp) (fun X hX hF => by obtain ⟨A9, c9, h9, hR9⟩ := hF _ _ List.mem_cons_self rfl; subst h9; exact hashC _ _ _ (M1) X hR9 (by omega) (HKK.out X (bel_next c7 hX))) ?_
          simp only [Act.put, List.setIfInBounds_toArray, List.set_cons_succ, List.set_cons_zero]
          refine lx_val (by rfl) (.bool true) (fun X _ _ => exec_cmp_agg .eql 24 _ (.tmp 70) (.tmp 73) (by rfl) ((sha (M1)).map B8).toArray ((sha (M1)).map B8).toArray (by rfl) (by rfl) eqm32 _ _ ((eql32 X _ _ HLA.out HLA.out).trans (by rw [beq_self_eq_true]))) ?_
          simp only [Act.put, List.setIfInBounds_toArray, List.set_cons_succ, List.set_cons_zero]
          refine lx_val (by rfl) (.bool true) (fun X _ _ => by rfl) ?_
          simp only [Act.put, List.setIfInBounds_toArray, List.set_cons_succ, List.set_cons_zero]
          refine lx_val (by rfl) (.bool true) (fun X _ _ => by rfl) ?_
          simp only [Act.put, List.setIfInBounds_toArray, List.set_cons_succ, List.set_cons_zero]
          refine lx_load (by rfl) 34 (.tmp 11) (by rfl) g11 0 (by rfl) _ Tryd.underlying34 rfl T hBT.lt hBT.cl (by rw [HTL.out]; exact size_st) ?_
          simp only [Act.put, List.setIfInBounds_toArray, List.set_cons_succ, List.set_cons_zero]
          refine lx_call (by rfl) 19 _ _ (by rfl) (.agg ((sha (M2)).map B8).toArray) [.agg T.toArray] (by rfl) (by kernel_rfl) (fun _ => by go_simp) (fun X hX hF => sumC (M2) _ X hIT (by omega) (HKK.out X (bel_next c7 hX))) ?_
          simp only [Act.put, List.setIfInBounds_toArray, List.set_cons_succ, List.set_cons_zero]
          refine lx_val (by rfl) (.string ⟨M2.toArray⟩) (fun X _ _ => by rfl) ?_
          simp only [Act.put, List.setIfInBounds_toArray, List.set_cons_succ, List.set_cons_zero]
          refine lx_bytes (by rfl) 9 22 5 _ (by rfl) (M2) (by rfl) Tryd.underlying9 Tryd.underlying22 Tryd.underlying5 (by omega) ?_
          intro v80
          simp only [Act.put, List.setIfInBounds_toArray, List.set_cons_succ, List.set_cons_zero]
          refine lx_call (by rfl) 13 _ _ (by rfl) (.agg ((sha (M2)).map B8).toArray) [v80] (by rfl) (by kernel_rfl) (fun _ => by go_simp) (fun X hX hF => by obtain ⟨A9, c9, h9, hR9⟩ := hF _ _ List.mem_cons_self rfl; subst h9; exact hashC _ _ _ (M2) X hR9 (by omega) (HKK.out X (bel_next c7 hX))) ?_
          simp only [Act.put, List.setIfInBounds_toArray, List.set_cons_succ, List.set_cons_zero]
          refine lx_val (by rfl) (.bool true) (fun X _ _ => exec_cmp_agg .eql 24 _ (.tmp 78) (.tmp 81) (by rfl) ((sha (M2)).map B8).toArray ((sha (M2)).map B8).toArray (by rfl) (by rfl) eqm32 _ _ ((eql32 X _ _ HLB.out HLB.out).trans (by rw [beq_self_eq_true]))) ?_
          simp only [Act.put, List.setIfInBounds_toArray, List.set_cons_succ, List.set_cons_zero]
          refine lx_val (by rfl) (.bool true) (fun X _ _ => by rfl) ?_
          simp only [Act.put, List.setIfInBounds_toArray, List.set_cons_succ, List.set_cons_zero]
          refine lx_val (by rfl) (.bool true) (fun X _ _ => by rfl) ?_
          simp only [Act.put, List.setIfInBounds_toArray, List.set_cons_succ, List.set_cons_zero]
          refine lx_load (by rfl) 34 (.tmp 13) (by rfl) g13 0 (by rfl) _ Tryd.underlying34 rfl U hBU.lt hBU.cl (by rw [HUL.out]; exact size_st) ?_
          simp only [Act.put, List.setIfInBounds_toArray, List.set_cons_succ, List.set_cons_zero]
          refine lx_call (by rfl) 19 _ _ (by rfl) (.agg ((sha (M2 ++ ot)).map B8).toArray) [.agg U.toArray] (by rfl) (by kernel_rfl) (fun _ => by go_simp) (fun X hX hF => sumC (M2 ++ ot) _ X hI5 (by omega) (HKK.out X (bel_next c7 hX))) ?_
          simp only [Act.put, List.setIfInBounds_toArray, List.set_cons_succ, List.set_cons_zero]
          refine lx_val (by rfl) (.string ⟨M2.toArray⟩) (fun X _ _ => by rfl) ?_
          simp only [Act.put, List.setIfInBounds_toArray, List.set_cons_succ, List.set_cons_zero]
          refine lx_val (by rfl) (.string ⟨ot.toArray⟩) (fun X _ _ => by rfl) ?_
          simp only [Act.put, List.setIfInBounds_toArray, List.set_cons_succ, List.set_cons_zero]
          refine lx_val (by rfl) (.string ⟨(M2 ++ ot).toArray⟩) (fun X _ _ => exec_cat _ _ _ _ (by rfl) M2 ot (by rfl) (by rfl) (by omega) X) ?_
          simp only [Act.put, List.setIfInBounds_toArray, List.set_cons_succ, List.set_cons_zero]
          refine lx_bytes (by rfl) 9 22 5 _ (by rfl) (M2 ++ ot) (by rfl) Tryd.underlying9 Tryd.underlying22 Tryd.underlying5 (by omega) ?_
          intro v90
          simp only [Act.put, List.setIfInBounds_toArray, List.set_cons_succ, List.set_cons_zero]
          refine lx_call (by rfl) 13 _ _ (by rfl) (.agg ((sha (M2 ++ ot)).map B8).toArray) [v90] (by rfl) (by kernel_rfl) (fun _ => by go_simp) (fun X hX hF => by obtain ⟨A9, c9, h9, hR9⟩ := hF _ _ List.mem_cons_self rfl; subst h9; exact hashC _ _ _ (M2 ++ ot) X hR9 (by omega) (HKK.out X (bel_next c7 hX))) ?_
          simp only [Act.put, List.setIfInBounds_toArray, List.set_cons_succ, List.set_cons_zero]
          refine lx_val (by rfl) (.bool true) (fun X _ _ => exec_cmp_agg .eql 24 _ (.tmp 86) (.tmp 91) (by rfl) ((sha (M2 ++ ot)).map B8).toArray ((sha (M2 ++ ot)).map B8).toArray (by rfl) (by rfl) eqm32 _ _ ((eql32 X _ _ HLC.out HLC.out).trans (by rw [beq_self_eq_true]))) ?_
          simp only [Act.put, List.setIfInBounds_toArray, List.set_cons_succ, List.set_cons_zero]
          refine lx_val (by rfl) (.bool true) (fun X _ _ => by rfl) ?_
          simp only [Act.put, List.setIfInBounds_toArray, List.set_cons_succ, List.set_cons_zero]
          refine lx_val (by rfl) (.bool true) (fun X _ _ => by rfl) ?_
          simp only [Act.put, List.setIfInBounds_toArray, List.set_cons_succ, List.set_cons_zero]
          refine lx_nil ?_
          intro X9 hX9 _
          go_wp2
          go_ret
          exact ⟨rfl, bel_next c7 hX9⟩

theorem strW (A : Option Addr) (n c : Nat) (ss : List (List UInt8)) (ot : List UInt8) (q : Nat) (w : World) (hr : Rd w 1 (.slice A n c) n (ss.map tx)) (hq : q ≤ 255) (hn : n ≤ 140737488355328) (hs : ∀ s ∈ ss, s.length ≤ 140737488355328) (hol : ot.length ≤ 140737488355328) (hK : KK w) :
    Calls Tryd.prog 4 #[.slice A n c, .string ⟨ot.toArray⟩, .int .u8 (q : Int)] w fun e w' => e = .returned (.bool true) ∧ Below w.heap.size w w' := by
  cases hf : fewB ss with
  | false => exact strBad1 A n c ss ot q w hr hq hn hs hol hK hf
  | true =>
    by_cases h4 : 400 < ot.length
    · exact strBad2 A n c ss ot q w hr hq hn hs hol hK hf h4
    · exact strGood A n c ss ot q w hr hq hn hs hol hK hf (by omega) _ rfl
theorem strI (A : Option Addr) (n c : Nat) (ss : List (List UInt8)) (ot : List UInt8) (z : Int) (w : World) (hr : Rd w 1 (.slice A n c) n (ss.map tx)) (hz0 : 0 ≤ z) (hz1 : z ≤ 255) (hn : n ≤ 140737488355328) (hs : ∀ s ∈ ss, s.length ≤ 140737488355328) (hol : ot.length ≤ 140737488355328) (hK : KK w) :
    Calls Tryd.prog 4 #[.slice A n c, .string ⟨ot.toArray⟩, .int .u8 z] w fun e w' => e = .returned (.bool true) ∧ Below w.heap.size w w' := by
  obtain ⟨q, rfl⟩ : ∃ q : Nat, z = (q : Int) := ⟨z.toNat, by omega⟩
  exact strW A n c ss ot q w hr (by omega) hn hs hol hK
end Go.Proofs.YtmmomcililideaaDoor
