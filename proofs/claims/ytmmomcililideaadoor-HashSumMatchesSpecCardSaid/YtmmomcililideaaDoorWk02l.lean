/-
  The reference's hash of bytes: the walk.
-/
import Derived.Test.YtmmomcililideaaDoorWk02j
import Derived.Test.YtmmomcililideaaDoorWk02e
import Derived.Test.YtmmomcililideaaDoorWk02h
import Derived.Test.YtmmomcililideaaDoorQw
set_option linter.unusedSimpArgs false
set_option linter.unusedVariables false
namespace Go.Proofs.YtmmomcililideaaDoor
open Go.RowKit

theorem zero32' : ∀ w : World, (zeroValue 24).run Tryd.prog w = .ok (.agg o32.toArray) w := fun _ => by kernel_rfl
theorem absorb_at {m : List UInt8} {p : Nat} (hp : p % 64 = 0) : absorbN ((p + 64) / 64) iv m = comp (absorbN (p / 64) iv m) ((m.drop p).take 64) := by
  have e : (p + 64) / 64 = p / 64 + 1 := by omega
  have e2 : 64 * (p / 64) = p := by omega
  rw [e, absorbN_succ, e2]
theorem iv_arr : (#[.int .u32 1779033703, .int .u32 3144134277, .int .u32 1013904242, .int .u32 2773480762, .int .u32 1359893119, .int .u32 2600822924, .int .u32 528734635, .int .u32 1541459225] : Array Value) = (iv.l.map W4).toArray := by kernel_rfl

set_option maxRecDepth 100000 in
set_option maxHeartbeats 30000000 in
theorem rsumC (A : Option Addr) (n c : Nat) (b : List UInt8) (w : World) (hr : Rd w 1 (.slice A n c) n (b.map B8)) (hn : n ≤ 1048576) (hK : KK0 w) :
    Calls Tryd.prog 14 #[.slice A n c] w fun e w' => e = .returned (.agg ((sha b).map B8).toArray) ∧ Below w.heap.size w w' := by
  have hz := zero32'
  go_enter Tryd.func14, Tryd.ntmps14
  go_wp2_with fail
  have r0 := (hr.alloc (.cells o32.toArray 24)).alloc (.cells #[.int .u32 1779033703, .int .u32 3144134277, .int .u32 1013904242, .int .u32 2773480762, .int .u32 1359893119, .int .u32 2600822924, .int .u32 528734635, .int .u32 1541459225] 30)
  have B0 : Blk ((w.alloc (.cells o32.toArray 24)).alloc (.cells #[.int .u32 1779033703, .int .u32 3144134277, .int .u32 1013904242, .int .u32 2773480762, .int .u32 1359893119, .int .u32 2600822924, .int .u32 528734635, .int .u32 1541459225] 30)) w.heap.size 24 o32 := (Blk.new rfl).alloc _
  have B1 : Blk ((w.alloc (.cells o32.toArray 24)).alloc (.cells #[.int .u32 1779033703, .int .u32 3144134277, .int .u32 1013904242, .int .u32 2773480762, .int .u32 1359893119, .int .u32 2600822924, .int .u32 528734635, .int .u32 1541459225] 30)) (w.heap.size + 1) 30 (iv.l.map W4) := Blk.newAt iv_arr (by simp)
  have b0 : Below w.heap.size w ((w.alloc (.cells o32.toArray 24)).alloc (.cells #[.int .u32 1779033703, .int .u32 3144134277, .int .u32 1013904242, .int .u32 2773480762, .int .u32 1359893119, .int .u32 2600822924, .int .u32 528734635, .int .u32 1541459225] 30)) := ((Below.refl w.heap.size w).alloc (Nat.le_refl _) _).alloc (by simp) _
  have z0 : w.heap.size + 2 ≤ ((w.alloc (.cells o32.toArray 24)).alloc (.cells #[.int .u32 1779033703, .int .u32 3144134277, .int .u32 1013904242, .int .u32 2773480762, .int .u32 1359893119, .int .u32 2600822924, .int .u32 528734635, .int .u32 1541459225] 30)).heap.size := by simp
  generalize (w.alloc (.cells o32.toArray 24)).alloc (.cells #[.int .u32 1779033703, .int .u32 3144134277, .int .u32 1013904242, .int .u32 2773480762, .int .u32 1359893119, .int .u32 2600822924, .int .u32 528734635, .int .u32 1541459225] 30) = w1 at r0 B0 B1 b0 z0 ⊢
  refine (paddedC _ _ _ b _ r0 hn).mono ?_
  rintro e w2 ⟨A', c', rfl, hown, hb2⟩
  obtain ⟨b1, rfl, hbb, -⟩ := own_blk hown (by have := pad_pos b; omega)
  have hbb1 : w.heap.size + 2 ≤ b1 := Nat.le_trans z0 hbb
  have hRm := Rd.of_own hown
  clear hown hbb
  obtain rfl := hr.n_eq
  obtain ⟨m, hm⟩ : ∃ m, m = b ++ padding b.length := ⟨_, rfl⟩
  have hm64 := pad_mod b
  have hml := pad_le b
  have HSH : Hid (∀ _ : Unit, sha b = out32 (absorb iv m)) := fun _ => by rw [hm]; rfl
  rw [← hm] at hRm hm64 hml ⊢
  clear hm
  have B0 := B0.below hb2 B0.lt
  have B1 := B1.below hb2 B1.lt
  have b0 := b0.trans (hb2.mono b0.size)
  have z0 := Nat.le_trans z0 hb2.size
  clear r0 hb2
  obtain ⟨L, hL⟩ : ∃ L, L = m.length := ⟨_, rfl⟩
  rw [← hL] at hRm hm64 hml ⊢
  have HL := Lib.hid hL
  have hm64' : 64 * (L / 64) = L := by omega
  have HM64 := Lib.hid hm64'
  clear hL hm64 hm64' hr
  go_wp2
  go_loopw [5] (fun i wr => ∃ p : Nat, p ≤ L ∧ Hid (p % 64 = 0) ∧ i = .int .i64 (p : Int) ∧ Blk wr w.heap.size 24 o32 ∧ Blk wr (w.heap.size + 1) 30 ((absorbN (p / 64) iv m).l.map W4) ∧ Below w.heap.size w wr ∧ w.heap.size + 2 ≤ wr.heap.size ∧ Rd wr 1 (.slice (some ⟨b1, 0, none⟩) L c') L (m.map B8))
    (fun i _ => L - (intOf i).toNat)
  case atStart => exact ⟨0, by omega, rfl, rfl, B0, B1, b0, z0, hRm⟩
  case round =>
    clear B0 B1 b0 z0 hRm
    obtain ⟨p, hp, hp64, rfl, B0, B1, b0, z0, hRm⟩ := hrel
    by_cases hlt : p < L
    · have hp3 : p + 64 ≤ L := by have := hp64.out; have := HM64.out; omega
      have hb1 := hRm.blk_lt (by omega)
      have hcap := hRm.cap
      unfold maxLen at hcap
      obtain ⟨hc1, hc2⟩ := hcap
      have e64 : p + 64 - p = 64 := by omega
      obtain ⟨s, hs⟩ : ∃ s, s = absorbN (p / 64) iv m := ⟨_, rfl⟩
      obtain ⟨blk, hblk⟩ : ∃ blk, blk = (m.drop p).take 64 := ⟨_, rfl⟩
      have hrp := hRm.part (k := p) (m := 64) (by omega) hp3
      rw [← List.map_drop, ← List.map_take, ← hblk, Nat.zero_add] at hrp
      have HBL : Hid (blk.length = 64) := by have := HL.out; show _ = _; rw [hblk, List.length_take, List.length_drop]; omega
      have HNX : Hid (∀ _ : Unit, absorbN ((p + 64) / 64) iv m = comp s blk) := fun _ => by rw [hs, hblk]; exact absorb_at hp64.out
      rw [← hs] at B1
      clear hs hblk
      go_wp2_with fail
      (with_reducible refine (wordsC _ _ blk _ HBL.out hrp).mono ?_)
      rintro e w2 ⟨rfl, hb2⟩
      have B0 := B0.below hb2 B0.lt
      have B1 := B1.below hb2 B1.lt
      have b0 := b0.trans (hb2.mono b0.size)
      have z0 := Nat.le_trans z0 hb2.size
      have hRm := hRm.below hb2
      have hbg : b1 < w2.heap.size := Nat.lt_of_lt_of_le hb1 hb2.size
      clear hrp hb2
      go_wp2_with (first
        | ((with_reducible show wpList _ _ _ _ _ _); refine op_store_new w2 _ _ rfl 63 (.tmp 6) (.tmp 28) rfl rfl ((sw blk 64).map W4).toArray rfl (by simp [sw_len]) (by simpa using W4s_one _) (by simp [sw_len, size_w64]) ?_)
        | ((with_reducible show wpList _ _ _ _ _ _); refine op_load_agg rfl 30 (.tmp 3) rfl (w.heap.size + 1) 0 rfl _ Tryd.underlying30 rfl (s.l.map W4) (B1.alloc _).cl (by rw [l_len]; exact size_w8) ?_)
        | ((with_reducible show wpList _ _ _ _ _ _); refine op_store_at _ _ _ (w2.heap.size + 1) (by simp) rfl 30 (.tmp 7) (.tmp 29) rfl rfl (s.l.map W4).toArray rfl (by simp [S8.l]) (by simpa using W4s_one _) (by simp [S8.l, size_w8]) ?_))
      have hR : RW w ((w2.alloc (.cells ((sw blk 64).map W4).toArray 63)).alloc (.cells (s.l.map W4).toArray 30)) (w.heap.size + 1) w2.heap.size (w2.heap.size + 1) (s.l.map W4) (s.l.map W4) blk :=
        ⟨(B0.alloc _).alloc _, (B1.alloc _).alloc _, (Blk.new rfl).alloc _, Blk.newAt rfl (by simp), by omega, by omega, by omega, (b0.alloc b0.size _).alloc (by have := b0.size; simp; omega) _⟩
      have hRm4 := (hRm.alloc (.cells ((sw blk 64).map W4).toArray 63)).alloc (.cells (s.l.map W4).toArray 30)
      generalize ((w2.alloc (.cells ((sw blk 64).map W4).toArray 63)).alloc (.cells (s.l.map W4).toArray 30)) = w4 at hR hRm4 ⊢
      generalize hgv : w2.heap.size + 1 = gv at hR ⊢
      clear hgv
      generalize w2.heap.size = gW at hR hbg ⊢
      clear B0 B1 b0 hRm z0
      go_loopw [8] (fun i wr => ∃ t : Nat, t ≤ 64 ∧ i = .int .i64 (t : Int) ∧ RW w wr (w.heap.size + 1) gW gv (s.l.map W4) ((rnds s (sw blk 64) t).l.map W4) blk ∧ Rd wr 1 (.slice (some ⟨b1, 0, none⟩) L c') L (m.map B8))
        (fun i _ => 64 - (intOf i).toNat)
      case atStart => exact ⟨0, by omega, rfl, hR, hRm4⟩
      case round =>
        clear hR hRm4
        obtain ⟨t, ht, rfl, hR, hRm⟩ := hrel
        by_cases hlt64 : t < 64
        · have hKr := hK.below hR.bel hK.1
          have ck : wr.cell? ⟨0, t, none⟩ = some (.int .u32 (un (kk.getD t 0) : Int)) := by
            have := hKr.2 t _ (kk_get hlt64)
            rwa [Nat.zero_add] at this
          have cw : wr.cell? ⟨gW, t, none⟩ = some (.int .u32 (un ((sw blk 64).getD t 0) : Int)) := hR.BW.cell (sw_get hlt64)
          have HN : ∀ _ : Unit, rnds s (sw blk 64) (t + 1) = rnd (rnds s (sw blk 64) t) (kk.getD t 0) ((sw blk 64).getD t 0) := fun _ => rfl
          have HN := Lib.hid HN
          generalize rnds s (sw blk 64) t = st at hR HN
          generalize kk.getD t 0 = kt at ck HN
          generalize (sw blk 64).getD t 0 = wt at cw HN
          have v0 : wr.cell? ⟨gv, 0, none⟩ = some (.int .u32 (un st.a : Int)) := hR.BV.cell rfl
          have v1 : wr.cell? ⟨gv, 1, none⟩ = some (.int .u32 (un st.b : Int)) := hR.BV.cell rfl
          have v2 : wr.cell? ⟨gv, 2, none⟩ = some (.int .u32 (un st.c : Int)) := hR.BV.cell rfl
          have v3 : wr.cell? ⟨gv, 3, none⟩ = some (.int .u32 (un st.d : Int)) := hR.BV.cell rfl
          have v4 : wr.cell? ⟨gv, 4, none⟩ = some (.int .u32 (un st.e : Int)) := hR.BV.cell rfl
          have v5 : wr.cell? ⟨gv, 5, none⟩ = some (.int .u32 (un st.f : Int)) := hR.BV.cell rfl
          have v6 : wr.cell? ⟨gv, 6, none⟩ = some (.int .u32 (un st.g : Int)) := hR.BV.cell rfl
          have v7 : wr.cell? ⟨gv, 7, none⟩ = some (.int .u32 (un st.h : Int)) := hR.BV.cell rfl
          clear hKr
          obtain ⟨xx, hxx⟩ : ∃ x, x = xr st kt wt := ⟨_, rfl⟩
          obtain ⟨yy, hyy⟩ : ∃ y, y = yr st := ⟨_, rfl⟩
          have HXX := Lib.hid hxx
          have HYY := Lib.hid hyy
          clear hxx hyy
          go_wp2
          refine wp_region_qb (by kernel_rfl) (by kernel_rfl) ?_
          refine qb_idx (by rfl) 30 (.tmp 7) (.const (.int .i64 7)) (by rfl) (.pointer (some ⟨gv, 0, none⟩)) (.int .i64 ((7 : Nat) : Int)) (.pointer (some ⟨gv, 7, none⟩)) (by rfl) (by rfl) (ix8 gv 7 (by decide)) ?_
          simp only [Act.put, List.setIfInBounds_toArray, List.set_cons_succ, List.set_cons_zero]
          refine qb_cell (by rfl) 29 (.tmp 34) (by rfl) gv 7 (by rfl) (.int .u32 (un st.h : Int)) v7 (load_u32 _ _ _) ?_
          simp only [Act.put, List.setIfInBounds_toArray, List.set_cons_succ, List.set_cons_zero]
          refine qb_idx (by rfl) 30 (.tmp 7) (.const (.int .i64 4)) (by rfl) (.pointer (some ⟨gv, 0, none⟩)) (.int .i64 ((4 : Nat) : Int)) (.pointer (some ⟨gv, 4, none⟩)) (by rfl) (by rfl) (ix8 gv 4 (by decide)) ?_
          simp only [Act.put, List.setIfInBounds_toArray, List.set_cons_succ, List.set_cons_zero]
          refine qb_cell (by rfl) 29 (.tmp 36) (by rfl) gv 4 (by rfl) (.int .u32 (un st.e : Int)) v4 (load_u32 _ _ _) ?_
          simp only [Act.put, List.setIfInBounds_toArray, List.set_cons_succ, List.set_cons_zero]
          refine qb_call (by rfl) 37 [.tmp 37, .const (.int .i64 6)] _ (by rfl) (.int .u32 (un (rotr st.e 6) : Int)) [.int .u32 (un st.e : Int), .int .i64 6] (by rfl) (fun _ => by go_simp) (fun X hX => (rr6 st.e X).mono fun e X' ⟨h1, h2⟩ => ⟨h1, hX.nextN h2⟩) ?_
          simp only [Act.put, List.setIfInBounds_toArray, List.set_cons_succ, List.set_cons_zero]
          refine qb_idx (by rfl) 30 (.tmp 7) (.const (.int .i64 4)) (by rfl) (.pointer (some ⟨gv, 0, none⟩)) (.int .i64 ((4 : Nat) : Int)) (.pointer (some ⟨gv, 4, none⟩)) (by rfl) (by rfl) (ix8 gv 4 (by decide)) ?_
          simp only [Act.put, List.setIfInBounds_toArray, List.set_cons_succ, List.set_cons_zero]
          refine qb_cell (by rfl) 29 (.tmp 39) (by rfl) gv 4 (by rfl) (.int .u32 (un st.e : Int)) v4 (load_u32 _ _ _) ?_
          simp only [Act.put, List.setIfInBounds_toArray, List.set_cons_succ, List.set_cons_zero]
          refine qb_call (by rfl) 37 [.tmp 40, .const (.int .i64 11)] _ (by rfl) (.int .u32 (un (rotr st.e 11) : Int)) [.int .u32 (un st.e : Int), .int .i64 11] (by rfl) (fun _ => by go_simp) (fun X hX => (rr11 st.e X).mono fun e X' ⟨h1, h2⟩ => ⟨h1, hX.nextN h2⟩) ?_
          simp only [Act.put, List.setIfInBounds_toArray, List.set_cons_succ, List.set_cons_zero]
          refine qb_bin (by rfl) .xor 29 _ (.tmp 38) (.tmp 41) (by rfl) (.int .u32 (un (rotr st.e 6) : Int)) (.int .u32 (un (rotr st.e 11) : Int)) (.int .u32 (un ((rotr st.e 6) ^^^ (rotr st.e 11)) : Int)) (by rfl) (by rfl) (fun _ => rfl) (bxor (rotr st.e 6) (rotr st.e 11)) ?_
          simp only [Act.put, List.setIfInBounds_toArray, List.set_cons_succ, List.set_cons_zero]
          refine qb_idx (by rfl) 30 (.tmp 7) (.const (.int .i64 4)) (by rfl) (.pointer (some ⟨gv, 0, none⟩)) (.int .i64 ((4 : Nat) : Int)) (.pointer (some ⟨gv, 4, none⟩)) (by rfl) (by rfl) (ix8 gv 4 (by decide)) ?_
          simp only [Act.put, List.setIfInBounds_toArray, List.set_cons_succ, List.set_cons_zero]
          refine qb_cell (by rfl) 29 (.tmp 43) (by rfl) gv 4 (by rfl) (.int .u32 (un st.e : Int)) v4 (load_u32 _ _ _) ?_
          simp only [Act.put, List.setIfInBounds_toArray, List.set_cons_succ, List.set_cons_zero]
          refine qb_call (by rfl) 37 [.tmp 44, .const (.int .i64 25)] _ (by rfl) (.int .u32 (un (rotr st.e 25) : Int)) [.int .u32 (un st.e : Int), .int .i64 25] (by rfl) (fun _ => by go_simp) (fun X hX => (rr25 st.e X).mono fun e X' ⟨h1, h2⟩ => ⟨h1, hX.nextN h2⟩) ?_
          simp only [Act.put, List.setIfInBounds_toArray, List.set_cons_succ, List.set_cons_zero]
          refine qb_bin (by rfl) .xor 29 _ (.tmp 42) (.tmp 45) (by rfl) (.int .u32 (un ((rotr st.e 6) ^^^ (rotr st.e 11)) : Int)) (.int .u32 (un (rotr st.e 25) : Int)) (.int .u32 (un (((rotr st.e 6) ^^^ (rotr st.e 11)) ^^^ (rotr st.e 25)) : Int)) (by rfl) (by rfl) (fun _ => rfl) (bxor ((rotr st.e 6) ^^^ (rotr st.e 11)) (rotr st.e 25)) ?_
          simp only [Act.put, List.setIfInBounds_toArray, List.set_cons_succ, List.set_cons_zero]
          refine qb_bin (by rfl) .add 29 _ (.tmp 35) (.tmp 46) (by rfl) (.int .u32 (un st.h : Int)) (.int .u32 (un (((rotr st.e 6) ^^^ (rotr st.e 11)) ^^^ (rotr st.e 25)) : Int)) (.int .u32 (un (st.h + (((rotr st.e 6) ^^^ (rotr st.e 11)) ^^^ (rotr st.e 25))) : Int)) (by rfl) (by rfl) (fun _ => rfl) (badd st.h (((rotr st.e 6) ^^^ (rotr st.e 11)) ^^^ (rotr st.e 25))) ?_
          simp only [Act.put, List.setIfInBounds_toArray, List.set_cons_succ, List.set_cons_zero]
          refine qb_idx (by rfl) 30 (.tmp 7) (.const (.int .i64 4)) (by rfl) (.pointer (some ⟨gv, 0, none⟩)) (.int .i64 ((4 : Nat) : Int)) (.pointer (some ⟨gv, 4, none⟩)) (by rfl) (by rfl) (ix8 gv 4 (by decide)) ?_
          simp only [Act.put, List.setIfInBounds_toArray, List.set_cons_succ, List.set_cons_zero]
          refine qb_cell (by rfl) 29 (.tmp 48) (by rfl) gv 4 (by rfl) (.int .u32 (un st.e : Int)) v4 (load_u32 _ _ _) ?_
          simp only [Act.put, List.setIfInBounds_toArray, List.set_cons_succ, List.set_cons_zero]
          refine qb_idx (by rfl) 30 (.tmp 7) (.const (.int .i64 5)) (by rfl) (.pointer (some ⟨gv, 0, none⟩)) (.int .i64 ((5 : Nat) : Int)) (.pointer (some ⟨gv, 5, none⟩)) (by rfl) (by rfl) (ix8 gv 5 (by decide)) ?_
          simp only [Act.put, List.setIfInBounds_toArray, List.set_cons_succ, List.set_cons_zero]
          refine qb_cell (by rfl) 29 (.tmp 50) (by rfl) gv 5 (by rfl) (.int .u32 (un st.f : Int)) v5 (load_u32 _ _ _) ?_
          simp only [Act.put, List.setIfInBounds_toArray, List.set_cons_succ, List.set_cons_zero]
          refine qb_bin (by rfl) .and 29 _ (.tmp 49) (.tmp 51) (by rfl) (.int .u32 (un st.e : Int)) (.int .u32 (un st.f : Int)) (.int .u32 (un (st.e &&& st.f) : Int)) (by rfl) (by rfl) (fun _ => rfl) (band st.e st.f) ?_
          simp only [Act.put, List.setIfInBounds_toArray, List.set_cons_succ, List.set_cons_zero]
          refine qb_idx (by rfl) 30 (.tmp 7) (.const (.int .i64 4)) (by rfl) (.pointer (some ⟨gv, 0, none⟩)) (.int .i64 ((4 : Nat) : Int)) (.pointer (some ⟨gv, 4, none⟩)) (by rfl) (by rfl) (ix8 gv 4 (by decide)) ?_
          simp only [Act.put, List.setIfInBounds_toArray, List.set_cons_succ, List.set_cons_zero]
          refine qb_cell (by rfl) 29 (.tmp 53) (by rfl) gv 4 (by rfl) (.int .u32 (un st.e : Int)) v4 (load_u32 _ _ _) ?_
          simp only [Act.put, List.setIfInBounds_toArray, List.set_cons_succ, List.set_cons_zero]
          refine qb_bin (by rfl) .xor 29 _ (.tmp 54) (.const (.int .u32 4294967295)) (by rfl) (.int .u32 (un st.e : Int)) (.int .u32 4294967295) (.int .u32 (un (~~~st.e) : Int)) (by rfl) (by rfl) (fun _ => rfl) (not32b st.e) ?_
          simp only [Act.put, List.setIfInBounds_toArray, List.set_cons_succ, List.set_cons_zero]
          refine qb_idx (by rfl) 30 (.tmp 7) (.const (.int .i64 6)) (by rfl) (.pointer (some ⟨gv, 0, none⟩)) (.int .i64 ((6 : Nat) : Int)) (.pointer (some ⟨gv, 6, none⟩)) (by rfl) (by rfl) (ix8 gv 6 (by decide)) ?_
          simp only [Act.put, List.setIfInBounds_toArray, List.set_cons_succ, List.set_cons_zero]
          refine qb_cell (by rfl) 29 (.tmp 56) (by rfl) gv 6 (by rfl) (.int .u32 (un st.g : Int)) v6 (load_u32 _ _ _) ?_
          simp only [Act.put, List.setIfInBounds_toArray, List.set_cons_succ, List.set_cons_zero]
          refine qb_bin (by rfl) .and 29 _ (.tmp 55) (.tmp 57) (by rfl) (.int .u32 (un (~~~st.e) : Int)) (.int .u32 (un st.g : Int)) (.int .u32 (un ((~~~st.e) &&& st.g) : Int)) (by rfl) (by rfl) (fun _ => rfl) (band (~~~st.e) st.g) ?_
          simp only [Act.put, List.setIfInBounds_toArray, List.set_cons_succ, List.set_cons_zero]
          refine qb_bin (by rfl) .xor 29 _ (.tmp 52) (.tmp 58) (by rfl) (.int .u32 (un (st.e &&& st.f) : Int)) (.int .u32 (un ((~~~st.e) &&& st.g) : Int)) (.int .u32 (un ((st.e &&& st.f) ^^^ ((~~~st.e) &&& st.g)) : Int)) (by rfl) (by rfl) (fun _ => rfl) (bxor (st.e &&& st.f) ((~~~st.e) &&& st.g)) ?_
          simp only [Act.put, List.setIfInBounds_toArray, List.set_cons_succ, List.set_cons_zero]
          refine qb_bin (by rfl) .add 29 _ (.tmp 47) (.tmp 59) (by rfl) (.int .u32 (un (st.h + (((rotr st.e 6) ^^^ (rotr st.e 11)) ^^^ (rotr st.e 25))) : Int)) (.int .u32 (un ((st.e &&& st.f) ^^^ ((~~~st.e) &&& st.g)) : Int)) (.int .u32 (un ((st.h + (((rotr st.e 6) ^^^ (rotr st.e 11)) ^^^ (rotr st.e 25))) + ((st.e &&& st.f) ^^^ ((~~~st.e) &&& st.g))) : Int)) (by rfl) (by rfl) (fun _ => rfl) (badd (st.h + (((rotr st.e 6) ^^^ (rotr st.e 11)) ^^^ (rotr st.e 25))) ((st.e &&& st.f) ^^^ ((~~~st.e) &&& st.g))) ?_
          simp only [Act.put, List.setIfInBounds_toArray, List.set_cons_succ, List.set_cons_zero]
          refine qb_move (by rfl) (.tmp 8) (by rfl) (.int .i64 (t : Int)) (by rfl) ?_
          simp only [Act.put, List.setIfInBounds_toArray, List.set_cons_succ, List.set_cons_zero]
          refine qb_idx (by rfl) 63 (.global 0) (.tmp 61) (by rfl) (.pointer (some ⟨0, 0, none⟩)) (.int .i64 (t : Int)) (.pointer (some ⟨0, t, none⟩)) (by rfl) (by rfl) (ix64 0 t hlt64) ?_
          simp only [Act.put, List.setIfInBounds_toArray, List.set_cons_succ, List.set_cons_zero]
          refine qb_cell (by rfl) 29 (.tmp 62) (by rfl) 0 t (by rfl) (.int .u32 (un kt : Int)) ck (load_u32 _ _ _) ?_
          simp only [Act.put, List.setIfInBounds_toArray, List.set_cons_succ, List.set_cons_zero]
          refine qb_bin (by rfl) .add 29 _ (.tmp 60) (.tmp 63) (by rfl) (.int .u32 (un ((st.h + (((rotr st.e 6) ^^^ (rotr st.e 11)) ^^^ (rotr st.e 25))) + ((st.e &&& st.f) ^^^ ((~~~st.e) &&& st.g))) : Int)) (.int .u32 (un kt : Int)) (.int .u32 (un (((st.h + (((rotr st.e 6) ^^^ (rotr st.e 11)) ^^^ (rotr st.e 25))) + ((st.e &&& st.f) ^^^ ((~~~st.e) &&& st.g))) + kt) : Int)) (by rfl) (by rfl) (fun _ => rfl) (badd ((st.h + (((rotr st.e 6) ^^^ (rotr st.e 11)) ^^^ (rotr st.e 25))) + ((st.e &&& st.f) ^^^ ((~~~st.e) &&& st.g))) kt) ?_
          simp only [Act.put, List.setIfInBounds_toArray, List.set_cons_succ, List.set_cons_zero]
          refine qb_move (by rfl) (.tmp 8) (by rfl) (.int .i64 (t : Int)) (by rfl) ?_
          simp only [Act.put, List.setIfInBounds_toArray, List.set_cons_succ, List.set_cons_zero]
          refine qb_idx (by rfl) 63 (.tmp 6) (.tmp 65) (by rfl) (.pointer (some ⟨gW, 0, none⟩)) (.int .i64 (t : Int)) (.pointer (some ⟨gW, t, none⟩)) (by rfl) (by rfl) (ix64 gW t hlt64) ?_
          simp only [Act.put, List.setIfInBounds_toArray, List.set_cons_succ, List.set_cons_zero]
          refine qb_cell (by rfl) 29 (.tmp 66) (by rfl) gW t (by rfl) (.int .u32 (un wt : Int)) cw (load_u32 _ _ _) ?_
          simp only [Act.put, List.setIfInBounds_toArray, List.set_cons_succ, List.set_cons_zero]
          refine qb_bin (by rfl) .add 29 _ (.tmp 64) (.tmp 67) (by rfl) (.int .u32 (un (((st.h + (((rotr st.e 6) ^^^ (rotr st.e 11)) ^^^ (rotr st.e 25))) + ((st.e &&& st.f) ^^^ ((~~~st.e) &&& st.g))) + kt) : Int)) (.int .u32 (un wt : Int)) (.int .u32 (un ((((st.h + (((rotr st.e 6) ^^^ (rotr st.e 11)) ^^^ (rotr st.e 25))) + ((st.e &&& st.f) ^^^ ((~~~st.e) &&& st.g))) + kt) + wt) : Int)) (by rfl) (by rfl) (fun _ => rfl) (badd (((st.h + (((rotr st.e 6) ^^^ (rotr st.e 11)) ^^^ (rotr st.e 25))) + ((st.e &&& st.f) ^^^ ((~~~st.e) &&& st.g))) + kt) wt) ?_
          simp only [Act.put, List.setIfInBounds_toArray, List.set_cons_succ, List.set_cons_zero]
          refine qb_assign (by rfl) (.tmp 68) (by rfl) (.int .u32 (un xx : Int)) (by rw [HXX.out]; rfl) ?_
          simp only [Act.put, List.setIfInBounds_toArray, List.set_cons_succ, List.set_cons_zero]
          refine wpQuiet_nil ?_
          intro wq hSq
          have hR' := hR.since hSq
          have hRm' := hRm.below hSq
          clear v0 v1 v2 v3 v4 v5 v6 v7 cw ck hR hRm hSq
          · skip
            have v0 : wq.cell? ⟨gv, 0, none⟩ = some (.int .u32 (un st.a : Int)) := hR'.BV.cell rfl
            have v1 : wq.cell? ⟨gv, 1, none⟩ = some (.int .u32 (un st.b : Int)) := hR'.BV.cell rfl
            have v2 : wq.cell? ⟨gv, 2, none⟩ = some (.int .u32 (un st.c : Int)) := hR'.BV.cell rfl
            go_wp2
            refine wp_region_qb (by kernel_rfl) (by kernel_rfl) ?_
            refine qb_idx (by rfl) 30 (.tmp 7) (.const (.int .i64 0)) (by rfl) (.pointer (some ⟨gv, 0, none⟩)) (.int .i64 ((0 : Nat) : Int)) (.pointer (some ⟨gv, 0, none⟩)) (by rfl) (by rfl) (ix8 gv 0 (by decide)) ?_
            simp only [Act.put, List.setIfInBounds_toArray, List.set_cons_succ, List.set_cons_zero]
            refine qb_cell (by rfl) 29 (.tmp 69) (by rfl) gv 0 (by rfl) (.int .u32 (un st.a : Int)) v0 (load_u32 _ _ _) ?_
            simp only [Act.put, List.setIfInBounds_toArray, List.set_cons_succ, List.set_cons_zero]
            refine qb_call (by rfl) 37 [.tmp 70, .const (.int .i64 2)] _ (by rfl) (.int .u32 (un (rotr st.a 2) : Int)) [.int .u32 (un st.a : Int), .int .i64 2] (by rfl) (fun _ => by go_simp) (fun X hX => (rr2 st.a X).mono fun e X' ⟨h1, h2⟩ => ⟨h1, hX.nextN h2⟩) ?_
            simp only [Act.put, List.setIfInBounds_toArray, List.set_cons_succ, List.set_cons_zero]
            refine qb_idx (by rfl) 30 (.tmp 7) (.const (.int .i64 0)) (by rfl) (.pointer (some ⟨gv, 0, none⟩)) (.int .i64 ((0 : Nat) : Int)) (.pointer (some ⟨gv, 0, none⟩)) (by rfl) (by rfl) (ix8 gv 0 (by decide)) ?_
            simp only [Act.put, List.setIfInBounds_toArray, List.set_cons_succ, List.set_cons_zero]
            refine qb_cell (by rfl) 29 (.tmp 72) (by rfl) gv 0 (by rfl) (.int .u32 (un st.a : Int)) v0 (load_u32 _ _ _) ?_
            simp only [Act.put, List.setIfInBounds_toArray, List.set_cons_succ, List.set_cons_zero]
            refine qb_call (by rfl) 37 [.tmp 73, .const (.int .i64 13)] _ (by rfl) (.int .u32 (un (rotr st.a 13) : Int)) [.int .u32 (un st.a : Int), .int .i64 13] (by rfl) (fun _ => by go_simp) (fun X hX => (rr13 st.a X).mono fun e X' ⟨h1, h2⟩ => ⟨h1, hX.nextN h2⟩) ?_
            simp only [Act.put, List.setIfInBounds_toArray, List.set_cons_succ, List.set_cons_zero]
            refine qb_bin (by rfl) .xor 29 _ (.tmp 71) (.tmp 74) (by rfl) (.int .u32 (un (rotr st.a 2) : Int)) (.int .u32 (un (rotr st.a 13) : Int)) (.int .u32 (un ((rotr st.a 2) ^^^ (rotr st.a 13)) : Int)) (by rfl) (by rfl) (fun _ => rfl) (bxor (rotr st.a 2) (rotr st.a 13)) ?_
            simp only [Act.put, List.setIfInBounds_toArray, List.set_cons_succ, List.set_cons_zero]
            refine qb_idx (by rfl) 30 (.tmp 7) (.const (.int .i64 0)) (by rfl) (.pointer (some ⟨gv, 0, none⟩)) (.int .i64 ((0 : Nat) : Int)) (.pointer (some ⟨gv, 0, none⟩)) (by rfl) (by rfl) (ix8 gv 0 (by decide)) ?_
            simp only [Act.put, List.setIfInBounds_toArray, List.set_cons_succ, List.set_cons_zero]
            refine qb_cell (by rfl) 29 (.tmp 76) (by rfl) gv 0 (by rfl) (.int .u32 (un st.a : Int)) v0 (load_u32 _ _ _) ?_
            simp only [Act.put, List.setIfInBounds_toArray, List.set_cons_succ, List.set_cons_zero]
            refine qb_call (by rfl) 37 [.tmp 77, .const (.int .i64 22)] _ (by rfl) (.int .u32 (un (rotr st.a 22) : Int)) [.int .u32 (un st.a : Int), .int .i64 22] (by rfl) (fun _ => by go_simp) (fun X hX => (rr22 st.a X).mono fun e X' ⟨h1, h2⟩ => ⟨h1, hX.nextN h2⟩) ?_
            simp only [Act.put, List.setIfInBounds_toArray, List.set_cons_succ, List.set_cons_zero]
            refine qb_bin (by rfl) .xor 29 _ (.tmp 75) (.tmp 78) (by rfl) (.int .u32 (un ((rotr st.a 2) ^^^ (rotr st.a 13)) : Int)) (.int .u32 (un (rotr st.a 22) : Int)) (.int .u32 (un (((rotr st.a 2) ^^^ (rotr st.a 13)) ^^^ (rotr st.a 22)) : Int)) (by rfl) (by rfl) (fun _ => rfl) (bxor ((rotr st.a 2) ^^^ (rotr st.a 13)) (rotr st.a 22)) ?_
            simp only [Act.put, List.setIfInBounds_toArray, List.set_cons_succ, List.set_cons_zero]
            refine qb_idx (by rfl) 30 (.tmp 7) (.const (.int .i64 0)) (by rfl) (.pointer (some ⟨gv, 0, none⟩)) (.int .i64 ((0 : Nat) : Int)) (.pointer (some ⟨gv, 0, none⟩)) (by rfl) (by rfl) (ix8 gv 0 (by decide)) ?_
            simp only [Act.put, List.setIfInBounds_toArray, List.set_cons_succ, List.set_cons_zero]
            refine qb_cell (by rfl) 29 (.tmp 80) (by rfl) gv 0 (by rfl) (.int .u32 (un st.a : Int)) v0 (load_u32 _ _ _) ?_
            simp only [Act.put, List.setIfInBounds_toArray, List.set_cons_succ, List.set_cons_zero]
            refine qb_idx (by rfl) 30 (.tmp 7) (.const (.int .i64 1)) (by rfl) (.pointer (some ⟨gv, 0, none⟩)) (.int .i64 ((1 : Nat) : Int)) (.pointer (some ⟨gv, 1, none⟩)) (by rfl) (by rfl) (ix8 gv 1 (by decide)) ?_
            simp only [Act.put, List.setIfInBounds_toArray, List.set_cons_succ, List.set_cons_zero]
            refine qb_cell (by rfl) 29 (.tmp 82) (by rfl) gv 1 (by rfl) (.int .u32 (un st.b : Int)) v1 (load_u32 _ _ _) ?_
            simp only [Act.put, List.setIfInBounds_toArray, List.set_cons_succ, List.set_cons_zero]
            refine qb_bin (by rfl) .and 29 _ (.tmp 81) (.tmp 83) (by rfl) (.int .u32 (un st.a : Int)) (.int .u32 (un st.b : Int)) (.int .u32 (un (st.a &&& st.b) : Int)) (by rfl) (by rfl) (fun _ => rfl) (band st.a st.b) ?_
            simp only [Act.put, List.setIfInBounds_toArray, List.set_cons_succ, List.set_cons_zero]
            refine qb_idx (by rfl) 30 (.tmp 7) (.const (.int .i64 0)) (by rfl) (.pointer (some ⟨gv, 0, none⟩)) (.int .i64 ((0 : Nat) : Int)) (.pointer (some ⟨gv, 0, none⟩)) (by rfl) (by rfl) (ix8 gv 0 (by decide)) ?_
            simp only [Act.put, List.setIfInBounds_toArray, List.set_cons_succ, List.set_cons_zero]
            refine qb_cell (by rfl) 29 (.tmp 85) (by rfl) gv 0 (by rfl) (.int .u32 (un st.a : Int)) v0 (load_u32 _ _ _) ?_
            simp only [Act.put, List.setIfInBounds_toArray, List.set_cons_succ, List.set_cons_zero]
            refine qb_idx (by rfl) 30 (.tmp 7) (.const (.int .i64 2)) (by rfl) (.pointer (some ⟨gv, 0, none⟩)) (.int .i64 ((2 : Nat) : Int)) (.pointer (some ⟨gv, 2, none⟩)) (by rfl) (by rfl) (ix8 gv 2 (by decide)) ?_
            simp only [Act.put, List.setIfInBounds_toArray, List.set_cons_succ, List.set_cons_zero]
            refine qb_cell (by rfl) 29 (.tmp 87) (by rfl) gv 2 (by rfl) (.int .u32 (un st.c : Int)) v2 (load_u32 _ _ _) ?_
            simp only [Act.put, List.setIfInBounds_toArray, List.set_cons_succ, List.set_cons_zero]
            refine qb_bin (by rfl) .and 29 _ (.tmp 86) (.tmp 88) (by rfl) (.int .u32 (un st.a : Int)) (.int .u32 (un st.c : Int)) (.int .u32 (un (st.a &&& st.c) : Int)) (by rfl) (by rfl) (fun _ => rfl) (band st.a st.c) ?_
            simp only [Act.put, List.setIfInBounds_toArray, List.set_cons_succ, List.set_cons_zero]
            refine qb_bin (by rfl) .xor 29 _ (.tmp 84) (.tmp 89) (by rfl) (.int .u32 (un (st.a &&& st.b) : Int)) (.int .u32 (un (st.a &&& st.c) : Int)) (.int .u32 (un ((st.a &&& st.b) ^^^ (st.a &&& st.c)) : Int)) (by rfl) (by rfl) (fun _ => rfl) (bxor (st.a &&& st.b) (st.a &&& st.c)) ?_
            simp only [Act.put, List.setIfInBounds_toArray, List.set_cons_succ, List.set_cons_zero]
            refine qb_idx (by rfl) 30 (.tmp 7) (.const (.int .i64 1)) (by rfl) (.pointer (some ⟨gv, 0, none⟩)) (.int .i64 ((1 : Nat) : Int)) (.pointer (some ⟨gv, 1, none⟩)) (by rfl) (by rfl) (ix8 gv 1 (by decide)) ?_
            simp only [Act.put, List.setIfInBounds_toArray, List.set_cons_succ, List.set_cons_zero]
            refine qb_cell (by rfl) 29 (.tmp 91) (by rfl) gv 1 (by rfl) (.int .u32 (un st.b : Int)) v1 (load_u32 _ _ _) ?_
            simp only [Act.put, List.setIfInBounds_toArray, List.set_cons_succ, List.set_cons_zero]
            refine qb_idx (by rfl) 30 (.tmp 7) (.const (.int .i64 2)) (by rfl) (.pointer (some ⟨gv, 0, none⟩)) (.int .i64 ((2 : Nat) : Int)) (.pointer (some ⟨gv, 2, none⟩)) (by rfl) (by rfl) (ix8 gv 2 (by decide)) ?_
            simp only [Act.put, List.setIfInBounds_toArray, List.set_cons_succ, List.set_cons_zero]
            refine qb_cell (by rfl) 29 (.tmp 93) (by rfl) gv 2 (by rfl) (.int .u32 (un st.c : Int)) v2 (load_u32 _ _ _) ?_
            simp only [Act.put, List.setIfInBounds_toArray, List.set_cons_succ, List.set_cons_zero]
            refine qb_bin (by rfl) .and 29 _ (.tmp 92) (.tmp 94) (by rfl) (.int .u32 (un st.b : Int)) (.int .u32 (un st.c : Int)) (.int .u32 (un (st.b &&& st.c) : Int)) (by rfl) (by rfl) (fun _ => rfl) (band st.b st.c) ?_
            simp only [Act.put, List.setIfInBounds_toArray, List.set_cons_succ, List.set_cons_zero]
            refine qb_bin (by rfl) .xor 29 _ (.tmp 90) (.tmp 95) (by rfl) (.int .u32 (un ((st.a &&& st.b) ^^^ (st.a &&& st.c)) : Int)) (.int .u32 (un (st.b &&& st.c) : Int)) (.int .u32 (un (((st.a &&& st.b) ^^^ (st.a &&& st.c)) ^^^ (st.b &&& st.c)) : Int)) (by rfl) (by rfl) (fun _ => rfl) (bxor ((st.a &&& st.b) ^^^ (st.a &&& st.c)) (st.b &&& st.c)) ?_
            simp only [Act.put, List.setIfInBounds_toArray, List.set_cons_succ, List.set_cons_zero]
            refine qb_bin (by rfl) .add 29 _ (.tmp 79) (.tmp 96) (by rfl) (.int .u32 (un (((rotr st.a 2) ^^^ (rotr st.a 13)) ^^^ (rotr st.a 22)) : Int)) (.int .u32 (un (((st.a &&& st.b) ^^^ (st.a &&& st.c)) ^^^ (st.b &&& st.c)) : Int)) (.int .u32 (un ((((rotr st.a 2) ^^^ (rotr st.a 13)) ^^^ (rotr st.a 22)) + (((st.a &&& st.b) ^^^ (st.a &&& st.c)) ^^^ (st.b &&& st.c))) : Int)) (by rfl) (by rfl) (fun _ => rfl) (badd (((rotr st.a 2) ^^^ (rotr st.a 13)) ^^^ (rotr st.a 22)) (((st.a &&& st.b) ^^^ (st.a &&& st.c)) ^^^ (st.b &&& st.c))) ?_
            simp only [Act.put, List.setIfInBounds_toArray, List.set_cons_succ, List.set_cons_zero]
            refine qb_assign (by rfl) (.tmp 97) (by rfl) (.int .u32 (un yy : Int)) (by rw [HYY.out]; rfl) ?_
            simp only [Act.put, List.setIfInBounds_toArray, List.set_cons_succ, List.set_cons_zero]
            refine wpQuiet_nil ?_
            intro wz hSz
            have hS := hR'.since hSz
            have hRm := hRm'.below hSz
            clear v0 v1 v2 hR' hRm' hSz
            · skip
              have v0 : wz.cell? ⟨gv, 0, none⟩ = some (.int .u32 (un st.a : Int)) := hS.BV.cell rfl
              have v1 : wz.cell? ⟨gv, 1, none⟩ = some (.int .u32 (un st.b : Int)) := hS.BV.cell rfl
              have v2 : wz.cell? ⟨gv, 2, none⟩ = some (.int .u32 (un st.c : Int)) := hS.BV.cell rfl
              have v3 : wz.cell? ⟨gv, 3, none⟩ = some (.int .u32 (un st.d : Int)) := hS.BV.cell rfl
              have v4 : wz.cell? ⟨gv, 4, none⟩ = some (.int .u32 (un st.e : Int)) := hS.BV.cell rfl
              have v5 : wz.cell? ⟨gv, 5, none⟩ = some (.int .u32 (un st.f : Int)) := hS.BV.cell rfl
              have v6 : wz.cell? ⟨gv, 6, none⟩ = some (.int .u32 (un st.g : Int)) := hS.BV.cell rfl
              have hd := add32
              have hdw := add32w
              go_wp2_with ((with_reducible show wpList _ _ _ _ _ _); refine op_store_blk rfl 30 (.tmp 7) (.tmp 117) rfl gv 30 _ hS.BV rfl ((rnd st kt wt).l.map W4) (congrArg Value.agg (rnd_m HXX.out HYY.out).symm) ((l_len _).trans (l_len _).symm) (W4s_one _) (by rw [l_len]; exact size_w8) ?_; intro w5 hV5 hoth5 hbel5 hsz5)
              go_roundw
              case rel =>
                have HN' := HN.out ()
                refine ⟨t + 1, by omega, by go_num, ?_, ?_⟩
                · rw [HN']
                  exact ⟨hoth5 _ _ _ (by have := hS.nv; have := hS.nW; have := hS.n1; omega) hS.B0, hoth5 _ _ _ (by have := hS.nv; have := hS.nW; omega) hS.B1, hoth5 _ _ _ (by have := hS.nv; omega) hS.BW, hV5, hS.n1, hS.nW, hS.nv, hbel5 _ _ hS.bel (by have := hS.nv; have := hS.nW; have := hS.n1; omega)⟩
                · exact hRm.far (B := gv) (by have := hS.nv; omega) (hbel5 _ _ (Below.refl _ _) (Nat.le_refl _))
              case measure => simp [intOf]; omega
        · obtain rfl : t = 64 := by omega
          as_aux_lemma =>
            obtain ⟨r, hr⟩ : ∃ r, r = rnds s (sw blk 64) 64 := ⟨_, rfl⟩
            have HQ : Hid (∀ _ : Unit, comp s blk = s.add r) := fun _ => by rw [hr]; rfl
            rw [← hr] at hR
            clear hr
            obtain ⟨wo, rfl⟩ : ∃ wo : World, wo = wr := ⟨_, rfl⟩
            have hR0 : RW w wo (w.heap.size + 1) gW gv ((mixL s r 0).map W4) (r.l.map W4) blk := by rw [mixL_0]; exact hR
            clear hR
            go_wp2
            go_loopw [11] (fun i wr => ∃ k : Nat, k ≤ 8 ∧ i = .int .i64 (k : Int) ∧ RW w wr (w.heap.size + 1) gW gv ((mixL s r k).map W4) (r.l.map W4) blk ∧ Rd wr 1 (.slice (some ⟨b1, 0, none⟩) L c') L (m.map B8)) (fun i _ => 8 - (intOf i).toNat)
            case atStart => exact ⟨0, by omega, rfl, hR0, hRm⟩
            case round =>
              clear hR0 hRm
              obtain ⟨k, hk, rfl, hR, hRm⟩ := hrel
              by_cases hk8 : k < 8
              · have s0 : wr.cell? ⟨w.heap.size + 1, k, none⟩ = some (.int .u32 (un (s.l.getD k 0) : Int)) := hR.B1.cell (mixL_cell s r hk8)
                have f0 : wr.frozen? ⟨w.heap.size + 1, k, none⟩ = false := hR.B1.free _
                have v0 : wr.cell? ⟨gv, k, none⟩ = some (.int .u32 (un (r.l.getD k 0) : Int)) := hR.BV.cell (l_cell r hk8)
                have HST := Lib.hid (mixL_set s r hk8)
                have hd := add32
                have hdw := add32w
                have q5 : (0 : Int) ≤ (k : Int) := by omega
                have q6 : (k : Int) < 8 := by omega
                have et : ((k : Int)).toNat = k := by omega
                generalize s.l.getD k 0 = sk at s0 HST
                generalize r.l.getD k 0 = rk at v0 HST
                go_wp2
                go_region
                go_wp2
                go_roundw
                case rel =>
                  have h1 := hR.B1.set k (W4 (sk + rk))
                  rw [HST.out] at h1
                  refine ⟨k + 1, by omega, by go_num, ⟨(hR.B0.other _ _ (by have := hR.n1; first | (simp; done) | (simp; omega))), h1, (hR.BW.other _ _ (by have := hR.nW; simp; omega)), (hR.BV.other _ _ (by have := hR.nW; have := hR.nv; simp; omega)), hR.n1, hR.nW, hR.nv, (hR.bel.setCell (by first | (simp; done) | (simp; omega)) _).drew⟩, ?_⟩
                  exact hRm.other (by simp; omega)
                case measure => simp [intOf]; omega
              · obtain rfl : k = 8 := by omega
                have hB1 := hR.B1
                rw [mixL_8, ← HQ.out (), ← HNX.out ()] at hB1
                have hz2 : w.heap.size + 2 ≤ wr.heap.size := by have := hR.BV.lt; have := hR.nv; have := hR.nW; have := hR.n1; omega
                have hp' : Hid ((p + 64) % 64 = 0) := by have := hp64.out; show _ = _; omega
                clear hk hlt64
                go_wp2
                go_roundw
                case rel => exact ⟨p + 64, hp3, hp', by go_num, hR.B0, hB1, hR.bel, hz2, hRm⟩
                case measure => simp [intOf]; omega
    · obtain rfl : p = L := by omega
      as_aux_lemma =>
        have HSH2 : Hid (∀ _ : Unit, sha b = out32 (absorbN (p / 64) iv m)) := fun _ => by rw [HSH.out ()]; unfold absorb; rw [HL.out]
        clear HSH HL HM64 hp64 hRm hlt
        generalize absorbN (p / 64) iv m = st at B1 HSH2
        obtain ⟨wo, rfl⟩ : ∃ wo : World, wo = wr := ⟨_, rfl⟩
        have BO : Blk (wo.alloc (.cells o32.toArray 24)) wo.heap.size 24 ((outA st 0).map B8) := Blk.new rfl
        have BS := B1.alloc (.cells o32.toArray 24)
        have BR := B0.alloc (.cells o32.toArray 24)
        have b8 := b0.alloc b0.size (.cells o32.toArray 24)
        go_wp2
        generalize wo.alloc (.cells o32.toArray 24) = w8 at BO BS BR b8 ⊢
        generalize wo.heap.size = gO at z0 BO ⊢
        go_loopw [13] (fun x wr => ∃ i : Nat, i ≤ 32 ∧ x = .int .i64 (i : Int) ∧ Blk wr gO 24 ((outA st i).map B8) ∧ Blk wr (w.heap.size + 1) 30 (st.l.map W4) ∧ Blk wr w.heap.size 24 o32 ∧ Below w.heap.size w wr)
          (fun x _ => 32 - (intOf x).toNat)
        case atStart => exact ⟨0, by omega, rfl, BO, BS, BR, b8⟩
        case round =>
          clear BO BS BR b8
          obtain ⟨i, hi, rfl, hBO, hBS, hBR, hb⟩ := hrel
          by_cases hlt : i < 32
          · obtain ⟨a, r, har, hr4⟩ : ∃ a r : Nat, i = 4 * a + r ∧ r < 4 := ⟨i / 4, i % 4, by omega, by omega⟩
            have ha8 : a < 8 := by omega
            have hdi : (i : Int) / 4 = (a : Int) := by omega
            have e1 : i / 4 = a := by omega
            have cx : wr.cell? ⟨w.heap.size + 1, a, none⟩ = some (.int .u32 (un (st.l.getD a 0) : Int)) := hBS.cell (l_cell st ha8)
            have co : ∃ u, wr.cell? ⟨gO, i, none⟩ = some u := by
              have hlen : i < ((outA st i).map B8).length := by rw [List.length_map]; unfold outA; rw [List.length_append, List.length_take, out32_len, List.length_replicate]; omega
              exact ⟨_, hBO.cell (List.getElem?_eq_getElem hlen)⟩
            obtain ⟨u, cu⟩ := co
            have cf := hBO.free i
            have hux := un_lt (st.l.getD a 0)
            have E1 := Lib.hid e1
            have HAR := Lib.hid har
            have HR4 := Lib.hid hr4
            clear e1 har hr4
            generalize hX : st.l.getD a 0 = X at cx hux
            have HX := Lib.hid hX
            clear hX
            obtain rfl | rfl | rfl | rfl : r = 0 ∨ r = 1 ∨ r = 2 ∨ r = 3 := by have := HR4.out; omega
            · have hmi : (i : Int) % 4 = 0 := by have := HAR.out; omega
              have em : i % 4 = 0 := by have := HAR.out; omega
              have EM := Lib.hid em
              clear em
              go_wp2
              go_roundw
              case rel =>
                refine ⟨i + 1, by omega, by go_num, ?_, hBS.other _ _ (by have := z0; simp; omega), hBR.other _ _ (by have := z0; simp; omega), hb.setCell (by have := z0; simp; omega) _⟩
                rw [← outA_step hlt 16777216 (by rw [EM.out]) (by rw [E1.out, HX.out])]
                have h1 := hBO.set i (.int .u8 ((un X / 16777216 % 256 : Nat) : Int))
                have e9 : (un X : Int) / 16777216 % 256 = ((un X / 16777216 % 256 : Nat) : Int) := by omega
                first
                  | (rw [← e9] at h1; exact e9 ▸ h1)
                  | (rw [show (un X : Int) / 16777216 = ((un X / 16777216 % 256 : Nat) : Int) by omega]; exact h1)
                  | (rw [show (un X : Int) % 256 = ((un X / 1 % 256 : Nat) : Int) by omega]; exact h1)
                  | exact h1
              case measure => simp [intOf]; omega
            · have hmi : (i : Int) % 4 = 1 := by have := HAR.out; omega
              have em : i % 4 = 1 := by have := HAR.out; omega
              have EM := Lib.hid em
              clear em
              go_wp2
              go_roundw
              case rel =>
                refine ⟨i + 1, by omega, by go_num, ?_, hBS.other _ _ (by have := z0; simp; omega), hBR.other _ _ (by have := z0; simp; omega), hb.setCell (by have := z0; simp; omega) _⟩
                rw [← outA_step hlt 65536 (by rw [EM.out]) (by rw [E1.out, HX.out])]
                have h1 := hBO.set i (.int .u8 ((un X / 65536 % 256 : Nat) : Int))
                have e9 : (un X : Int) / 65536 % 256 = ((un X / 65536 % 256 : Nat) : Int) := by omega
                first
                  | (rw [← e9] at h1; exact e9 ▸ h1)
                  | (rw [show (un X : Int) / 65536 = ((un X / 65536 % 256 : Nat) : Int) by omega]; exact h1)
                  | (rw [show (un X : Int) % 256 = ((un X / 1 % 256 : Nat) : Int) by omega]; exact h1)
                  | exact h1
              case measure => simp [intOf]; omega
            · have hmi : (i : Int) % 4 = 2 := by have := HAR.out; omega
              have em : i % 4 = 2 := by have := HAR.out; omega
              have EM := Lib.hid em
              clear em
              go_wp2
              go_roundw
              case rel =>
                refine ⟨i + 1, by omega, by go_num, ?_, hBS.other _ _ (by have := z0; simp; omega), hBR.other _ _ (by have := z0; simp; omega), hb.setCell (by have := z0; simp; omega) _⟩
                rw [← outA_step hlt 256 (by rw [EM.out]) (by rw [E1.out, HX.out])]
                have h1 := hBO.set i (.int .u8 ((un X / 256 % 256 : Nat) : Int))
                have e9 : (un X : Int) / 256 % 256 = ((un X / 256 % 256 : Nat) : Int) := by omega
                first
                  | (rw [← e9] at h1; exact e9 ▸ h1)
                  | (rw [show (un X : Int) / 256 = ((un X / 256 % 256 : Nat) : Int) by omega]; exact h1)
                  | (rw [show (un X : Int) % 256 = ((un X / 1 % 256 : Nat) : Int) by omega]; exact h1)
                  | exact h1
              case measure => simp [intOf]; omega
            · have hmi : (i : Int) % 4 = 3 := by have := HAR.out; omega
              have em : i % 4 = 3 := by have := HAR.out; omega
              have EM := Lib.hid em
              clear em
              go_wp2
              go_roundw
              case rel =>
                refine ⟨i + 1, by omega, by go_num, ?_, hBS.other _ _ (by have := z0; simp; omega), hBR.other _ _ (by have := z0; simp; omega), hb.setCell (by have := z0; simp; omega) _⟩
                rw [← outA_step hlt 1 (by rw [EM.out]) (by rw [E1.out, HX.out])]
                have h1 := hBO.set i (.int .u8 ((un X / 1 % 256 : Nat) : Int))
                have e9 : (un X : Int) / 1 % 256 = ((un X / 1 % 256 : Nat) : Int) := by omega
                first
                  | (rw [← e9] at h1; exact e9 ▸ h1)
                  | (rw [show (un X : Int) / 1 = ((un X / 1 % 256 : Nat) : Int) by omega]; exact h1)
                  | (rw [show (un X : Int) % 256 = ((un X / 1 % 256 : Nat) : Int) by omega]; exact h1)
                  | exact h1
              case measure => simp [intOf]; omega
          · obtain rfl : i = 32 := by omega
            have h32 : (outA st 32).map B8 = (out32 st).map B8 := by unfold outA; rw [List.take_of_length_le (by rw [out32_len]; omega)]; simp
            rw [h32] at hBO
            have HSH' := HSH2.out ()
            have hl32 : ((out32 st).map B8).length = 32 := by rw [List.length_map, out32_len]
            have HL32 := Lib.hid hl32
            clear hl32 h32
            go_wp2_with (first
              | ((with_reducible show wpList _ _ _ _ _ _); refine op_load_agg rfl 24 (.tmp 12) rfl gO 0 rfl _ Tryd.underlying24 rfl ((out32 st).map B8) hBO.cl (by rw [HL32.out]; exact size_o32) ?_)
              | ((with_reducible show wpList _ _ _ _ _ _); refine op_store_blk rfl 24 (.tmp 2) (.tmp 147) rfl w.heap.size 24 _ hBR rfl ((out32 st).map B8) rfl (by rw [HL32.out, o32_len]) (B8s_one _) (by rw [HL32.out]; exact size_o32) ?_; intro w9 hC9 hoth9 hbel9 hsz9))
            have hld := run_loadVar_cl (P := Tryd.prog) 24 _ w.heap.size 0 ((out32 st).map B8) hC9.cl Tryd.underlying24 rfl (by rw [HL32.out]; exact size_o32)
            rw [HSH']
            refine bodyPost_ret (v := .agg ((out32 st).map B8).toArray) ?_ rfl ⟨rfl, hbel9 _ _ hb (Nat.le_refl _)⟩
            simp [results, Tryd.results14, asAddr, hld, Act.put]
end Go.Proofs.YtmmomcililideaaDoor
