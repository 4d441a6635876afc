/-
  The reference's words of a block.
-/
import Derived.Test.YtmmomcililideaaDoorWk02h
set_option linter.unusedSimpArgs false
set_option linter.unusedVariables false
namespace Go.Proofs.YtmmomcililideaaDoor
open Go.RowKit

set_option maxRecDepth 100000 in
theorem word4 (y0 y1 y2 y3 : UInt8) :
    bits .or .u32 (bits .or .u32 (bits .or .u32 ((y0.toNat : Int) % 4294967296 * 16777216 % 4294967296) ((y1.toNat : Int) % 4294967296 * 65536 % 4294967296)) ((y2.toNat : Int) % 4294967296 * 256 % 4294967296)) ((y3.toNat : Int) % 4294967296) = (un (word [y0, y1, y2, y3]) : Int) := by
  have h0 : y0.toNat < 256 := y0.toNat_lt
  have h1 : y1.toNat < 256 := y1.toNat_lt
  have h2 : y2.toNat < 256 := y2.toNat_lt
  have h3 : y3.toNat < 256 := y3.toNat_lt
  have e : un (word [y0, y1, y2, y3]) = ((y0.toNat * 256 + y1.toNat) * 256 + y2.toNat) * 256 + y3.toNat := by
    unfold un word
    simp only [List.foldl_cons, List.foldl_nil, Nat.zero_mul, Nat.zero_add]
    have hlt : ((y0.toNat * 256 + y1.toNat) * 256 + y2.toNat) * 256 + y3.toNat < 4294967296 := by
      generalize y0.toNat = a at *
      generalize y1.toNat = b at *
      generalize y2.toNat = c at *
      generalize y3.toNat = d at *
      omega
    rw [UInt32.toNat_ofNat']
    exact Nat.mod_eq_of_lt hlt
  rw [e]
  generalize y0.toNat = a at *
  generalize y1.toNat = b at *
  generalize y2.toNat = c at *
  generalize y3.toNat = d at *
  clear e
  have e0 : (a : Int) % 4294967296 * 16777216 % 4294967296 = ((a * 16777216 : Nat) : Int) := by omega
  have e1 : (b : Int) % 4294967296 * 65536 % 4294967296 = ((b * 65536 : Nat) : Int) := by omega
  have e2 : (c : Int) % 4294967296 * 256 % 4294967296 = ((c * 256 : Nat) : Int) := by omega
  have e3 : (d : Int) % 4294967296 = (d : Int) := by omega
  rw [e0, e1, e2, e3]
  have p1 : a * 16777216 ||| b * 65536 = a * 16777216 + b * 65536 := by
    have := Nat.shiftLeft_add_eq_or_of_lt (i := 24) (Nat.lt_of_lt_of_eq (show b * 65536 < 16777216 by omega) (by decide : 16777216 = 2 ^ 24)) a
    rw [Nat.shiftLeft_eq] at this
    exact this.symm
  have p2 : (a * 16777216 + b * 65536) ||| c * 256 = a * 16777216 + b * 65536 + c * 256 := by
    have q : (a * 256 + b) * 65536 = a * 16777216 + b * 65536 := by omega
    have l : c * 256 < 65536 := by omega
    have := Nat.shiftLeft_add_eq_or_of_lt (i := 16) (Nat.lt_of_lt_of_eq l (by decide : 65536 = 2 ^ 16)) (a * 256 + b)
    rw [Nat.shiftLeft_eq, show (2 : Nat) ^ 16 = 65536 by decide, q] at this
    exact this.symm
  have p3 : (a * 16777216 + b * 65536 + c * 256) ||| d = a * 16777216 + b * 65536 + c * 256 + d := by
    have q : ((a * 256 + b) * 256 + c) * 256 = a * 16777216 + b * 65536 + c * 256 := by omega
    have := Nat.shiftLeft_add_eq_or_of_lt (i := 8) (Nat.lt_of_lt_of_eq h3 (by decide : 256 = 2 ^ 8)) ((a * 256 + b) * 256 + c)
    rw [Nat.shiftLeft_eq, show (2 : Nat) ^ 8 = 256 by decide, q] at this
    exact this.symm
  rw [u32_or_nat _ _ (by omega) (by omega), p1, u32_or_nat _ _ (by omega) (by omega), p2, u32_or_nat _ _ (by omega) (by omega), p3]
  congr 1
  omega
theorem nw_word {b : List UInt8} {l : List UInt32} {t : Nat} (h : t < 16) (hl : b.length = 64) : nw b l t = word [b.getD (4 * t) 0, b.getD (4 * t + 1) 0, b.getD (4 * t + 2) 0, b.getD (4 * t + 3) 0] := by
  unfold nw
  rw [if_pos h]
  congr 1
  apply List.ext_getElem?
  intro i
  rw [List.getElem?_take, List.getElem?_drop]
  match i with
  | 0 => simp [List.getD, List.getElem?_eq_getElem (show 4 * t < b.length by omega)]
  | 1 => simp [List.getD, List.getElem?_eq_getElem (show 4 * t + 1 < b.length by omega)]
  | 2 => simp [List.getD, List.getElem?_eq_getElem (show 4 * t + 2 < b.length by omega)]
  | 3 => simp [List.getD, List.getElem?_eq_getElem (show 4 * t + 3 < b.length by omega)]
  | i + 4 => simp; omega

set_option maxRecDepth 100000 in
set_option maxHeartbeats 1600000 in
theorem wordsC (A : Option Addr) (c : Nat) (b : List UInt8) (w : World) (hl : b.length = 64) (hr : Rd w 1 (.slice A 64 c) 64 (b.map B8)) :
    Calls Tryd.prog 36 #[.slice A 64 c] w fun e w' => e = .returned (.agg ((sw b 64).map W4).toArray) ∧ Below w.heap.size w w' := by
  obtain ⟨bb, off, rfl, hbb, hcs⟩ := hr.cellAt (by omega)
  go_enter Tryd.func36, Tryd.ntmps36
  go_wp2
  go_loopw [4] (fun i wr => ∃ t : Nat, t ≤ 16 ∧ i = .int .i64 (t : Int) ∧ Blk wr (w.heap.size + 1) 63 ((swA b t).map W4) ∧ Blk wr w.heap.size 63 ((List.replicate 64 0).map W4) ∧ Below w.heap.size w wr)
    (fun i _ => 16 - (intOf i).toNat)
  case atStart => exact ⟨0, by omega, rfl, Blk.newAt rfl (by simp), (Blk.new rfl).alloc _, ((Below.refl _ _).alloc (Nat.le_refl _) _).alloc (by simp) _⟩
  case round =>
    obtain ⟨t, ht, rfl, hB, hB0, hb⟩ := hrel
    by_cases hlt : t < 16
    · have hx : ∀ j, j < 4 → wr.cell? ⟨bb, off + (4 * t + j), none⟩ = some (.int .u8 ((b.getD (4 * t + j) 0).toNat : Int)) := fun j hj => by
        rw [hb.cell (p := ⟨bb, off + (4 * t + j), none⟩) hbb]
        exact hcs _ _ (by rw [List.getElem?_map, List.getElem?_eq_getElem (show 4 * t + j < b.length by omega)]; simp [List.getD, List.getElem?_eq_getElem (show 4 * t + j < b.length by omega), B8])
      have x0 : wr.cell? ⟨bb, off + 4 * t, none⟩ = some (.int .u8 ((b.getD (4 * t) 0).toNat : Int)) := hx 0 (by omega)
      have x1 := hx 1 (by omega)
      have x2 := hx 2 (by omega)
      have x3 := hx 3 (by omega)
      have ct := hB.free t
      have cw : wr.cell? ⟨w.heap.size + 1, t, none⟩ = some (.int .u32 0) := hB.cell (swA_zero (by omega) (by omega))
      clear hx
      go_wp2
      go_region
      go_wp2
      go_roundw
      case rel =>
        rw [word4]
        refine ⟨t + 1, by omega, by go_num, ?_, hB0.other _ _ (by simp), (hb.setCell (by simp) _).drew⟩
        have h1 := hB.set t (W4 (nw b (sw b t) t))
        rw [swA_step (by omega), nw_word hlt hl] at h1
        exact h1
      case measure => simp [intOf]; omega
    · obtain rfl : t = 16 := by omega
      go_wp2
      go_loopw [5] (fun i wr => ∃ t : Nat, 16 ≤ t ∧ t ≤ 64 ∧ i = .int .i64 (t : Int) ∧ Blk wr (w.heap.size + 1) 63 ((swA b t).map W4) ∧ Blk wr w.heap.size 63 ((List.replicate 64 0).map W4) ∧ Below w.heap.size w wr)
        (fun i _ => 64 - (intOf i).toNat)
      case atStart => exact ⟨16, by omega, by omega, rfl, hB, hB0, hb⟩
      case round =>
        clear hB hB0 hb
        obtain ⟨t, h16, ht, rfl, hB, hB0, hb⟩ := hrel
        by_cases hlt : t < 64
        · have c15 : wr.cell? ⟨w.heap.size + 1, t - 15, none⟩ = some (.int .u32 (un ((sw b t).getD (t - 15) 0) : Int)) := hB.cell (swA_get ht (by omega))
          have c2 : wr.cell? ⟨w.heap.size + 1, t - 2, none⟩ = some (.int .u32 (un ((sw b t).getD (t - 2) 0) : Int)) := hB.cell (swA_get ht (by omega))
          have c16 : wr.cell? ⟨w.heap.size + 1, t - 16, none⟩ = some (.int .u32 (un ((sw b t).getD (t - 16) 0) : Int)) := hB.cell (swA_get ht (by omega))
          have c7 : wr.cell? ⟨w.heap.size + 1, t - 7, none⟩ = some (.int .u32 (un ((sw b t).getD (t - 7) 0) : Int)) := hB.cell (swA_get ht (by omega))
          have kc0 : wr.cell? ⟨w.heap.size + 1, t, none⟩ = some (.int .u32 0) := hB.cell (swA_zero ht hlt)
          obtain ⟨p15, hp15⟩ : ∃ p : UInt32, p = (sw b t).getD (t - 15) 0 := ⟨_, rfl⟩
          obtain ⟨p2, hp2⟩ : ∃ p : UInt32, p = (sw b t).getD (t - 2) 0 := ⟨_, rfl⟩
          obtain ⟨p16, hp16⟩ : ∃ p : UInt32, p = (sw b t).getD (t - 16) 0 := ⟨_, rfl⟩
          obtain ⟨p7, hp7⟩ : ∃ p : UInt32, p = (sw b t).getD (t - 7) 0 := ⟨_, rfl⟩
          rw [← hp15] at c15
          rw [← hp2] at c2
          rw [← hp16] at c16
          rw [← hp7] at c7
          have H15 := Lib.hid hp15
          have H2 := Lib.hid hp2
          have H16 := Lib.hid hp16
          have H7 := Lib.hid hp7
          clear hp15 hp2 hp16 hp7
          have hx := xor32
          have d3 : (un p15 : Int) / 8 = (un (shr p15 3) : Int) := by rw [shr_un]; omega
          have d10 : (un p2 : Int) / 1024 = (un (shr p2 10) : Int) := by rw [shr_un]; omega
          have e15 : ((t : Int) - 15).toNat = t - 15 := by omega
          have e2 : ((t : Int) - 2).toNat = t - 2 := by omega
          have e16 : ((t : Int) - 16).toNat = t - 16 := by omega
          have e7 : ((t : Int) - 7).toNat = t - 7 := by omega
          have hw15 : IntKind.i64.wrap ((t : Int) - 15) = (t : Int) - 15 := IntWalk.i64_in _ (by omega)
          have hw2 : IntKind.i64.wrap ((t : Int) - 2) = (t : Int) - 2 := IntWalk.i64_in _ (by omega)
          have q1 : (0 : Int) ≤ (t : Int) - 15 := by omega
          have q2 : (t : Int) - 15 < 64 := by omega
          have q3 : (0 : Int) ≤ (t : Int) - 2 := by omega
          have q4 : (t : Int) - 2 < 64 := by omega
          go_wp2
          go_quiet ((first
            | (go_at_call 37; with_reducible exact Calls.quiet_of (v := .int .u32 (un (rotr p15 7) : Int)) (rr7 p15 _))
            | (go_at_call 37; with_reducible exact Calls.quiet_of (v := .int .u32 (un (rotr p15 18) : Int)) (rr18 p15 _))))
          have kB : Blk (wr.drewN nq) (w.heap.size + 1) 63 ((swA b t).map W4) := hB
          have kB0 : Blk (wr.drewN nq) w.heap.size 63 ((List.replicate 64 0).map W4) := hB0
          have kb : Below w.heap.size w (wr.drewN nq) := bel_drewN hb _
          have c2' : (wr.drewN nq).cell? ⟨w.heap.size + 1, t - 2, none⟩ = some (.int .u32 (un p2 : Int)) := c2
          have c7' : (wr.drewN nq).cell? ⟨w.heap.size + 1, t - 7, none⟩ = some (.int .u32 (un p7 : Int)) := c7
          have c16' : (wr.drewN nq).cell? ⟨w.heap.size + 1, t - 16, none⟩ = some (.int .u32 (un p16 : Int)) := c16
          have kc' : (wr.drewN nq).cell? ⟨w.heap.size + 1, t, none⟩ = some (.int .u32 0) := kc0
          generalize wr.drewN nq = wq at *
          clear c2 c15 c16 c7 kc0 hB hB0 hb e15 hw15
          go_wp2
          go_quiet ((first
            | (go_at_call 37; with_reducible exact Calls.quiet_of (v := .int .u32 (un (rotr p2 17) : Int)) (rr17 p2 _))
            | (go_at_call 37; with_reducible exact Calls.quiet_of (v := .int .u32 (un (rotr p2 19) : Int)) (rr19 p2 _))))
          have haw := add32w
          have ha := add32
          have hw16 : IntKind.i64.wrap ((t : Int) - 16) = (t : Int) - 16 := IntWalk.i64_in _ (by omega)
          have hw7 : IntKind.i64.wrap ((t : Int) - 7) = (t : Int) - 7 := IntWalk.i64_in _ (by omega)
          have q1 : (0 : Int) ≤ (t : Int) - 16 := by omega
          have q2 : (t : Int) - 16 < 64 := by omega
          have q3 : (0 : Int) ≤ (t : Int) - 7 := by omega
          have q4 : (t : Int) - 7 < 64 := by omega
          have q5 : (0 : Int) ≤ (t : Int) := by omega
          have q6 : (t : Int) < 64 := by omega
          have et : ((t : Int)).toNat = t := by omega
          have rB : Blk (wq.drewN nq) (w.heap.size + 1) 63 ((swA b t).map W4) := kB
          have rB0 : Blk (wq.drewN nq) w.heap.size 63 ((List.replicate 64 0).map W4) := kB0
          have rb : Below w.heap.size w (wq.drewN nq) := bel_drewN kb _
          have c7 : (wq.drewN nq).cell? ⟨w.heap.size + 1, t - 7, none⟩ = some (.int .u32 (un p7 : Int)) := c7'
          have c16 : (wq.drewN nq).cell? ⟨w.heap.size + 1, t - 16, none⟩ = some (.int .u32 (un p16 : Int)) := c16'
          have kc : (wq.drewN nq).cell? ⟨w.heap.size + 1, t, none⟩ = some (.int .u32 0) := kc'
          have kt : (wq.drewN nq).frozen? ⟨w.heap.size + 1, t, none⟩ = false := rB.free t
          generalize wq.drewN nq = wz at *
          clear c2' c7' c16' kc' kB kB0 kb e2 hw2
          go_wp2_with fail
          go_region
          go_wp2
          go_roundw
          case rel =>
            refine ⟨t + 1, by omega, by omega, by go_num, ?_, ?_, ?_⟩
            · have h1 := rB.set t (W4 (nw b (sw b t) t))
              rw [swA_step hlt, nw_hi (by omega), ← H15.out, ← H2.out, ← H16.out, ← H7.out] at h1
              exact h1
            · exact rB0.other _ _ (by simp)
            · exact (rb.setCell (by simp) _).drew
          case measure => simp [intOf]; omega
        · obtain rfl : t = 64 := by omega
          go_wp2_with (first
            | ((with_reducible show wpList _ _ _ _ _ _); refine op_load_agg rfl 63 (.tmp 3) rfl (w.heap.size + 1) 0 rfl _ Tryd.underlying63 rfl ((swA b 64).map W4) hB.cl (by rw [List.length_map, swA_len (by omega)]; exact size_w64) ?_)
            | ((with_reducible show wpList _ _ _ _ _ _); refine op_store_blk rfl 63 (.tmp 2) (.tmp 100) rfl w.heap.size 63 _ hB0 rfl ((swA b 64).map W4) rfl (by rw [List.length_map, swA_len (by omega)]; simp) (W4s_one _) (by rw [List.length_map, swA_len (by omega)]; exact size_w64) ?_; intro w2 hC hoth hbel hsz))
          have hld := run_loadVar_cl (P := Tryd.prog) 63 _ w.heap.size 0 ((swA b 64).map W4) hC.cl Tryd.underlying63 rfl (by rw [List.length_map, swA_len (by omega)]; exact size_w64)
          have h64 : swA b 64 = sw b 64 := by simp [swA]
          rw [← h64]
          refine bodyPost_ret (v := .agg ((swA b 64).map W4).toArray) ?_ rfl ⟨rfl, hbel _ _ hb (Nat.le_refl _)⟩
          simp [results, Tryd.results36, asAddr, hld, Act.put]
end Go.Proofs.YtmmomcililideaaDoor
