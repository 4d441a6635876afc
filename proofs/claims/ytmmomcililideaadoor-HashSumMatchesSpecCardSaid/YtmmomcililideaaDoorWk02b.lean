/-
  The message schedule.
-/
import Derived.Test.YtmmomcililideaaDoorWk02a
import Derived.Test.YtmmomcililideaaDoorAp
import Derived.Test.YtmmomcililideaaDoorBlk
import Derived.BigRegion
set_option linter.unusedSimpArgs false
set_option linter.unusedVariables false
namespace Go.Proofs.YtmmomcililideaaDoor
open Go.RowKit

/-- The array of words after t rounds. -/
def swA (b : List UInt8) (t : Nat) : List UInt32 := sw b t ++ List.replicate (64 - t) 0
theorem sw_len (b : List UInt8) : ∀ t, (sw b t).length = t
  | 0 => rfl
  | t + 1 => by simp [sw, sw_len b t]
theorem swA_len {b : List UInt8} {t : Nat} (h : t ≤ 64) : (swA b t).length = 64 := by
  unfold swA
  rw [List.length_append, sw_len, List.length_replicate]
  omega
theorem swA_get {b : List UInt8} {t j : Nat} (h : t ≤ 64) (hj : j < t) : ((swA b t).map W4)[j]? = some (.int .u32 (un ((sw b t).getD j 0) : Int)) := by
  have hl := sw_len b t
  unfold swA
  rw [List.map_append, List.getElem?_append_left (by simp; omega)]
  simp [List.getElem?_eq_getElem (show j < (sw b t).length by omega), W4]

theorem List.set_getElem?_self' {α : Type} {l : List α} {k : Nat} {x : α} (h : l[k]? = some x) : l.set k x = l := by
  apply List.ext_getElem?
  intro i
  rw [List.getElem?_set]
  split
  · rename_i hi
    subst hi
    obtain ⟨h1, h2⟩ := List.getElem?_eq_some_iff.1 h
    simp [h1, ← h2]
  · rfl
theorem take_succ_drop' {α : Type} {l r : List α} {k : Nat} {x : α} (h : l.drop k = x :: r) : l.take (k + 1) = l.take k ++ [x] := by
  have hk : k < l.length := by
    rcases Nat.lt_or_ge k l.length with h' | h'
    · exact h'
    · rw [List.drop_eq_nil_of_le h'] at h; cases h
  rw [List.drop_eq_getElem_cons hk] at h
  injection h with h _
  rw [← List.take_append_getElem hk, h]
theorem swA_zero {b : List UInt8} {t : Nat} (h : t ≤ 64) (hj : t < 64) : ((swA b t).map W4)[t]? = some (.int .u32 0) := by
  have hl := sw_len b t
  unfold swA
  rw [List.map_append, List.getElem?_append_right (by simp; omega)]
  simp [hl, List.getElem?_replicate]
  exact ⟨by omega, rfl⟩
theorem swA_step {b : List UInt8} {t : Nat} (hj : t < 64) : ((swA b t).map W4).set t (W4 (nw b (sw b t) t)) = (swA b (t + 1)).map W4 := by
  have hl := sw_len b t
  unfold swA
  rw [← List.map_set, List.set_append_right _ _ (by omega), hl, Nat.sub_self]
  have e : 64 - t = (64 - (t + 1)) + 1 := by omega
  rw [e, List.replicate_succ, List.set_cons_zero]
  simp [sw]
theorem nw_hi {b : List UInt8} {l : List UInt32} {t : Nat} (h : ¬ t < 16) : nw b l t = l.getD (t - 16) 0 + sig0 (l.getD (t - 15) 0) + l.getD (t - 7) 0 + sig1 (l.getD (t - 2) 0) := by
  unfold nw
  rw [if_neg h]

/-- The first j bytes of word t. -/
def pn (l : List UInt8) : Nat := l.foldl (fun n x => n * 256 + x.toNat) 0
def pw (b : List UInt8) (t j : Nat) : UInt32 := UInt32.ofNat (pn ((b.drop (4 * t)).take j))
theorem pn_lt : ∀ l : List UInt8, pn l < 256 ^ l.length := by
  intro l
  have key : ∀ (l : List UInt8) (n k : Nat), n < 256 ^ k → l.foldl (fun n x => n * 256 + x.toNat) n < 256 ^ (k + l.length) := by
    intro l
    induction l with
    | nil => intro n k h; simpa using h
    | cons x l ih =>
      intro n k h
      have hx := x.toNat_lt
      have := ih (n * 256 + x.toNat) (k + 1) (by rw [Nat.pow_succ]; omega)
      simp only [List.foldl_cons, List.length_cons]
      rw [show k + (l.length + 1) = k + 1 + l.length by omega]
      exact this
  have := key l 0 0 (by simp)
  rw [Nat.zero_add] at this
  exact this
theorem pn_snoc (l : List UInt8) (x : UInt8) : pn (l ++ [x]) = pn l * 256 + x.toNat := by simp [pn]
theorem pw_un {b : List UInt8} {t j : Nat} (hj : j ≤ 4) : un (pw b t j) = pn ((b.drop (4 * t)).take j) := by
  unfold un pw
  rw [UInt32.toNat_ofNat', Nat.mod_eq_of_lt]
  refine Nat.lt_of_lt_of_le (pn_lt _) ?_
  refine Nat.le_trans (Nat.pow_le_pow_right (by omega) (show _ ≤ 4 by simp; omega)) (by decide)
theorem take_succ_at {b : List UInt8} {k j : Nat} {x : UInt8} (h : b.drop (k + j) = x :: b.drop (k + j + 1)) : (b.drop k).take (j + 1) = (b.drop k).take j ++ [x] := by
  have e : (b.drop k).drop j = x :: b.drop (k + j + 1) := by rw [List.drop_drop, h]
  exact take_succ_drop' e
theorem pw_step {b : List UInt8} {t j : Nat} {x : UInt8} (hj : j < 4) (h : b.drop (4 * t + j) = x :: b.drop (4 * t + j + 1)) :
    bits .or .u32 ((un (pw b t j) : Int) * 256 % 4294967296) ((x.toNat : Int) % 4294967296) = (un (pw b t (j + 1)) : Int) := by
  have hx := x.toNat_lt
  have e0 : (x.toNat : Int) % 4294967296 = (x.toNat : Int) := by omega
  rw [e0]
  have h1 : pn ((b.drop (4 * t)).take j) < 16777216 := by
    refine Nat.lt_of_lt_of_le (pn_lt _) ?_
    exact Nat.le_trans (Nat.pow_le_pow_right (by omega) (show _ ≤ 3 by simp; omega)) (by decide)
  rw [pw_un (by omega), pw_un (by omega), take_succ_at h, pn_snoc]
  generalize pn ((b.drop (4 * t)).take j) = n at *
  have e : (n : Int) * 256 % 4294967296 = ((n * 256 : Nat) : Int) := by omega
  rw [e, u32_or_nat _ _ (by omega) (by omega)]
  have := Nat.shiftLeft_add_eq_or_of_lt (i := 8) (show x.toNat < 2 ^ 8 by omega) n
  rw [Nat.shiftLeft_eq] at this
  rw [← this]
theorem nw_lo {b : List UInt8} {l : List UInt32} {t : Nat} (h : t < 16) : nw b l t = pw b t 4 := by
  unfold nw pw pn word
  rw [if_pos h]

theorem size_w64 : (Tryd.prog.info? 63).map (·.size) = some 64 := by kernel_rfl
set_option maxRecDepth 100000 in
theorem schedC (A : Option Addr) (c : Nat) (b : List UInt8) (w : World) (hl : b.length = 64) (hr : Rd w 1 (.slice A 64 c) 64 (b.map B8)) :
    Calls Tryd.prog 47 #[.slice A 64 c] w fun e w' => e = .returned (.agg ((sw b 64).map W4).toArray) ∧ Below w.heap.size w w' := by
  go_enter Tryd.func47, Tryd.ntmps47
  go_wp2
  go_loopw [11] (fun i wr => ∃ t : Nat, t ≤ 64 ∧ i = .int .i64 (t : Int) ∧ Blk wr (w.heap.size + 1) 63 ((swA b t).map W4) ∧ Blk wr w.heap.size 63 ((List.replicate 64 0).map W4) ∧ Below w.heap.size w wr)
    (fun i _ => 64 - (intOf i).toNat)
  case atStart => exact ⟨0, by omega, rfl, Blk.newAt rfl (by simp), (Blk.new rfl).alloc _, ((Below.refl _ _).alloc (Nat.le_refl _) _).alloc (by simp) _⟩
  case round =>
    obtain ⟨t, ht, rfl, hB, hB0, hb⟩ := hrel
    by_cases hlt : t < 64
    · by_cases h16 : t < 16
      · obtain ⟨bb, off, rfl, hbb, hcs⟩ := hr.cellAt (by omega)
        have hcap := hr.cap
        unfold maxLen at hcap
        obtain ⟨hc1, hc2⟩ := hcap
        have q1 : 4 * t + 4 ≤ 64 := by omega
        have e44 : 4 * t + 4 - 4 * t = 4 := by omega
        obtain ⟨wo, rfl⟩ : ∃ wo : World, wo = wr := ⟨_, rfl⟩
        go_wp2
        go_loopw [24] (fun i wr => ∃ j : Nat, j ≤ 4 ∧ i = .int .i64 (j : Int) ∧ Blk wr (w.heap.size + 1) 63 (((swA b t).map W4).set t (W4 (pw b t j))) ∧ Blk wr w.heap.size 63 ((List.replicate 64 0).map W4) ∧ Below w.heap.size w wr)
          (fun i _ => 4 - (intOf i).toNat)
        case atStart =>
          refine ⟨0, by omega, rfl, ?_, hB0, hb⟩
          have hz : ((swA b t).map W4)[t]? = some (W4 (pw b t 0)) := swA_zero ht hlt
          rw [List.set_getElem?_self' hz]
          exact hB
        case round =>
          obtain ⟨j, hj, rfl, kB, kB0, kb⟩ := hrel
          by_cases hj4 : j < 4
          · have hD : b.drop (4 * t + j) = b[4 * t + j]'(by omega) :: b.drop (4 * t + j + 1) := List.drop_eq_getElem_cons (by omega)
            have hst := Lib.hid (pw_step hj4 hD)
            have cx : wr.cell? ⟨bb, off + 4 * t + j, none⟩ = some (.int .u8 ((b[4 * t + j]'(by omega)).toNat : Int)) := by
              rw [kb.cell (p := ⟨bb, off + 4 * t + j, none⟩) hbb, Nat.add_assoc]
              exact hcs _ _ (by rw [List.getElem?_map, List.getElem?_eq_getElem (show 4 * t + j < b.length by omega)]; rfl)
            have cw : wr.cell? ⟨w.heap.size + 1, t, none⟩ = some (.int .u32 (un (pw b t j) : Int)) := kB.cell (by rw [List.getElem?_set]; simp [swA_len ht, hlt]; rfl)
            have cf := kB.free t
            clear hD
            generalize b[4 * t + j]'(by omega) = x at *
            go_wp2
            go_roundw
            case rel =>
              refine ⟨j + 1, by omega, by go_num, ?_, kB0.other _ _ (by simp), kb.setCell (by simp) _⟩
              have h1 := kB.set t (W4 (pw b t (j + 1)))
              rw [List.set_set] at h1
              unfold W4 at h1 ⊢
              rw [hst.out]
              exact h1
            case measure => simp [intOf]; omega
          · obtain rfl : j = 4 := by omega
            go_wp2
            go_roundw
            case rel =>
              refine ⟨t + 1, by omega, by go_num, ?_, kB0, kb⟩
              rw [← nw_lo (l := sw b t) h16, swA_step hlt] at kB
              exact kB
            case measure => simp [intOf]; omega
      · have c15 : wr.cell? ⟨w.heap.size + 1, t - 15, none⟩ = some (.int .u32 (un ((sw b t).getD (t - 15) 0) : Int)) := hB.cell (swA_get ht (by omega))
        have c2 : wr.cell? ⟨w.heap.size + 1, t - 2, none⟩ = some (.int .u32 (un ((sw b t).getD (t - 2) 0) : Int)) := hB.cell (swA_get ht (by omega))
        have c16 : wr.cell? ⟨w.heap.size + 1, t - 16, none⟩ = some (.int .u32 (un ((sw b t).getD (t - 16) 0) : Int)) := hB.cell (swA_get ht (by omega))
        have c7 : wr.cell? ⟨w.heap.size + 1, t - 7, none⟩ = some (.int .u32 (un ((sw b t).getD (t - 7) 0) : Int)) := hB.cell (swA_get ht (by omega))
        obtain ⟨p15, hp15⟩ : ∃ p : UInt32, p = (sw b t).getD (t - 15) 0 := ⟨_, rfl⟩
        obtain ⟨p2, hp2⟩ : ∃ p : UInt32, p = (sw b t).getD (t - 2) 0 := ⟨_, rfl⟩
        obtain ⟨p16, hp16⟩ : ∃ p : UInt32, p = (sw b t).getD (t - 16) 0 := ⟨_, rfl⟩
        obtain ⟨p7, hp7⟩ : ∃ p : UInt32, p = (sw b t).getD (t - 7) 0 := ⟨_, rfl⟩
        rw [← hp15] at c15
        rw [← hp2] at c2
        rw [← hp16] at c16
        rw [← hp7] at c7
        have H15 := Lib.hid hp15
        have H2 := Lib.hid hp2
        have H16 := Lib.hid hp16
        have H7 := Lib.hid hp7
        clear hp15 hp2 hp16 hp7
        have e15 : ((t : Int) - 15).toNat = t - 15 := by omega
        have e2 : ((t : Int) - 2).toNat = t - 2 := by omega
        have e16 : ((t : Int) - 16).toNat = t - 16 := by omega
        have e7 : ((t : Int) - 7).toNat = t - 7 := by omega
        go_wp2
        go_quiet (fail)
        have d3 : (un p15 : Int) / 8 = (un (shr p15 3) : Int) := by rw [shr_un]; omega
        have d10 : (un p2 : Int) / 1024 = (un (shr p2 10) : Int) := by rw [shr_un]; omega
        have hx := xor32
        go_wp2_with fail
        refine (rotl7 p15 _).mono ?_
        rintro e w0 ⟨rfl, rfl⟩
        simp only [W4]
        go_wp2_with fail
        refine (rotl18 p15 _).mono ?_
        rintro e w0 ⟨rfl, rfl⟩
        simp only [W4]
        go_wp2_with fail
        refine (rotl17 p2 _).mono ?_
        rintro e w0 ⟨rfl, rfl⟩
        simp only [W4]
        go_wp2_with fail
        refine (rotl19 p2 _).mono ?_
        rintro e w0 ⟨rfl, rfl⟩
        simp only [W4]
        have ha := add32
        have et : ((t : Int)).toNat = t := by omega
        have ct := hB.free t
        have hw16 : IntKind.i64.wrap ((t : Int) - 16) = (t : Int) - 16 := IntWalk.i64_in _ (by omega)
        have hw7 : IntKind.i64.wrap ((t : Int) - 7) = (t : Int) - 7 := IntWalk.i64_in _ (by omega)
        have haw := add32w
        have q1 : (0 : Int) ≤ (t : Int) - 16 := by omega
        have q2 : (t : Int) - 16 < 64 := by omega
        have q3 : (0 : Int) ≤ (t : Int) - 7 := by omega
        have q4 : (t : Int) - 7 < 64 := by omega
        have q5 : (0 : Int) ≤ (t : Int) := by omega
        have q6 : (t : Int) < 64 := by omega
        have k16 : (wr.drewN nq).cell? ⟨w.heap.size + 1, t - 16, none⟩ = some (.int .u32 (un p16 : Int)) := c16
        have k7 : (wr.drewN nq).cell? ⟨w.heap.size + 1, t - 7, none⟩ = some (.int .u32 (un p7 : Int)) := c7
        have kt : (wr.drewN nq).frozen? ⟨w.heap.size + 1, t, none⟩ = false := ct
        have kc : (wr.drewN nq).cell? ⟨w.heap.size + 1, t, none⟩ = some (.int .u32 0) := hB.cell (swA_zero ht hlt)
        have kB : Blk (wr.drewN nq) (w.heap.size + 1) 63 ((swA b t).map W4) := hB
        have kB0 : Blk (wr.drewN nq) w.heap.size 63 ((List.replicate 64 0).map W4) := hB0
        have kb : Below w.heap.size w (wr.drewN nq) := bel_drewN hb _
        go_wp2_with fail
        generalize wr.drewN nq = wq at *
        clear c2 c15 c16 c7 ct
        go_region
        go_wp2
        go_roundw
        case rel =>
          refine ⟨t + 1, by omega, by go_num, ?_, ?_, ?_⟩
          · have h1 := kB.set t (W4 (nw b (sw b t) t))
            rw [swA_step hlt, nw_hi h16, ← H15.out, ← H2.out, ← H16.out, ← H7.out] at h1
            exact h1
          · exact kB0.other _ _ (by simp)
          · exact (kb.setCell (by simp) _).drew
        case measure => simp [intOf]; omega
    · obtain rfl : t = 64 := by omega
      have hl64 : ((swA b 64).map W4).length = 64 := by rw [List.length_map, swA_len (by omega)]
      have HL := Lib.hid hl64
      clear hl64
      go_wp2_with (first
        | ((with_reducible show wpList _ _ _ _ _ _); refine op_load_agg rfl 63 (.tmp 3) rfl (w.heap.size + 1) 0 rfl _ Tryd.underlying63 rfl ((swA b 64).map W4) hB.cl (by rw [HL.out]; exact size_w64) ?_)
        | ((with_reducible show wpList _ _ _ _ _ _); refine op_store_blk rfl 63 (.tmp 2) (.tmp 78) rfl w.heap.size 63 _ hB0 rfl ((swA b 64).map W4) rfl (by rw [HL.out]; simp) (W4s_one _) (by rw [HL.out]; exact size_w64) ?_; intro w2 hC hoth hbel hsz))
      have hld := run_loadVar_cl (P := Tryd.prog) 63 _ w.heap.size 0 ((swA b 64).map W4) hC.cl Tryd.underlying63 rfl (by rw [HL.out]; exact size_w64)
      have h64 : swA b 64 = sw b 64 := by simp [swA]
      rw [← h64]
      refine bodyPost_ret (v := .agg ((swA b 64).map W4).toArray) ?_ rfl ⟨rfl, hbel _ _ hb (Nat.le_refl _)⟩
      simp [results, Tryd.results47, asAddr, hld, Act.put]
end Go.Proofs.YtmmomcililideaaDoor
