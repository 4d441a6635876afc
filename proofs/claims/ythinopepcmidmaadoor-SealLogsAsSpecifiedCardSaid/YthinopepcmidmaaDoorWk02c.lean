/-
  One block: compress.
-/
import Derived.Deep.DeepCutAuto
import Derived.BigRegion
import Derived.Test.YthinopepcmidmaaDoorWk02a
import Derived.Test.YthinopepcmidmaaDoorMA
set_option linter.unusedSimpArgs false
set_option linter.unusedVariables false
set_option maxRecDepth 100000
set_option maxHeartbeats 1600000
namespace Go.Proofs.YthinopepcmidmaaDoor
open Go.RowKit
/-- The array of words after t rounds. -/
def swA (b : List UInt8) (t : Nat) : List UInt32 := sw b t ++ List.replicate (64 - t) 0
theorem sw_len (b : List UInt8) : ∀ t, (sw b t).length = t
  | 0 => rfl
  | t + 1 => by simp [sw, sw_len b t]
theorem swA_len {b : List UInt8} {t : Nat} (h : t ≤ 64) : (swA b t).length = 64 := by
  unfold swA
  rw [List.length_append, sw_len, List.length_replicate]
  omega
theorem swA_get {b : List UInt8} {t j : Nat} (h : t ≤ 64) (hj : j < t) : ((swA b t).map W4)[j]? = some (.int .u32 (un ((sw b t).getD j 0) : Int)) := by
  have hl := sw_len b t
  unfold swA
  rw [List.map_append, List.getElem?_append_left (by simp; omega)]
  simp [List.getElem?_eq_getElem (show j < (sw b t).length by omega), W4]
theorem List.set_getElem?_self' {α : Type} {l : List α} {k : Nat} {x : α} (h : l[k]? = some x) : l.set k x = l := by
  apply List.ext_getElem?
  intro i
  rw [List.getElem?_set]
  split
  · rename_i hi
    subst hi
    obtain ⟨h1, h2⟩ := List.getElem?_eq_some_iff.1 h
    simp [h1, ← h2]
  · rfl
theorem take_succ_drop' {α : Type} {l r : List α} {k : Nat} {x : α} (h : l.drop k = x :: r) : l.take (k + 1) = l.take k ++ [x] := by
  have hk : k < l.length := by
    rcases Nat.lt_or_ge k l.length with h' | h'
    · exact h'
    · rw [List.drop_eq_nil_of_le h'] at h; cases h
  rw [List.drop_eq_getElem_cons hk] at h
  injection h with h _
  rw [← List.take_append_getElem hk, h]
theorem swA_zero {b : List UInt8} {t : Nat} (h : t ≤ 64) (hj : t < 64) : ((swA b t).map W4)[t]? = some (.int .u32 0) := by
  have hl := sw_len b t
  unfold swA
  rw [List.map_append, List.getElem?_append_right (by simp; omega)]
  simp [hl, List.getElem?_replicate]
  exact ⟨by omega, rfl⟩
theorem swA_step {b : List UInt8} {t : Nat} (hj : t < 64) : ((swA b t).map W4).set t (W4 (nw b (sw b t) t)) = (swA b (t + 1)).map W4 := by
  have hl := sw_len b t
  unfold swA
  rw [← List.map_set, List.set_append_right _ _ (by omega), hl, Nat.sub_self]
  have e : 64 - t = (64 - (t + 1)) + 1 := by omega
  rw [e, List.replicate_succ, List.set_cons_zero]
  simp [sw]
theorem nw_hi {b : List UInt8} {l : List UInt32} {t : Nat} (h : ¬ t < 16) : nw b l t = l.getD (t - 16) 0 + sig0 (l.getD (t - 15) 0) + l.getD (t - 7) 0 + sig1 (l.getD (t - 2) 0) := by
  unfold nw
  rw [if_neg h]
/-- The first j bytes of word t. -/
def pn (l : List UInt8) : Nat := l.foldl (fun n x => n * 256 + x.toNat) 0
def pw (b : List UInt8) (t j : Nat) : UInt32 := UInt32.ofNat (pn ((b.drop (4 * t)).take j))
theorem pn_lt : ∀ l : List UInt8, pn l < 256 ^ l.length := by
  intro l
  have key : ∀ (l : List UInt8) (n k : Nat), n < 256 ^ k → l.foldl (fun n x => n * 256 + x.toNat) n < 256 ^ (k + l.length) := by
    intro l
    induction l with
    | nil => intro n k h; simpa using h
    | cons x l ih =>
      intro n k h
      have hx := x.toNat_lt
      have := ih (n * 256 + x.toNat) (k + 1) (by rw [Nat.pow_succ]; omega)
      simp only [List.foldl_cons, List.length_cons]
      rw [show k + (l.length + 1) = k + 1 + l.length by omega]
      exact this
  have := key l 0 0 (by simp)
  rw [Nat.zero_add] at this
  exact this
theorem pn_snoc (l : List UInt8) (x : UInt8) : pn (l ++ [x]) = pn l * 256 + x.toNat := by simp [pn]
theorem pw_un {b : List UInt8} {t j : Nat} (hj : j ≤ 4) : un (pw b t j) = pn ((b.drop (4 * t)).take j) := by
  unfold un pw
  rw [UInt32.toNat_ofNat', Nat.mod_eq_of_lt]
  refine Nat.lt_of_lt_of_le (pn_lt _) ?_
  refine Nat.le_trans (Nat.pow_le_pow_right (by omega) (show _ ≤ 4 by simp; omega)) (by decide)
theorem take_succ_at {b : List UInt8} {k j : Nat} {x : UInt8} (h : b.drop (k + j) = x :: b.drop (k + j + 1)) : (b.drop k).take (j + 1) = (b.drop k).take j ++ [x] := by
  have e : (b.drop k).drop j = x :: b.drop (k + j + 1) := by rw [List.drop_drop, h]
  exact take_succ_drop' e
theorem pw_step {b : List UInt8} {t j : Nat} {x : UInt8} (hj : j < 4) (h : b.drop (4 * t + j) = x :: b.drop (4 * t + j + 1)) :
    bits .or .u32 ((un (pw b t j) : Int) * 256 % 4294967296) ((x.toNat : Int) % 4294967296) = (un (pw b t (j + 1)) : Int) := by
  have hx := x.toNat_lt
  have e0 : (x.toNat : Int) % 4294967296 = (x.toNat : Int) := by omega
  rw [e0]
  have h1 : pn ((b.drop (4 * t)).take j) < 16777216 := by
    refine Nat.lt_of_lt_of_le (pn_lt _) ?_
    exact Nat.le_trans (Nat.pow_le_pow_right (by omega) (show _ ≤ 3 by simp; omega)) (by decide)
  rw [pw_un (by omega), pw_un (by omega), take_succ_at h, pn_snoc]
  generalize pn ((b.drop (4 * t)).take j) = n at *
  have e : (n : Int) * 256 % 4294967296 = ((n * 256 : Nat) : Int) := by omega
  rw [e, u32_or_nat _ _ (by omega) (by omega)]
  have := Nat.shiftLeft_add_eq_or_of_lt (i := 8) (show x.toNat < 2 ^ 8 by omega) n
  rw [Nat.shiftLeft_eq] at this
  rw [← this]
theorem nw_lo {b : List UInt8} {l : List UInt32} {t : Nat} (h : t < 16) : nw b l t = pw b t 4 := by
  unfold nw pw pn word
  rw [if_pos h]
theorem size_w64 : (Tryd.prog.info? 99).map (·.size) = some 64 := by kernel_rfl
theorem schedC (A : Option Addr) (c : Nat) (b : List UInt8) (w : World) (hl : b.length = 64) (hr : Rd w 1 (.slice A 64 c) 64 (b.map B8)) :
    Calls Tryd.prog 63 #[.slice A 64 c] w fun e w' => e = .returned (.agg ((sw b 64).map W4).toArray) ∧ Below w.heap.size w w' := by
  go_enter Tryd.func63, Tryd.ntmps63
  go_wp2
  go_loopw [11] (fun i wr => ∃ t : Nat, t ≤ 64 ∧ i = .int .i64 (t : Int) ∧ Blk wr (w.heap.size + 1) 99 ((swA b t).map W4) ∧ Blk wr w.heap.size 99 ((List.replicate 64 0).map W4) ∧ Below w.heap.size w wr)
    (fun i _ => 64 - (intOf i).toNat)
  case atStart => exact ⟨0, by omega, rfl, Blk.newAt rfl (by simp), (Blk.new rfl).alloc _, ((Below.refl _ _).alloc (Nat.le_refl _) _).alloc (by simp) _⟩
  case round =>
    obtain ⟨t, ht, rfl, hB, hB0, hb⟩ := hrel
    by_cases hlt : t < 64
    · by_cases h16 : t < 16
      · obtain ⟨bb, off, rfl, hbb, hcs⟩ := hr.cellAt (by omega)
        have hcap := hr.cap
        unfold maxLen at hcap
        obtain ⟨hc1, hc2⟩ := hcap
        have q1 : 4 * t + 4 ≤ 64 := by omega
        have e44 : 4 * t + 4 - 4 * t = 4 := by omega
        obtain ⟨wo, rfl⟩ : ∃ wo : World, wo = wr := ⟨_, rfl⟩
        go_wp2
        go_loopw [24] (fun i wr => ∃ j : Nat, j ≤ 4 ∧ i = .int .i64 (j : Int) ∧ Blk wr (w.heap.size + 1) 99 (((swA b t).map W4).set t (W4 (pw b t j))) ∧ Blk wr w.heap.size 99 ((List.replicate 64 0).map W4) ∧ Below w.heap.size w wr)
          (fun i _ => 4 - (intOf i).toNat)
        case atStart =>
          refine ⟨0, by omega, rfl, ?_, hB0, hb⟩
          have hz : ((swA b t).map W4)[t]? = some (W4 (pw b t 0)) := swA_zero ht hlt
          rw [List.set_getElem?_self' hz]
          exact hB
        case round =>
          obtain ⟨j, hj, rfl, kB, kB0, kb⟩ := hrel
          by_cases hj4 : j < 4
          · have hD : b.drop (4 * t + j) = b[4 * t + j]'(by omega) :: b.drop (4 * t + j + 1) := List.drop_eq_getElem_cons (by omega)
            have hst := Lib.hid (pw_step hj4 hD)
            have cx : wr.cell? ⟨bb, off + 4 * t + j, none⟩ = some (.int .u8 ((b[4 * t + j]'(by omega)).toNat : Int)) := by
              rw [kb.cell (p := ⟨bb, off + 4 * t + j, none⟩) hbb, Nat.add_assoc]
              exact hcs _ _ (by rw [List.getElem?_map, List.getElem?_eq_getElem (show 4 * t + j < b.length by omega)]; rfl)
            have cw : wr.cell? ⟨w.heap.size + 1, t, none⟩ = some (.int .u32 (un (pw b t j) : Int)) := kB.cell (by rw [List.getElem?_set]; simp [swA_len ht, hlt]; rfl)
            have cf := kB.free t
            clear hD
            generalize b[4 * t + j]'(by omega) = x at *
            go_wp2
            go_roundw
            case rel =>
              refine ⟨j + 1, by omega, by go_num, ?_, kB0.other _ _ (by simp), kb.setCell (by simp) _⟩
              have h1 := kB.set t (W4 (pw b t (j + 1)))
              rw [List.set_set] at h1
              unfold W4 at h1 ⊢
              rw [hst.out]
              exact h1
            case measure => simp [intOf]; omega
          · obtain rfl : j = 4 := by omega
            go_wp2
            go_roundw
            case rel =>
              refine ⟨t + 1, by omega, by go_num, ?_, kB0, kb⟩
              rw [← nw_lo (l := sw b t) h16, swA_step hlt] at kB
              exact kB
            case measure => simp [intOf]; omega
      · have c15 : wr.cell? ⟨w.heap.size + 1, t - 15, none⟩ = some (.int .u32 (un ((sw b t).getD (t - 15) 0) : Int)) := hB.cell (swA_get ht (by omega))
        have c2 : wr.cell? ⟨w.heap.size + 1, t - 2, none⟩ = some (.int .u32 (un ((sw b t).getD (t - 2) 0) : Int)) := hB.cell (swA_get ht (by omega))
        have c16 : wr.cell? ⟨w.heap.size + 1, t - 16, none⟩ = some (.int .u32 (un ((sw b t).getD (t - 16) 0) : Int)) := hB.cell (swA_get ht (by omega))
        have c7 : wr.cell? ⟨w.heap.size + 1, t - 7, none⟩ = some (.int .u32 (un ((sw b t).getD (t - 7) 0) : Int)) := hB.cell (swA_get ht (by omega))
        obtain ⟨p15, hp15⟩ : ∃ p : UInt32, p = (sw b t).getD (t - 15) 0 := ⟨_, rfl⟩
        obtain ⟨p2, hp2⟩ : ∃ p : UInt32, p = (sw b t).getD (t - 2) 0 := ⟨_, rfl⟩
        obtain ⟨p16, hp16⟩ : ∃ p : UInt32, p = (sw b t).getD (t - 16) 0 := ⟨_, rfl⟩
        obtain ⟨p7, hp7⟩ : ∃ p : UInt32, p = (sw b t).getD (t - 7) 0 := ⟨_, rfl⟩
        rw [← hp15] at c15
        rw [← hp2] at c2
        rw [← hp16] at c16
        rw [← hp7] at c7
        have H15 := Lib.hid hp15
        have H2 := Lib.hid hp2
        have H16 := Lib.hid hp16
        have H7 := Lib.hid hp7
        clear hp15 hp2 hp16 hp7
        have e15 : ((t : Int) - 15).toNat = t - 15 := by omega
        have e2 : ((t : Int) - 2).toNat = t - 2 := by omega
        have e16 : ((t : Int) - 16).toNat = t - 16 := by omega
        have e7 : ((t : Int) - 7).toNat = t - 7 := by omega
        go_wp2
        go_quiet (fail)
        have d3 : (un p15 : Int) / 8 = (un (shr p15 3) : Int) := by rw [shr_un]; omega
        have d10 : (un p2 : Int) / 1024 = (un (shr p2 10) : Int) := by rw [shr_un]; omega
        have hx := xor32
        go_wp2_with fail
        refine (rotl7 p15 _).mono ?_
        rintro e w0 ⟨rfl, rfl⟩
        simp only [W4]
        go_wp2_with fail
        refine (rotl18 p15 _).mono ?_
        rintro e w0 ⟨rfl, rfl⟩
        simp only [W4]
        go_wp2_with fail
        refine (rotl17 p2 _).mono ?_
        rintro e w0 ⟨rfl, rfl⟩
        simp only [W4]
        go_wp2_with fail
        refine (rotl19 p2 _).mono ?_
        rintro e w0 ⟨rfl, rfl⟩
        simp only [W4]
        have ha := add32
        have et : ((t : Int)).toNat = t := by omega
        have ct := hB.free t
        have hw16 : IntKind.i64.wrap ((t : Int) - 16) = (t : Int) - 16 := IntWalk.i64_in _ (by omega)
        have hw7 : IntKind.i64.wrap ((t : Int) - 7) = (t : Int) - 7 := IntWalk.i64_in _ (by omega)
        have haw := add32w
        have q1 : (0 : Int) ≤ (t : Int) - 16 := by omega
        have q2 : (t : Int) - 16 < 64 := by omega
        have q3 : (0 : Int) ≤ (t : Int) - 7 := by omega
        have q4 : (t : Int) - 7 < 64 := by omega
        have q5 : (0 : Int) ≤ (t : Int) := by omega
        have q6 : (t : Int) < 64 := by omega
        have k16 : (wr.drewN nq).cell? ⟨w.heap.size + 1, t - 16, none⟩ = some (.int .u32 (un p16 : Int)) := c16
        have k7 : (wr.drewN nq).cell? ⟨w.heap.size + 1, t - 7, none⟩ = some (.int .u32 (un p7 : Int)) := c7
        have kt : (wr.drewN nq).frozen? ⟨w.heap.size + 1, t, none⟩ = false := ct
        have kc : (wr.drewN nq).cell? ⟨w.heap.size + 1, t, none⟩ = some (.int .u32 0) := hB.cell (swA_zero ht hlt)
        have kB : Blk (wr.drewN nq) (w.heap.size + 1) 99 ((swA b t).map W4) := hB
        have kB0 : Blk (wr.drewN nq) w.heap.size 99 ((List.replicate 64 0).map W4) := hB0
        have kb : Below w.heap.size w (wr.drewN nq) := bel_drewN hb _
        go_wp2_with fail
        generalize wr.drewN nq = wq at *
        clear c2 c15 c16 c7 ct
        go_region
        go_wp2
        go_roundw
        case rel =>
          refine ⟨t + 1, by omega, by go_num, ?_, ?_, ?_⟩
          · have h1 := kB.set t (W4 (nw b (sw b t) t))
            rw [swA_step hlt, nw_hi h16, ← H15.out, ← H2.out, ← H16.out, ← H7.out] at h1
            exact h1
          · exact kB0.other _ _ (by simp)
          · exact (kb.setCell (by simp) _).drew
        case measure => simp [intOf]; omega
    · obtain rfl : t = 64 := by omega
      have hl64 : ((swA b 64).map W4).length = 64 := by rw [List.length_map, swA_len (by omega)]
      have HL := Lib.hid hl64
      clear hl64
      go_wp2_with (first
        | ((with_reducible show wpList _ _ _ _ _ _); refine op_load_agg rfl 99 (.tmp 3) rfl (w.heap.size + 1) 0 rfl _ Tryd.underlying99 rfl ((swA b 64).map W4) hB.cl (by rw [HL.out]; exact size_w64) ?_)
        | ((with_reducible show wpList _ _ _ _ _ _); refine op_store_blk rfl 99 (.tmp 2) (.tmp 78) rfl w.heap.size 99 _ hB0 rfl ((swA b 64).map W4) rfl (by rw [HL.out]; simp) (W4s_one _) (by rw [HL.out]; exact size_w64) ?_; intro w2 hC hoth hbel hsz))
      have hld := run_loadVar_cl (P := Tryd.prog) 99 _ w.heap.size 0 ((swA b 64).map W4) hC.cl Tryd.underlying99 rfl (by rw [HL.out]; exact size_w64)
      have h64 : swA b 64 = sw b 64 := by simp [swA]
      rw [← h64]
      refine bodyPost_ret (v := .agg ((swA b 64).map W4).toArray) ?_ rfl ⟨rfl, hbel _ _ hb (Nat.le_refl _)⟩
      simp [results, Tryd.results63, asAddr, hld, Act.put]
end Go.Proofs.YthinopepcmidmaaDoor
namespace Go.Proofs.YthinopepcmidmaaDoor
open Go.RowKit
theorem size_w8 : (Tryd.prog.info? 79).map (·.size) = some 8 := by kernel_rfl
theorem size_w4 : (Tryd.prog.info? 102).map (·.size) = some 4 := by kernel_rfl
/-- The table of constants lies where it lies. -/
def KK (w : World) : Prop := 1 < w.heap.size ∧ Cl w 1 0 (kk.map W4)
theorem KK.below {w w' : World} {B : Nat} (h : KK w) (hb : Below B w w') (hB : 1 < B) : KK w' :=
  ⟨Nat.lt_of_lt_of_le h.1 hb.size, h.2.below hb hB⟩
theorem size_u32 : (Tryd.prog.info? 78).map (·.size) = some 1 := by kernel_rfl
theorem kk_get {t : Nat} (h : t < 64) : (kk.map W4)[t]? = some (.int .u32 (un (kk.getD t 0) : Int)) := by
  have : t < kk.length := h
  simp [List.getElem?_eq_getElem this, W4]
theorem sw_get {b : List UInt8} {t : Nat} (h : t < 64) : ((sw b 64).map W4)[t]? = some (.int .u32 (un ((sw b 64).getD t 0) : Int)) := by
  have : t < (sw b 64).length := by rw [sw_len]; exact h
  simp [List.getElem?_eq_getElem this, W4]
theorem mixEq (x : UInt32) (w : World) :
    Calls Tryd.prog 64 #[.int .u32 (un x : Int), .int .i64 6, .int .i64 11, .int .i64 25] w fun e w' => e = .returned (.int .u32 (un (mix3 x 6 11 25) : Int)) ∧ w' = w :=
  (mixE x w).mono fun _ _ ⟨h1, h2⟩ => ⟨h1, h2.symm⟩
theorem mixAq (x : UInt32) (w : World) :
    Calls Tryd.prog 64 #[.int .u32 (un x : Int), .int .i64 2, .int .i64 13, .int .i64 22] w fun e w' => e = .returned (.int .u32 (un (mix3 x 2 13 22) : Int)) ∧ w' = w :=
  (mixA x w).mono fun _ _ ⟨h1, h2⟩ => ⟨h1, h2.symm⟩
theorem kk_len : (kk.map W4).length = 64 := rfl
def z8 : List Value := [.int .u32 0, .int .u32 0, .int .u32 0, .int .u32 0, .int .u32 0, .int .u32 0, .int .u32 0, .int .u32 0]
/-- The blocks of compress. -/
structure CW (w wx : World) (l8 : List Value) (b : List UInt8) (gW gv ge : Nat) (V E : List Value) : Prop where
  B0 : Blk wx w.heap.size 79 l8
  B1 : Blk wx (w.heap.size + 1) 79 z8
  BW : Blk wx gW 99 ((sw b 64).map W4)
  BV : Blk wx gv 102 V
  BE : Blk wx ge 102 E
  nW : w.heap.size + 2 ≤ gW
  nv : gW < gv
  ne : gW < ge
  d : gv ≠ ge
  bel : Below w.heap.size w wx
def V4 (s : S8) : List Value := [W4 s.a, W4 s.b, W4 s.c, W4 s.d]
def E4 (s : S8) : List Value := [W4 s.e, W4 s.f, W4 s.g, W4 s.h]
theorem V4_len (s : S8) : (V4 s).length = 4 := rfl
theorem E4_len (s : S8) : (E4 s).length = 4 := rfl
theorem V4_one (s : S8) : ∀ u ∈ V4 s, u.oneCell' = true := W4s_one [s.a, s.b, s.c, s.d]
theorem E4_one (s : S8) : ∀ u ∈ E4 s, u.oneCell' = true := W4s_one [s.e, s.f, s.g, s.h]
theorem E4_rnd (st : S8) (kt wt : UInt32) : (E4 (rnd st kt wt)).toArray = #[.int .u32 (un (st.d + (st.h + mix3 st.e 6 11 25 + ((st.e &&& st.f) ^^^ (~~~st.e &&& st.g)) + kt + wt)) : Int), .int .u32 (un st.e : Int), .int .u32 (un st.f : Int), .int .u32 (un st.g : Int)] := rfl
theorem V4_rnd (st : S8) (kt wt : UInt32) : (V4 (rnd st kt wt)).toArray = #[.int .u32 (un ((st.h + mix3 st.e 6 11 25 + ((st.e &&& st.f) ^^^ (~~~st.e &&& st.g)) + kt + wt) + (mix3 st.a 2 13 22 + ((st.a &&& st.b) ^^^ (st.a &&& st.c) ^^^ (st.b &&& st.c)))) : Int), .int .u32 (un st.a : Int), .int .u32 (un st.b : Int), .int .u32 (un st.c : Int)] := rfl
theorem CW.set {w wx : World} {l8 : List Value} {b : List UInt8} {gW gv ge : Nat} {V E : List Value} (h : CW w wx l8 b gW gv ge V E) (k : Nat) (v : Value) : CW w ((wx.setCell ⟨w.heap.size, k, none⟩ v).drew) (l8.set k v) b gW gv ge V E :=
  ⟨(h.B0.set k v).drew, (h.B1.other _ _ (by simp)).drew, (h.BW.other _ _ (by have := h.nW; simp; omega)).drew, (h.BV.other _ _ (by have := h.nW; have := h.nv; simp; omega)).drew, (h.BE.other _ _ (by have := h.nW; have := h.ne; simp; omega)).drew,
    h.nW, h.nv, h.ne, h.d, (h.bel.setCell (Nat.le_refl _) v).drew⟩
def addL (s r : S8) (k : Nat) : List UInt32 := [if 0 < k then s.a + r.a else s.a, if 1 < k then s.b + r.b else s.b, if 2 < k then s.c + r.c else s.c, if 3 < k then s.d + r.d else s.d,
  if 0 < k then s.e + r.e else s.e, if 1 < k then s.f + r.f else s.f, if 2 < k then s.g + r.g else s.g, if 3 < k then s.h + r.h else s.h]
theorem addL_len (s r : S8) (k : Nat) : ((addL s r k).map W4).length = 8 := rfl
theorem addL_4 (s r : S8) : addL s r 4 = (s.add r).l := rfl
theorem CW.drewN {w wx : World} {l8 : List Value} {b : List UInt8} {gW gv ge : Nat} {V E : List Value} (h : CW w wx l8 b gW gv ge V E) (n : Nat) : CW w (wx.drewN n) l8 b gW gv ge V E :=
  ⟨h.B0, h.B1, h.BW, h.BV, h.BE, h.nW, h.nv, h.ne, h.d, bel_drewN h.bel n⟩
set_option maxHeartbeats 3200000 in
theorem compC (s : S8) (A : Option Addr) (c : Nat) (b : List UInt8) (w : World) (hl : b.length = 64) (hr : Rd w 1 (.slice A 64 c) 64 (b.map B8)) (hK : KK w) :
    Calls Tryd.prog 57 #[.agg (s.l.map W4).toArray, .slice A 64 c] w fun e w' => e = .returned (.agg ((comp s b).l.map W4).toArray) ∧ Below w.heap.size w w' := by
  go_enter Tryd.func57, Tryd.ntmps57
  go_wp2_with fail
  have r0 := (hr.alloc (.cells (List.map W4 s.l).toArray 79)).alloc (.cells #[.int .u32 0, .int .u32 0, .int .u32 0, .int .u32 0, .int .u32 0, .int .u32 0, .int .u32 0, .int .u32 0] 79)
  refine (schedC _ _ b _ hl r0).mono ?_
  rintro e w1 ⟨rfl, hb1⟩
  have h1 : (w.alloc (.cells (List.map W4 s.l).toArray 79)).heap.size = w.heap.size + 1 := by simp
  have B0 : Blk w1 w.heap.size 79 (s.l.map W4) := (((Blk.new rfl).alloc _).below hb1 (by simp; omega))
  have B1 : Blk w1 (w.heap.size + 1) 79 [.int .u32 0, .int .u32 0, .int .u32 0, .int .u32 0, .int .u32 0, .int .u32 0, .int .u32 0, .int .u32 0] := (Blk.newAt rfl h1.symm).below hb1 (by simp)
  have b1 : Below w.heap.size w w1 := (((Below.refl w.heap.size w).alloc (Nat.le_refl _) _).alloc (by simp) _).trans (hb1.mono (by simp; omega))
  have z1 : w.heap.size + 2 ≤ w1.heap.size := by have := hb1.size; simp at this; omega
  clear r0 hb1 h1
  go_wp2_with ((with_reducible show wpList _ _ _ _ _ _); refine op_store_new w1 _ _ rfl 99 (.tmp 5) (.tmp 14) rfl rfl ((sw b 64).map W4).toArray rfl (by simp [sw_len]) (by simpa using W4s_one _) (by simp [sw_len, size_w64]) ?_)
  have B0' := B0.alloc (.cells (List.map W4 (sw b 64)).toArray 99)
  have B1' := B1.alloc (.cells (List.map W4 (sw b 64)).toArray 99)
  have BW : Blk (w1.alloc (.cells (List.map W4 (sw b 64)).toArray 99)) w1.heap.size 99 ((sw b 64).map W4) := Blk.new rfl
  have b2 := b1.alloc b1.size (.cells (List.map W4 (sw b 64)).toArray 99)
  have z2 : (w1.alloc (.cells (List.map W4 (sw b 64)).toArray 99)).heap.size = w1.heap.size + 1 := by simp
  generalize w1.alloc (.cells (List.map W4 (sw b 64)).toArray 99) = w2 at B0' B1' BW b2 z2 ⊢
  clear B0 B1 b1
  generalize w1.heap.size = gW at z1 BW z2 ⊢
  have c0 : w2.cell? ⟨w.heap.size, 0, none⟩ = some (.int .u32 (un s.a : Int)) := B0'.cell rfl
  have c1 : w2.cell? ⟨w.heap.size, 1, none⟩ = some (.int .u32 (un s.b : Int)) := B0'.cell rfl
  have c2 : w2.cell? ⟨w.heap.size, 2, none⟩ = some (.int .u32 (un s.c : Int)) := B0'.cell rfl
  have c3 : w2.cell? ⟨w.heap.size, 3, none⟩ = some (.int .u32 (un s.d : Int)) := B0'.cell rfl
  have c4 : w2.cell? ⟨w.heap.size, 4, none⟩ = some (.int .u32 (un s.e : Int)) := B0'.cell rfl
  have c5 : w2.cell? ⟨w.heap.size, 5, none⟩ = some (.int .u32 (un s.f : Int)) := B0'.cell rfl
  have c6 : w2.cell? ⟨w.heap.size, 6, none⟩ = some (.int .u32 (un s.g : Int)) := B0'.cell rfl
  have c7 : w2.cell? ⟨w.heap.size, 7, none⟩ = some (.int .u32 (un s.h : Int)) := B0'.cell rfl
  have ar0 := run_arrayAt (P := Tryd.prog) 102 78 4 Tryd.underlying102 (some ⟨w.heap.size, 0, none⟩) 4 8 (by omega)
  have ar4 := run_arrayAt (P := Tryd.prog) 102 78 4 Tryd.underlying102 (some ⟨w.heap.size, 4, none⟩) 4 4 (by omega)
  have l1 : w.heap.size < w2.heap.size := by omega
  have l2 : w.heap.size < w2.heap.size + 1 := by omega
  have Z2 := Lib.hid z2
  clear z2
  simp only [Act.put]
  go_cut [6, 7] (fun sv se wx => ∃ gv ge : Nat, sv = .pointer (some ⟨gv, 0, none⟩) ∧ se = .pointer (some ⟨ge, 0, none⟩) ∧ CW w wx (s.l.map W4) b gW gv ge (V4 s) (E4 s))
  case first =>
    go_region
    all_goals
      go_wp2_with fail
      go_meet
      have Z3 := Z2.out
      first
        | exact ⟨w2.heap.size, w2.heap.size + 1, rfl, rfl, ⟨((B0'.alloc _).alloc _).drew, ((B1'.alloc _).alloc _).drew, ((BW.alloc _).alloc _).drew, ((Blk.new (xs := V4 s) rfl).alloc _).drew, (Blk.newAt (xs := E4 s) rfl (by simp)).drew, z1, by omega, by omega, by omega, ((b2.alloc b2.size _).alloc (by have := b2.size; simp; omega) _).drew⟩⟩
        | exact ⟨w2.heap.size + 1, w2.heap.size, rfl, rfl, ⟨((B0'.alloc _).alloc _).drew, ((B1'.alloc _).alloc _).drew, ((BW.alloc _).alloc _).drew, (Blk.newAt (xs := V4 s) rfl (by simp)).drew, ((Blk.new (xs := E4 s) rfl).alloc _).drew, z1, by omega, by omega, by omega, ((b2.alloc b2.size _).alloc (by have := b2.size; simp; omega) _).drew⟩⟩
  case rest =>
    obtain ⟨gv, ge, rfl, rfl, hC⟩ := hcut
    have hK1 := hK.below hC.bel hK.1
    go_wp2_with ((with_reducible show wpList _ _ _ _ _ _); refine op_load_agg rfl 99 (.global 1) rfl 1 0 rfl _ Tryd.underlying99 rfl (kk.map W4) hK1.2 (by rw [kk_len]; exact size_w64) ?_)
    have hIall : ∀ t : Nat, t < 64 → ∀ W : World, (Instr.index 99 (.agg (kk.map W4).toArray) (.int .i64 (t : Int))).run Tryd.prog W = .ok (.int .u32 (un (kk.getD t 0) : Int)) W := fun t hlt => run_index_arr (P := Tryd.prog) 99 78 64 Tryd.underlying99 size_u32 ⟨_, Tryd.underlying78, rfl⟩ (kk.map W4) t (.int .u32 (un (kk.getD t 0) : Int)) (kk_get hlt) hlt
    have HI := Lib.hid hIall
    clear hIall hK1
    generalize (kk.map W4).toArray = KA at HI ⊢
    go_loopw [22] (fun i wr => ∃ t : Nat, t ≤ 64 ∧ i = .int .i64 (t : Int) ∧ CW w wr (s.l.map W4) b gW gv ge (V4 (rnds s (sw b 64) t)) (E4 (rnds s (sw b 64) t)))
      (fun i _ => 64 - (intOf i).toNat)
    case atStart => exact ⟨0, by omega, rfl, hC⟩
    case round =>
      obtain ⟨t, ht, rfl, hR⟩ := hrel
      by_cases hlt : t < 64
      · have hI := HI.out t hlt
        have cw : wr.cell? ⟨gW, t, none⟩ = some (.int .u32 (un ((sw b 64).getD t 0) : Int)) := hR.BW.cell (sw_get hlt)
        have HN : ∀ _ : Unit, rnds s (sw b 64) (t + 1) = rnd (rnds s (sw b 64) t) (kk.getD t 0) ((sw b 64).getD t 0) := fun _ => rfl
        have HN := Lib.hid HN
        generalize rnds s (sw b 64) t = st at hR HN
        generalize kk.getD t 0 = kt at hI HN
        generalize (sw b 64).getD t 0 = wt at cw HN
        have v0 : wr.cell? ⟨gv, 0, none⟩ = some (.int .u32 (un st.a : Int)) := hR.BV.cell rfl
        have v1 : wr.cell? ⟨gv, 1, none⟩ = some (.int .u32 (un st.b : Int)) := hR.BV.cell rfl
        have v2 : wr.cell? ⟨gv, 2, none⟩ = some (.int .u32 (un st.c : Int)) := hR.BV.cell rfl
        have v3 : wr.cell? ⟨gv, 3, none⟩ = some (.int .u32 (un st.d : Int)) := hR.BV.cell rfl
        have e0 : wr.cell? ⟨ge, 0, none⟩ = some (.int .u32 (un st.e : Int)) := hR.BE.cell rfl
        have e1 : wr.cell? ⟨ge, 1, none⟩ = some (.int .u32 (un st.f : Int)) := hR.BE.cell rfl
        have e2 : wr.cell? ⟨ge, 2, none⟩ = some (.int .u32 (un st.g : Int)) := hR.BE.cell rfl
        have e3 : wr.cell? ⟨ge, 3, none⟩ = some (.int .u32 (un st.h : Int)) := hR.BE.cell rfl
        have hx := xor32
        have ha := and32
        have hn := not32
        have hd := add32
        have hdw := add32w
        have hd3 := add32_3
        have hd4 := add32_4
        go_wp2
        go_quiet ((go_at_call 64; exact Calls.quiet_of_same (mixEq _ _)))
        as_aux_lemma =>
          have hR' := hR.drewN nq
          clear v0 v1 v2 v3 e0 e1 e2 e3 cw hI
          go_wp2
          generalize wr.drewN nq = wq at hR' ⊢
          have v0 : wq.cell? ⟨gv, 0, none⟩ = some (.int .u32 (un st.a : Int)) := hR'.BV.cell rfl
          have v1 : wq.cell? ⟨gv, 1, none⟩ = some (.int .u32 (un st.b : Int)) := hR'.BV.cell rfl
          have v2 : wq.cell? ⟨gv, 2, none⟩ = some (.int .u32 (un st.c : Int)) := hR'.BV.cell rfl
          have v3 : wq.cell? ⟨gv, 3, none⟩ = some (.int .u32 (un st.d : Int)) := hR'.BV.cell rfl
          have e0 : wq.cell? ⟨ge, 0, none⟩ = some (.int .u32 (un st.e : Int)) := hR'.BE.cell rfl
          have e1 : wq.cell? ⟨ge, 1, none⟩ = some (.int .u32 (un st.f : Int)) := hR'.BE.cell rfl
          have e2 : wq.cell? ⟨ge, 2, none⟩ = some (.int .u32 (un st.g : Int)) := hR'.BE.cell rfl
          go_quiet ((go_at_call 64; exact Calls.quiet_of_same (mixAq _ _)))
          as_aux_lemma =>
            have hS := hR'.drewN nq
            clear v0 v1 v2 v3 e0 e1 e2
            generalize wq.drewN nq = wz at hS ⊢
            have v3 : wz.cell? ⟨gv, 3, none⟩ = some (.int .u32 (un st.d : Int)) := hS.BV.cell rfl
            have e0 : wz.cell? ⟨ge, 0, none⟩ = some (.int .u32 (un st.e : Int)) := hS.BE.cell rfl
            have e1 : wz.cell? ⟨ge, 1, none⟩ = some (.int .u32 (un st.f : Int)) := hS.BE.cell rfl
            have e2 : wz.cell? ⟨ge, 2, none⟩ = some (.int .u32 (un st.g : Int)) := hS.BE.cell rfl
            go_wp2_with (first
              | ((with_reducible show wpList _ _ _ _ _ _); refine op_store_blk rfl 102 (.tmp 7) (.tmp 82) rfl ge 102 _ hS.BE rfl (E4 (rnd st kt wt)) (congrArg Value.agg (E4_rnd st kt wt).symm) ((E4_len _).trans (E4_len _).symm) (E4_one _) (by rw [E4_len]; exact size_w4) ?_; intro w3 hE3 hoth3 hbel3 hsz3; have BV3 := hoth3 gv _ _ hS.d hS.BV; have y0 : w3.cell? ⟨gv, 0, none⟩ = some (.int .u32 (un st.a : Int)) := BV3.cell rfl; have y1 : w3.cell? ⟨gv, 1, none⟩ = some (.int .u32 (un st.b : Int)) := BV3.cell rfl; have y2 : w3.cell? ⟨gv, 2, none⟩ = some (.int .u32 (un st.c : Int)) := BV3.cell rfl)
              | ((with_reducible show wpList _ _ _ _ _ _); refine op_store_blk rfl 102 (.tmp 6) (.tmp 92) rfl gv 102 _ BV3 rfl (V4 (rnd st kt wt)) (congrArg Value.agg (V4_rnd st kt wt).symm) ((V4_len _).trans (V4_len _).symm) (V4_one _) (by rw [V4_len]; exact size_w4) ?_; intro w4 hV4 hoth4 hbel4 hsz4))
            go_roundw
            case rel =>
              have HN' := HN.out ()
              refine ⟨t + 1, by omega, by go_num, ?_⟩
              rw [HN']
              exact ⟨hoth4 _ _ _ (by have := hS.nv; have := hS.nW; omega) (hoth3 _ _ _ (by have := hS.ne; have := hS.nW; omega) hS.B0), hoth4 _ _ _ (by have := hS.nv; have := hS.nW; omega) (hoth3 _ _ _ (by have := hS.ne; have := hS.nW; omega) hS.B1),
                hoth4 _ _ _ (by have := hS.nv; omega) (hoth3 _ _ _ (by have := hS.ne; omega) hS.BW), hV4, hoth4 _ _ _ (Ne.symm hS.d) hE3, hS.nW, hS.nv, hS.ne, hS.d,
                hbel4 _ _ (hbel3 _ _ hS.bel (by have := hS.ne; have := hS.nW; omega)) (by have := hS.nv; have := hS.nW; omega)⟩
            case measure => simp [intOf]; omega
      · obtain rfl : t = 64 := by omega
        clear HI
        as_aux_lemma =>
          obtain ⟨r, hr⟩ : ∃ r, r = rnds s (sw b 64) 64 := ⟨_, rfl⟩
          have HQ : ∀ _ : Unit, comp s b = s.add r := fun _ => by rw [hr]; rfl
          have HQ := Lib.hid HQ
          rw [← hr] at hR
          clear hr
          obtain ⟨wo, rfl⟩ : ∃ wo : World, wo = wr := ⟨_, rfl⟩
          go_wp2
          go_loopw [94] (fun i wr => ∃ k : Int, 0 ≤ k ∧ k ≤ 4 ∧ i = .int .i64 k ∧ CW w wr ((addL s r k.toNat).map W4) b gW gv ge (V4 r) (E4 r)) (fun i _ => (4 - intOf i).toNat)
          case atStart => exact ⟨0, by omega, by omega, rfl, hR⟩
          case round =>
            obtain ⟨k, hk0, hk4, rfl, hX⟩ := hrel
            have hd := add32
            have hdw := add32w
            obtain rfl | rfl | rfl | rfl | rfl : k = 0 ∨ k = 1 ∨ k = 2 ∨ k = 3 ∨ k = 4 := by omega
            · have s0 : wr.cell? ⟨w.heap.size, 0, none⟩ = some (.int .u32 (un s.a : Int)) := hX.B0.cell rfl
              have f0 : wr.frozen? ⟨w.heap.size, 0, none⟩ = false := hX.B0.free _
              have v0 : wr.cell? ⟨gv, 0, none⟩ = some (.int .u32 (un r.a : Int)) := hX.BV.cell rfl
              go_wp2
              go_region
              have hY := hX.set 0 (.int .u32 (un (s.a + r.a) : Int))
              clear s0 f0 v0
              generalize (wr.setCell ⟨w.heap.size, 0, none⟩ (.int .u32 (un (s.a + r.a) : Int))).drew = wq at hY ⊢
              have s0 : wq.cell? ⟨w.heap.size, 4, none⟩ = some (.int .u32 (un s.e : Int)) := hY.B0.cell rfl
              have f0 : wq.frozen? ⟨w.heap.size, 4, none⟩ = false := hY.B0.free _
              have v0 : wq.cell? ⟨ge, 0, none⟩ = some (.int .u32 (un r.e : Int)) := hY.BE.cell rfl
              go_wp2
              go_region
              have hZ := hY.set 4 (.int .u32 (un (s.e + r.e) : Int))
              clear s0 f0 v0
              go_wp2
              go_roundw
              case rel => exact ⟨1, by omega, by omega, rfl, hZ⟩
              case measure => simp [intOf]
            · have s0 : wr.cell? ⟨w.heap.size, 1, none⟩ = some (.int .u32 (un s.b : Int)) := hX.B0.cell rfl
              have f0 : wr.frozen? ⟨w.heap.size, 1, none⟩ = false := hX.B0.free _
              have v0 : wr.cell? ⟨gv, 1, none⟩ = some (.int .u32 (un r.b : Int)) := hX.BV.cell rfl
              go_wp2
              go_region
              have hY := hX.set 1 (.int .u32 (un (s.b + r.b) : Int))
              clear s0 f0 v0
              generalize (wr.setCell ⟨w.heap.size, 1, none⟩ (.int .u32 (un (s.b + r.b) : Int))).drew = wq at hY ⊢
              have s0 : wq.cell? ⟨w.heap.size, 5, none⟩ = some (.int .u32 (un s.f : Int)) := hY.B0.cell rfl
              have f0 : wq.frozen? ⟨w.heap.size, 5, none⟩ = false := hY.B0.free _
              have v0 : wq.cell? ⟨ge, 1, none⟩ = some (.int .u32 (un r.f : Int)) := hY.BE.cell rfl
              go_wp2
              go_region
              have hZ := hY.set 5 (.int .u32 (un (s.f + r.f) : Int))
              clear s0 f0 v0
              go_wp2
              go_roundw
              case rel => exact ⟨2, by omega, by omega, rfl, hZ⟩
              case measure => simp [intOf]
            · have s0 : wr.cell? ⟨w.heap.size, 2, none⟩ = some (.int .u32 (un s.c : Int)) := hX.B0.cell rfl
              have f0 : wr.frozen? ⟨w.heap.size, 2, none⟩ = false := hX.B0.free _
              have v0 : wr.cell? ⟨gv, 2, none⟩ = some (.int .u32 (un r.c : Int)) := hX.BV.cell rfl
              go_wp2
              go_region
              have hY := hX.set 2 (.int .u32 (un (s.c + r.c) : Int))
              clear s0 f0 v0
              generalize (wr.setCell ⟨w.heap.size, 2, none⟩ (.int .u32 (un (s.c + r.c) : Int))).drew = wq at hY ⊢
              have s0 : wq.cell? ⟨w.heap.size, 6, none⟩ = some (.int .u32 (un s.g : Int)) := hY.B0.cell rfl
              have f0 : wq.frozen? ⟨w.heap.size, 6, none⟩ = false := hY.B0.free _
              have v0 : wq.cell? ⟨ge, 2, none⟩ = some (.int .u32 (un r.g : Int)) := hY.BE.cell rfl
              go_wp2
              go_region
              have hZ := hY.set 6 (.int .u32 (un (s.g + r.g) : Int))
              clear s0 f0 v0
              go_wp2
              go_roundw
              case rel => exact ⟨3, by omega, by omega, rfl, hZ⟩
              case measure => simp [intOf]
            · have s0 : wr.cell? ⟨w.heap.size, 3, none⟩ = some (.int .u32 (un s.d : Int)) := hX.B0.cell rfl
              have f0 : wr.frozen? ⟨w.heap.size, 3, none⟩ = false := hX.B0.free _
              have v0 : wr.cell? ⟨gv, 3, none⟩ = some (.int .u32 (un r.d : Int)) := hX.BV.cell rfl
              go_wp2
              go_region
              have hY := hX.set 3 (.int .u32 (un (s.d + r.d) : Int))
              clear s0 f0 v0
              generalize (wr.setCell ⟨w.heap.size, 3, none⟩ (.int .u32 (un (s.d + r.d) : Int))).drew = wq at hY ⊢
              have s0 : wq.cell? ⟨w.heap.size, 7, none⟩ = some (.int .u32 (un s.h : Int)) := hY.B0.cell rfl
              have f0 : wq.frozen? ⟨w.heap.size, 7, none⟩ = false := hY.B0.free _
              have v0 : wq.cell? ⟨ge, 3, none⟩ = some (.int .u32 (un r.h : Int)) := hY.BE.cell rfl
              go_wp2
              go_region
              have hZ := hY.set 7 (.int .u32 (un (s.h + r.h) : Int))
              clear s0 f0 v0
              go_wp2
              go_roundw
              case rel => exact ⟨4, by omega, by omega, rfl, hZ⟩
              case measure => simp [intOf]
            · go_wp2_with (first
                | ((with_reducible show wpList _ _ _ _ _ _); refine op_load_agg rfl 79 (.tmp 2) rfl w.heap.size 0 rfl _ Tryd.underlying79 rfl ((addL s r 4).map W4) hX.B0.cl (by rw [addL_len]; exact size_w8) ?_)
                | ((with_reducible show wpList _ _ _ _ _ _); refine op_store_blk rfl 79 (.tmp 4) (.tmp 115) rfl (w.heap.size + 1) 79 _ hX.B1 rfl ((addL s r 4).map W4) rfl (by rw [addL_len]; rfl) (W4s_one _) (by rw [addL_len]; exact size_w8) ?_; intro w9 hC9 hoth9 hbel9 hsz9))
              have hld := run_loadVar_cl (P := Tryd.prog) 79 _ (w.heap.size + 1) 0 ((addL s r 4).map W4) hC9.cl Tryd.underlying79 rfl (by rw [addL_len]; exact size_w8)
              have HQ' := HQ.out ()
              rw [HQ', ← addL_4]
              refine bodyPost_ret (v := .agg ((addL s r 4).map W4).toArray) ?_ rfl ⟨rfl, hbel9 _ _ hX.bel (by omega)⟩
              simp [results, Tryd.results57, asAddr, hld, Act.put]
end Go.Proofs.YthinopepcmidmaaDoor
