/-
  The example of layer 48: what its calls hand back.
-/
import Derived.Test.YthinopepcmidmaaDoorSk48
import Derived.Test.YthinopepcmidmaaDoorSj48
import Derived.Test.YthinopepcmidmaaDoorSc48
set_option linter.unusedSimpArgs false
set_option linter.unusedVariables false
set_option maxRecDepth 100000
set_option maxHeartbeats 1600000
namespace Go.Proofs.YthinopepcmidmaaDoor
def ltA : List UInt8 := [244, 79, 90, 214, 242, 174, 235, 95, 157, 170, 233, 75, 91, 13, 44, 30]
def ltD : List UInt8 := [46, 62, 118, 2, 63, 161, 209, 65, 5, 17, 79, 180, 88, 99, 248, 135]
def ltNA : List UInt8 := [251, 103, 222, 192, 247, 168, 144, 184, 71, 220, 223, 107, 142, 209, 124, 102]
def ltB : List UInt8 := [214, 54, 145, 238, 233, 62, 230, 46, 13, 232, 233, 10, 37, 79, 6, 16]
def ltC : List UInt8 := [132, 38, 130, 100, 80, 32, 129, 169, 63, 193, 45, 26, 251, 130, 236, 169]
def ltNB : List UInt8 := [188, 132, 120, 188, 175, 89, 16, 179, 41, 193, 172, 77, 121, 119, 187, 49]
theorem hsA : mk48 [98] ⟨1, 0, 5, 2, [120], z16b, z16b⟩ = ltA := by
  refine eq_of_beq ?_
  kernel_rfl
theorem hsD : mk48 [97] ⟨0, 0, 5, 2, [120], z16b, z16b⟩ = ltD := by
  refine eq_of_beq ?_
  kernel_rfl
theorem hsNA : nm48 ⟨1, 0, 5, 2, [120], z16b, ltA⟩ = ltNA := by
  refine eq_of_beq ?_
  kernel_rfl
theorem hsB : mk48 [98] ⟨1, 1, 7, 3, [121], ltNA, z16b⟩ = ltB := by
  refine eq_of_beq ?_
  kernel_rfl
theorem hsC : mk48 [98] ⟨1, 1, 7, 3, [122], ltNA, z16b⟩ = ltC := by
  refine eq_of_beq ?_
  kernel_rfl
theorem hsNB : nm48 ⟨1, 1, 7, 3, [121], ltNA, ltB⟩ = ltNB := by
  refine eq_of_beq ?_
  kernel_rfl
end Go.Proofs.YthinopepcmidmaaDoor
namespace Go.Proofs.YthinopepcmidmaaDoor
def exR : List (List UInt8) := [[97], [98]]
def exQ (st dy kd : Int) (bd : List UInt8) : Sl := ⟨st, 0, dy, kd, bd, z16b, z16b⟩
def exA : Sl := ⟨1, 0, 5, 2, [120], z16b, ltA⟩
def exB : Sl := ⟨1, 1, 7, 3, [121], ltNA, ltB⟩
def exC : Sl := ⟨1, 1, 7, 3, [122], ltNA, ltC⟩
def exD : Sl := ⟨0, 0, 5, 2, [120], z16b, ltD⟩
def exO : Sl := ⟨exB.st, exB.sq, exB.dy, exB.kd, [122], exB.pv, exB.sl⟩
theorem ex_ck : rckE exR = 0 := by decide +kernel
theorem chn_nil (r : List (List UInt8)) : Chn mk48 nm48 r [] := ⟨fun k h => absurd h (Nat.not_lt_zero _), fun k h => absurd h (Nat.not_lt_zero _), fun k h => absurd h (Nat.not_lt_zero _), fun k h => absurd h (Nat.not_lt_zero _), fun k h => absurd h (Nat.not_lt_zero _)⟩
theorem lg_of {r : List (List UInt8)} {l : List Sl} (hr : rckE r = 0) (hl : l.length ≤ 4000) (h : Chn mk48 nm48 r l) : lgE mk48 nm48 r l = 0 := (lg_zero mk48 nm48).2 ⟨hr, hl, h⟩
theorem nx_first {r : List (List UInt8)} {s : Sl} (hr : rckE r = 0) (hf : frm r (nxT nm48 [] s) = true) : nxE mk48 nm48 r [] s = 0 := by
  have h0 : ([] : List Sl).length ≤ 4000 := Nat.zero_le _
  rw [nxE_sl (lg_of hr h0 (chn_nil r)) (by decide) (fun h => absurd h (Nat.lt_irrefl _))]
  exact slE_ok hr hf
theorem nx_more {r : List (List UInt8)} {a s : Sl} (hc : Chn mk48 nm48 r [a]) (hr : rckE r = 0) (hst : s.st = a.st) (hdy : a.dy ≤ s.dy) (hf : frm r (nxT nm48 [a] s) = true) : nxE mk48 nm48 r [a] s = 0 := by
  have h1 : [a].length ≤ 4000 := by show 1 ≤ 4000; decide
  rw [nxE_sl (lg_of hr h1 hc) (by show ¬ 1 = 4000; decide) (fun _ => ⟨hst, hdy⟩)]
  exact slE_ok hr hf
theorem ex_a : nxE mk48 nm48 exR [] (exQ 1 5 2 [120]) = 0 := nx_first ex_ck (by decide +kernel)
theorem ex_d : nxE mk48 nm48 exR [] (exQ 0 5 2 [120]) = 0 := nx_first ex_ck (by decide +kernel)
theorem nx_eq {r : List (List UInt8)} {l : List Sl} {s : Sl} (h : nxE mk48 nm48 r l s = 0) : nxS mk48 nm48 r l s = (nxT nm48 l s).put (mk48 (r.getD s.st.toNat []) (nxT nm48 l s)) := if_pos h
theorem nxA : nxS mk48 nm48 exR [] (exQ 1 5 2 [120]) = exA := (nx_eq ex_a).trans (congrArg (Sl.put ⟨1, 0, 5, 2, [120], z16b, z16b⟩) hsA)
theorem nxD : nxS mk48 nm48 exR [] (exQ 0 5 2 [120]) = exD := (nx_eq ex_d).trans (congrArg (Sl.put ⟨0, 0, 5, 2, [120], z16b, z16b⟩) hsD)
theorem chn_a : Chn mk48 nm48 exR [exA] := by
  have h := (chn_next mk48 nm48 mk_put ex_a).1
  rw [nxA] at h
  exact h
theorem exNA : nm48 exA = ltNA := by exact hsNA
theorem nxT_b (bd : List UInt8) : nxT nm48 [exA] (exQ 1 7 3 bd) = ⟨1, 1, 7, 3, bd, ltNA, z16b⟩ := by
  show (⟨1, 1, 7, 3, bd, nm48 exA, z16b⟩ : Sl) = _
  rw [exNA]
theorem exA_st : exA.st = 1 := rfl
theorem exA_sq : exA.sq = 0 := rfl
theorem exA_dy : exA.dy = 5 := rfl
theorem ex_b : nxE mk48 nm48 exR [exA] (exQ 1 7 3 [121]) = 0 := nx_more chn_a ex_ck exA_st.symm (by rw [exA_dy]; decide) (by unfold frm; refine decide_eq_true ⟨by decide, by decide, by decide, by decide, by decide, by decide, by decide, by decide, by decide, .inl (by decide)⟩)
theorem ex_c : nxE mk48 nm48 exR [exA] (exQ 1 7 3 [122]) = 0 := nx_more chn_a ex_ck exA_st.symm (by rw [exA_dy]; decide) (by unfold frm; refine decide_eq_true ⟨by decide, by decide, by decide, by decide, by decide, by decide, by decide, by decide, by decide, .inl (by decide)⟩)
theorem nxB : nxS mk48 nm48 exR [exA] (exQ 1 7 3 [121]) = exB := by
  refine (nx_eq ex_b).trans ?_
  rw [nxT_b]
  exact congrArg (Sl.put ⟨1, 1, 7, 3, [121], ltNA, z16b⟩) hsB
theorem nxC : nxS mk48 nm48 exR [exA] (exQ 1 7 3 [122]) = exC := by
  refine (nx_eq ex_c).trans ?_
  rw [nxT_b]
  exact congrArg (Sl.put ⟨1, 1, 7, 3, [122], ltNA, z16b⟩) hsC
theorem chn_b : Chn mk48 nm48 exR [exA, exB] := by
  have h := (chn_next mk48 nm48 mk_put ex_b).1
  rw [nxB] at h
  exact h
theorem chn_c : Chn mk48 nm48 exR [exA, exC] := by
  have h := (chn_next mk48 nm48 mk_put ex_c).1
  rw [nxC] at h
  exact h
theorem exB_st : exB.st = 1 := rfl
theorem exB_sq : exB.sq = 1 := rfl
theorem exB_dy : exB.dy = 7 := rfl
theorem exB_pv : exB.pv = nm48 exA := exNA.symm
theorem exB_bd : exB.bd = [121] := rfl
theorem exC_st : exC.st = 1 := rfl
theorem exC_sq : exC.sq = 1 := rfl
theorem exC_bd : exC.bd = [122] := rfl
theorem exD_st : exD.st = 0 := rfl
theorem ex_len2 (a b : Sl) : [a, b].length ≤ 4000 := by show 2 ≤ 4000; decide
theorem ex_len1 (a : Sl) : [a].length ≤ 4000 := by show 1 ≤ 4000; decide
theorem ex_lgab : lgE mk48 nm48 exR [exA, exB] = 0 := lg_of ex_ck (ex_len2 _ _) chn_b
theorem ex_lga : lgE mk48 nm48 exR [exA] = 0 := lg_of ex_ck (ex_len1 _) chn_a
theorem ex_rgA : rgt mk48 exR exA = true := chn_a.rgt 0 (by show 0 < 1; decide)
theorem ex_rgB : rgt mk48 exR exB = true := chn_b.rgt 1 (by show 1 < 2; decide)
theorem ex_rgC : rgt mk48 exR exC = true := chn_c.rgt 1 (by show 1 < 2; decide)
theorem ex_e : nxE mk48 nm48 exR [exA, exB] (exQ 1 6 1 []) = 4 := nxE_dy ex_lgab (by show ¬ 2 = 4000; decide) (by show 0 < 2; decide) (by show (1 : Int) = exB.st; rw [exB_st]) (by show (6 : Int) < exB.dy; rw [exB_dy]; decide)
theorem ex_eS : nxS mk48 nm48 exR [exA, exB] (exQ 1 6 1 []) = sl0 := nxS_no (by rw [ex_e]; decide)
theorem ex_coE : coE mk48 nm48 exR [exA, exB] [exA] = 0 := coE_0 ex_lgab ex_lga (fun _ _ => rfl)
theorem ex_coN : coN mk48 nm48 exR [exA, exB] [exA] = 1 := by
  rw [coN_yes ex_coE]
  unfold cmn
  rw [if_pos rfl]
  unfold cmn
  rfl
theorem ex_lgb : lgE mk48 nm48 exR [exB] = 1 := lg_bad mk48 nm48 (k := 0) ex_ck (ex_len1 _) (fun j hj => absurd hj (Nat.not_lt_zero _)) (lgP_b ex_rgB (.inr (by show exB.sq ≠ 0; rw [exB_sq]; decide))) (by decide) (by show 0 < 1; decide)
theorem exA_pv : exA.pv = z16b := rfl
theorem lgP_first (y : Sl) : lgP mk48 nm48 exR [exA, y] 0 = 0 := by
  refine (lgP_zero mk48 nm48).2 ⟨ex_rgA, rfl, exA_sq, ?_, fun h => absurd h (Nat.lt_irrefl _)⟩
  show exA.pv = bfr nm48 [exA, y] 0
  rw [exA_pv]
  unfold bfr
  rw [if_pos rfl]
theorem ex_lgaa : lgE mk48 nm48 exR [exA, exA] = 1 := lg_bad mk48 nm48 (k := 1) ex_ck (ex_len2 _ _) (fun j hj => by
  obtain rfl : j = 0 := by omega
  exact lgP_first _) (lgP_b ex_rgA (.inr (by show exA.sq ≠ 1; rw [exA_sq]; decide))) (by decide) (by show 1 < 2; decide)
theorem exNB : nm48 exB = ltNB := by exact hsNB
theorem ex_nm : nm48 exA ≠ nm48 exB := by rw [exNA, exNB]; decide
theorem ex_sl : exA.sl ≠ exD.sl := by show ltA ≠ ltD; decide
theorem ex_rgO : rgt mk48 exR exO = false := by
  cases h : rgt mk48 exR exO
  · rfl
  · have h1 := ((rgt_iff mk48).1 h).2.2
    have e : exO = ⟨1, 1, 7, 3, [122], ltNA, ltB⟩ := by
      rfl
    rw [e] at h1
    have h2 : ltB = ltC := h1.trans hsC
    exact absurd h2 (by decide)
theorem ex_lgao : lgE mk48 nm48 exR [exA, exO] = 16 := lg_bad mk48 nm48 (k := 1) ex_ck (ex_len2 _ _) (fun j hj => by
  obtain rfl : j = 0 := by omega
  exact lgP_first _) (lgP_a ex_rgO) (by decide) (by show 1 < 2; decide)
theorem ex_ctAB : ctr mk48 nm48 exR exA exB = 0 := ctr_own mk48 nm48 chn_b (i := 0) (j := 1) (by show 0 < 2; decide) (by show 1 < 2; decide)
theorem ex_bc : exB ≠ exC := fun h => by
  have h1 := congrArg Sl.bd h
  rw [exB_bd, exC_bd] at h1
  exact absurd h1 (by decide)
theorem ex_ctBC : ctr mk48 nm48 exR exB exC = 1 := by
  unfold ctr
  rw [if_neg (by rw [exB_sq, exC_sq]; decide), ctO_n ex_rgB ex_rgC (by rw [exB_st, exC_st]) ex_bc, if_pos (by rw [exB_sq, exC_sq])]
theorem ex_ctAD : ctr mk48 nm48 exR exA exD = 0 := by
  unfold ctr
  split
  · exact ctO_0 (.inr (.inr (.inl (by rw [exA_st, exD_st]; decide))))
  · exact ctO_0 (.inr (.inr (.inl (by rw [exA_st, exD_st]; decide))))
theorem exQ_ok (st dy kd : Int) (bd : List UInt8) (h1 : -9223372036854775808 ≤ st ∧ st ≤ 9223372036854775807) (h2 : -9223372036854775808 ≤ dy ∧ dy ≤ 9223372036854775807) (h3 : -9223372036854775808 ≤ kd ∧ kd ≤ 9223372036854775807) (h4 : bd.length ≤ 9223372036854775807) : SlOk (exQ st dy kd bd) := ⟨h1, ⟨by show (-9223372036854775808 : Int) ≤ 0; decide, by show (0 : Int) ≤ 9223372036854775807; decide⟩, h2, h3, h4, rfl, rfl⟩
theorem exA_ok : SlOk exA := ⟨by decide, by decide, by decide, by decide, by decide, by decide, by decide⟩
theorem exB_ok : SlOk exB := ⟨by decide, by decide, by decide, by decide, by decide, by decide, by decide⟩
theorem exC_ok : SlOk exC := ⟨by decide, by decide, by decide, by decide, by decide, by decide, by decide⟩
theorem exD_ok : SlOk exD := ⟨by decide, by decide, by decide, by decide, by decide, by decide, by decide⟩
theorem exO_ok : SlOk exO := ⟨exB_ok.st, exB_ok.sq, exB_ok.dy, exB_ok.kd, by show 1 ≤ 9223372036854775807; decide, exB_ok.pv, exB_ok.sl⟩
end Go.Proofs.YthinopepcmidmaaDoor
