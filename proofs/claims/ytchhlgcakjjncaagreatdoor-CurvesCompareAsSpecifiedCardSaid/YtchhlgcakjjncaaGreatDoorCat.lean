/-
  curve: sort.Search, at, Flow.
-/
import Derived.Test.YtchhlgcakjjncaaGreatDoorCck
set_option linter.unusedSimpArgs false
set_option linter.unusedVariables false
set_option maxRecDepth 100000
set_option maxHeartbeats 1600000
namespace Go.Proofs.YtchhlgcakjjncaaGreatDoor
open Go.RowKit
section
variable {P : Program} {ops : Array Oper} {R : World → World → Prop} {w0 : World} {Q : Act → World → Prop} {pre : Nat → Nat → Bool} {a : Act} {k : Nat} {o : Oper} {l : List (Nat × Oper × Spec)} {Fs : List (Nat × (World → Prop))}
/-- A call of a closure that hands back one and the same value. -/
theorem lx_callc (hw : Region.wanted o (yielded ops a.tmps) = true) (x : Operand) (xs : List Operand) (ts : Array TypeId) (ho : o.op = .call { callee := .value x, args := xs.toArray, argTypes := ts }) (f : FuncId) (caps : List Value) (hx : a.eval x = .func (.func f) #[] caps.toArray) (args : List Value) (he : xs.map a.eval = args) (v : Value)
    (hi : P.inits.idxOf? f = none) (hf : ∀ X : World, (callFunc f (args ++ caps).toArray).run P X = .ok (.enter f (args ++ caps).toArray) X)
    (hc : ∀ X, R w0 X → (∀ p F, (p, F) ∈ Fs → pre k p = true → F X) → Calls P f (args ++ caps).toArray X fun e X' => e = .returned v ∧ R X X') (h : Cert P ops R w0 Q pre l Fs (a.put o.dst v)) : Cert P ops R w0 Q pre ((k, o, none) :: l) Fs a := by
  refine ⟨?_⟩
  unfold CertR
  rw [if_pos hw]
  refine ⟨v, fun X hX hF => ?_, h.out⟩
  have hc := hc X hX hF
  have he2 : xs.toArray.map a.eval = args.toArray := by rw [List.map_toArray, he]
  have hrun : (execOp a.eval o).run P X = .ok (.enter f (args ++ caps).toArray) X := by
    unfold execOp
    rw [ho]
    have hfX := hf X
    simp only [resolve, Sem.run_bind, Sem.run_pure, Result.andThen_ok, hx, he2, Deferred.ofValue, invoke]
    go_simp
  unfold quietR
  rw [hrun]
  exact ⟨rfl, hi, hc⟩
end
theorem searchC (F : FuncId) (caps : List Value) (n r : Nat) (w : World) (hn : n ≤ 1000000) (hr : r ≤ n) (hf : ∀ (k : Nat) (X : World), (callFunc F ([Value.int .i64 (k : Int)] ++ caps).toArray).run Tryz.prog X = .ok (.enter F ([Value.int .i64 (k : Int)] ++ caps).toArray) X) (hi : Tryz.prog.inits.idxOf? F = none) (hF : ∀ (k : Nat) (X : World), k < n → Since w X → Calls Tryz.prog F ([Value.int .i64 (k : Int)] ++ caps).toArray X fun e X' => e = .returned (.bool (decide (r ≤ k))) ∧ Since X X') : Calls Tryz.prog 84 #[.int .i64 (n : Int), .func (.func F) #[] caps.toArray] w fun e w' => e = .returned (.int .i64 (r : Int)) ∧ Since w w' := by
  have HF := Lib.hid hF
  have HF0 := Lib.hid hf
  clear hF hf
  go_enter Tryz.func84, Tryz.ntmps84
  go_upto_region 1 with (fail)
  refine jp ?_
  refine jm (.int .i64 (n : Int)) ?_
  refine jm (.int .i64 0) ?_
  refine jm (.int .i64 (n : Int)) ?_
  refine jz fun X1 hX1 => ?_
  have hb : Below w.heap.size w X1 := hX1
  clear hX1
  go_wp2
  go_loopw [5, 6] (fun iv jv wr => ∃ i j : Nat, iv = .int .i64 (i : Int) ∧ jv = .int .i64 (j : Int) ∧ i ≤ r ∧ r ≤ j ∧ j ≤ n ∧ Below w.heap.size w wr) (fun iv jv _ => (intOf jv).toNat - (intOf iv).toNat)
  case atStart => exact ⟨0, n, rfl, rfl, by omega, hr, Nat.le_refl _, hb⟩
  case round =>
    clear hb
    obtain ⟨i, j, rfl, rfl, h1, h2, h3, hb⟩ := hrel
    rcases Nat.lt_or_ge i j with hlt | hlt
    · obtain ⟨m, hm⟩ : ∃ m, m = (i + j) / 2 := ⟨_, rfl⟩
      have hm1 : i ≤ m := by omega
      have hm2 : m < j := by omega
      have HM := Lib.hid hm
      clear hm
      go_upto_region 2 with (fail)
      refine jp ?_
      refine jm (.int .i64 (i : Int)) ?_
      refine jm (.int .i64 (j : Int)) ?_
      refine jv (.bool true) (exec_lss _ _ _ _ (by rfl) .i64 (i : Int) (j : Int) (by rfl) (by rfl) true (decide_eq_true (by omega))) ?_
      refine jz fun X1 hX1 => ?_
      have hb := bel_next hb hX1
      clear hX1
      go_upto_region 3 with (fail)
      refine jp ?_
      refine jm (.int .i64 (i : Int)) ?_
      refine jm (.int .i64 (j : Int)) ?_
      refine jv (.int .i64 ((i + j : Nat) : Int)) (exec_add _ _ _ _ (by rfl) (i : Int) (j : Int) ((i + j : Nat) : Int) (by rfl) (by rfl) (by omega) (by omega) (by omega)) ?_
      refine jv (.int .u64 ((i + j : Nat) : Int)) (exec_cnv _ _ .i64 .u64 Tryz.underlying3 Tryz.underlying130 _ (by rfl) ((i + j : Nat) : Int) ((i + j : Nat) : Int) (by rfl) (by rw [w64 (by omega) (by omega)])) ?_
      refine jv (.int .u64 ((m : Nat) : Int)) (exec_shr _ _ _ _ (by rfl) .u64 .u64 ((i + j : Nat) : Int) ((m : Nat) : Int) 1 (by rfl) (by rfl) rfl (by decide) (by have := HM.out; omega)) ?_
      refine jv (.int .i64 ((m : Nat) : Int)) (exec_cnv _ _ .u64 .i64 Tryz.underlying130 Tryz.underlying3 _ (by rfl) ((m : Nat) : Int) ((m : Nat) : Int) (by rfl) (by rw [IntWalk.i64_in _ (by omega)])) ?_
      refine jm (.int .i64 ((m : Nat) : Int)) ?_
      refine jz fun X2 hX2 => ?_
      have hb := bel_next hb hX2
      clear hX2
      rcases Nat.lt_or_ge m r with hr9 | hr9
      · go_upto_region 4 with (fail)
        refine jp ?_
        refine jm (.func (.func F) #[] caps.toArray) ?_
        refine jm (.int .i64 ((m : Nat) : Int)) ?_
        refine lx_callc (by rfl) _ _ _ (by rfl) F caps (by rfl) [.int .i64 ((m : Nat) : Int)] (by rfl) (.bool false) hi (fun X => HF0.out m X) (fun X hX hF => (HF.out m X (by omega) (hb.trans (Below.mono hX hb.size))).mono fun e X' ⟨h1, h2⟩ => ⟨by rw [h1, decide_eq_false (by omega)], h2⟩) ?_
        simp only [pX]
        refine jm (.bool true) ?_
        refine jz fun X3 hX3 => ?_
        have hb := bel_next hb hX3
        clear hX3
        go_upto_region 5 with (fail)
        refine jp ?_
        refine jm (.int .i64 ((m : Nat) : Int)) ?_
        refine jv (.int .i64 ((m + 1 : Nat) : Int)) (exec_add _ _ _ _ (by rfl) ((m : Nat) : Int) 1 ((m + 1 : Nat) : Int) (by rfl) (by rfl) (by omega) (by omega) (by omega)) ?_
        refine jm (.int .i64 ((m + 1 : Nat) : Int)) ?_
        refine jz fun X4 hX4 => ?_
        have hb := bel_next hb hX4
        clear hX4
        go_wp2
        go_roundw
        case rel => exact ⟨m + 1, j, rfl, rfl, by omega, h2, h3, hb⟩
        case measure => simp [intOf]; omega
      · go_upto_region 4 with (fail)
        refine jp ?_
        refine jm (.func (.func F) #[] caps.toArray) ?_
        refine jm (.int .i64 ((m : Nat) : Int)) ?_
        refine lx_callc (by rfl) _ _ _ (by rfl) F caps (by rfl) [.int .i64 ((m : Nat) : Int)] (by rfl) (.bool true) hi (fun X => HF0.out m X) (fun X hX hF => (HF.out m X (by omega) (hb.trans (Below.mono hX hb.size))).mono fun e X' ⟨h1, h2⟩ => ⟨by rw [h1, decide_eq_true (by omega)], h2⟩) ?_
        simp only [pX]
        refine jm (.bool false) ?_
        refine jz fun X3 hX3 => ?_
        have hb := bel_next hb hX3
        clear hX3
        go_upto_region 6 with (fail)
        refine jp ?_
        refine jm (.int .i64 ((m : Nat) : Int)) ?_
        refine jm (.int .i64 ((m : Nat) : Int)) ?_
        refine jz fun X4 hX4 => ?_
        have hb := bel_next hb hX4
        clear hX4
        go_wp2
        go_roundw
        case rel => exact ⟨i, m, rfl, rfl, h1, by omega, by omega, hb⟩
        case measure => simp [intOf]; omega
    · obtain rfl : i = j := by omega
      obtain rfl : i = r := by omega
      go_upto_region 2 with (fail)
      refine jp ?_
      refine jm (.int .i64 (i : Int)) ?_
      refine jm (.int .i64 (i : Int)) ?_
      refine jv (.bool false) (exec_lss _ _ _ _ (by rfl) .i64 (i : Int) (i : Int) (by rfl) (by rfl) false (decide_eq_false (by omega))) ?_
      refine jz fun X1 hX1 => ?_
      have hb := bel_next hb hX1
      clear hX1
      go_upto_region 7 with (fail)
      refine jp ?_
      refine jm (.int .i64 (i : Int)) ?_
      refine jm (.int .i64 (i : Int)) ?_
      refine jz fun X2 hX2 => ?_
      have hb := bel_next hb hX2
      clear hX2
      go_wp2
      go_ret
      exact ⟨rfl, hb⟩
theorem exec_gtrD {P : Program} {f : Operand → Value} {o : Oper} (t t' : TypeId) (x y : Operand) (ho : o.op = .binOp .gtr t x y t') (kd : IntKind) (m n : Int) (hx : f x = .int kd m) (hy : f y = .int kd n) (X : World) : (execOp f o).run P X = .ok (.value (.bool (decide (n < m)))) X := by
  by_cases h : n < m
  · rw [decide_eq_true h]
    exact exec_gtr _ _ _ _ ho kd m n hx hy true (decide_eq_true h) X
  · rw [decide_eq_false h]
    exact exec_gtr _ _ _ _ ho kd m n hx hy false (decide_eq_false h) X
theorem at1C (A : Option Addr) (n c : Nat) (l : List Pt) (s : Int) (g2 g3 k : Nat) (w : World) (hr : Rd w 4 (.slice A n c) n (fl ptc l)) (hln : l.length = n) (hk : k < n) (hB2 : Blk w g2 48 [.slice A n c]) (hB3 : Blk w g3 3 [.int .i64 s]) : Calls Tryz.prog 109 #[.int .i64 (k : Int), .pointer (some ⟨g2, 0, none⟩), .pointer (some ⟨g3, 0, none⟩)] w fun e w' => e = .returned (.bool (decide (s < (pt l k).1))) ∧ Since w w' := by
  go_enter Tryz.func109, Tryz.ntmps109
  obtain ⟨b, off, rfl, hbb, hcx⟩ := hr.ptAt hln hk
  clear hr
  go_upto_region 1 with (fail)
  refine jd ?_
  refine jn (.pointer (some ⟨g2, 0, none⟩)) ?_
  refine jf (.slice (some ⟨b, off, none⟩) n c) hB2 0 load_pts ?_
  refine jm (.int .i64 (k : Int)) ?_
  refine jv (.pointer (some ⟨b, off + k * 4, none⟩)) (exec_ixv Tryz.underlying46 info_pt _ _ (by rfl) b (off) n c k (by omega) (by rfl) (by rfl) (by omega)) ?_
  refine jn (.pointer (some ⟨b, off + k * 4, none⟩)) ?_
  refine jg (.int .i64 (pt l k).1) (fun X hX hF => exec_ld 3 _ (by rfl) b (off + k * 4) (by rfl) _ X ((hcx.below hX hbb) 0 _ rfl) (fun X u h => load_int b (off + k * 4) X u h)) ?_
  refine jf (.int .i64 s) hB3 0 load_int ?_
  refine jv (.bool (decide (s < (pt l k).1))) (exec_gtrD _ _ _ _ (by rfl) .i64 (pt l k).1 s (by rfl) (by rfl)) ?_
  refine jm (.bool (decide (s < (pt l k).1))) ?_
  refine jz fun X1 hX1 => ?_
  have hB2 := hB2.bel hX1
  have hB3 := hB3.bel hX1
  have hcx := hcx.below hX1 hbb
  replace hbb := Nat.lt_of_lt_of_le hbb (hX1).size
  have hb : Below w.heap.size w X1 := hX1
  clear hX1
  go_wp2
  go_ret
  exact ⟨rfl, hb⟩
theorem Rd.ptIn {w : World} {b off n c : Nat} {l : List Pt} (h : Rd w 4 (.slice (some ⟨b, off, none⟩) n c) n (fl ptc l)) (hl : l.length = n) {k : Nat} (hk : k < n) : b < w.heap.size ∧ Cl w b (off + k * 4) (ptc (pt l k)) := by
  obtain ⟨b2, off2, he, h1, h2⟩ := h.ptAt hl hk
  injection he with he
  injection he with e1 e2
  subst e1 e2
  exact ⟨h1, h2⟩
theorem kn_at {l : List Pt} {k : Nat} (hk : k < l.length) : stg (l.map kp) k = (pt l k).1 ∧ flw (l.map kp) k = trq (pt l k).2 := by
  unfold stg flw pt
  rw [List.getD_eq_getElem?_getD, List.getD_eq_getElem?_getD, List.getElem?_map, List.getElem?_eq_getElem hk]
  exact ⟨rfl, rfl⟩
/-- A curve whose flows are numbers. -/
structure OkC (l : List Pt) : Prop where
  crv : Crv (l.map kp)
  vd : ∀ k, k < l.length → vd (pt l k).2.1 (pt l k).2.2.1 (pt l k).2.2.2 = true
theorem ckF_zero {l : List Pt} : ∀ {k : Nat}, ckF l k = 0 → ∀ j, j < k → pe l j = 0
  | 0, _, j, hj => by omega
  | k + 1, h, j, hj => by
    unfold ckF at h
    split at h
    · rename_i h1
      rcases Nat.lt_or_ge j k with h2 | h2
      · exact ckF_zero h1 j h2
      · rw [show j = k by omega]
        exact h
    · rename_i h1
      exact absurd h h1
theorem rN_nn {x : Rat} (h : rN x = false) : 0 ≤ x := by
  unfold rN at h
  have h1 := of_decide_eq_false h
  rw [Rat.le_iff]
  show 0 * (x.den : Int) ≤ x.num * ((1 : Nat) : Int)
  omega
theorem ck_zero {l : List Pt} (h : ck l = 0) : OkC l := by
  unfold ck at h
  split at h
  · omega
  · rename_i hl
    have hz := ckF_zero h
    have key : ∀ k, k < l.length → -1000 ≤ (pt l k).1 ∧ (pt l k).1 ≤ 2000 ∧ posB (pt l k).2 = true ∧ (0 < k → (pt l (k - 1)).1 < (pt l k).1 ∧ trq (pt l (k - 1)).2 ≤ trq (pt l k).2) := by
      intro k hk
      have h1 := hz k hk
      unfold pe at h1
      split at h1
      · omega
      · rename_i h2
        split at h1
        · omega
        · rename_i h3
          split at h1
          · omega
          · rename_i h4
            refine ⟨by omega, by omega, by simpa using h3, fun hk0 => ?_⟩
            have h5 : ¬ (pt l k).1 ≤ (pt l (k - 1)).1 := fun h9 => h4 ⟨hk0, .inl h9⟩
            have h6 : ¬ cmpR (trq (pt l k).2) (trq (pt l (k - 1)).2) < 0 := fun h9 => h4 ⟨hk0, .inr h9⟩
            exact ⟨by omega, cmpR_ge.1 (by omega)⟩
    have hv : ∀ k, k < l.length → vd (pt l k).2.1 (pt l k).2.2.1 (pt l k).2.2.2 = true ∧ (pt l k).2.1 = false := by
      intro k hk
      have h1 := (key k hk).2.2.1
      unfold posB at h1
      simp only [Bool.and_eq_true, Bool.not_eq_true'] at h1
      exact h1
    refine ⟨⟨by rw [List.length_map]; omega, by rw [List.length_map]; omega, fun k hk => ?_, fun k hk => ?_, fun k hk => ?_⟩, fun k hk => (hv k hk).1⟩
    · rw [List.length_map] at hk
      have h1 := (key (k + 1) hk).2.2.2 (by omega)
      rw [(kn_at (show k < l.length by omega)).1, (kn_at (show k < l.length by omega)).2, (kn_at hk).1, (kn_at hk).2]
      exact h1
    · rw [List.length_map] at hk
      rw [(kn_at hk).2]
      refine rN_nn ?_
      have h1 := vd_eq (hv k hk).1
      unfold trq
      rw [h1.1]
      exact (hv k hk).2
    · rw [List.length_map] at hk
      rw [(kn_at hk).1]
      have := key k hk
      omega
theorem at0 (b off n c : Nat) (l : List Pt) (s : Int) (r : Nat) (w : World) (hr : Rd w 4 (.slice (some ⟨b, off, none⟩) n c) n (fl ptc l)) (hln : l.length = n) (hn1 : n ≤ 16) (hrn : r ≤ n) (HCT : Hid (∀ k, k < n → decide (s < (pt l k).1) = decide (r ≤ k))) (hr0 : r = 0) (HFL : Hid (flowAt (l.map kp) s = 0)) : Calls Tryz.prog 86 #[.agg #[.slice (some ⟨b, off, none⟩) n c], .int .i64 s] w fun e w' => e = .returned (rbv (flowAt (l.map kp) s)) ∧ Since w w' := by
  have HRX : Hid (∀ X, Since w X → Rd X 4 (.slice (some ⟨b, off, none⟩) n c) n (fl ptc l)) := fun X h => hr.below h
  have HLN := Lib.hid hln
  clear hr
  go_enter Tryz.func86, Tryz.ntmps86
  go_upto_region 1 with (fail)
  obtain ⟨W0, hW0, hB0, hB1, hB2, hb⟩ := start3 w 48 3 23 [.slice (some ⟨b, off, none⟩) n c] [.int .i64 s] [.bool false, .string ⟨#[]⟩, .string ⟨#[]⟩]
  rw [← hW0]
  clear hW0
  refine jp ?_
  refine jn (.pointer (some ⟨w.heap.size, 0, none⟩)) ?_
  refine jf (.slice (some ⟨b, off, none⟩) n c) hB0 0 load_pts ?_
  refine jv (.int .i64 (n : Int)) (exec_lenv Tryz.underlying46 _ (by rfl) (some ⟨b, off, none⟩) n c (by rfl) _ rfl) ?_
  refine jn (.func (.func 109) #[] #[.pointer (some ⟨w.heap.size, 0, none⟩), .pointer (some ⟨(w.heap.size + 1), 0, none⟩)]) ?_
  refine jc (.int .i64 (r : Int)) (fun X hX hF => searchC 109 [.pointer (some ⟨w.heap.size, 0, none⟩), .pointer (some ⟨(w.heap.size + 1), 0, none⟩)] n r X (by omega) hrn (fun k X => by go_simp) (by kernel_rfl) (fun k Y hk hY => (at1C _ n c l s w.heap.size (w.heap.size + 1) k Y (HRX.out Y ((hb.trans (Below.mono hX hb.size)).trans (Below.mono hY (bel_next hb hX).size))) HLN.out hk ((hB0.bel hX).bel hY) ((hB1.bel hX).bel hY)).mono fun e X' ⟨h1, h2⟩ => ⟨by rw [h1, HCT.out k hk], h2⟩)) ?_
  refine jm (.int .i64 (r : Int)) ?_
  refine jz fun X1 hX1 => ?_
  have hB0 := hB0.bel hX1
  have hB1 := hB1.bel hX1
  have hB2 := hB2.bel hX1
  have hb := bel_next hb hX1
  clear hX1
  go_upto_region 2 with (fail)
  refine jp ?_
  refine jm (.int .i64 (r : Int)) ?_
  refine jv (.bool true) (exec_eqi _ _ _ _ (by rfl) .i64 (r : Int) 0 (by rfl) (by rfl) true (decide_eq_true (by omega))) ?_
  refine jz fun X2 hX2 => ?_
  have hB0 := hB0.bel hX2
  have hB1 := hB1.bel hX2
  have hB2 := hB2.bel hX2
  have hb := bel_next hb hX2
  clear hX2
  go_upto_region 3 with (fail)
  refine jq 1 ?_
  refine jn (rz) ?_
  refine jz fun X3 hX3 => ?_
  have hB0 := hB0.bel hX3
  have hB1 := hB1.bel hX3
  have hB2 := hB2.bel hX3
  have hb := bel_next hb hX3
  clear hX3
  refine osb 23 4 17 (w.heap.size + 2) 23 hB2 [.bool false, .string ⟨#[]⟩, .string ⟨#[]⟩] info_rat ?_
  intro w9 hR9 hO9 hB9 hs9
  have hb9 := hB9 _ _ hb (by omega)
  clear hO9 hB9
  go_wp2
  refine post_cell rfl rfl (by rfl) Tryz.underlying23 rfl hR9 info_rat ⟨by rw [HFL.out]; rfl, hb9⟩
theorem at1 (b off n c : Nat) (l : List Pt) (s : Int) (r : Nat) (w : World) (hr : Rd w 4 (.slice (some ⟨b, off, none⟩) n c) n (fl ptc l)) (hln : l.length = n) (hn1 : n ≤ 16) (hrn : r ≤ n) (HCT : Hid (∀ k, k < n → decide (s < (pt l k).1) = decide (r ≤ k))) (hr0 : 0 < r) (hrn2 : r = n) (x : Pt) (HXX : Hid (pt l (r - 1) = x)) (HV : Hid (vd x.2.1 x.2.2.1 x.2.2.2 = true)) (HFL : Hid (flowAt (l.map kp) s = rq x.2.1 x.2.2.1 x.2.2.2)) : Calls Tryz.prog 86 #[.agg #[.slice (some ⟨b, off, none⟩) n c], .int .i64 s] w fun e w' => e = .returned (rbv (flowAt (l.map kp) s)) ∧ Since w w' := by
  have HRX : Hid (∀ X, Since w X → Rd X 4 (.slice (some ⟨b, off, none⟩) n c) n (fl ptc l)) := fun X h => hr.below h
  have HLN := Lib.hid hln
  clear hr
  go_enter Tryz.func86, Tryz.ntmps86
  go_upto_region 1 with (fail)
  obtain ⟨W0, hW0, hB0, hB1, hB2, hb⟩ := start3 w 48 3 23 [.slice (some ⟨b, off, none⟩) n c] [.int .i64 s] [.bool false, .string ⟨#[]⟩, .string ⟨#[]⟩]
  rw [← hW0]
  clear hW0
  refine jp ?_
  refine jn (.pointer (some ⟨w.heap.size, 0, none⟩)) ?_
  refine jf (.slice (some ⟨b, off, none⟩) n c) hB0 0 load_pts ?_
  refine jv (.int .i64 (n : Int)) (exec_lenv Tryz.underlying46 _ (by rfl) (some ⟨b, off, none⟩) n c (by rfl) _ rfl) ?_
  refine jn (.func (.func 109) #[] #[.pointer (some ⟨w.heap.size, 0, none⟩), .pointer (some ⟨(w.heap.size + 1), 0, none⟩)]) ?_
  refine jc (.int .i64 (r : Int)) (fun X hX hF => searchC 109 [.pointer (some ⟨w.heap.size, 0, none⟩), .pointer (some ⟨(w.heap.size + 1), 0, none⟩)] n r X (by omega) hrn (fun k X => by go_simp) (by kernel_rfl) (fun k Y hk hY => (at1C _ n c l s w.heap.size (w.heap.size + 1) k Y (HRX.out Y ((hb.trans (Below.mono hX hb.size)).trans (Below.mono hY (bel_next hb hX).size))) HLN.out hk ((hB0.bel hX).bel hY) ((hB1.bel hX).bel hY)).mono fun e X' ⟨h1, h2⟩ => ⟨by rw [h1, HCT.out k hk], h2⟩)) ?_
  refine jm (.int .i64 (r : Int)) ?_
  refine jz fun X1 hX1 => ?_
  have hB0 := hB0.bel hX1
  have hB1 := hB1.bel hX1
  have hB2 := hB2.bel hX1
  have hb := bel_next hb hX1
  clear hX1
  go_upto_region 2 with (fail)
  refine jp ?_
  refine jm (.int .i64 (r : Int)) ?_
  refine jv (.bool false) (exec_eqi _ _ _ _ (by rfl) .i64 (r : Int) 0 (by rfl) (by rfl) false (decide_eq_false (by omega))) ?_
  refine jz fun X2 hX2 => ?_
  have hB0 := hB0.bel hX2
  have hB1 := hB1.bel hX2
  have hB2 := hB2.bel hX2
  have hb := bel_next hb hX2
  clear hX2
  obtain ⟨hbb, hcx⟩ := (HRX.out _ hb).ptIn HLN.out (show (r - 1) < n by omega)
  have x9 := HXX.out.symm
  have HX := Lib.hid x9
  clear x9
  rw [← HX.out] at hcx
  go_upto_region 4 with (fail)
  refine jq 6 ?_
  refine jn (.pointer (some ⟨w.heap.size, 0, none⟩)) ?_
  refine jf (.slice (some ⟨b, off, none⟩) n c) hB0 0 load_pts ?_
  refine jm (.int .i64 (r : Int)) ?_
  refine jv (.int .i64 ((r - 1 : Nat) : Int)) (exec_sub _ _ _ _ (by rfl) (r : Int) 1 ((r - 1 : Nat) : Int) (by rfl) (by rfl) (by omega) (by omega) (by omega)) ?_
  refine jv (.pointer (some ⟨b, off + (r - 1) * 4, none⟩)) (exec_ixv Tryz.underlying46 info_pt _ _ (by rfl) b (off) n c (r - 1) (by omega) (by rfl) (by rfl) rfl) ?_
  refine jg (.agg #[.int .i64 x.1, .bool x.2.1, st x.2.2.1, st x.2.2.2]) (fun X hX hF => exec_ldc 110 _ (by rfl) b (off + (r - 1) * 4) (by rfl) Tryz.underlying110 rfl [.int .i64 x.1, .bool x.2.1, .string ⟨x.2.2.1.toArray⟩, .string ⟨x.2.2.2.toArray⟩] X (Cl.part (hcx.below hX hbb) 0 _ (by rfl)) info_pt) ?_
  refine jz fun X3 hX3 => ?_
  have hB0 := hB0.bel hX3
  have hB1 := hB1.bel hX3
  have hB2 := hB2.bel hX3
  have hcx := hcx.below hX3 hbb
  replace hbb := Nat.lt_of_lt_of_le hbb (hX3).size
  have hb := bel_next hb hX3
  clear hX3
  go_upto_region 5 with (refine osn 110 6 23 #[.int .i64 x.1, .bool x.2.1, .string ⟨x.2.2.1.toArray⟩, .string ⟨x.2.2.2.toArray⟩] info_pt ?_)
  obtain ⟨Y3, hY9, hD6, hS9⟩ := start1 X3 110 [.int .i64 x.1, .bool x.2.1, .string ⟨x.2.2.1.toArray⟩, .string ⟨x.2.2.2.toArray⟩]
  rw [← hY9]
  clear hY9
  have hgs6 := hb.size
  have hlt6x0 := hB0.lt
  have hlt6x1 := hB1.lt
  have hlt6x2 := hB2.lt
  have hcx := hcx.below hS9 hbb
  replace hbb := Nat.lt_of_lt_of_le hbb (hS9).size
  have hB0 := hB0.bel hS9
  have hB1 := hB1.bel hS9
  have hB2 := hB2.bel hS9
  have hb := bel_next hb hS9
  clear hS9
  generalize X3.heap.size = g6 at *
  refine jp ?_
  refine jm (.int .i64 (r : Int)) ?_
  refine jn (.pointer (some ⟨w.heap.size, 0, none⟩)) ?_
  refine jf (.slice (some ⟨b, off, none⟩) n c) hB0 0 load_pts ?_
  refine jv (.int .i64 (n : Int)) (exec_lenv Tryz.underlying46 _ (by rfl) (some ⟨b, off, none⟩) n c (by rfl) _ rfl) ?_
  refine jv (.bool true) (exec_eqi _ _ _ _ (by rfl) .i64 (r : Int) (n : Int) (by rfl) (by rfl) true (decide_eq_true (by omega))) ?_
  refine jz fun X4 hX4 => ?_
  have hB0 := hB0.bel hX4
  have hB1 := hB1.bel hX4
  have hB2 := hB2.bel hX4
  have hD6 := hD6.bel hX4
  have hcx := hcx.below hX4 hbb
  replace hbb := Nat.lt_of_lt_of_le hbb (hX4).size
  have hb := bel_next hb hX4
  clear hX4
  go_upto_region 6 with (fail)
  refine jq 2 ?_
  refine jn (.pointer (some ⟨g6, 1, none⟩)) ?_
  refine jg (.agg #[.bool x.2.1, st x.2.2.1, st x.2.2.2]) (fun X hX hF => exec_inr 23 _ (by rfl) g6 1 [.bool x.2.1, .string ⟨x.2.2.1.toArray⟩, .string ⟨x.2.2.2.toArray⟩] (by rfl) Tryz.underlying23 rfl X (hD6.bel hX) (by rfl) info_rat) ?_
  refine jz fun X5 hX5 => ?_
  have hB0 := hB0.bel hX5
  have hB1 := hB1.bel hX5
  have hB2 := hB2.bel hX5
  have hD6 := hD6.bel hX5
  have hcx := hcx.below hX5 hbb
  replace hbb := Nat.lt_of_lt_of_le hbb (hX5).size
  have hb := bel_next hb hX5
  clear hX5
  refine osb 23 4 30 (w.heap.size + 2) 23 hB2 [.bool x.2.1, .string ⟨x.2.2.1.toArray⟩, .string ⟨x.2.2.2.toArray⟩] info_rat ?_
  intro w9 hR9 hO9 hB9 hs9
  have hb9 := hB9 _ _ hb (by omega)
  clear hO9 hB9
  go_wp2
  refine post_cell rfl rfl (by rfl) Tryz.underlying23 rfl hR9 info_rat ⟨by rw [HFL.out, rbv_lit HV.out rfl], hb9⟩
theorem at2 (b off n c : Nat) (l : List Pt) (s : Int) (r : Nat) (w : World) (hr : Rd w 4 (.slice (some ⟨b, off, none⟩) n c) n (fl ptc l)) (hln : l.length = n) (hn1 : n ≤ 16) (hrn : r ≤ n) (HCT : Hid (∀ k, k < n → decide (s < (pt l k).1) = decide (r ≤ k))) (hr0 : 0 < r) (hrn2 : r < n) (x y : Pt) (HXX : Hid (pt l (r - 1) = x)) (HYY : Hid (pt l r = y)) (tx : tz x.2.2.1 x.2.2.2 1000) (ty : tz y.2.2.1 y.2.2.2 1000) (fx fy qq : Rat) (HFX : Hid (rq x.2.1 x.2.2.1 x.2.2.2 = fx)) (HFY : Hid (rq y.2.1 y.2.2.1 y.2.2.2 = fy)) (HQ : Hid ((((s - x.1 : Int)) : Rat) / (((y.1 - x.1 : Int)) : Rat) = qq)) (sq9 : szR qq 14) (hx1 : -1000 ≤ x.1) (hx2 : x.1 ≤ s) (hx3 : s < y.1) (hx4 : y.1 ≤ 2000) (HI1 : Hid (insB (s - x.1) = true)) (HI2 : Hid (insB (y.1 - x.1) = true)) (HI3 : Hid (y.1 - x.1 ≠ 0)) (HFL : Hid (flowAt (l.map kp) s = fx + (qq * (fy - fx)))) : Calls Tryz.prog 86 #[.agg #[.slice (some ⟨b, off, none⟩) n c], .int .i64 s] w fun e w' => e = .returned (rbv (flowAt (l.map kp) s)) ∧ Since w w' := by
  have HRX : Hid (∀ X, Since w X → Rd X 4 (.slice (some ⟨b, off, none⟩) n c) n (fl ptc l)) := fun X h => hr.below h
  have HLN := Lib.hid hln
  clear hr
  have LB0 : szR qq 14 := sq9
  have LB3 : szR fy 1000 := szR_tz HFY.out ty
  have LB4 : szR fx 1000 := szR_tz HFX.out tx
  have LB1 : szR (fy - fx) 2001 := szR_sub LB3 LB4
  have LB2 : szR (qq * (fy - fx)) 2015 := szR_mul LB0 LB1
  go_enter Tryz.func86, Tryz.ntmps86
  go_upto_region 1 with (fail)
  obtain ⟨W0, hW0, hB0, hB1, hB2, hb⟩ := start3 w 48 3 23 [.slice (some ⟨b, off, none⟩) n c] [.int .i64 s] [.bool false, .string ⟨#[]⟩, .string ⟨#[]⟩]
  rw [← hW0]
  clear hW0
  refine jp ?_
  refine jn (.pointer (some ⟨w.heap.size, 0, none⟩)) ?_
  refine jf (.slice (some ⟨b, off, none⟩) n c) hB0 0 load_pts ?_
  refine jv (.int .i64 (n : Int)) (exec_lenv Tryz.underlying46 _ (by rfl) (some ⟨b, off, none⟩) n c (by rfl) _ rfl) ?_
  refine jn (.func (.func 109) #[] #[.pointer (some ⟨w.heap.size, 0, none⟩), .pointer (some ⟨(w.heap.size + 1), 0, none⟩)]) ?_
  refine jc (.int .i64 (r : Int)) (fun X hX hF => searchC 109 [.pointer (some ⟨w.heap.size, 0, none⟩), .pointer (some ⟨(w.heap.size + 1), 0, none⟩)] n r X (by omega) hrn (fun k X => by go_simp) (by kernel_rfl) (fun k Y hk hY => (at1C _ n c l s w.heap.size (w.heap.size + 1) k Y (HRX.out Y ((hb.trans (Below.mono hX hb.size)).trans (Below.mono hY (bel_next hb hX).size))) HLN.out hk ((hB0.bel hX).bel hY) ((hB1.bel hX).bel hY)).mono fun e X' ⟨h1, h2⟩ => ⟨by rw [h1, HCT.out k hk], h2⟩)) ?_
  refine jm (.int .i64 (r : Int)) ?_
  refine jz fun X1 hX1 => ?_
  have hB0 := hB0.bel hX1
  have hB1 := hB1.bel hX1
  have hB2 := hB2.bel hX1
  have hb := bel_next hb hX1
  clear hX1
  go_upto_region 2 with (fail)
  refine jp ?_
  refine jm (.int .i64 (r : Int)) ?_
  refine jv (.bool false) (exec_eqi _ _ _ _ (by rfl) .i64 (r : Int) 0 (by rfl) (by rfl) false (decide_eq_false (by omega))) ?_
  refine jz fun X2 hX2 => ?_
  have hB0 := hB0.bel hX2
  have hB1 := hB1.bel hX2
  have hB2 := hB2.bel hX2
  have hb := bel_next hb hX2
  clear hX2
  obtain ⟨hbb, hcx⟩ := (HRX.out _ hb).ptIn HLN.out (show (r - 1) < n by omega)
  have x9 := HXX.out.symm
  have HX := Lib.hid x9
  clear x9
  rw [← HX.out] at hcx
  go_upto_region 4 with (fail)
  refine jq 6 ?_
  refine jn (.pointer (some ⟨w.heap.size, 0, none⟩)) ?_
  refine jf (.slice (some ⟨b, off, none⟩) n c) hB0 0 load_pts ?_
  refine jm (.int .i64 (r : Int)) ?_
  refine jv (.int .i64 ((r - 1 : Nat) : Int)) (exec_sub _ _ _ _ (by rfl) (r : Int) 1 ((r - 1 : Nat) : Int) (by rfl) (by rfl) (by omega) (by omega) (by omega)) ?_
  refine jv (.pointer (some ⟨b, off + (r - 1) * 4, none⟩)) (exec_ixv Tryz.underlying46 info_pt _ _ (by rfl) b (off) n c (r - 1) (by omega) (by rfl) (by rfl) rfl) ?_
  refine jg (.agg #[.int .i64 x.1, .bool x.2.1, st x.2.2.1, st x.2.2.2]) (fun X hX hF => exec_ldc 110 _ (by rfl) b (off + (r - 1) * 4) (by rfl) Tryz.underlying110 rfl [.int .i64 x.1, .bool x.2.1, .string ⟨x.2.2.1.toArray⟩, .string ⟨x.2.2.2.toArray⟩] X (Cl.part (hcx.below hX hbb) 0 _ (by rfl)) info_pt) ?_
  refine jz fun X3 hX3 => ?_
  have hB0 := hB0.bel hX3
  have hB1 := hB1.bel hX3
  have hB2 := hB2.bel hX3
  have hcx := hcx.below hX3 hbb
  replace hbb := Nat.lt_of_lt_of_le hbb (hX3).size
  have hb := bel_next hb hX3
  clear hX3
  go_upto_region 5 with (refine osn 110 6 23 #[.int .i64 x.1, .bool x.2.1, .string ⟨x.2.2.1.toArray⟩, .string ⟨x.2.2.2.toArray⟩] info_pt ?_)
  obtain ⟨Y3, hY9, hD6, hS9⟩ := start1 X3 110 [.int .i64 x.1, .bool x.2.1, .string ⟨x.2.2.1.toArray⟩, .string ⟨x.2.2.2.toArray⟩]
  rw [← hY9]
  clear hY9
  have hgs6 := hb.size
  have hlt6x0 := hB0.lt
  have hlt6x1 := hB1.lt
  have hlt6x2 := hB2.lt
  have hcx := hcx.below hS9 hbb
  replace hbb := Nat.lt_of_lt_of_le hbb (hS9).size
  have hB0 := hB0.bel hS9
  have hB1 := hB1.bel hS9
  have hB2 := hB2.bel hS9
  have hb := bel_next hb hS9
  clear hS9
  generalize X3.heap.size = g6 at *
  refine jp ?_
  refine jm (.int .i64 (r : Int)) ?_
  refine jn (.pointer (some ⟨w.heap.size, 0, none⟩)) ?_
  refine jf (.slice (some ⟨b, off, none⟩) n c) hB0 0 load_pts ?_
  refine jv (.int .i64 (n : Int)) (exec_lenv Tryz.underlying46 _ (by rfl) (some ⟨b, off, none⟩) n c (by rfl) _ rfl) ?_
  refine jv (.bool false) (exec_eqi _ _ _ _ (by rfl) .i64 (r : Int) (n : Int) (by rfl) (by rfl) false (decide_eq_false (by omega))) ?_
  refine jz fun X4 hX4 => ?_
  have hB0 := hB0.bel hX4
  have hB1 := hB1.bel hX4
  have hB2 := hB2.bel hX4
  have hD6 := hD6.bel hX4
  have hcx := hcx.below hX4 hbb
  replace hbb := Nat.lt_of_lt_of_le hbb (hX4).size
  have hb := bel_next hb hX4
  clear hX4
  obtain ⟨hbb, hcy⟩ := (HRX.out _ hb).ptIn HLN.out (show r < n by omega)
  have y9 := HYY.out.symm
  have HY := Lib.hid y9
  clear y9
  rw [← HY.out] at hcy
  go_upto_region 7 with (fail)
  refine jq 5 ?_
  refine jn (.pointer (some ⟨w.heap.size, 0, none⟩)) ?_
  refine jf (.slice (some ⟨b, off, none⟩) n c) hB0 0 load_pts ?_
  refine jm (.int .i64 (r : Int)) ?_
  refine jv (.pointer (some ⟨b, off + r * 4, none⟩)) (exec_ixv Tryz.underlying46 info_pt _ _ (by rfl) b (off) n c r (by omega) (by rfl) (by rfl) rfl) ?_
  refine jg (.agg #[.int .i64 y.1, .bool y.2.1, st y.2.2.1, st y.2.2.2]) (fun X hX hF => exec_ldc 110 _ (by rfl) b (off + r * 4) (by rfl) Tryz.underlying110 rfl [.int .i64 y.1, .bool y.2.1, .string ⟨y.2.2.1.toArray⟩, .string ⟨y.2.2.2.toArray⟩] X (Cl.part (hcy.below hX hbb) 0 _ (by rfl)) info_pt) ?_
  refine jz fun X5 hX5 => ?_
  have hB0 := hB0.bel hX5
  have hB1 := hB1.bel hX5
  have hB2 := hB2.bel hX5
  have hD6 := hD6.bel hX5
  have hcx := hcx.below hX5 hbb
  have hcy := hcy.below hX5 hbb
  replace hbb := Nat.lt_of_lt_of_le hbb (hX5).size
  have hb := bel_next hb hX5
  clear hX5
  go_upto_region 8 with (refine osn 110 7 35 #[.int .i64 y.1, .bool y.2.1, .string ⟨y.2.2.1.toArray⟩, .string ⟨y.2.2.2.toArray⟩] info_pt ?_)
  obtain ⟨Y5, hY9, hD7, hS9⟩ := start1 X5 110 [.int .i64 y.1, .bool y.2.1, .string ⟨y.2.2.1.toArray⟩, .string ⟨y.2.2.2.toArray⟩]
  rw [← hY9]
  clear hY9
  have hgs7 := hb.size
  have hlt7x0 := hB0.lt
  have hlt7x1 := hB1.lt
  have hlt7x2 := hB2.lt
  have hlt7x3 := hD6.lt
  have hcx := hcx.below hS9 hbb
  have hcy := hcy.below hS9 hbb
  replace hbb := Nat.lt_of_lt_of_le hbb (hS9).size
  have hB0 := hB0.bel hS9
  have hB1 := hB1.bel hS9
  have hB2 := hB2.bel hS9
  have hD6 := hD6.bel hS9
  have hb := bel_next hb hS9
  clear hS9
  generalize X5.heap.size = g7 at *
  refine jq 13 ?_
  refine jf (.int .i64 s) hB1 0 load_int ?_
  refine jn (.pointer (some ⟨g6, 0, none⟩)) ?_
  refine jf (.int .i64 x.1) hD6 0 load_int ?_
  refine jv (.int .i64 (s - x.1)) (exec_sub _ _ _ _ (by rfl) s x.1 (s - x.1) (by rfl) (by rfl) (by omega) (by omega) (by omega)) ?_
  refine jn (.pointer (some ⟨g7, 0, none⟩)) ?_
  refine jf (.int .i64 y.1) hD7 0 load_int ?_
  refine jn (.pointer (some ⟨g6, 0, none⟩)) ?_
  refine jf (.int .i64 x.1) hD6 0 load_int ?_
  refine jv (.int .i64 (y.1 - x.1)) (exec_sub _ _ _ _ (by rfl) y.1 x.1 (y.1 - x.1) (by rfl) (by rfl) (by omega) (by omega) (by omega)) ?_
  refine jc (.tuple #[rt (rN qq) (rP qq) (rD qq), .int .i64 0]) (fun X hX hF => mo (makeC (s - x.1) (y.1 - x.1) X HI1.out HI2.out HI3.out) (by rw [HQ.out])) ?_
  refine jm (.tuple #[rt (rN qq) (rP qq) (rD qq), .int .i64 0]) ?_
  refine jm (rt (rN qq) (rP qq) (rD qq)) ?_
  refine jm (.int .i64 0) ?_
  refine jz fun X6 hX6 => ?_
  have hB0 := hB0.bel hX6
  have hB1 := hB1.bel hX6
  have hB2 := hB2.bel hX6
  have hD6 := hD6.bel hX6
  have hD7 := hD7.bel hX6
  have hb := bel_next hb hX6
  clear hX6
  go_upto_region 9 with (refine osn 23 8 47 #[.bool (rN qq), .string ⟨(rP qq).toArray⟩, .string ⟨(rD qq).toArray⟩] info_rat ?_)
  obtain ⟨Y6, hY9, hD8, hS9⟩ := start1 X6 23 [.bool (rN qq), .string ⟨(rP qq).toArray⟩, .string ⟨(rD qq).toArray⟩]
  rw [← hY9]
  clear hY9
  have hgs8 := hb.size
  have hlt8x0 := hB0.lt
  have hlt8x1 := hB1.lt
  have hlt8x2 := hB2.lt
  have hlt8x3 := hD6.lt
  have hlt8x4 := hD7.lt
  have hB0 := hB0.bel hS9
  have hB1 := hB1.bel hS9
  have hB2 := hB2.bel hS9
  have hD6 := hD6.bel hS9
  have hD7 := hD7.bel hS9
  have hb := bel_next hb hS9
  clear hS9
  generalize X6.heap.size = g8 at *
  refine lx_region_tail [] (by kernel_rfl) (by kernel_rfl) (by kernel_rfl) rfl (lasts_nil) ?_
  simp only [its, List.dropLast, Nat.zero_add, Nat.reduceAdd]
  refine jn (.pointer (some ⟨g6, 1, none⟩)) ?_
  refine jg (.agg #[.bool x.2.1, st x.2.2.1, st x.2.2.2]) (fun X hX hF => exec_inr 23 _ (by rfl) g6 1 [.bool x.2.1, .string ⟨x.2.2.1.toArray⟩, .string ⟨x.2.2.2.toArray⟩] (by rfl) Tryz.underlying23 rfl X (hD6.bel hX) (by rfl) info_rat) ?_
  refine ja hD8 Tryz.underlying23 (by rfl) info_rat ?_
  refine jn (.pointer (some ⟨g7, 1, none⟩)) ?_
  refine jg (.agg #[.bool y.2.1, st y.2.2.1, st y.2.2.2]) (fun X hX hF => exec_inr 23 _ (by rfl) g7 1 [.bool y.2.1, .string ⟨y.2.2.1.toArray⟩, .string ⟨y.2.2.2.toArray⟩] (by rfl) Tryz.underlying23 rfl X (hD7.bel hX) (by rfl) info_rat) ?_
  refine jn (.pointer (some ⟨g6, 1, none⟩)) ?_
  refine jg (.agg #[.bool x.2.1, st x.2.2.1, st x.2.2.2]) (fun X hX hF => exec_inr 23 _ (by rfl) g6 1 [.bool x.2.1, .string ⟨x.2.2.1.toArray⟩, .string ⟨x.2.2.2.toArray⟩] (by rfl) Tryz.underlying23 rfl X (hD6.bel hX) (by rfl) info_rat) ?_
  refine jc (rt (rN (fy - fx)) (rP (fy - fx)) (rD (fy - fx))) (fun X hX hF => subG y.2.1 y.2.2.1 y.2.2.2 x.2.1 x.2.2.1 x.2.2.2 HFY.out HFX.out X (ty.mono (by omega)) (tx.mono (by omega))) ?_
  refine jc (rt (rN (qq * (fy - fx))) (rP (qq * (fy - fx))) (rD (qq * (fy - fx)))) (fun X hX hF => mulG (rN qq) (rP qq) (rD qq) (rN (fy - fx)) (rP (fy - fx)) (rD (fy - fx)) (rq_rb qq) (rq_rb (fy - fx)) X (tzR LB0 (by omega)) (tzR LB1 (by omega))) ?_
  refine jc (.agg #[.bool (rN (fx + (qq * (fy - fx)))), st (rP (fx + (qq * (fy - fx)))), st (rD (fx + (qq * (fy - fx))))]) (fun X hX hF => addG x.2.1 x.2.2.1 x.2.2.2 (rN (qq * (fy - fx))) (rP (qq * (fy - fx))) (rD (qq * (fy - fx))) HFX.out (rq_rb (qq * (fy - fx))) X (tx.mono (by omega)) (tzR LB2 (by omega))) ?_
  refine jz fun X7 hX7 => ?_
  have hB0 := hB0.bel hX7
  have hB1 := hB1.bel hX7
  have hB2 := hB2.bel hX7
  have hD6 := hD6.bel hX7
  have hD7 := hD7.bel hX7
  have hD8 := hD8.bel hX7
  have hb := bel_next hb hX7
  clear hX7
  refine osb 23 4 58 (w.heap.size + 2) 23 hB2 [.bool (rN (fx + (qq * (fy - fx)))), .string ⟨(rP (fx + (qq * (fy - fx)))).toArray⟩, .string ⟨(rD (fx + (qq * (fy - fx)))).toArray⟩] info_rat ?_
  intro w9 hR9 hO9 hB9 hs9
  have hb9 := hB9 _ _ hb (by omega)
  clear hO9 hB9
  go_wp2
  refine post_cell rfl rfl (by rfl) Tryz.underlying23 rfl hR9 info_rat ⟨by rw [HFL.out], hb9⟩
theorem catC (b off n c : Nat) (l : List Pt) (s : Int) (w : World) (hr : Rd w 4 (.slice (some ⟨b, off, none⟩) n c) n (fl ptc l)) (hln : l.length = n) (hok : OkC l) (hf : fewP l 1000) : Calls Tryz.prog 86 #[.agg #[.slice (some ⟨b, off, none⟩) n c], .int .i64 s] w fun e w' => e = .returned (rbv (flowAt (l.map kp) s)) ∧ Since w w' := by
  have hc := hok.crv
  have hlm : (l.map kp).length = n := by rw [List.length_map, hln]
  have hpos := hc.pos
  have hfew := hc.few
  have hr0 := cnt_le (l.map kp) s
  have hct : ∀ k, k < n → decide (s < (pt l k).1) = decide (cnt (l.map kp) s ≤ k) := fun k hk => by
    rw [← (kn_at (show k < l.length by omega)).1]
    rcases Nat.lt_or_ge k (cnt (l.map kp) s) with h1 | h1
    · have := cnt_low _ _ _ h1
      rw [decide_eq_false (by omega), decide_eq_false (by omega)]
    · have := cnt_high hc h1 (by omega)
      rw [decide_eq_true this, decide_eq_true h1]
  have hfl := flowAt.eq_1 (l.map kp) s
  rcases Nat.eq_zero_or_pos (cnt (l.map kp) s) with h0 | h0
  · rw [if_pos h0] at hfl
    exact at0 b off n c l s _ w hr hln (by omega) (by omega) hct h0 hfl
  · rw [if_neg (by omega)] at hfl
    have hk1 : cnt (l.map kp) s - 1 < l.length := by omega
    rcases Nat.lt_or_ge (cnt (l.map kp) s) n with h2 | h2
    · rw [if_neg (by omega), (kn_at hk1).1, (kn_at hk1).2, (kn_at (show cnt (l.map kp) s < l.length by omega)).1, (kn_at (show cnt (l.map kp) s < l.length by omega)).2] at hfl
      have g1 := cnt_low (l.map kp) s _ (show cnt (l.map kp) s - 1 < cnt (l.map kp) s by omega)
      have g2 := cnt_at (l.map kp) s (by omega)
      have g3 := hc.rng (cnt (l.map kp) s - 1) (by omega)
      have g4 := hc.rng (cnt (l.map kp) s) (by omega)
      rw [(kn_at hk1).1] at g1 g3
      rw [(kn_at (show cnt (l.map kp) s < l.length by omega)).1] at g2 g4
      have i1 := insB_of (n := s - (pt l (cnt (l.map kp) s - 1)).1) (by omega) (by omega)
      have i2 := insB_of (n := (pt l (cnt (l.map kp) s)).1 - (pt l (cnt (l.map kp) s - 1)).1) (by omega) (by omega)
      exact at2 b off n c l s _ w hr hln (by omega) (by omega) hct h0 h2 _ _ rfl rfl (hf _ hk1) (hf _ (by omega)) _ _ _ rfl rfl rfl (szR_div (szR_int i1) (szR_int i2)) g3.1 g1 g2 g4.2 i1 i2 (show _ ≠ _ by omega) hfl
    · rw [if_pos (by omega), (kn_at hk1).2] at hfl
      exact at1 b off n c l s _ w hr hln (by omega) (by omega) hct h0 (by omega) _ rfl (hok.vd _ hk1) hfl
end Go.Proofs.YtchhlgcakjjncaaGreatDoor
