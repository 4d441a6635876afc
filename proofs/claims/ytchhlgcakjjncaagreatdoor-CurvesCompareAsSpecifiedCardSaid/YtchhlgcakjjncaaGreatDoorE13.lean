/-
  law 13: the example, sanity.
-/
import Derived.Test.YtchhlgcakjjncaaGreatDoorCdf
import Derived.Test.YtchhlgcakjjncaaGreatDoorCsm
import Derived.Test.YtchhlgcakjjncaaGreatDoorCfe
import Derived.Test.YtchhlgcakjjncaaGreatDoorLk
import Derived.Test.YtchhlgcakjjncaaGreatDoorCat
import Derived.Test.YtchhlgcakjjncaaGreatDoorCsc
set_option linter.unusedSimpArgs false
set_option linter.unusedVariables false
set_option maxRecDepth 100000
set_option maxHeartbeats 1600000
namespace Go.Proofs.YtchhlgcakjjncaaGreatDoor
open Go.RowKit
theorem cnt_scale (y : Rat) : ∀ (L : List Kn) (s : Int), cnt (L.map fun p => (p.1, p.2 * y)) s = cnt L s
  | [], _ => rfl
  | p :: L, s => by
    have ih := cnt_scale y L s
    unfold cnt at ih ⊢
    rw [List.map_cons, List.takeWhile_cons, List.takeWhile_cons]
    by_cases h : p.1 ≤ s
    · rw [if_pos (by simpa using h), if_pos (by simpa using h), List.length_cons, List.length_cons, ih]
    · rw [if_neg (by simpa using h), if_neg (by simpa using h)]
theorem sf_map (f : Kn → Kn) {L : List Kn} {k : Nat} (h : k < L.length) : stg (L.map f) k = (f (stg L k, flw L k)).1 ∧ flw (L.map f) k = (f (stg L k, flw L k)).2 := by
  unfold stg flw
  rw [List.getD_eq_getElem?_getD, List.getD_eq_getElem?_getD, List.getElem?_map, List.getElem?_eq_getElem h]
  exact ⟨rfl, rfl⟩
theorem flow_scale (y : Rat) (L : List Kn) (s : Int) : flowAt (L.map fun p => (p.1, p.2 * y)) s = y * flowAt L s := by
  have hc := cnt_le L s
  unfold flowAt
  rw [cnt_scale, List.length_map]
  split
  · rw [Rat.mul_zero]
  · split
    · rw [(sf_map _ (by omega)).2]
      exact Rat.mul_comm _ _
    · rw [(sf_map _ (by omega)).1, (sf_map _ (by omega)).2, (sf_map _ (by omega)).1, (sf_map _ (by omega)).2]
      unfold lin
      show flw L _ * y + _ / _ * (flw L _ * y - flw L _ * y) = _
      generalize ((s - stg L (cnt L s - 1) : Int) : Rat) / ((stg L (cnt L s) - stg L (cnt L s - 1) : Int) : Rat) = q
      grind
theorem pt_map (f : Pt → Pt) {l : List Pt} {k : Nat} (h : k < l.length) : pt (l.map f) k = f (pt l k) := by
  rw [pt_get (by rw [List.length_map]; exact h), pt_get h, List.getElem_map]
/-- A curve without an error, point by point. -/
theorem ck_iff (l : List Pt) : ck l = 0 ↔ (1 ≤ l.length ∧ l.length ≤ 16) ∧ ∀ k, k < l.length → (-1000 ≤ (pt l k).1 ∧ (pt l k).1 ≤ 2000) ∧ posB (pt l k).2 = true ∧ (0 < k → (pt l (k - 1)).1 < (pt l k).1 ∧ trq (pt l (k - 1)).2 ≤ trq (pt l k).2) := by
  constructor
  · intro h
    unfold ck at h
    split at h
    · omega
    · rename_i hl
      refine ⟨by omega, fun k hk => ?_⟩
      have h1 := ckF_zero h k hk
      unfold pe at h1
      split at h1
      · omega
      · rename_i h2
        split at h1
        · omega
        · rename_i h3
          split at h1
          · omega
          · rename_i h4
            refine ⟨by omega, by simpa using h3, fun hk0 => ?_⟩
            have h5 : ¬ (pt l k).1 ≤ (pt l (k - 1)).1 := fun h9 => h4 ⟨hk0, .inl h9⟩
            have h6 : ¬ cmpR (trq (pt l k).2) (trq (pt l (k - 1)).2) < 0 := fun h9 => h4 ⟨hk0, .inr h9⟩
            exact ⟨by omega, cmpR_ge.1 (by omega)⟩
  · rintro ⟨h1, h2⟩
    refine ck_ok h1.1 h1.2 fun k hk => ?_
    obtain ⟨g1, g2, g3⟩ := h2 k hk
    unfold pe
    rw [if_neg (by omega), if_neg (by rw [g2]; decide), if_neg]
    rintro ⟨h3, h4 | h4⟩
    · have := (g3 h3).1
      omega
    · have := cmpR_ge.2 (g3 h3).2
      omega
theorem kp_sc (y : Rat) (l : List Pt) : (l.map (scP y)).map kp = (l.map kp).map fun p => (p.1, p.2 * y) := by
  rw [List.map_map, List.map_map]
  refine List.map_congr_left fun x _ => ?_
  show (x.1, rq _ _ _) = (x.1, trq x.2 * y)
  rw [show rq (scP y x).2.1 (scP y x).2.2.1 (scP y x).2.2.2 = trq x.2 * y from rq_rb _]
theorem posB_vd {t : Tr} : posB t = true ↔ vd t.1 t.2.1 t.2.2 = true ∧ t.1 = false := by
  unfold posB
  simp only [Bool.and_eq_true, Bool.not_eq_true']
theorem posB_nn {t : Tr} (h : posB t = true) : 0 ≤ trq t := by
  have h1 := posB_vd.1 h
  refine rN_nn ?_
  unfold trq
  rw [(vd_eq h1.1).1]
  exact h1.2
theorem nn_rN {x : Rat} (h : 0 ≤ x) : rN x = false := by
  unfold rN
  refine decide_eq_false fun h1 => ?_
  have h2 := Rat.num_nonneg.2 h
  omega
theorem posB_rb {z : Rat} (h : 0 ≤ z) : posB (rN z, rP z, rD z) = true := posB_vd.2 ⟨vd_rb z, nn_rN h⟩
theorem ck_sc {l : List Pt} {y : Rat} (h : ck l = 0) (hy : 0 ≤ y) : ck (l.map (scP y)) = 0 := by
  have h1 := (ck_iff l).1 h
  refine (ck_iff _).2 ⟨by rw [List.length_map]; exact h1.1, fun k hk => ?_⟩
  rw [List.length_map] at hk
  obtain ⟨g1, g2, g3⟩ := h1.2 k hk
  rw [pt_map _ hk, pt_map _ (show k - 1 < l.length by omega)]
  have tq : ∀ x : Pt, trq (scP y x).2 = trq x.2 * y := fun x => rq_rb _
  refine ⟨g1, posB_rb (Rat.mul_nonneg (posB_nn g2) hy), fun hk0 => ?_⟩
  have g4 := g3 hk0
  rw [tq, tq]
  exact ⟨g4.1, Rat.mul_le_mul_of_nonneg_right g4.2 hy⟩
theorem flow_sc {l : List Pt} {y : Rat} (h : ck l = 0) (hy : 0 ≤ y) (s : Int) : flowC0 (l.map (scP y)) s = y * flowC0 l s := by
  unfold flowC0
  rw [if_pos h, if_pos (ck_sc h hy), kp_sc, flow_scale]
theorem shE_bad {l : List Pt} {d : Int} (h : ck l = 0) (hs : ¬ shOk l d) : shE l d = 3 ∧ shL l d = [] := by
  unfold shE shL
  rw [if_neg (fun h9 => h9 h), if_neg hs, if_neg (fun h9 => hs h9.2)]
  exact ⟨rfl, rfl⟩
theorem shL_ok {l : List Pt} {d : Int} (h : ck l = 0) (hs : shOk l d) : shE l d = 0 ∧ shL l d = l.map (shP d) := by
  unfold shE shL
  rw [if_neg (fun h9 => h9 h), if_pos hs, if_pos ⟨h, hs⟩]
  exact ⟨rfl, rfl⟩
theorem scL_ok {l : List Pt} {t : Tr} (h : ck l = 0) (ht : posB t = true) : scE l t = 0 ∧ scL l t = l.map (scP (trq t)) := by
  unfold scE scL
  rw [if_neg (fun h9 => h9 h), if_neg (by rw [ht]; decide), if_pos ⟨h, ht⟩]
  exact ⟨rfl, rfl⟩
theorem few_sh {l : List Pt} {d : Int} {m : Nat} (h : fewP l m) : fewP (l.map (shP d)) m := by
  intro k hk
  rw [List.length_map] at hk
  rw [pt_map _ hk]
  exact h k hk
theorem few_sc {l : List Pt} {y : Rat} {m m' : Nat} (h : fewP l m) (hy : szR y m') (h1 : 1 ≤ m) : fewP (l.map (scP y)) (m + m') := by
  intro k hk
  rw [List.length_map] at hk
  rw [pt_map _ hk]
  have h2 := h k hk
  have h3 : szR (trq (pt l k).2) m := szR_of _ _ _ h2.1 h2.2 h1
  exact tzR (szR_mul h3 hy) (Nat.le_refl _)
end Go.Proofs.YtchhlgcakjjncaaGreatDoor
namespace Go.Proofs.YtchhlgcakjjncaaGreatDoor
open Go.RowKit
theorem quotC (a d : Int) (qq : Rat) (HQ : Hid (((a : Int) : Rat) / ((d : Int) : Rat) = qq)) (w : World) (ha : insB a) (hd : insB d) (hd0 : d ≠ 0) : Calls Tryz.prog 83 #[.int .i64 a, .int .i64 d] w fun e w' => e = .returned (rbv qq) ∧ Since w w' := by
  go_enter Tryz.func83, Tryz.ntmps83
  go_upto_region 1 with (fail)
  obtain ⟨W0, hW0, hB0, hb⟩ := start1 w 23 [.bool false, .string ⟨#[]⟩, .string ⟨#[]⟩]
  rw [← hW0]
  clear hW0
  refine jq 6 ?_
  refine jm (.int .i64 a) ?_
  refine jm (.int .i64 d) ?_
  refine jc (.tuple #[rt (rN qq) (rP qq) (rD qq), .int .i64 0]) (fun X hX hF => mo (makeC a d X ha hd hd0) (by rw [HQ.out])) ?_
  refine jm (.tuple #[rt (rN qq) (rP qq) (rD qq), .int .i64 0]) ?_
  refine jm (rt (rN qq) (rP qq) (rD qq)) ?_
  refine jm (.int .i64 0) ?_
  refine jz fun X1 hX1 => ?_
  have hB0 := hB0.bel hX1
  have hb := bel_next hb hX1
  clear hX1
  go_upto_region 2 with (refine osn 23 5 11 #[.bool (rN qq), .string ⟨(rP qq).toArray⟩, .string ⟨(rD qq).toArray⟩] info_rat ?_)
  obtain ⟨Y1, hY9, hD5, hS9⟩ := start1 X1 23 [.bool (rN qq), .string ⟨(rP qq).toArray⟩, .string ⟨(rD qq).toArray⟩]
  rw [← hY9]
  clear hY9
  have hgs5 := hb.size
  have hlt5x0 := hB0.lt
  have hB0 := hB0.bel hS9
  have hb := bel_next hb hS9
  clear hS9
  generalize X1.heap.size = g5 at *
  go_upto_region 2 with (fail)
  refine jq 1 ?_
  refine ja hD5 Tryz.underlying23 (by rfl) info_rat ?_
  refine jz fun X2 hX2 => ?_
  have hB0 := hB0.bel hX2
  have hD5 := hD5.bel hX2
  have hb := bel_next hb hX2
  clear hX2
  refine osb 23 4 13 w.heap.size 23 hB0 [.bool (rN qq), .string ⟨(rP qq).toArray⟩, .string ⟨(rD qq).toArray⟩] info_rat ?_
  intro w9 hR9 hO9 hB9 hs9
  have hb9 := hB9 _ _ hb (by omega)
  clear hO9 hB9
  go_wp2
  refine post_cell rfl rfl (by rfl) Tryz.underlying23 rfl hR9 info_rat ⟨rfl, hb9⟩
end Go.Proofs.YtchhlgcakjjncaaGreatDoor
namespace Go.Proofs.YtchhlgcakjjncaaGreatDoor
open Go.RowKit
theorem info_int1 : (Tryz.prog.info? 3).map (·.size) = some 1 := by kernel_rfl
/-- A slice that lies whole in a block of its own. -/
def Bsl (T : TypeId) (cs : List Value) (n : Nat) (v : Value) (X : World) : Prop := ∃ g, v = .slice (some ⟨g, 0, none⟩) n n ∧ Blk X g T cs
theorem Bsl.lasts (T : TypeId) (cs : List Value) (n : Nat) : Lasts (Bsl T cs n) := fun _ _ _ ⟨g, h1, h2⟩ hS => ⟨g, h1, h2.bel hS⟩
theorem Bsl.mk {P : Program} {f : Operand → Value} {o : Oper} (T : TypeId) (cs : List Value) (n : Nat) {X : World} (hr : (execOp f o).run P X = .ok (.value (.slice (some ⟨X.heap.size, 0, none⟩) n n)) (X.alloc (.cells cs.toArray T))) : ∃ v X', (execOp f o).run P X = .ok (.value v) X' ∧ Bsl T cs n v X' ∧ Since X X' :=
  ⟨_, _, hr, ⟨_, rfl, Blk.new rfl⟩, since_alloc X _⟩
theorem Blk.rdP {X : World} {g : Nat} {T : TypeId} {l : List Pt} (h : Blk X g T (fl ptc l)) (n : Nat) (hn : l.length = n) (hm : n ≤ maxLen) : Rd X 4 (.slice (some ⟨g, 0, none⟩) n n) n (fl ptc l) :=
  ⟨by rw [fl_len (fun x _ => ptc_len x), hn], _, _, rfl, Nat.le_refl _, hm, (fun h => by cases h), fun _ => ⟨g, 0, rfl, h.lt, fun j u hj => by rw [Nat.zero_add]; exact h.cell hj⟩⟩
theorem run_eq_pt (w : World) (x y : Pt) : (binOp .eql 110 (.agg (ptc x).toArray) (.agg (ptc y).toArray)).run Tryz.prog w = .ok (.bool (decide (x = y))) w := by
  obtain ⟨s, n, p, q⟩ := x
  obtain ⟨s', n', p', q'⟩ := y
  unfold ptc
  go_simp
  by_cases e0 : s = s' <;> by_cases e1 : n = n' <;> by_cases e2 : p = p' <;> by_cases e3 : q = q' <;> simp [e0, e1, e2, e3]
theorem exec_eqp {f : Operand → Value} {o : Oper} (a b : Operand) (ho : o.op = .binOp .eql 110 a b 110) (x y : Pt) (hx : f a = .agg (ptc x).toArray) (hy : f b = .agg (ptc y).toArray) (c : Bool) (hc : decide (x = y) = c) (X : World) : (execOp f o).run Tryz.prog X = .ok (.value (.bool c)) X :=
  exec_cmp_agg .eql _ _ a b ho _ _ hx hy eqm_pt _ X ((run_eq_pt X x y).trans (by rw [hc]))
theorem shL_len (l : List Pt) (d : Int) : (shL l d).length ≤ l.length := by
  unfold shL
  split
  · rw [List.length_map]; exact Nat.le_refl _
  · exact Nat.zero_le _
theorem scL_len (l : List Pt) (t : Tr) : (scL l t).length ≤ l.length := by
  unfold scL
  split
  · rw [List.length_map]; exact Nat.le_refl _
  · exact Nat.zero_le _
/-- A curve as a value. -/
def Cvl (l : List Pt) (v : Value) (X : World) : Prop := ∃ A n c, v = .agg #[.slice A n c] ∧ Rd X 4 (.slice A n c) n (fl ptc l) ∧ l.length = n ∧ n ≤ 9223372036854775807
theorem Cvl.lasts (l : List Pt) : Lasts (Cvl l) := fun _ _ _ ⟨A, n, c, h1, h2, h3⟩ hS => ⟨A, n, c, h1, h2.below hS, h3⟩
theorem Bsl.cvl {l : List Pt} {n : Nat} {v : Value} {X : World} (h : Bsl 110 (fl ptc l) n v X) (hn : l.length = n) (hm : n ≤ 9223372036854775807) : Cvl l (.agg #[v]) X := by
  obtain ⟨g, rfl, hB⟩ := h
  exact ⟨_, _, _, rfl, Blk.rdP hB n hn (by unfold maxLen; omega), hn, hm⟩
/-- A curve and an error. -/
def Shv (E : Int) (l : List Pt) (v : Value) (X : World) : Prop := ∃ A n c, v = .tuple #[.agg #[.slice A n c], .int .i64 E] ∧ Rd X 4 (.slice A n c) n (fl ptc l) ∧ l.length = n ∧ n ≤ 9223372036854775807
theorem Shv.lasts (E : Int) (l : List Pt) : Lasts (Shv E l) := fun _ _ _ ⟨A, n, c, h1, h2, h3⟩ hS => ⟨A, n, c, h1, h2.below hS, h3⟩
theorem Shv.ext {E : Int} {l : List Pt} {P : Program} {f : Operand → Value} {o : Oper} (x : Operand) (ho : o.op = .extract x 0) {v : Value} (hx : f x = v) {X : World} (h : Shv E l v X) : ∃ u X', (execOp f o).run P X = .ok (.value u) X' ∧ Cvl l u X' ∧ Since X X' := by
  obtain ⟨A, n, c, rfl, h1, h2, h3⟩ := h
  refine ⟨_, X, ?_, ⟨A, n, c, rfl, h1, h2, h3⟩, Below.refl _ _⟩
  unfold execOp
  simp only [ho, hx]
  go_simp
theorem Shv.err {E : Int} {l : List Pt} {P : Program} {f : Operand → Value} {o : Oper} (x : Operand) (ho : o.op = .extract x 1) {v : Value} (hx : f x = v) {X : World} (h : Shv E l v X) : (execOp f o).run P X = .ok (.value (.int .i64 E)) X := by
  obtain ⟨A, n, c, rfl, h1, h2⟩ := h
  unfold execOp
  simp only [ho, hx]
  go_simp
/-- The intervals and an error; the intervals. -/
def Dfv (E : Int) (l : List (Int × Int)) (v : Value) (X : World) : Prop := ∃ A n c, v = .tuple #[.slice A n c, .int .i64 E] ∧ Rd X 2 (.slice A n c) n (fl btc l) ∧ l.length = n
theorem Dfv.lasts (E : Int) (l : List (Int × Int)) : Lasts (Dfv E l) := fun _ _ _ ⟨A, n, c, h1, h2, h3⟩ hS => ⟨A, n, c, h1, h2.below hS, h3⟩
def Dlv (l : List (Int × Int)) (v : Value) (X : World) : Prop := ∃ A n c, v = .slice A n c ∧ Rd X 2 (.slice A n c) n (fl btc l) ∧ l.length = n
theorem Dlv.lasts (l : List (Int × Int)) : Lasts (Dlv l) := fun _ _ _ ⟨A, n, c, h1, h2, h3⟩ hS => ⟨A, n, c, h1, h2.below hS, h3⟩
theorem Dfv.ext {E : Int} {l : List (Int × Int)} {P : Program} {f : Operand → Value} {o : Oper} (x : Operand) (ho : o.op = .extract x 0) {v : Value} (hx : f x = v) {X : World} (h : Dfv E l v X) : ∃ u X', (execOp f o).run P X = .ok (.value u) X' ∧ Dlv l u X' ∧ Since X X' := by
  obtain ⟨A, n, c, rfl, h1, h2⟩ := h
  refine ⟨_, X, ?_, ⟨A, n, c, rfl, h1, h2⟩, Below.refl _ _⟩
  unfold execOp
  simp only [ho, hx]
  go_simp
theorem Dfv.err {E : Int} {l : List (Int × Int)} {P : Program} {f : Operand → Value} {o : Oper} (x : Operand) (ho : o.op = .extract x 1) {v : Value} (hx : f x = v) {X : World} (h : Dfv E l v X) : (execOp f o).run P X = .ok (.value (.int .i64 E)) X := by
  obtain ⟨A, n, c, rfl, h1, h2⟩ := h
  unfold execOp
  simp only [ho, hx]
  go_simp
theorem Rd.btIn {w : World} {b off n c : Nat} {l : List (Int × Int)} (h : Rd w 2 (.slice (some ⟨b, off, none⟩) n c) n (fl btc l)) (hl : l.length = n) {k : Nat} (hk : k < n) : b < w.heap.size ∧ Cl w b (off + k * 2) (btc (l.getD k (0, 0))) := by
  obtain ⟨b2, off2, x, he, hb, hc, _, hd⟩ := h.atF (m := 2) (fun x _ => btc_len x) (by omega) (k := k) (by omega)
  injection he with he
  injection he with e1 e2
  subst e1 e2
  refine ⟨hb, ?_⟩
  have hx : l.getD k (0, 0) = x := by
    have h1 : l[k]? = some x := by
      have := congrArg (·[0]?) hd.out
      simpa [List.getElem?_drop] using this
    rw [List.getD_eq_getElem?_getD, h1]
    rfl
  rw [hx]
  exact hc
theorem Rd.someB {w : World} {A : Option Addr} {m n c : Nat} {xs : List Value} (h : Rd w m (.slice A n c) n xs) (hn : 0 < n) : ∃ b off, A = some ⟨b, off, none⟩ := by
  obtain ⟨_, A', c', hv, _, _, _, hr⟩ := h
  injection hv with e1 _ _
  obtain ⟨b, off, hA, _⟩ := hr hn
  exact ⟨b, off, e1.trans hA⟩
theorem checkV (l : List Pt) (v : Value) (w : World) (h : Cvl l v w) (hf : fewP l 1000000) : Calls Tryz.prog 38 #[v] w fun e w' => e = .returned (.int .i64 (ck l)) ∧ Since w w' := by
  obtain ⟨A, n, c, rfl, h1, h2, h3⟩ := h
  exact checkC A n c l w h1 h2 h3 hf
theorem flowV (l : List Pt) (v : Value) (s : Int) (w : World) (h : Cvl l v w) (hf : fewP l 1000) : Calls Tryz.prog 40 #[v, .int .i64 s] w fun e w' => e = .returned (rbv (flowC0 l s)) ∧ Since w w' := by
  obtain ⟨A, n, c, rfl, h1, h2, h3⟩ := h
  exact flowC A n c l s w h1 h2 h3 hf
theorem leastV (l : List Pt) (v : Value) (n' : Bool) (p q : List UInt8) {x : Rat} (hx : rq n' p q = x) (ht : tz p q 1000000) (w : World) (h : Cvl l v w) (hf : fewP l 1000) : Calls Tryz.prog 36 #[v, rtv n' p q] w fun e w' => e = .returned (.tuple #[.int .i64 (leN l (vd n' p q) x), .int .i64 (leE l (vd n' p q) x)]) ∧ Since w w' := by
  obtain ⟨A, n, c, rfl, h1, h2, h3⟩ := h
  exact leastC A n c l n' p q hx ht w h1 h2 h3 hf
theorem shiftV (l : List Pt) (v : Value) (d : Int) (w : World) (h : Cvl l v w) (hf : fewP l 1000) : Calls Tryz.prog 42 #[v, .int .i64 d] w fun e w' => ∃ u, e = .returned u ∧ Shv (shE l d) (shL l d) u w' ∧ Since w w' := by
  obtain ⟨A, n, c, rfl, h1, h2, h3⟩ := h
  refine (shiftC A n c l d w h1 h2 h3 hf).mono fun e X ⟨A', m, c', L, he, g1, g2, g3, _, g4⟩ => ⟨_, he, ⟨A', m, c', rfl, ?_, ?_, ?_⟩, g4⟩
  · rw [← g3]; exact g1
  · rw [← g3]; exact g2
  · have := shL_len l d
    rw [← g3] at this
    omega
theorem scaleV (l : List Pt) (v : Value) (n' : Bool) (p q : List UInt8) (ht : tz p q 1000000) (w : World) (h : Cvl l v w) (hf : fewP l 1000) : Calls Tryz.prog 43 #[v, rtv n' p q] w fun e w' => ∃ u, e = .returned u ∧ Shv (scE l (n', p, q)) (scL l (n', p, q)) u w' ∧ Since w w' := by
  obtain ⟨A, n, c, rfl, h1, h2, h3⟩ := h
  refine (scaleC A n c l n' p q ht w h1 h2 h3 hf).mono fun e X ⟨A', m, c', L, he, g1, g2, g3, _, g4⟩ => ⟨_, he, ⟨A', m, c', rfl, ?_, ?_, ?_⟩, g4⟩
  · rw [← g3]; exact g1
  · rw [← g3]; exact g2
  · have := scL_len l (n', p, q)
    rw [← g3] at this
    omega
theorem differV (l m : List Pt) (u v : Value) (w : World) (h : Cvl l u w) (h' : Cvl m v w) (hf : fewP l 1000) (hf' : fewP m 1000) : Calls Tryz.prog 44 #[u, v] w fun e w' => ∃ x, e = .returned x ∧ Dfv (dfE l m) (dfL l m) x w' ∧ Since w w' := by
  obtain ⟨A, n, c, rfl, h1, h2, h3⟩ := h
  obtain ⟨A', n', c', rfl, h1', h2', h3'⟩ := h'
  refine (differC A n c l A' n' c' m w h1 h1' h2 h2' h3 h3' hf hf').mono fun e X ⟨A9, m9, c9, he, g1, g2, g4⟩ => ⟨_, he, ⟨A9, m9, c9, rfl, g1, g2⟩, g4⟩
theorem sameV (l m : List Pt) (u v : Value) (w : World) (h : Cvl l u w) (h' : Cvl m v w) : Calls Tryz.prog 48 #[u, v] w fun e w' => e = .returned (.bool (decide (l = m))) ∧ Since w w' := by
  obtain ⟨A, n, c, rfl, h1, h2, h3⟩ := h
  obtain ⟨A', n', c', rfl, h1', h2', h3'⟩ := h'
  exact sameC A n c l A' n' c' m w h1 h1' h2 h2' h3 h3'
end Go.Proofs.YtchhlgcakjjncaaGreatDoor
namespace Go.Proofs.YtchhlgcakjjncaaGreatDoor
open Go.RowKit
/-- The example's points. -/
def exPts : List Pt := [(10, false, [], []), (14, tr (ri 6)), (20, tr (ri 6)), (22, tr (ri 7))]
/-- A curve whose points lie in a block of their own. -/
def Cvo (l : List Pt) (n : Nat) (v : Value) (X : World) : Prop := ∃ g, v = .agg #[.slice (some ⟨g, 0, none⟩) n n] ∧ Blk X g 110 (fl ptc l)
theorem Cvo.lasts (l : List Pt) (n : Nat) : Lasts (Cvo l n) := fun _ _ _ ⟨g, h1, h2⟩ hS => ⟨g, h1, h2.bel hS⟩
theorem few_ex : fewP exPts 1000 := by
  intro k hk
  have h6 : szR (ri 6) 7 := szR_int (n := 6) (by decide)
  have h7 : szR (ri 7) 7 := szR_int (n := 7) (by decide)
  have hk : k < 4 := hk
  obtain rfl | rfl | rfl | rfl : k = 0 ∨ k = 1 ∨ k = 2 ∨ k = 3 := by omega
  · exact tz_nil
  · exact tzR h6 (by omega)
  · exact tzR h6 (by omega)
  · exact tzR h7 (by omega)
theorem ck_ex : ck exPts = 0 := by decide +kernel
theorem lst_eq {L : List Kn} (hc : Crv L) {x : Rat} {r : Nat} (hr : r ≤ 3001) (h1 : r = 0 ∨ flowAt L (-1000 + (r : Int) - 1) < x) (h2 : r < 3001 → x ≤ flowAt L (-1000 + (r : Int))) : lst L x = r := by
  rcases Nat.lt_trichotomy (lst L x) r with h | h | h
  · have g1 := lst_at (L := L) (x := x) (by omega)
    have g2 := flow_mono hc (s := -1000 + (lst L x : Int)) (t := -1000 + (r : Int) - 1) (by omega)
    rcases h1 with h1 | h1
    · omega
    · exact absurd (Rat.le_trans g1 g2) (Rat.not_le.2 h1)
  · exact h
  · have hl := lst_le L x
    exact absurd (h2 (by omega)) (Rat.not_le.2 (lst_low h))
theorem dfl_one {L M : List Kn} {a b : Int} (hab : a ≤ b) (ha : -1000 ≤ a) (h : ∀ s, -1000 ≤ s → s ≤ 2000 → (flowAt L s ≠ flowAt M s ↔ a ≤ s ∧ s ≤ b)) : ∀ k : Nat, k ≤ 3001 → dfl L M k = if -1000 + (k : Int) ≤ a then [] else [(a, if b < -1000 + (k : Int) then b else -1000 + (k : Int) - 1)]
  | 0, _ => by rw [if_pos (by omega)]; rfl
  | k + 1, hk => by
    have ih := dfl_one hab ha h k (by omega)
    have hs := h (-1000 + (k : Int)) (by omega) (by omega)
    unfold dfl
    by_cases he : flowAt L (-1000 + (k : Int)) = flowAt M (-1000 + (k : Int))
    · have hn : ¬ (a ≤ -1000 + (k : Int) ∧ -1000 + (k : Int) ≤ b) := fun h9 => hs.2 h9 he
      rw [if_pos he, ih]
      by_cases h1 : -1000 + (k : Int) ≤ a
      · rw [if_pos h1, if_pos (by omega)]
      · rw [if_neg h1, if_neg (show ¬ (-1000 + ((k + 1 : Nat) : Int) ≤ a) by omega), if_pos (show b < -1000 + (k : Int) by omega), if_pos (show b < -1000 + ((k + 1 : Nat) : Int) by omega)]
    · have hn := hs.1 he
      rw [if_neg he, ih]
      by_cases h1 : -1000 + (k : Int) ≤ a
      · have h2 : -1000 + (k : Int) = a := by omega
        rw [if_pos h1, if_neg (show ¬ (-1000 + ((k + 1 : Nat) : Int) ≤ a) by omega), h2]
        have h3 : (if b < -1000 + ((k + 1 : Nat) : Int) then b else -1000 + ((k + 1 : Nat) : Int) - 1) = a := by split <;> omega
        rw [h3]
        rfl
      · rw [if_neg h1, if_neg (show ¬ (-1000 + ((k + 1 : Nat) : Int) ≤ a) by omega), if_neg (show ¬ b < -1000 + (k : Int) by omega)]
        have h3 : (if b < -1000 + ((k + 1 : Nat) : Int) then b else -1000 + ((k + 1 : Nat) : Int) - 1) = -1000 + (k : Int) := by split <;> omega
        rw [h3]
        exact dfS_grow [] (a, -1000 + (k : Int) - 1) rfl
theorem exampleC (w : World) : Calls Tryz.prog 82 #[] w fun e w' => ∃ v, e = .returned v ∧ Cvo exPts 4 v w' ∧ Since w w' := by

  go_enter Tryz.func82, Tryz.ntmps82
  go_upto_region 1 with (fail)
  obtain ⟨W0, hW0, hB0, hb⟩ := start1 w 48 [.slice none 0 0]
  rw [← hW0]
  clear hW0
  refine lx_plain_to 9 [none, none, none, none, none, none, none, some (Bsl 110 (fl ptc exPts) 4)] (lasts_none (lasts_none (lasts_none (lasts_none (lasts_none (lasts_none (lasts_none (lasts_some (Bsl.lasts _ _ _) (lasts_nil))))))))) ?_
  simp only [its, List.take, List.drop, Nat.zero_add, Nat.reduceAdd]
  refine jn (.agg #[.int .i64 10, .bool false, .string ⟨#[]⟩, .string ⟨#[]⟩]) ?_
  refine jc (rt (rN (ri 6)) (rP (ri 6)) (rD (ri 6))) (fun X hX hF => rintQ (6) X (by decide)) ?_
  refine jn (.agg #[.int .i64 14, .bool (rN (ri 6)), st (rP (ri 6)), st (rD (ri 6))]) ?_
  refine jc (rt (rN (ri 6)) (rP (ri 6)) (rD (ri 6))) (fun X hX hF => rintQ (6) X (by decide)) ?_
  refine jn (.agg #[.int .i64 20, .bool (rN (ri 6)), st (rP (ri 6)), st (rD (ri 6))]) ?_
  refine jc (rt (rN (ri 7)) (rP (ri 7)) (rD (ri 7))) (fun X hX hF => rintQ (7) X (by decide)) ?_
  refine jn (.agg #[.int .i64 22, .bool (rN (ri 7)), st (rP (ri 7)), st (rD (ri 7))]) ?_
  refine lx_new (by rfl) (fun X hX hF => Bsl.mk 110 (fl ptc exPts) 4 (by unfold execOp; go_simp; rfl)) ?_
  intro v8
  simp only [pX]
  refine jg (.agg #[v8]) (fun X hX hF => by obtain ⟨g9, h9, _⟩ := (hF _ _ List.mem_cons_self rfl); subst h9; unfold execOp; go_simp) ?_
  refine lx_nil ?_
  intro X1 hX1 hF
  have hv8 := hF _ _ List.mem_cons_self
  have hB0 := hB0.bel hX1
  have hb := bel_next hb hX1
  clear hF hX1
  obtain ⟨gp, rfl, hBp⟩ := hv8
  have hne := hB0.lt
  by_cases hgp : gp = w.heap.size
  · exfalso
    rw [hgp] at hBp
    have h9 := hBp.symm.trans hB0
    injection h9 with h9
    injection h9 with h9 h8
    simp at h8
  refine osb 48 0 9 w.heap.size 48 hB0 [.slice (some ⟨gp, 0, none⟩) 4 4] info_cv ?_
  intro w9 hR9 hO9 hB9 hs9
  have hb9 := hB9 _ _ hb (by omega)
  have hp9 := hO9 _ _ _ hgp hBp
  clear hO9 hB9
  go_wp2
  refine post_cell rfl rfl (by rfl) Tryz.underlying48 rfl hR9 info_cv ⟨_, rfl, ⟨gp, rfl, hp9⟩, hb9⟩
end Go.Proofs.YtchhlgcakjjncaaGreatDoor
