/-
  Layer 48: words for statements.
-/
import Derived.Test.YthinopepcmidmaaDoorSb48
import Derived.Test.YthinopepcmidmaaDoorMB
import Derived.Test.YthinopepcmidmaaDoorPl48b
set_option linter.unusedSimpArgs false
set_option linter.unusedVariables false
set_option maxRecDepth 100000
set_option maxHeartbeats 1600000
namespace Go.Proofs.YthinopepcmidmaaDoor
open Go.RowKit
section
variable {P : Program} {l : List Oper} {w : World}
/-- The last T operations come one after the other. -/
theorem tail_any {Q' : Exit → Act → World → Prop} (hB : lxB l = true) : ∀ (T : Nat) (listed : Array Bool) (a : Act) (w : World), T ≤ l.length → listed.size = l.length → (∀ k, k < l.length - T → listed.getD k true = true) → (∀ k, l.length - T ≤ k → k < l.length → listed.getD k true = false) →
    (∀ t, l.length - T ≤ t → t < l.length → ∀ p, p < t → inB (clo l) t p = true) → wpList P l.toArray Q' (l.drop (l.length - T)) a w → wpAny P .any l.toArray Q' T listed a w
  | 0, listed, a, w, _, hs, hall, hun, ht, h => by
    rw [Nat.sub_zero, List.drop_length] at h
    refine ⟨?_, h⟩
    apply List.eq_nil_iff_forall_not_mem.2
    intro i hi
    obtain ⟨h0, o, ho, _⟩ := mem_ready.1 hi
    have hlt : i < l.length := (List.getElem?_eq_some_iff.1 (show l[i]? = some o by simpa using ho)).1
    rw [hall i (by omega)] at h0
    cases h0
  | T + 1, listed, a, w, hT, hs, hall, hun, ht, h => by
    have getD_ft : ∀ k, k < l.length → listed.getD k true = listed.getD k false := fun k hk => by
      simp only [Array.getD_eq_getD_getElem?, Array.getElem?_eq_getElem (hs ▸ hk), Option.getD_some]
    have hjl : l.length - (T + 1) < l.length := by omega
    obtain ⟨z, hz⟩ : ∃ z, l[l.length - (T + 1)]? = some z := ⟨_, List.getElem?_eq_getElem hjl⟩
    have hdrop : l.drop (l.length - (T + 1)) = z :: l.drop (l.length - T) := by
      rw [List.drop_eq_getElem_cons hjl]
      rw [List.getElem?_eq_getElem hjl] at hz
      injection hz with hz
      rw [hz, show l.length - (T + 1) + 1 = l.length - T by omega]
    rw [hdrop] at h
    have hzu := hun (l.length - (T + 1)) (by omega) hjl
    have hr : l.length - (T + 1) ∈ Region.ready .any l.toArray listed := mem_ready.2 ⟨hzu, z, by simpa using hz, fun e he hb => by
      have := ((lxB_spec hB).2 _ z hz).1 e he hb
      rw [← getD_ft _ (by omega)]
      exact hall _ (by omega)⟩
    refine ⟨fun hnil => ?_, fun i hi => ?_⟩
    · rw [hnil] at hr
      cases hr
    · obtain ⟨hi0, o, ho, hdone⟩ := mem_ready.1 hi
      have ho' : l[i]? = some o := by simpa using ho
      have hil : i < l.length := (List.getElem?_eq_some_iff.1 ho').1
      have : i = l.length - (T + 1) := by
        rcases Nat.lt_trichotomy i (l.length - (T + 1)) with h' | h' | h'
        · rw [hall i h'] at hi0
          cases hi0
        · exact h'
        · exfalso
          have hin := ht i (by omega) hil (l.length - (T + 1)) h'
          obtain ⟨hlt, e, he, hb, hor⟩ := ((lxB_spec hB).2 i o ho').2.1 _ hin
          have hon := ((lxB_spec hB).2 i o ho').1 e he hb
          have hel := hdone e he hb
          rw [← getD_ft _ (by omega)] at hel
          rcases hor with hor | hor
          · rw [hor, hzu] at hel
            cases hel
          · rcases Nat.lt_or_ge e.on (l.length - (T + 1)) with h9 | h9
            · have hk := ((lxB_spec hB).2 e.on _ (List.getElem?_eq_getElem (show e.on < l.length by omega))).2.1 _ hor
              omega
            · rw [hun e.on h9 (by omega)] at hel
              cases hel
      subst this
      have hoz : o = z := by
        rw [hz] at ho'
        injection ho' with ho'
        exact ho'.symm
      subst hoz
      have fin : ∀ a' w', wpList P l.toArray Q' (l.drop (l.length - T)) a' w' → wpAny P .any l.toArray Q' T (listed.setIfInBounds (l.length - (T + 1)) true) a' w' := fun a' w' hq' => by
        refine tail_any hB T _ a' w' (by omega) (by simp [hs]) (fun k hk => ?_) (fun k h1 h2 => ?_) (fun t h1 h2 p hp => ht t (by omega) h2 p hp) hq'
        · by_cases hne : l.length - (T + 1) = k
          · subst hne
            simp [hs, hjl]
          · rw [getD_set_ne true hne]
            exact hall k (by omega)
        · rw [getD_set_ne true (by omega)]
          exact hun k (by omega) h2
      unfold wpOp
      simp only [ho]
      unfold wpList at h
      split
      · rename_i hw
        rw [if_pos hw] at h
        exact h.imp (Oper.wp_mono fin) (fun h => h)
      · rename_i hw
        rw [if_neg hw] at h
        exact fin _ _ h
def tailsB (l : List Oper) (T : Nat) : Bool := decide (T ≤ l.length) && (List.range T).all fun i => (List.range (l.length - T + i)).all fun p => inB (clo l) (l.length - T + i) p
theorem lx_tails {id : Nat} {Q' : Exit → Act → World → Prop} {a : Act} (T : Nat) (ss : List Spec) (hm : P.follows .mixedOrders = true) (hB : lxB l = true) (hT : tailsB l T = true)
    (hst : ∀ S, some S ∈ ss → ∀ v X Y, S v X → Since X Y → S v Y) (h : Cert P l.toArray Since w (wpList P l.toArray Q' (l.drop (l.length - T))) (inB (clo l)) (its 0 (l.take (l.length - T)) ss) [] a) : (Code.region id l.toArray true).wp P Q' a w := by
  unfold tailsB at hT
  rw [Bool.and_eq_true, decide_eq_true_eq] at hT
  obtain ⟨hTl, hT⟩ := hT
  have ht : ∀ t, l.length - T ≤ t → t < l.length → ∀ p, p < t → inB (clo l) t p = true := fun t h1 h2 p hp => by
    have h3 := List.all_eq_true.1 (List.all_eq_true.1 hT (t - (l.length - T)) (List.mem_range.2 (by omega))) p (List.mem_range.2 (by omega))
    rwa [show l.length - T + (t - (l.length - T)) = t by omega] at h3
  refine wp_region_any hm ?_
  obtain ⟨h1, h2, h3, h4⟩ := its_mem 0 (l.take (l.length - T)) ss
  have hdl : ∀ k, k < l.length - T → (l.take (l.length - T))[k]? = l[k]? := fun k hk => by
    rw [List.getElem?_take_of_lt hk]
  have a60 : (its 0 (l.take (l.length - T)) ss).length + T = l.length := by rw [h3, List.length_take]; omega
  have hlen : l.toArray.size = (its 0 (l.take (l.length - T)) ss).length + T := by rw [a60]; simp
  rw [hlen]
  refine cert_any (T := T) hB (fun _ _ h h' => h.next h') (fun t h1 h2 p hp => ht t h1 h2 p (by omega)) (fun listed a w hs hall hun hq => tail_any hB T listed a w hTl hs hall hun ht hq) (its 0 (l.take (l.length - T)) ss).length _ (its 0 (l.take (l.length - T)) ss) [] a _ rfl ⟨h1, fun it hit => ?_, fun k o hkT hk _ => ?_, fun k h1 h2 => by simp [a60, h2]⟩ (by simp [a60]) ?_ ?_ (fun p F hp => (by cases hp)) (show Since w w.drew from (Below.refl w.heap.size w).drew) h.out
  · obtain ⟨_, a2, _⟩ := h2 it hit
    have a3 : it.1 < (l.take (l.length - T)).length := (List.getElem?_eq_some_iff.1 (by simpa using a2)).1
    have a4 : it.1 < l.length - T := by rw [List.length_take] at a3; omega
    have a5 : it.1 < l.length := by omega
    refine ⟨?_, by simp [a60, a5], a4⟩
    rw [← hdl _ a4]
    simpa using a2
  · obtain ⟨s, hs⟩ := h4 k o (by rw [hdl k hkT]; exact hk)
    exact ⟨s, by simpa using hs⟩
  · intro k o hk hl
    have a5 : k < l.length := (List.getElem?_eq_some_iff.1 hk).1
    simp [a60, a5] at hl
  · intro it hit S hS
    rcases (h2 it hit).2.2 with h' | h'
    · rw [hS] at h'
      cases h'
    · rw [hS] at h'
      exact hst S h'
end
end Go.Proofs.YthinopepcmidmaaDoor
namespace Go.Proofs.YthinopepcmidmaaDoor
open Go.RowKit
theorem SlOk.len {s : Sl} (h : SlOk s) : (slc s).length = 37 := by
  unfold slc
  simp only [List.length_append, List.length_cons, List.length_nil, List.length_map, h.pv, h.sl]
theorem info_slc {s : Sl} (h : SlOk s) : (Tryd.prog.info? 28).map (·.size) = some (slc s).length := by rw [h.len]; exact info_sl
theorem info_d16 {l : List UInt8} (h : l.length = 16) : (Tryd.prog.info? 26).map (·.size) = some (l.map B8).length := by rw [List.length_map, h]; exact info_dg
theorem slc_pv {s : Sl} (h : SlOk s) : ((slc s).drop 5).take (s.pv.map B8).length = s.pv.map B8 := by
  show (s.pv.map B8 ++ s.sl.map B8).take (s.pv.map B8).length = s.pv.map B8
  exact List.take_left
theorem slc_sl {s : Sl} (h : SlOk s) : ((slc s).drop 21).take (s.sl.map B8).length = s.sl.map B8 := by
  have e : (slc s).drop 21 = s.sl.map B8 := by
    show (s.pv.map B8 ++ s.sl.map B8).drop 16 = s.sl.map B8
    exact List.drop_left' (by rw [List.length_map, h.pv])
  rw [e, List.take_of_length_le (Nat.le_refl _)]
theorem slc_one {s : Sl} : ∀ v ∈ slc s, v.oneCell' = true := by
  intro v hv
  unfold slc at hv
  simp only [List.mem_append, List.mem_cons, List.not_mem_nil, or_false, List.mem_map] at hv
  rcases hv with rfl | rfl | rfl | rfl | rfl | ⟨x, _, rfl⟩ | ⟨x, _, rfl⟩ <;> rfl
/-- '==' of two statements. -/
theorem eqm_sl : Tryd.prog.eqGuardType Tryd.prog.depth 28 = false := by kernel_rfl
theorem eqm_dg : Tryd.prog.eqGuardType Tryd.prog.depth 26 = false := by kernel_rfl
theorem part_cell {t : TypeId} {xs : Array Value} {off : Nat} {v : Value} (w : World) (ha : (isAgg t).run Tryd.prog w = .ok false w) (hx : xs[off]? = some v) : (part t xs off).run Tryd.prog w = .ok v w := by
  unfold part
  rw [Sem.run_bind, ha]
  simp only [Result.andThen_ok, Bool.false_eq_true, if_false, hx, Sem.run_pure]
theorem part_dg {xs : List Value} {off : Nat} {ys : List Value} (w : World) (hx : (xs.drop off).take 16 = ys) : (part 26 xs.toArray off).run Tryd.prog w = .ok (.agg ys.toArray) w := by
  have ha : (isAgg 26).run Tryd.prog w = .ok true w := by go_simp
  have hs : (sizeOf 26).run Tryd.prog w = .ok 16 w := by go_simp
  unfold part
  rw [Sem.run_bind, ha]
  simp only [Result.andThen_ok, if_true, Sem.run_bind, hs, Sem.run_pure]
  congr 2
  subst hx
  simp
  done
theorem eqF {d : Nat} {xs ys : Array Value} {f : Field} {fs : List Field} {w : World} {u v : Value} {r : Bool} (h : f.name ≠ "_") (hu : (part f.type xs f.offset).run Tryd.prog w = .ok u w) (hv : (part f.type ys f.offset).run Tryd.prog w = .ok v w) (hr : (Op.equalIn d f.type u v).run Tryd.prog w = .ok r w) {b : Bool} (hb : (Op.eqFields d xs ys fs).run Tryd.prog w = .ok b w) : (Op.eqFields d xs ys (f :: fs)).run Tryd.prog w = .ok (r && b) w := by
  unfold Op.eqFields
  rw [if_pos h]
  simp only [Sem.run_bind, hu, hv, hr, Result.andThen_ok]
  cases r
  · simp only [Bool.not_false, if_true, Sem.run_pure, Bool.false_and]
  · simp only [Bool.not_true, Bool.false_eq_true, if_false, hb, Bool.true_and]
theorem eqF_nil {d : Nat} {xs ys : Array Value} {w : World} : (Op.eqFields d xs ys []).run Tryd.prog w = .ok true w := rfl
theorem eq_sl_d (d : Nat) (w : World) (a b : Sl) (ha : SlOk a) (hb : SlOk b) : (Op.equalIn (d + 3) 28 (.agg (slc a).toArray) (.agg (slc b).toArray)).run Tryd.prog w = .ok (decide (a = b)) w := by
  have hi : ∀ (x : Value) (k : Nat) (xs : Array Value), xs[k]? = some x → (part 3 xs k).run Tryd.prog w = .ok x w := fun x k xs h => part_cell w (by go_simp) h
  have hs : ∀ (x : Value) (k : Nat) (xs : Array Value), xs[k]? = some x → (part 9 xs k).run Tryd.prog w = .ok x w := fun x k xs h => part_cell w (by go_simp) h
  have hi0 : ∀ s : Sl, (part 3 (slc s).toArray 0).run Tryd.prog w = .ok (.int .i64 s.st) w := fun s => hi _ _ _ rfl
  have hi1 : ∀ s : Sl, (part 3 (slc s).toArray 1).run Tryd.prog w = .ok (.int .i64 s.sq) w := fun s => hi _ _ _ rfl
  have hi2 : ∀ s : Sl, (part 3 (slc s).toArray 2).run Tryd.prog w = .ok (.int .i64 s.dy) w := fun s => hi _ _ _ rfl
  have hi3 : ∀ s : Sl, (part 3 (slc s).toArray 3).run Tryd.prog w = .ok (.int .i64 s.kd) w := fun s => hi _ _ _ rfl
  have hs4 : ∀ s : Sl, (part 9 (slc s).toArray 4).run Tryd.prog w = .ok (.string ⟨s.bd.toArray⟩) w := fun s => hs _ _ _ rfl
  have hp : ∀ s : Sl, SlOk s → (part 26 (slc s).toArray 5).run Tryd.prog w = .ok (.agg (s.pv.map B8).toArray) w := fun s h => part_dg w (by have := slc_pv h; rwa [List.length_map, h.pv] at this)
  have hq : ∀ s : Sl, SlOk s → (part 26 (slc s).toArray 21).run Tryd.prog w = .ok (.agg (s.sl.map B8).toArray) w := fun s h => part_dg w (by have := slc_sl h; rwa [List.length_map, h.sl] at this)
  have hd : ∀ x y : List UInt8, x.length = 16 → y.length = 16 → (Op.equalIn (d + 2) 26 (.agg (x.map B8).toArray) (.agg (y.map B8).toArray)).run Tryd.prog w = .ok (x == y) w := fun x y hx hy =>
    run_equalIn_bytes (P := Tryd.prog) w d 26 5 16 Tryd.underlying26 Tryd.underlying5 (fun W => by go_simp) x y hx hy
  have hei : ∀ x y : Int, (Op.equalIn (d + 2) 3 (.int .i64 x) (.int .i64 y)).run Tryd.prog w = .ok (x == y) w := fun x y => run_equalIn_int w (d + 1) _ _ _ _ _ Tryd.underlying3
  have hes : ∀ x y : List UInt8, (Op.equalIn (d + 2) 9 (.string ⟨x.toArray⟩) (.string ⟨y.toArray⟩)).run Tryd.prog w = .ok (x == y) w := fun x y => by
    rw [run_equalIn_string w (d + 1) _ _ _ Tryd.underlying9]
    simp [ByteArray.toList_eq]
  have hU : Tryd.prog.underlying 28 = some (.struct (Tryd.prog.fieldsOf 28)) := by kernel_rfl
  rw [run_equalIn_struct w (d + 2) _ _ _ hU Tryd.stoodInHeld28]
  clear hU
  simp only [Program.fieldsOf, Tryd.underlying28]
  rw [show decide (a = b) = ((a.st == b.st) && ((a.sq == b.sq) && ((a.dy == b.dy) && ((a.kd == b.kd) && ((a.bd == b.bd) && ((a.pv == b.pv) && ((a.sl == b.sl) && true))))))) from by
    rw [Bool.eq_iff_iff, decide_eq_true_eq, ← Sl.eq_iff]
    simp only [Bool.and_eq_true, beq_iff_eq, and_true]]
  exact eqF (by decide) (hi0 a) (hi0 b) (hei _ _) (eqF (by decide) (hi1 a) (hi1 b) (hei _ _) (eqF (by decide) (hi2 a) (hi2 b) (hei _ _) (eqF (by decide) (hi3 a) (hi3 b) (hei _ _) (eqF (by decide) (hs4 a) (hs4 b) (hes _ _) (eqF (by decide) (hp a ha) (hp b hb) (hd _ _ ha.pv hb.pv) (eqF (by decide) (hq a ha) (hq b hb) (hd _ _ ha.sl hb.sl) eqF_nil))))))
theorem run_eq_sl (w : World) (a b : Sl) (ha : SlOk a) (hb : SlOk b) : (binOp .eql 28 (.agg (slc a).toArray) (.agg (slc b).toArray)).run Tryd.prog w = .ok (.bool (decide (a = b))) w := by
  have h := eq_sl_d 9997 w a b ha hb
  have e1 : (Op.equalIn 10000 28 (.agg (slc a).toArray) (.agg (slc b).toArray)).run Tryd.prog w = .ok (decide (a = b)) w := h
  rw [run_eql_struct, e1]
  rfl
theorem run_ne_sl (w : World) (a b : Sl) (ha : SlOk a) (hb : SlOk b) : (binOp .neq 28 (.agg (slc a).toArray) (.agg (slc b).toArray)).run Tryd.prog w = .ok (.bool (!decide (a = b))) w := by
  have h := eq_sl_d 9997 w a b ha hb
  have e1 : (Op.equalIn 10000 28 (.agg (slc a).toArray) (.agg (slc b).toArray)).run Tryd.prog w = .ok (decide (a = b)) w := h
  rw [run_neq_struct, e1]
  rfl
section
variable {f : Operand → Value} {o : Oper}
theorem exec_eqsl (x y : Operand) (t' : TypeId) (ho : o.op = .binOp .eql 28 x y t') (a b : Sl) (ha : SlOk a) (hb : SlOk b) (hx : f x = .agg (slc a).toArray) (hy : f y = .agg (slc b).toArray) (r : Bool) (hr : decide (a = b) = r) (X : World) : (execOp f o).run Tryd.prog X = .ok (.value (.bool r)) X :=
  exec_cmp_agg .eql 28 t' x y ho _ _ hx hy eqm_sl _ X ((run_eq_sl X a b ha hb).trans (by rw [hr]))
theorem exec_nesl (x y : Operand) (t' : TypeId) (ho : o.op = .binOp .neq 28 x y t') (a b : Sl) (ha : SlOk a) (hb : SlOk b) (hx : f x = .agg (slc a).toArray) (hy : f y = .agg (slc b).toArray) (r : Bool) (hr : (!decide (a = b)) = r) (X : World) : (execOp f o).run Tryd.prog X = .ok (.value (.bool r)) X :=
  exec_cmp_agg .neq 28 t' x y ho _ _ hx hy eqm_sl _ X ((run_ne_sl X a b ha hb).trans (by rw [hr]))
theorem exec_eqdg (x y : Operand) (t' : TypeId) (ho : o.op = .binOp .eql 26 x y t') (l m : List UInt8) (hl : l.length = 16) (hm : m.length = 16) (hx : f x = .agg (l.map B8).toArray) (hy : f y = .agg (m.map B8).toArray) (r : Bool) (hr : (l == m) = r) (X : World) : (execOp f o).run Tryd.prog X = .ok (.value (.bool r)) X :=
  exec_cmp_agg .eql 26 t' x y ho _ _ hx hy eqm_dg _ X ((run_eql_arr X 26 5 16 Tryd.underlying26 Tryd.underlying5 size_u8 l m hl hm).trans (by rw [hr]))
theorem exec_nedg (x y : Operand) (t' : TypeId) (ho : o.op = .binOp .neq 26 x y t') (l m : List UInt8) (hl : l.length = 16) (hm : m.length = 16) (hx : f x = .agg (l.map B8).toArray) (hy : f y = .agg (m.map B8).toArray) (r : Bool) (hr : (l != m) = r) (X : World) : (execOp f o).run Tryd.prog X = .ok (.value (.bool r)) X :=
  exec_cmp_agg .neq 26 t' x y ho _ _ hx hy eqm_dg _ X ((run_neq_arr X 26 5 16 Tryd.underlying26 Tryd.underlying5 size_u8 l m hl hm).trans (by rw [hr]))
/-- A digest within a block, as a slice. -/
theorem exec_sld (x : Operand) (ho : o.op = .slice 26 x none none none) (g k : Nat) (hx : f x = .pointer (some ⟨g, k, none⟩)) (X : World) : (execOp f o).run Tryd.prog X = .ok (.value (.slice (some ⟨g, k, none⟩) 16 16)) X := by
  unfold execOp
  simp only [ho, hx]
  go_simp
  done
/-- The numbers, the strings that a call lays down itself. -/
def Ins (l : List Int) (v : Value) (X : World) : Prop := ∃ A c, v = .slice A l.length c ∧ Rd X 1 (.slice A l.length c) l.length (l.map (Value.int .i64))
theorem Ins.lasts (l : List Int) : Lasts (Ins l) := by
  rintro v X Y ⟨A, c, hv, hr⟩ hS
  exact ⟨A, c, hv, hr.below hS⟩
def Sts (l : List (List UInt8)) (v : Value) (X : World) : Prop := ∃ A c, v = .slice A l.length c ∧ Rd X 1 (.slice A l.length c) l.length (l.map tx)
theorem Sts.lasts (l : List (List UInt8)) : Lasts (Sts l) := by
  rintro v X Y ⟨A, c, hv, hr⟩ hS
  exact ⟨A, c, hv, hr.below hS⟩
theorem rd_new {X : World} {t : TypeId} {xs : List Value} (hm : xs.length ≤ maxLen) : Rd (X.alloc (.cells xs.toArray t)) 1 (.slice (some ⟨X.heap.size, 0, none⟩) xs.length xs.length) xs.length xs := Rd.newM rfl (by omega) hm rfl
theorem exec_bsI5 (x0 x1 x2 x3 x4 : Operand) (ho : o.op = .buildSlice 96 5 #[(0, x0), (1, x1), (2, x2), (3, x3), (4, x4)]) (a b c d e : Int) (h0 : f x0 = .int .i64 a) (h1 : f x1 = .int .i64 b) (h2 : f x2 = .int .i64 c) (h3 : f x3 = .int .i64 d) (h4 : f x4 = .int .i64 e) (X : World) :
    ∃ v X', (execOp f o).run Tryd.prog X = .ok (.value v) X' ∧ Ins [a, b, c, d, e] v X' ∧ Since X X' := by
  refine ⟨.slice (some ⟨X.heap.size, 0, none⟩) 5 5, X.alloc (.cells ([a, b, c, d, e].map (Value.int .i64)).toArray 3), ?_, ⟨_, _, rfl, rd_new (xs := [a, b, c, d, e].map (Value.int .i64)) (by show 5 ≤ maxLen; decide)⟩, since_alloc X _⟩
  unfold execOp
  simp only [ho]
  go_simp
theorem exec_bsS2 (x y : Operand) (ho : o.op = .buildSlice 22 2 #[(0, x), (1, y)]) (a b : List UInt8) (hx : f x = .string ⟨a.toArray⟩) (hy : f y = .string ⟨b.toArray⟩) (X : World) :
    ∃ v X', (execOp f o).run Tryd.prog X = .ok (.value v) X' ∧ Sts [a, b] v X' ∧ Since X X' := by
  refine ⟨.slice (some ⟨X.heap.size, 0, none⟩) 2 2, X.alloc (.cells ([a, b].map tx).toArray 9), ?_, ⟨_, _, rfl, rd_new (xs := [a, b].map tx) (by show 2 ≤ maxLen; decide)⟩, since_alloc X _⟩
  unfold execOp
  simp only [ho]
  go_simp
  rfl
theorem exec_bsS1 (x : Operand) (ho : o.op = .buildSlice 22 1 #[(0, x)]) (a : List UInt8) (hx : f x = .string ⟨a.toArray⟩) (X : World) :
    ∃ v X', (execOp f o).run Tryd.prog X = .ok (.value v) X' ∧ Sts [a] v X' ∧ Since X X' := by
  refine ⟨.slice (some ⟨X.heap.size, 0, none⟩) 1 1, X.alloc (.cells ([a].map tx).toArray 9), ?_, ⟨_, _, rfl, rd_new (xs := [a].map tx) (by show 1 ≤ maxLen; decide)⟩, since_alloc X _⟩
  unfold execOp
  simp only [ho]
  go_simp
  rfl
end
section
variable {P : Program} {ops : Array Oper} {R : World → World → Prop} {w0 : World} {Q : Act → World → Prop} {pre : Nat → Nat → Bool} {a : Act} {k : Nat} {o : Oper} {l : List (Nat × Oper × Spec)} {Fs : List (Nat × (World → Prop))}
/-- A call of a method's value. -/
theorem lx_callm (hw : Region.wanted o (yielded ops a.tmps) = true) (x : Operand) (xs : List Operand) (ts : Array TypeId) (ho : o.op = .call { callee := .value x, args := xs.toArray, argTypes := ts }) (f : FuncId) (fst : List Value) (hx : a.eval x = .func (.func f) fst.toArray #[]) (v : Value) (args : List Value) (he : xs.map a.eval = args)
    (hi : P.inits.idxOf? f = none) (hf : ∀ X : World, (callFunc f (fst ++ args).toArray).run P X = .ok (.enter f (fst ++ args).toArray) X)
    (hc : ∀ X, R w0 X → (∀ p F, (p, F) ∈ Fs → pre k p = true → F X) → Calls P f (fst ++ args).toArray X fun e X' => e = .returned v ∧ R X X') (h : Cert P ops R w0 Q pre l Fs (a.put o.dst v)) : Cert P ops R w0 Q pre ((k, o, none) :: l) Fs a := by
  refine ⟨?_⟩
  unfold CertR
  rw [if_pos hw]
  refine ⟨v, fun X hX hF => ?_, h.out⟩
  have hc := hc X hX hF
  have he2 : xs.toArray.map a.eval = args.toArray := by rw [List.map_toArray, he]
  have hrun : (execOp a.eval o).run P X = .ok (.enter f (fst ++ args).toArray) X := by
    unfold execOp
    rw [ho]
    have hfX := hf X
    simp only [resolve, Sem.run_bind, Sem.run_pure, Result.andThen_ok, hx, he2, Deferred.ofValue, invoke]
    go_simp
  unfold quietR
  rw [hrun]
  exact ⟨rfl, hi, hc⟩
end
/-- The parts of a statement, its seal, its name. -/
def pts (s : Sl) : List (List UInt8) := [encI 236, encI s.st, encI s.sq, encI s.dy, encI s.kd, s.bd, s.pv]
def mk48 (k : List UInt8) (s : Sl) : List UInt8 := (hmac k (msg (pts s))).take 16
def nm48 (s : Sl) : List UInt8 := (sha (inp 236 (pts s ++ [s.sl]))).take 16
theorem mk_put (k : List UInt8) (s : Sl) (x : List UInt8) : mk48 k (s.put x) = mk48 k s := rfl
end Go.Proofs.YthinopepcmidmaaDoor
