/-
  kernel: Route.
-/
import Derived.Test.YtcpedbpldgndmaaGreatDoorKd
set_option linter.unusedSimpArgs false
set_option linter.unusedVariables false
set_option maxRecDepth 100000
set_option maxHeartbeats 1600000
namespace Go.Proofs.YtcpedbpldgndmaaGreatDoor
open Go.RowKit
/-- A number as it lies. -/
def rc (x : Rat) : List Value := trc (tr x)
theorem rc_len (x : Rat) : (rc x).length = 3 := rfl
def yq (l : List Rat) (k : Nat) : Rat := l.getD k 0
theorem yq_out {l : List Rat} {k : Nat} (h : l.length ≤ k) : yq l k = 0 := by
 unfold yq
 rw [List.getD_eq_getElem?_getD, List.getElem?_eq_none h]
 rfl
theorem yq_in {l : List Rat} {k : Nat} (h : k < l.length) : yq l k = l[k] := by
 unfold yq
 rw [List.getD_eq_getElem?_getD, List.getElem?_eq_getElem h]
 rfl
theorem yq_ext {a b : List Rat} (hl : a.length = b.length) (h : ∀ k, k < a.length → yq a k = yq b k) : a = b := by
 refine List.ext_getElem hl fun k h1 h2 => ?_;rw [← yq_in h1, ← yq_in h2];exact h k h1
theorem yq_range {n k : Nat} (f : Nat → Rat) (h : k < n) : yq ((List.range n).map f) k = f k := by
 rw [yq_in (by simpa using h)]
 simp
theorem yq_set {l : List Rat} {k j : Nat} {x : Rat} (hk : k < l.length) : yq (l.set k x) j = if j = k then x else yq l j := by
 unfold yq
 rw [List.getD_eq_getElem?_getD, List.getD_eq_getElem?_getD, List.getElem?_set]
 by_cases h : k = j
 ·subst h
  rw [if_pos rfl, if_pos rfl, if_pos hk]
  rfl
 ·rw [if_neg h, if_neg (fun h9 => h h9.symm)]
theorem fl_drop {α : Type} {g : α → List Value} {m : Nat} : ∀ {l : List α}, (∀ x ∈ l, (g x).length = m) → ∀ k, (fl g l).drop (k * m) = fl g (l.drop k)
 | [], _, k => by simp [fl]
 | x :: l, h, 0 => by simp
 | x :: l, h, k + 1 => by
  have hx := h x List.mem_cons_self;have ih := fl_drop (l := l) (fun y hy => h y (List.mem_cons_of_mem _ hy)) k
  show (g x ++ fl g l).drop ((k + 1) * m) = fl g (l.drop k)
  rw [← ih, Nat.succ_mul, Nat.add_comm (k * m) m, ← List.drop_drop, show (g x ++ fl g l).drop m = fl g l by rw [← hx]; exact List.drop_left]
theorem fl_take {α : Type} {g : α → List Value} {m : Nat} : ∀ {l : List α}, (∀ x ∈ l, (g x).length = m) → ∀ k, (fl g l).take (k * m) = fl g (l.take k)
 | [], _, k => by simp [fl]
 | x :: l, h, 0 => by simp [fl]
 | x :: l, h, k + 1 => by
  have hx := h x List.mem_cons_self;have ih := fl_take (l := l) (fun y hy => h y (List.mem_cons_of_mem _ hy)) k
  show (g x ++ fl g l).take ((k + 1) * m) = g x ++ fl g (l.take k)
  rw [← ih, Nat.succ_mul, Nat.add_comm (k * m) m, List.take_append, hx, List.take_of_length_le (by omega), Nat.add_sub_cancel_left]
theorem fl_app {α : Type} {g : α → List Value} (a b : List α) : fl g (a ++ b) = fl g a ++ fl g b := by
 unfold fl
 rw [List.map_append, List.flatten_append]
theorem fl_setR {α : Type} {g : α → List Value} {m : Nat} (hm : ∀ x, (g x).length = m) {l : List α} {k : Nat} (hk : k < l.length) (x : α) : (fl g l).take (k * m) ++ g x ++ (fl g l).drop (k * m + m) = fl g (l.set k x) := by
 have h1 : l.set k x = l.take k ++ ([x] ++ l.drop (k + 1)) := by
  rw [List.set_eq_take_append_cons_drop, if_pos hk]
  rfl
 rw [h1, fl_app, fl_app, fl_take (fun y _ => hm y), show k * m + m = (k + 1) * m by rw [Nat.succ_mul], fl_drop (fun y _ => hm y), List.append_assoc]
 congr 1
 congr 1
 simp [fl]
theorem fl_rep {α : Type} {g : α → List Value} {m : Nat} {x : α} (hx : (g x).length = m) (hm : 0 < m) : ∀ (n j : Nat), j < n * m → (fl g (List.replicate n x))[j]? = (g x)[j % m]?
 | 0, j, h => by omega
 | n + 1, j, h => by
  show (g x ++ fl g (List.replicate n x))[j]? = _
  rcases Nat.lt_or_ge j m with h1 | h1
  ·rw [List.getElem?_append_left (by omega), Nat.mod_eq_of_lt h1]
  ·rw [List.getElem?_append_right (by omega), hx, fl_rep hx hm n (j - m) (by rw [Nat.succ_mul] at h; omega)]
   congr 1
   rw [Nat.mod_eq_sub_mod h1]
theorem rcs_len (l : List Rat) : (fl rc l).length = l.length * 3 := fl_len (fun x _ => rc_len x)
theorem Cl.part {w : World} {b off : Nat} {cs : List Value} (h : Cl w b off cs) (d : Nat) (xs : List Value) (hs : (cs.drop d).take xs.length = xs) : Cl w b (off + d) xs := fun j u hj => by
 have hl : j < xs.length := (List.getElem?_eq_some_iff.1 hj).1;rw [← hs, List.getElem?_take_of_lt hl, List.getElem?_drop] at hj;rw [Nat.add_assoc];exact h (d + j) u hj
/-- An element of a block of numbers. -/
theorem blk_rc {l : List Rat} {g k : Nat} {X : World} (h : Blk X g 34 (fl rc l)) (hk : k < l.length) : Cl X g (0 + k * 3) (rc (yq l k)) := by
 have h1 := fl_elt (g := rc) (m := 3) (l := l) (fun x _ => rc_len x) (List.drop_eq_getElem_cons hk);rw [← yq_in hk] at h1;exact Cl.part h.cl (k * 3) _ (by rw [rc_len]; exact h1)
theorem op_store_at {P : Program} {w : World} {ops : Array Oper} {rest : List Oper} {o : Oper} {a : Act} {Q : Exit → Act → World → Prop} (hgd : o.guard = none) (ty : TypeId) (p x : Operand) (ho : o.op = .store ty p x) (g : Nat) (t : TypeId) (xs : List Value) (hB : Blk w g t xs) (k : Nat)
  (hp : a.eval p = .pointer (some ⟨g, k, none⟩)) (ys : List Value) (hx : a.eval x = .agg ys.toArray) (hl : k + ys.length ≤ xs.length) (h1 : ∀ v ∈ ys, v.oneCell' = true) (hi : (P.info? ty).map (·.size) = some ys.length)
  (h : ∀ w', Blk w' g t (xs.take k ++ ys ++ xs.drop (k + ys.length)) → w.grownBy w' (some g) → w'.heap.size = w.heap.size → wpList P ops Q rest (a.put o.dst undef) w') : wpList P ops Q (o :: rest) a w := by
 refine wpList_plain hgd fun K hK => ?_;have hst := run_storeCells_at P g k t ys 0 xs.toArray w hB (by simpa using hl) h1
 have hr : (storeVar ty ⟨g, k, none⟩ (.agg ys.toArray)).run P w = .ok () (w.setRow g (xs.take k ++ ys ++ xs.drop (k + ys.length)).toArray) := by
  cases hq : P.info? ty with
  | none => simp [hq] at hi
  | some i =>
   have hsz : i.size = ys.length := by simpa [hq] using hi
   simp only [Nat.add_zero] at hst
   simp [storeVar, Value.cells, Sem.run_bind, sizeOf, typeInfo, hq, hsz, hst]
 unfold Oper.wp execOp
 simp only [ho, hp, hx, Instr.storeAt, Instr.sureAddr, Sem.run_bind, Sem.run_pure, Result.andThen_ok, hr];exact hK _ _ (h _ (setRow_heap w g xs.toArray _ t (0, 0) hB) (setRow_grown w g _) (by simp))
/-- The same for a number of a slice of numbers. -/
theorem op_store_rc {w : World} {ops : Array Oper} {rest : List Oper} {o : Oper} {a : Act} {Q : Exit → Act → World → Prop} (hgd : o.guard = none) (p x : Operand) (ho : o.op = .store 34 p x) (g : Nat) (l : List Rat) (hB : Blk w g 34 (fl rc l)) (k : Nat) (hk : k < l.length)
  (hp : a.eval p = .pointer (some ⟨g, 0 + k * 3, none⟩)) (y : Rat) (hx : a.eval x = rbv y)
  (h : ∀ w', Blk w' g 34 (fl rc (l.set k y)) → w.grownBy w' (some g) → wpList Tryz.prog ops Q rest (a.put o.dst undef) w') : wpList Tryz.prog ops Q (o :: rest) a w := by
 refine op_store_at hgd 34 p x ho g 34 (fl rc l) hB (k * 3) (by rw [hp, Nat.zero_add]) (rc y) hx (by rw [rcs_len, rc_len]; omega) (by
  intro u hu;simp only [rc, trc, List.mem_cons, List.not_mem_nil, or_false] at hu
  rcases hu with rfl | rfl | rfl <;> rfl) (by rw [rc_len]; exact info_rat) fun w' h2 h3 _ => h w' ?_ h3
 have h4 := fl_setR rc_len hk y;rw [rc_len] at h2
 rwa [h4] at h2
theorem grown_blk {w w' : World} {g g' : Nat} {t : TypeId} {zs : List Value} (h : w.grownBy w' (some g)) (hz : Blk w g' t zs) (hne : g' ≠ g) : Blk w' g' t zs := (grown_block h hz.lt hne).trans hz
theorem grown_bel {W w w' : World} {B g : Nat} (h : w.grownBy w' (some g)) (hb : Below B W w) (hB : B ≤ w.heap.size) (hg : B ≤ g) : Below B W w' := hb.grown h hB (fun k hk => by simp at hk; omega)
/-- A slice of numbers of the call's own. -/
def Rm (l : List Rat) (B : Nat) (v : Value) (X : World) : Prop := ∃ g, v = .slice (some ⟨g, 0, none⟩) l.length l.length ∧ B ≤ g ∧ l.length ≤ 1000000 ∧ Blk X g 34 (fl rc l)
theorem Rm.lasts (l : List Rat) (B : Nat) : Lasts (Rm l B) := by
 rintro v X Y ⟨g, h1, h2, h4, h3⟩ hS
 exact ⟨g, h1, h2, h4, h3.bel hS⟩
theorem exec_makeR {f : Operand → Value} {o : Oper} (x y : Operand) (ho : o.op = .makeSlice 52 x y) (n B : Nat) {z : Int} (hx : f x = .int .i64 z) (hy : f y = .int .i64 z) (hz : z = (n : Int)) (hn : n ≤ 1000000) (X : World) (hB : B ≤ X.heap.size) :
  ∃ v X', (execOp f o).run Tryz.prog X = .ok (.value v) X' ∧ Rm (List.replicate n 0) B v X' ∧ Since X X' := by
 subst hz;obtain ⟨i, hi, hz0, hsz, hby⟩ := info_parts (show (Tryz.prog.info? 34).map (fun i => (i.zero, i.size, i.bytes)) = some (some (.agg #[.bool false, .string ⟨#[]⟩, .string ⟨#[]⟩]), 3, 40) by kernel_rfl);have hr := run_make (P := Tryz.prog) X 52 34 i (.agg #[.bool false, .string ⟨#[]⟩, .string ⟨#[]⟩]) Tryz.underlying52 hi hz0 .i64 .i64 n n (by omega) (by omega) (by rw [hby]; omega) (by omega);simp only [Int.toNat_natCast, hsz] at hr;refine ⟨_, X.alloc (.cells (madeCells (Value.agg #[.bool false, .string ⟨#[]⟩, .string ⟨#[]⟩]).cells (n * 3)) 34), ?_, ⟨X.heap.size, by rw [List.length_replicate], hB, by rw [List.length_replicate]; exact hn, ?_⟩, (Below.refl X.heap.size X).alloc (Nat.le_refl _) _⟩
 ·unfold execOp
  simp only [ho, hx, hy, Sem.run_bind, hr, Result.andThen_ok, Sem.run_pure]
 ·refine Blk.new ?_
  refine Array.ext' ?_;refine List.ext_getElem? fun j => ?_;have h0 : rc 0 = [.bool false, .string ⟨#[]⟩, .string ⟨#[]⟩] := rfl
  rcases Nat.lt_or_ge j (n * 3) with h1 | h1
  ·show _ = (fl rc (List.replicate n 0))[j]?
   rw [fl_rep (rc_len 0) (by decide) n j h1, h0];have h2 : j % 3 < 3 := Nat.mod_lt _ (by decide)
   simp [madeCells, Value.cells, h1]
   rcases (show j % 3 = 0 ∨ j % 3 = 1 ∨ j % 3 = 2 by omega) with h3 | h3 | h3 <;> simp [h3]
  ·rw [List.getElem?_eq_none (by simpa [size_madeCells] using h1), List.getElem?_eq_none (by rw [rcs_len, List.length_replicate]; exact h1)]
/-- What has arrived of the first weights. -/
def pR (l : List Int) (ys : List Rat) (i u : Nat) : Rat := sm i fun k => if k ≤ u then rk (wt l k) (tot l) * yq ys (u - k) else 0
theorem pR_succ (l : List Int) (ys : List Rat) (i u : Nat) : pR l ys (i + 1) u = pR l ys i u + if i ≤ u then rk (wt l i) (tot l) * yq ys (u - i) else 0 := rfl
/-- What arrives. -/
def rtl (l : List Int) (ys : List Rat) : List Rat := if ys = [] then [] else (List.range (ys.length + l.length - 1)).map (cv (nm l) (yq ys))
theorem pR_all (l : List Int) (ys : List Rat) (u : Nat) : pR l ys l.length u = cv (nm l) (yq ys) u := by
 unfold pR cv
 rcases Nat.lt_or_ge l.length (u + 1) with h2 | h2
 ·rw [sm_more (n := l.length) (m := u + 1) (f := fun i => nm l i * yq ys (u - i)) (by omega) (fun i h3 _ => by
   show nm l i * _ = 0
   rw [nm_out h3, Rat.zero_mul])]
  exact sm_congr fun i hi => by
   show (if i ≤ u then rk (wt l i) (tot l) * _ else 0) = nm l i * _
   rw [if_pos (by omega)]
   rfl
 ·rw [sm_more (n := u + 1) (m := l.length) (f := fun i => if i ≤ u then rk (wt l i) (tot l) * yq ys (u - i) else 0) h2 (fun i h3 _ => if_neg (by omega))]
  exact sm_congr fun i hi => by
   show (if i ≤ u then rk (wt l i) (tot l) * _ else 0) = nm l i * _
   rw [if_pos (by omega)]
   rfl
/-- Whether all numbers are valid. -/
def vds (xs : List Tr) : Bool := xs.all fun t => vd t.1 t.2.1 t.2.2
theorem tr_of_vd {t : Tr} (h : vd t.1 t.2.1 t.2.2 = true) : tr (trq t) = t := by
 have h1 := rb_lit (x := trq t) h rfl;simp only [Bool.and_eq_true, beq_iff_eq] at h1;obtain ⟨⟨h2, h3⟩, h4⟩ := h1;obtain ⟨a, b, c⟩ := t;simp only at h2 h3 h4
 unfold tr
 rw [h2, h3, h4]
theorem vds_tr {xs : List Tr} (h : vds xs = true) : (xs.map trq).map tr = xs := by
 rw [List.map_map]
 have h1 : ∀ t ∈ xs, (tr ∘ trq) t = t := fun t ht => tr_of_vd (List.all_eq_true.1 h t ht)
 rw [List.map_congr_left h1, List.map_id']
def xt (xs : List Tr) (k : Nat) : Tr := xs.getD k (false, [], [])
theorem xt_in {xs : List Tr} {k : Nat} (h : k < xs.length) : xt xs k = xs[k] := by
 unfold xt
 rw [List.getD_eq_getElem?_getD, List.getElem?_eq_getElem h]
 rfl
theorem Rl.xtAt {w : World} {A : Option Addr} {n c : Nat} {xs : List Tr} (h : Rd w 3 (.slice A n c) n (fl trc xs)) (hl : xs.length = n) {k : Nat} (hk : k < n) : ∃ b off, A = some ⟨b, off, none⟩ ∧ b < w.heap.size ∧ Cl w b (off + k * 3) (trc (xt xs k)) := by
 obtain ⟨b, off, x, hA, hb, hc, _, hd⟩ := h.atF (m := 3) (fun x _ => trc_len x) (by omega) (k := k) (by omega);have h1 := congrArg (·[0]?) hd.out;rw [xt_in (by omega)]
 have h2 : xs[k] = x := by
  have h3 : xs[k]? = some x := by simpa [List.getElem?_drop] using h1
  rw [List.getElem?_eq_getElem (by omega)] at h3
  injection h3
 rw [h2];exact ⟨b, off, hA, hb, hc⟩
theorem Rl.at {xs : List Tr} {v : Value} {w : World} (h : Rl xs v w) : ∃ A n c, v = .slice A n c ∧ xs.length = n ∧ n ≤ 9223372036854775807 ∧ Rd w 3 (.slice A n c) n (fl trc xs) := by
 have h9 : Rd w 3 v xs.length (fl trc xs) := h;have h8 := h9;obtain ⟨hl, A, c, h2, hc, hm, hx⟩ := h9;subst h2;refine ⟨A, xs.length, c, rfl, rfl, ?_, h8⟩
 unfold maxLen at hm
 omega
end Go.Proofs.YtcpedbpldgndmaaGreatDoor
namespace Go.Proofs.YtcpedbpldgndmaaGreatDoor
open Go.RowKit
theorem rte0 (v vf : Value) (l : List Int) (xs : List Tr) (w : World) (hv : Ks l v w) (hvf : Rl xs vf w) (HE : Hid (kcE l ≠ 0)) : Calls Tryz.prog 20 #[.agg #[v], vf] w fun e w' => e = .returned (.tuple #[.slice none 0 0, .int .i64 (kcE l)]) ∧ Since w w' := by
 have HV : Hid (∀ X, Since w X → Ks l v X) := fun X h => Ks.lasts l _ _ _ hv h
 clear hv;obtain ⟨z, z9⟩ : ∃ z, z = kcE l := ⟨_, rfl⟩;have HZ := Lib.hid z9
 have hz0 : z ≠ 0 := by rw [z9]; exact HE.out
 clear z9 hvf
 go_enter Tryz.func20, Tryz.ntmps20
 go_upto_region 1 with fail;obtain ⟨W0, hW0, hB0, hb⟩ := start1 w 24 [v];rw [← hW0];clear hW0;refine jp ?_;refine ja hB0 Tryz.underlying24 (by rfl) info_kn ?_;refine jc (.int .i64 z) (fun X hX hF => mo (kchC _ l X (HV.out X (Since.next hb hX))) (by rw [HZ.out])) ?_;refine jm (.int .i64 z) ?_;refine jzb hb fun X1 hX1 hb => ?_;replace hB0 := hB0.bel hX1;clear hX1;go_upto_region 2 with fail;refine jp ?_;refine jm (.int .i64 z) ?_;refine jv (.bool true) (exec_nei _ _ _ _ (by rfl) .i64 z 0 (by rfl) (by rfl) true (by rw [decide_eq_false (by omega)]; rfl)) ?_;refine jzb hb fun X2 hX2 hb => ?_;replace hB0 := hB0.bel hX2;clear hX2;go_upto_region 3 with fail;refine jp ?_;refine jm (.int .i64 z) ?_;refine jm (.slice none 0 0) ?_;refine jm (.int .i64 z) ?_;refine jzb hb fun X3 hX3 hb => ?_;replace hB0 := hB0.bel hX3;clear hX3
 go_wp2
 go_ret2
 exact ⟨by rw [← HZ.out]; rfl, hb⟩
theorem rte2 (v vf : Value) (l : List Int) (xs : List Tr) (w : World) (hv : Ks l v w) (hvf : Rl xs vf w) (HK : Hid (Kok l)) (h4 : xs.length ≤ 4000) (HF : Hid (∀ k, k < xs.length → tz (xt xs k).2.1 (xt xs k).2.2 1000000)) (HB : Hid (vds xs = false)) : Calls Tryz.prog 20 #[.agg #[v], vf] w fun e w' => e = .returned (.tuple #[.slice none 0 0, .int .i64 1]) ∧ Since w w' := by
 have HV : Hid (∀ X, Since w X → Ks l v X) := fun X h => Ks.lasts l _ _ _ hv h
 clear hv;have HC : Hid (kcE l = 0) := kcE_ok.2 HK.out;obtain ⟨AF, nf, cf, rfl, hlf, hnf1, hrf⟩ := hvf.at;clear hvf
 have HRF : Hid (∀ X, Since w X → Rd X 3 (.slice AF nf cf) nf (fl trc xs)) := fun X h => hrf.below h
 have HLF := Lib.hid hlf;clear hrf;rw [hlf] at h4
 go_enter Tryz.func20, Tryz.ntmps20
 go_upto_region 1 with fail;obtain ⟨W0, hW0, hB0, hb⟩ := start1 w 24 [v];rw [← hW0];clear hW0;refine jp ?_;refine ja hB0 Tryz.underlying24 (by rfl) info_kn ?_;refine jc (.int .i64 0) (fun X hX hF => mo (kchC _ l X (HV.out X (Since.next hb hX))) (by rw [HC.out])) ?_;refine jm (.int .i64 0) ?_;refine jzb hb fun X1 hX1 hb => ?_;replace hB0 := hB0.bel hX1;clear hX1;go_upto_region 2 with fail;refine jp ?_;refine jm (.int .i64 0) ?_;refine jv (.bool false) (exec_nei _ _ _ _ (by rfl) .i64 0 0 (by rfl) (by rfl) false (by rw [decide_eq_true (by omega)]; rfl)) ?_;refine jzb hb fun X2 hX2 hb => ?_;replace hB0 := hB0.bel hX2;clear hX2;go_upto_region 4 with fail;refine jp ?_;refine jm (.slice AF nf cf) ?_;refine jv (.int .i64 (nf : Int)) (exec_lenv Tryz.underlying52 _ (by rfl) AF nf cf (by rfl) _ rfl) ?_;refine jv (.bool false) (exec_gtr _ _ _ _ (by rfl) .i64 (nf : Int) 4000 (by rfl) (by rfl) false (decide_eq_false (by omega))) ?_;refine jzb hb fun X3 hX3 hb => ?_;replace hB0 := hB0.bel hX3;clear hX3;go_upto_region 6 with fail;refine jp ?_;refine jm (.slice AF nf cf) ?_;refine jv (.int .i64 (nf : Int)) (exec_lenv Tryz.underlying52 _ (by rfl) AF nf cf (by rfl) _ rfl) ?_;refine jm (.int .i64 0) ?_;refine jzb hb fun X4 hX4 hb => ?_;replace hB0 := hB0.bel hX4;clear hX4
 go_wp2
 go_loopw [25] (fun kv wr => ∃ k : Nat, k ≤ nf ∧ kv = .int .i64 (k : Int) ∧ Hid (∀ j, j < k → vd (xt xs j).1 (xt xs j).2.1 (xt xs j).2.2 = true) ∧ Blk wr w.heap.size 24 [v] ∧ Below w.heap.size w wr) (fun kv _ => nf - (intOf kv).toNat)
 case atStart => exact ⟨0, by omega, rfl, (fun j hj => by omega), hB0, hb⟩
 case round =>
  clear hB0 hb;obtain ⟨k, hk, rfl, HZ, hB0, hb⟩ := hrel
  rcases Nat.lt_or_ge k nf with hlt | hlt
  ·obtain ⟨b, off, rfl, hbb, hcx⟩ := Rl.xtAt (HRF.out _ hb) HLF.out hlt
   obtain ⟨x, x9⟩ : ∃ x, x = xt xs k := ⟨_, rfl⟩;have HX := Lib.hid x9;clear x9;rw [← HX.out] at hcx
   have hx : tz x.2.1 x.2.2 1000000 := by rw [HX.out]; exact HF.out k (by rw [HLF.out]; exact hlt)
   go_upto_region 7 with fail;refine jp ?_;refine jv (.bool true) (exec_lss _ _ _ _ (by rfl) .i64 (k : Int) (nf : Int) (by rfl) (by rfl) true (decide_eq_true (by omega))) ?_;refine jzb hb fun X1 hX1 hb => ?_;replace hB0 := hB0.bel hX1;have hcx := hcx.below hX1 hbb;replace hbb := Nat.lt_of_lt_of_le hbb (hX1).size;clear hX1;go_upto_region 8 with fail;refine jq 2 ?_;refine jv (.pointer (some ⟨b, off + k * 3, none⟩)) (exec_ixv Tryz.underlying52 info_rat _ _ (by rfl) b (off) nf cf k (by omega) (by rfl) (by rfl) rfl) ?_;refine jg (.agg #[.bool x.1, st x.2.1, st x.2.2]) (fun X hX hF => exec_ldc 34 _ (by rfl) b (off + k * 3) (by rfl) Tryz.underlying34 rfl [.bool x.1, .string ⟨x.2.1.toArray⟩, .string ⟨x.2.2.toArray⟩] X (Cl.part (hcx.below hX hbb) 0 _ (by rfl)) info_rat) ?_;refine jzb hb fun X2 hX2 hb => ?_;replace hB0 := hB0.bel hX2;have hcx := hcx.below hX2 hbb;replace hbb := Nat.lt_of_lt_of_le hbb (hX2).size;clear hX2;go_upto_region 9 with (refine osn 34 8 28 #[.bool x.1, .string ⟨x.2.1.toArray⟩, .string ⟨x.2.2.toArray⟩] info_rat ?_);obtain ⟨Y2, hY9, hD8, hS9⟩ := start1 X2 34 [.bool x.1, .string ⟨x.2.1.toArray⟩, .string ⟨x.2.2.toArray⟩];rw [← hY9];clear hY9;have hgs8 := hb.size;have hlt8x0 := hB0.lt;have hcx := hcx.below hS9 hbb;replace hbb := Nat.lt_of_lt_of_le hbb (hS9).size;have hB0 := hB0.bel hS9;have hb := bel_next hb hS9;clear hS9;generalize X2.heap.size = g8 at *
   rcases hvx : vd x.1 x.2.1 x.2.2 with _ | _
   ·have HVX := Lib.hid hvx
    refine jp ?_;refine ja hD8 Tryz.underlying34 (by rfl) info_rat ?_;refine jc (.bool false) (fun X hX hF => mo (validG x.1 x.2.1 x.2.2 X (hx.mono (by omega))) (by rw [HVX.out])) ?_;refine jm (.bool true) ?_;refine jzb hb fun X3 hX3 hb => ?_;replace hB0 := hB0.bel hX3;replace hD8 := hD8.bel hX3;clear hX3;go_upto_region 10 with fail;refine jp ?_;refine jm (.slice none 0 0) ?_;refine jm (.int .i64 1) ?_;refine jzb hb fun X4 hX4 hb => ?_;replace hB0 := hB0.bel hX4;replace hD8 := hD8.bel hX4;clear hX4
    go_wp2
    go_ret2
    exact ⟨rfl, hb⟩
   ·have HVX := Lib.hid hvx
    refine jp ?_;refine ja hD8 Tryz.underlying34 (by rfl) info_rat ?_;refine jc (.bool true) (fun X hX hF => mo (validG x.1 x.2.1 x.2.2 X (hx.mono (by omega))) (by rw [HVX.out])) ?_;refine jm (.bool false) ?_;refine jzb hb fun X3 hX3 hb => ?_;replace hB0 := hB0.bel hX3;replace hD8 := hD8.bel hX3;clear hX3
    have HZ2 : Hid (∀ j, j < k + 1 → vd (xt xs j).1 (xt xs j).2.1 (xt xs j).2.2 = true) := fun j hj => by
     rcases Nat.lt_or_ge j k with h9 | h9
     ·exact HZ.out j h9
     ·rw [show j = k by omega, ← HX.out]; exact HVX.out
    go_upto_region 11 with fail;refine jp ?_;refine jv (.int .i64 ((k + 1 : Nat) : Int)) (exec_add _ _ _ _ (by rfl) (k : Int) 1 ((k + 1 : Nat) : Int) (by rfl) (by rfl) (by omega) (by omega) (by omega)) ?_;refine jm (.int .i64 ((k + 1 : Nat) : Int)) ?_;refine jzb hb fun X4 hX4 hb => ?_;replace hB0 := hB0.bel hX4;replace hD8 := hD8.bel hX4;clear hX4
    go_wp2
    go_roundw
    case rel => exact ⟨k + 1, by omega, rfl, HZ2, hB0, hb⟩
    case measure => simp [intOf]; omega
  ·obtain rfl : k = nf := by omega
   exfalso
   have h9 := HB.out
   have h8 : vds xs = true := List.all_eq_true.2 fun t ht => by
    obtain ⟨i, hi, rfl⟩ := List.getElem_of_mem ht;rw [← xt_in hi];exact HZ.out i (by rw [← HLF.out]; exact hi)
   rw [h8] at h9
   cases h9
end Go.Proofs.YtcpedbpldgndmaaGreatDoor
