/-
  kernel: Arrive.
-/
import Derived.Test.YtcpedbpldgndmaaDoorKh
set_option linter.unusedSimpArgs false
set_option linter.unusedVariables false
set_option maxRecDepth 100000
set_option maxHeartbeats 1600000
namespace Go.Proofs.YtcpedbpldgndmaaDoor
open Go.RowKit
theorem info_wdz : (Tryd.prog.info? 60).map (fun i => (i.zero, i.size, i.bytes)) = some (some (.agg #[.int .i64 0, .int .i64 0, .bool false, .string ⟨#[]⟩, .string ⟨#[]⟩]), 5, 56) := by kernel_rfl
/-- A part as it lies; t: the sum of all weights. -/
def wdc (t : Int) (p : Wp) : List Value := [.int .i64 (p.1 : Int), .int .i64 (p.2.1 : Int), .bool (rN (rk p.2.2 t)), .string ⟨(rP (rk p.2.2 t)).toArray⟩, .string ⟨(rD (rk p.2.2 t)).toArray⟩]
theorem wdc_len (t : Int) (p : Wp) : (wdc t p).length = 5 := rfl
theorem wds_len (t : Int) (P : List Wp) : (fl (wdc t) P).length = P.length * 5 := fl_len (fun x _ => wdc_len t x)
theorem fl_snoc {α : Type} {g : α → List Value} (l : List α) (x : α) : fl g (l ++ [x]) = fl g l ++ g x := by
 rw [fl_app]
 simp [fl]
/-- One cell of an element turned. -/
theorem fl_set1 {α : Type} {g : α → List Value} {m : Nat} (hm : ∀ x, (g x).length = m) {l : List α} {k : Nat} (hk : k < l.length) (j : Nat) (hj : j < m) (y : Value) (x : α) (hx : (g l[k]).set j y = g x) : (fl g l).set (k * m + j) y = fl g (l.set k x) := by
 have h1 : l = l.take k ++ ([l[k]] ++ l.drop (k + 1)) := by
  rw [List.singleton_append, ← List.drop_eq_getElem_cons hk, List.take_append_drop]
 have h2 : l.set k x = l.take k ++ ([x] ++ l.drop (k + 1)) := by
  rw [List.set_eq_take_append_cons_drop, if_pos hk]
  rfl
 have h4 : (fl g (l.take k)).length = k * m := by
  rw [fl_len (fun x _ => hm x), List.length_take];rw [Nat.min_eq_left (by omega)]
 have h5 : fl g [l[k]] = g l[k] := by simp [fl]
 have h6 : fl g [x] = g x := by simp [fl]
 rw [h2, fl_app, fl_app, h6]
 conv => lhs; rw [h1]
 rw [fl_app, fl_app, h5, List.set_append_right _ _ (by omega), h4, Nat.add_sub_cancel_left, List.set_append_left _ _ (by rw [hm]; exact hj), hx]
theorem exec_stw {f : Operand → Value} {o : Oper} (x y : Operand) (ho : o.op = .store 56 x y) (g j : Nat) {A : Option Addr} {n c : Nat} (hx : f x = .pointer (some ⟨g, j, none⟩)) (hy : f y = .slice A n c) (u : Value) (X : World) (hc : X.cell? ⟨g, j, none⟩ = some u) (hf : X.frozen? ⟨g, j, none⟩ = false) :
  (execOp f o).run Tryd.prog X = .ok .skip (X.setCell ⟨g, j, none⟩ (.slice A n c)) := by
 unfold execOp
 simp only [ho, hx, hy]
 go_simp
/-- What holds between two rounds. -/
structure ArI (w : World) (v : Value) (l : List Int) (f u : Nat) (go gl : Nat) (m k : Nat) (X : World) : Prop where
 out : ∃ A c, Blk X go 56 [.slice A (aR l f u k).1.length c] ∧ X.ownsRow m 60 5 (.slice A (aR l f u k).1.length c) (aR l f u k).1.length (fl (wdc (tot l)) (aR l f u k).1)
 last : Blk X gl 3 [.int .i64 (aR l f u k).2]
 kn : Blk X w.heap.size 24 [v]
 bel : Below w.heap.size w X
theorem ArI.kept {w : World} {v : Value} {l : List Int} {f u go gl m k B : Nat} {X Y : World} (h : ArI w v l f u go gl m k X) (hK : Kept B X Y) (hB : w.heap.size ≤ B) : ArI w v l f u go gl m k Y := by
 obtain ⟨⟨A, c, h1, h2⟩, h3, h4, h5⟩ := h;exact ⟨⟨A, c, hK.blk h1, hK.owns h2⟩, hK.blk h3, hK.blk h4, hK.below h5 hB⟩
theorem arv4 (v : Value) (l : List Int) (f u : Nat) (w : World) (hv : Ks l v w) (HK : Hid (Kok l)) (hfu : f ≤ u) (hu9 : u ≤ 1402560) : Calls Tryd.prog 25 #[.agg #[v], .agg #[.int .i64 (f : Int), .int .i64 (u : Int)]] w fun e w' => ∃ v', e = .returned (.tuple #[v', .int .i64 0]) ∧ w'.ownsRow w.heap.size 60 5 v' (aR l f u (aN l f u)).1.length (fl (wdc (tot l)) (aR l f u (aN l f u)).1) ∧ Since w w' := by
 have HV : Hid (∀ X, Since w X → Ks l v X) := fun X h => Ks.lasts l _ _ _ hv h
 clear hv;have HC : Hid (kcE l = 0) := kcE_ok.2 HK.out;obtain ⟨t, t9⟩ : ∃ t, t = tot l := ⟨_, rfl⟩;have HT := Lib.hid t9
 have hti : insB t = true := by rw [t9]; exact HK.out.inst
 have ht0 : t ≠ 0 := by rw [t9]; exact HK.out.tne0
 clear t9;refine calls_marks Tryd.func25 rfl ?_;simp only [Tryd.ntmps25, List.size_toArray, List.length_cons, List.length_nil, Nat.reduceAdd, Nat.reduceSub, Array.replicate_succ, Array.replicate_zero, List.push_toArray, List.append_toArray, List.nil_append, List.cons_append];go_upto_region 1 with fail;obtain ⟨W0, hW0, hB0, hB1, hb⟩ := start2 w 24 55 [v] [.int .i64 (f : Int), .int .i64 (u : Int)];rw [← hW0];clear hW0;refine jp ?_;refine ja hB0 Tryd.underlying24 (by rfl) info_kn ?_;refine jc (.int .i64 0) (fun X hX hF => mo (kchC _ l X (HV.out X (Since.next hb hX))) (by rw [HC.out])) ?_;refine jm (.int .i64 0) ?_;refine jzb hb fun X1 hX1 hb => ?_;replace hB0 := hB0.bel hX1;replace hB1 := hB1.bel hX1;clear hX1;go_upto_region 2 with fail;refine jp ?_;refine jm (.int .i64 0) ?_;refine jv (.bool false) (exec_nei _ _ _ _ (by rfl) .i64 0 0 (by rfl) (by rfl) false (by rw [decide_eq_true (by omega)]; rfl)) ?_;refine jzb hb fun X2 hX2 hb => ?_;replace hB0 := hB0.bel hX2;replace hB1 := hB1.bel hX2;clear hX2;go_upto_region 4 with fail;refine jp ?_;refine jn (.pointer (some ⟨(w.heap.size + 1), 0, none⟩)) ?_;refine jf (.int .i64 (f : Int)) hB1 0 load_int ?_;refine jv (.bool false) (exec_lss _ _ _ _ (by rfl) .i64 (f : Int) 0 (by rfl) (by rfl) false (decide_eq_false (by omega))) ?_;refine jm (.bool false) ?_;refine jn (.pointer (some ⟨(w.heap.size + 1), 0, none⟩)) ?_;refine jf (.int .i64 (f : Int)) hB1 0 load_int ?_;refine jn (.pointer (some ⟨(w.heap.size + 1), 1, none⟩)) ?_;refine jf (.int .i64 (u : Int)) hB1 1 load_int ?_
 refine jv (.bool false) (exec_gtr _ _ _ _ (by rfl) .i64 (f : Int) (u : Int) (by rfl) (by rfl) false (decide_eq_false (by omega))) ?_;refine jm (.bool false) ?_;refine jm (.bool false) ?_;refine jn (.pointer (some ⟨(w.heap.size + 1), 1, none⟩)) ?_;refine jf (.int .i64 (u : Int)) hB1 1 load_int ?_;refine jv (.bool false) (exec_gtr _ _ _ _ (by rfl) .i64 (u : Int) 1402560 (by rfl) (by rfl) false (decide_eq_false (by omega))) ?_;refine jm (.bool false) ?_;refine jzb hb fun X3 hX3 hb => ?_;replace hB0 := hB0.bel hX3;replace hB1 := hB1.bel hX3;clear hX3;go_upto_region 7 with fail;obtain ⟨Y3, hY9, hD7, hS9⟩ := start1 X3 56 [.slice none 0 0];rw [← hY9];clear hY9;have hgs7 := hb.size;have hlt7x0 := hB0.lt;have hlt7x1 := hB1.lt;replace hB0 := hB0.bel hS9;replace hB1 := hB1.bel hS9;have hb := bel_next hb hS9;clear hS9;generalize X3.heap.size = g7 at *;refine jq 0 ?_;refine jzb hb fun X4 hX4 hb => ?_;replace hB0 := hB0.bel hX4;replace hB1 := hB1.bel hX4;replace hD7 := hD7.bel hX4;clear hX4;refine op_new1 rfl rfl 3 (.int .i64 0) (.int .i64 0) (fun X => by unfold execOp; go_simp) (fun X g u h1 h2 => exec_sti _ _ (by rfl) _ _ (by rfl) (by rfl) u X h1 h2) ?_;intro g8 Y8 hg8 hD8 hS8;replace hB0 := hB0.bel hS8;replace hB1 := hB1.bel hS8
 have h7l : g7 < g8 := by rw [hg8]; exact hD7.lt
 replace hD7 := hD7.bel hS8
 have hgs8 : w.heap.size ≤ g8 := by rw [hg8]; exact hb.size
 have hb := bel_next hb hS8;clear hS8 hg8;go_upto_region 8 with fail;refine lx_plain [none, none, some (Tki v f u (max g7 g8 + 1))] (lasts_none (lasts_none (lasts_some (Tki.lasts _ _ _ _) (lasts_nil)))) ?_;simp only [iX, Nat.reduceAdd];refine ja hB0 Tryd.underlying24 (by rfl) info_kn ?_;refine ja hB1 Tryd.underlying55 (by rfl) info_tt ?_;refine jk (fun X hX hF => (tksC v f u X).mono fun e X' ⟨vf, h1, ⟨g1, g2, h4, h5, h6, h7⟩, h3⟩ => ⟨vf, h1, ⟨g1, g2, h4, by have h8 := (hD7.bel hX).lt; have h9 := (hD8.bel hX).lt; omega, by have h8 := (hD7.bel hX).lt; have h9 := (hD8.bel hX).lt; omega, h7⟩, h3⟩) ?_;intro v34;refine lx_nil ?_;intro X6 hX6 hF;have hv34 := hF _ _ List.mem_cons_self;replace hB0 := hB0.bel hX6;replace hB1 := hB1.bel hX6;replace hD7 := hD7.bel hX6;replace hD8 := hD8.bel hX6;have hb := bel_next hb hX6;clear hF hX6;obtain ⟨g1, g2, rfl, hg1, hg2, hC1, hC2⟩ := hv34;clear hB1;have h7B := hD7.lt;have h8B := hD8.lt;have hwB := hB0.lt
 go_wp2
 refine wp_rangeA (gf := 59) (lb := #[.pointer (some ⟨g1, 0, none⟩), .pointer (some ⟨g2, 0, none⟩)]) (T := fun k => k = g7 ∨ k = g8) ?F rfl (enters_fn Tryd.func59 (by kernel_rfl) rfl) ?hT (tkIt v l f u _ X6 g1 g2 (HV.out _ hb) HK hfu hu9 hC1 hC2 ?hT ?hT2) (fun _ => rfl) (ArI w v l f u g7 g8) ?hI ?h0 ?assign ?body ?done
 case hT =>
  rintro k (rfl | rfl)
  ·exact h7B
  ·exact h8B
 case hT2 =>
  rintro (h9 | h9)
  ·omega
  ·omega
 case hI => exact fun m k X Y h hK => h.kept hK (Nat.le_of_lt hwB)
 case h0 => exact fun m _ => ⟨⟨none, 0, hD7, ⟨rfl, .inl ⟨rfl, rfl⟩⟩⟩, hD8, hB0, hb⟩
 case assign =>
  intro l9 k W K hK;have hb : Below W.heap.size W W := Below.refl _ _;simp only [List.zip_toArray, List.zip_cons_cons, List.zip_nil_left, List.zip_nil_right, List.foldl_toArray, List.foldl_cons, List.foldl_nil, pA, pS, pZ]
  gi_upto_region 9 with fail
  refine lr_plain [] (by kernel_rfl) (by rintro ⟨_, _, h9⟩; exact h9) (lasts_nil) ?_;simp only [iX, Nat.reduceAdd];refine jm (.int .i64 ((aS l f + k : Nat) : Int)) ?_;refine jzb hb fun X1 _ hb => ?_;refine wpList_nil ?_
  gi_upto_region 10 with fail
  refine lr_plain [] (by kernel_rfl) (by rintro ⟨_, _, h9⟩; exact h9) (lasts_nil) ?_;simp only [iX, Nat.reduceAdd];refine jm (.int .i64 (aw l f u (aS l f + k))) ?_;refine jzb hb fun X2 _ hb => ?_;refine wpList_nil ?_;exact hK _ hb
 case body =>
  intro l9 m k W hm hmw hk hi;clear hD7 hD8 hB0 hb hC1 hC2;obtain ⟨⟨A6, c6, hD7, hOW⟩, hD8, hB0, hb⟩ := hi;obtain ⟨P, hP⟩ : ∃ P, P = (aR l f u k).1 := ⟨_, rfl⟩;obtain ⟨la, hla⟩ : ∃ la, la = (aR l f u k).2 := ⟨_, rfl⟩;obtain ⟨x, hx⟩ : ∃ x, x = aw l f u (aS l f + k) := ⟨_, rfl⟩;obtain ⟨tick, htk⟩ : ∃ tick, tick = aS l f + k := ⟨_, rfl⟩
  have HNX : Hid (aR l f u (k + 1) = (arS P la tick x, x)) := by
   show _ = _
   rw [hP, hla, htk, hx]
   rfl
  have hxb := aw_bd HK.out hfu (aS l f + k);have hnk := aR_len l f u k
  have htu : tick < u := by
   unfold aN at hk
   split at hk
   ·omega
   ·omega
  have hku : k ≤ 1402560 := by omega
  rw [← hP] at hD7 hOW hnk;rw [← hla] at hD8;rw [← hx, ← htk];rw [← hx] at hxb;rw [← HT.out] at hOW;clear hP hla hx htk hk;obtain ⟨n, hn9⟩ : ∃ n, P.length = n := ⟨_, rfl⟩;have HN := Lib.hid hn9;rw [hn9] at hD7 hOW hnk;clear hn9;have hxi : insB x = true := insB_nn hxb.1 hxb.2;have hbut : But m (fun k => k = g7 ∨ k = g8) W W := But.refl _ _ _
  gi_upto_region 11 with fail
  refine lr_plain [] (by kernel_rfl) (by rintro ⟨_, _, h9, _⟩; cases h9) (lasts_nil) ?_;simp only [iX, Nat.reduceAdd];refine jf (.slice A6 n c6) hD7 0 load_wds ?_;refine jv (.int .i64 (n : Int)) (exec_lenv Tryd.underlying56 _ (by rfl) A6 n c6 (by rfl) _ rfl) ?_;refine jm (.int .i64 (n : Int)) ?_;refine jzb hb fun X1 hX1 hb => ?_;replace hOW := own_since hOW hX1;replace hbut := hbut.trans (But.of_since hX1 hmw);replace hmw := Nat.le_trans hmw hX1.size;replace hD7 := hD7.bel hX1;replace hD8 := hD8.bel hX1;replace hB0 := hB0.bel hX1;clear hX1;refine wpList_nil ?_
  by_cases h0 : x = 0
  ·have HA : Hid ((aR l f u (k + 1)).1 = P) := by
    show _ = _
    rw [HNX.out]
    unfold arS
    exact if_pos h0
   rw [← HN.out] at hD7 hOW
   gi_upto_region 13 with fail
   refine lr_plain [] (by kernel_rfl) (by rintro ⟨_, _, h9, _⟩; cases h9) (lasts_nil) ?_;simp only [iX, Nat.reduceAdd];refine jm (.int .i64 x) ?_;refine jv (.bool true) (exec_eqi _ _ _ _ (by rfl) .i64 x 0 (by rfl) (by rfl) true (decide_eq_true (by omega))) ?_;refine jm (.bool true) ?_;refine jzb hb fun X2 hX2 hb => ?_;replace hOW := own_since hOW hX2;replace hbut := hbut.trans (But.of_since hX2 hmw);replace hmw := Nat.le_trans hmw hX2.size;replace hD7 := hD7.bel hX2;replace hD8 := hD8.bel hX2;replace hB0 := hB0.bel hX2;clear hX2;refine wpList_nil ?_
   gi_upto_region 16 with fail
   refine lr_plain_to 1 [] (by kernel_rfl) (by rintro ⟨_, _, h9, _⟩; cases h9) (lasts_nil) ?_;simp only [its, List.take, List.drop, Nat.zero_add, Nat.reduceAdd];refine jm (.int .i64 x) ?_;refine jzb hb fun X3 hX3 hb => ?_;replace hOW := own_since hOW hX3;replace hbut := hbut.trans (But.of_since hX3 hmw);replace hmw := Nat.le_trans hmw hX3.size;replace hD7 := hD7.bel hX3;replace hD8 := hD8.bel hX3;replace hB0 := hB0.bel hX3;clear hX3;refine op_store1g rfl g8 0 3 _ hD8 (.int .i64 x) (by simp) (fun X u h1 h2 => exec_sti _ _ (by rfl) _ _ (by rfl) (by rfl) u X h1 h2) ?_;intro w9 hR9 hG9;have hb := bel_grown hG9 hb hb.size (by omega);have hB0 := blk_grown hG9 hB0 (by omega);have hD7 := blk_grown hG9 hD7 (by omega);have hOW := own_grown hOW hG9 (fun g h h9 => by have h8 := own_base hOW _ h9; injection h with h; omega);replace hbut := hbut.trans (But.of_grown hG9 hmw (fun k h => .inr (.inr (by injection h with h; exact h.symm))));refine wpList_nil ?_
   gi_wp2
   exact ⟨trivial, hbut, ⟨⟨A6, c6, by rw [HA.out]; exact hD7, by rw [HA.out, ← HT.out]; exact hOW⟩, by rw [HNX.out]; exact hR9, hB0, hb⟩⟩
  ·rcases Nat.eq_zero_or_pos n with hn0 | hn0
   ·have HJ : Hid (¬ arJ P la tick x) := fun h9 => by
     obtain ⟨h1, h2, h3⟩ := h9;rw [HN.out] at h1
     omega
    gi_upto_region 13 with fail
    refine lr_plain [] (by kernel_rfl) (by rintro ⟨_, _, h9, _⟩; cases h9) (lasts_nil) ?_;simp only [iX, Nat.reduceAdd];refine jm (.int .i64 x) ?_;refine jv (.bool false) (exec_eqi _ _ _ _ (by rfl) .i64 x 0 (by rfl) (by rfl) false (decide_eq_false (by omega))) ?_;refine jm (.bool false) ?_;refine jzb hb fun X2 hX2 hb => ?_;replace hOW := own_since hOW hX2;replace hbut := hbut.trans (But.of_since hX2 hmw);replace hmw := Nat.le_trans hmw hX2.size;replace hD7 := hD7.bel hX2;replace hD8 := hD8.bel hX2;replace hB0 := hB0.bel hX2;clear hX2;refine wpList_nil ?_
    gi_upto_region 14 with fail
    refine lr_plain [] (by kernel_rfl) (by rintro ⟨_, _, h9, _⟩; cases h9) (lasts_nil) ?_;simp only [iX, Nat.reduceAdd];refine jm (.int .i64 (n : Int)) ?_;refine jv (.bool false) (exec_gtr _ _ _ _ (by rfl) .i64 (n : Int) 0 (by rfl) (by rfl) false (decide_eq_false (by omega))) ?_;refine jm (.bool false) ?_;refine js ?_;refine js ?_;refine js ?_;refine js ?_;refine js ?_;refine js ?_;refine js ?_;refine js ?_;refine jm (.bool false) ?_;refine jm (.bool false) ?_;refine js ?_;refine js ?_;refine js ?_;refine jm (.bool false) ?_;refine jm (.bool false) ?_;refine jzb hb fun X3 hX3 hb => ?_;replace hOW := own_since hOW hX3;replace hbut := hbut.trans (But.of_since hX3 hmw);replace hmw := Nat.le_trans hmw hX3.size;replace hD7 := hD7.bel hX3;replace hD8 := hD8.bel hX3;replace hB0 := hB0.bel hX3;clear hX3;refine wpList_nil ?_
    have HA : Hid ((aR l f u (k + 1)).1 = P ++ [(tick, tick + 1, x)]) := by
     show _ = _
     rw [HNX.out]
     unfold arS
     rw [if_neg h0, if_neg HJ.out]
    have HNA : Hid ((P ++ [(tick, tick + 1, x)]).length = n + 1) := by
     show _ = _
     rw [List.length_append, HN.out]
     rfl
    have HFA : Hid (fl (wdc t) (P ++ [(tick, tick + 1, x)]) = fl (wdc t) P ++ wdc t (tick, tick + 1, x)) := fl_snoc _ _;have hmg : g7 < m ∧ g8 < m ∧ w.heap.size < m := ⟨by omega, by omega, by omega⟩
    gi_upto_region 12 with fail
    have hbA : m ≤ X3.heap.size := by omega
    have hn_hD7 : (Value.ownBlock (.slice A6 n c6)) ≠ some g7 := fun h9 => by have h8 := own_base hOW _ h9; omega
    have hn_hD8 : (Value.ownBlock (.slice A6 n c6)) ≠ some g8 := fun h9 => by have h8 := own_base hOW _ h9; omega
    have hn_hB0 : (Value.ownBlock (.slice A6 n c6)) ≠ some w.heap.size := fun h9 => by have h8 := own_base hOW _ h9; omega
    refine lar_tail (⟨m, 60, 5, .slice A6 n c6, n, (fl (wdc t) P), [.int .i64 (tick : Int), .int .i64 ((tick + 1 : Nat) : Int), .bool (rN (rk x t)), .string ⟨(rP (rk x t)).toArray⟩, .string ⟨(rD (rk x t)).toArray⟩]⟩ : Ar) 10 [none, none, none, none, none, none, none, none, none, some (Anew (⟨m, 60, 5, .slice A6 n c6, n, (fl (wdc t) P), [.int .i64 (tick : Int), .int .i64 ((tick + 1 : Nat) : Int), .bool (rN (rk x t)), .string ⟨(rP (rk x t)).toArray⟩, .string ⟨(rD (rk x t)).toArray⟩]⟩ : Ar) 60), some (Aout (⟨m, 60, 5, .slice A6 n c6, n, (fl (wdc t) P), [.int .i64 (tick : Int), .int .i64 ((tick + 1 : Nat) : Int), .bool (rN (rk x t)), .string ⟨(rP (rk x t)).toArray⟩, .string ⟨(rD (rk x t)).toArray⟩]⟩ : Ar))] (by kernel_rfl) (by kernel_rfl) (by kernel_rfl) (by kernel_rfl) (by rintro ⟨_, _, h9, _⟩; cases h9) rfl (la_none (la_none (la_none (la_none (la_none (la_none (la_none (la_none (la_none (la_some (fun v X Y h hR => Anew.lasts v X Y h hR) (la_some (fun v X Y h hR => Aout.lasts v X Y h hR) (la_nil)))))))))))) ?_;simp only [iB, List.dropLast, Nat.reduceAdd];refine ag hOW hbA (.slice A6 n c6) (fun X σ hX hF => exec_ld 56 _ (by rfl) g7 0 (by rfl) _ X ((hX.blk hD7 hn_hD7).cell (j := 0) rfl) (fun X u h => load_wds g7 0 X u h)) ?_;refine am (.int .i64 (tick : Int)) ?_;refine am (.int .i64 (tick : Int)) ?_;refine ag hOW hbA (.int .i64 ((tick + 1 : Nat) : Int)) (fun X σ hX hF => exec_add _ _ _ _ (by rfl) (tick : Int) 1 ((tick + 1 : Nat) : Int) (by rfl) (by rfl) (by omega) (by omega) (by omega) X) ?_
    refine am (.int .i64 x) ?_;refine ag hOW hbA (.agg #[v]) (fun X σ hX hF => exec_lda 24 _ (by rfl) w.heap.size (by rfl) Tryd.underlying24 rfl X (hX.blk hB0 hn_hB0) info_kn) ?_;refine ac hOW hbA (f := 27) (args := [.agg #[v]]) (.int .i64 t) (fun X σ hX hF => (totK _ l X (HV.out X (hb.trans (hX.below.mono (show w.heap.size ≤ m by omega)))) HK.out).mono fun e X' ⟨h1, h2⟩ => ⟨by rw [h1, HT.out], h2⟩) ?_;refine ac hOW hbA (f := 33) (args := [.int .i64 x, .int .i64 t]) (.agg #[.bool (rN (rk x t)), .string ⟨(rP (rk x t)).toArray⟩, .string ⟨(rD (rk x t)).toArray⟩]) (fun X σ hX hF => partC x t X hxi hti ht0) ?_;refine an (.agg #[.int .i64 (tick : Int), .int .i64 ((tick + 1 : Nat) : Int), .bool (rN (rk x t)), .string ⟨(rP (rk x t)).toArray⟩, .string ⟨(rD (rk x t)).toArray⟩]) ?_;refine ab hOW 60 (fun X => by unfold execOp; go_simp) ?_;intro v48;refine aa hOW hbA 60 9 v48 List.mem_cons_self Tryd.underlying56 info_wdz rfl (show 0 < 5 by decide) (by rfl) (by intro u hu; simp only [List.mem_cons, List.not_mem_nil, or_false] at hu; rcases hu with rfl | rfl | rfl | rfl | rfl <;> rfl) (show n + 1 ≤ maxLen by unfold maxLen; omega) (show (n + 1) * 56 ≤ 140737488355328 by omega) ?_;intro v49;refine az hOW hbA ?_;intro X4 σ hX hF;have hO49 : X4.ownsRow m 60 5 v49 (n + 1) ((fl (wdc t) P) ++ [.int .i64 (tick : Int), .int .i64 ((tick + 1 : Nat) : Int), .bool (rN (rk x t)), .string ⟨(rP (rk x t)).toArray⟩, .string ⟨(rD (rk x t)).toArray⟩]) := (hF _ _ List.mem_cons_self).2;have hD7 := hX.blk hD7 hn_hD7
    have hD8 := hX.blk hD8 hn_hD8;have hB0 := hX.blk hB0 hn_hB0;have hb := hb.trans (hX.below.mono (show w.heap.size ≤ m by omega));clear hF hn_hD7 hn_hD8 hn_hB0;replace hbut := hbut.trans (But.of_grown hX.grown hmw (fun k h => .inl (own_base hOW k h).1));replace hmw := Nat.le_trans hmw hX.grown.size;obtain ⟨A7, c7, rfl, _, _⟩ := (Rd.of_own hO49).form;clear hOW hX;refine op_store1g rfl g7 0 56 _ hD7 (.slice A7 (n + 1) c7) (by simp) (fun X u h1 h2 => exec_stw _ _ (by rfl) _ _ (by rfl) (by rfl) u X h1 h2) ?_;intro w8 hR8 hG8;have hb := bel_grown hG8 hb hb.size (by omega);have hB0 := blk_grown hG8 hB0 (by omega);have hD8 := blk_grown hG8 hD8 (by omega);have hOW := own_grown hO49 hG8 (fun g h h9 => by have h8 := own_base hO49 _ h9; injection h with h; omega);replace hbut := hbut.trans (But.of_grown hG8 hmw (fun k h => .inr (.inl (by injection h with h; exact h.symm))));replace hmw := Nat.le_trans hmw hG8.size
    have hD7 : Blk w8 g7 56 [.slice A7 (P ++ [(tick, tick + 1, x)]).length c7] := by rw [HNA.out]; exact hR8
    have hOW : w8.ownsRow m 60 5 (.slice A7 (P ++ [(tick, tick + 1, x)]).length c7) (P ++ [(tick, tick + 1, x)]).length (fl (wdc t) (P ++ [(tick, tick + 1, x)])) := by
     rw [HNA.out, HFA.out]; exact hOW
    clear hO49 hR8 hG8;refine wpList_nil ?_
    gi_upto_region 16 with fail
    refine lr_plain_to 1 [] (by kernel_rfl) (by rintro ⟨_, _, h9, _⟩; cases h9) (lasts_nil) ?_;simp only [its, List.take, List.drop, Nat.zero_add, Nat.reduceAdd];refine jm (.int .i64 x) ?_;refine jzb hb fun X5 hX5 hb => ?_;replace hOW := own_since hOW hX5;replace hbut := hbut.trans (But.of_since hX5 hmw);replace hmw := Nat.le_trans hmw hX5.size;replace hD7 := hD7.bel hX5;replace hD8 := hD8.bel hX5;replace hB0 := hB0.bel hX5;clear hX5;refine op_store1g rfl g8 0 3 _ hD8 (.int .i64 x) (by simp) (fun X u h1 h2 => exec_sti _ _ (by rfl) _ _ (by rfl) (by rfl) u X h1 h2) ?_;intro w9 hR9 hG9;have hb := bel_grown hG9 hb hb.size (by omega);have hB0 := blk_grown hG9 hB0 (by omega);have hD7 := blk_grown hG9 hD7 (by omega);have hOW := own_grown hOW hG9 (fun g h h9 => by have h8 := own_base hOW _ h9; injection h with h; omega);replace hbut := hbut.trans (But.of_grown hG9 hmw (fun k h => .inr (.inr (by injection h with h; exact h.symm))));refine wpList_nil ?_
    gi_wp2
    exact ⟨trivial, hbut, ⟨⟨A7, c7, by rw [HA.out]; exact hD7, by rw [HA.out, ← HT.out]; exact hOW⟩, by rw [HNX.out]; exact hR9, hB0, hb⟩⟩
   ·obtain ⟨go, rfl⟩ := own_some hOW hn0
    obtain ⟨p, hp⟩ : ∃ p, n = p + 1 := ⟨n - 1, by omega⟩;obtain ⟨y, y9⟩ : ∃ y, y = pw P p := ⟨_, rfl⟩;have HY := Lib.hid y9
    have HPP : Hid (P.length - 1 = p) := by
     show _ = _
     rw [HN.out]; omega
    obtain ⟨hce, hge, hgm, hnc⟩ := own_cl hOW;have hel := fl_elt (g := wdc t) (m := 5) (l := P) (fun x _ => wdc_len t x) (List.drop_eq_getElem_cons (show p < P.length by rw [HN.out]; omega));rw [← pw_in (by rw [HN.out]; omega), ← y9] at hel;have hce := Cl.part hce (p * 5) (wdc t y) (by rw [wdc_len]; exact hel);clear hel y9;have hce : Cl _ go (0 + p * 5) [.int .i64 (y.1 : Int), .int .i64 (y.2.1 : Int), .bool (rN (rk y.2.2 t)), .string ⟨(rP (rk y.2.2 t)).toArray⟩, .string ⟨(rD (rk y.2.2 t)).toArray⟩] := hce
    gi_upto_region 13 with fail
    refine lr_plain [] (by kernel_rfl) (by rintro ⟨_, _, h9, _⟩; cases h9) (lasts_nil) ?_;simp only [iX, Nat.reduceAdd];refine jm (.int .i64 x) ?_;refine jv (.bool false) (exec_eqi _ _ _ _ (by rfl) .i64 x 0 (by rfl) (by rfl) false (decide_eq_false (by omega))) ?_;refine jm (.bool false) ?_;refine jzb hb fun X2 hX2 hb => ?_;replace hOW := own_since hOW hX2;replace hbut := hbut.trans (But.of_since hX2 hmw);replace hmw := Nat.le_trans hmw hX2.size;replace hD7 := hD7.bel hX2;replace hD8 := hD8.bel hX2;replace hB0 := hB0.bel hX2;have hce := hce.below hX2 hge;replace hge := Nat.lt_of_lt_of_le hge (hX2).size;clear hX2;refine wpList_nil ?_
    by_cases hyt : y.2.1 = tick
    ·by_cases hlx : la = x
     ·have HA : Hid ((aR l f u (k + 1)).1 = P.set p (y.1, tick + 1, y.2.2)) := by
       show _ = _
       rw [HNX.out]
       unfold arS
       rw [if_neg h0, if_pos ⟨by rw [HN.out]; exact hn0, by rw [HPP.out, ← HY.out]; exact hyt, hlx⟩, HPP.out, ← HY.out]
      have HNA : Hid ((P.set p (y.1, tick + 1, y.2.2)).length = n) := by
       show _ = _
       rw [List.length_set]; exact HN.out
      have HFA : Hid ((fl (wdc t) P).set (p * 5 + 1) (.int .i64 ((tick + 1 : Nat) : Int)) = fl (wdc t) (P.set p (y.1, tick + 1, y.2.2))) := fl_set1 (wdc_len t) (by rw [HN.out]; omega) 1 (by decide) _ _ (by
       rw [← pw_in (by rw [HN.out]; omega), ← HY.out]
       rfl)
      gi_upto_region 14 with fail
      refine lr_plain [] (by kernel_rfl) (by rintro ⟨_, _, h9, _⟩; cases h9) (lasts_nil) ?_;simp only [iX, Nat.reduceAdd];refine jm (.int .i64 (n : Int)) ?_;refine jv (.bool true) (exec_gtr _ _ _ _ (by rfl) .i64 (n : Int) 0 (by rfl) (by rfl) true (decide_eq_true (by omega))) ?_;refine jm (.bool true) ?_;refine jf (.slice (some ⟨go, 0, none⟩) n c6) hD7 0 load_wds ?_;refine jm (.int .i64 (n : Int)) ?_;refine jv (.int .i64 (p : Int)) (exec_sub _ _ _ _ (by rfl) (n : Int) 1 (p : Int) (by rfl) (by rfl) (by omega) (by omega) (by omega)) ?_;refine jv (.pointer (some ⟨go, 0 + p * 5, none⟩)) (exec_ixv Tryd.underlying56 info_wd _ _ (by rfl) go (0) n c6 p (by omega) (by rfl) (by rfl) rfl) ?_;refine jn (.pointer (some ⟨go, 0 + p * 5 + 1, none⟩)) ?_;refine jg (.int .i64 (y.2.1 : Int)) (fun X hX hF => exec_ld 3 _ (by rfl) go (0 + p * 5 + 1) (by rfl) _ X ((hce.below hX hge) 1 _ rfl) (fun X u h => load_int go (0 + p * 5 + 1) X u h)) ?_;refine jm (.int .i64 (tick : Int)) ?_;refine jv (.bool true) (exec_eqi _ _ _ _ (by rfl) .i64 (y.2.1 : Int) (tick : Int) (by rfl) (by rfl) true (decide_eq_true (by omega))) ?_;refine jm (.bool true) ?_;refine jm (.bool true) ?_;refine jf (.int .i64 la) hD8 0 load_int ?_;refine jm (.int .i64 x) ?_;refine jv (.bool true) (exec_eqi _ _ _ _ (by rfl) .i64 la x (by rfl) (by rfl) true (decide_eq_true (by omega))) ?_;refine jm (.bool true) ?_;refine jm (.bool true) ?_;refine jzb hb fun X3 hX3 hb => ?_;replace hOW := own_since hOW hX3;replace hbut := hbut.trans (But.of_since hX3 hmw)
      replace hmw := Nat.le_trans hmw hX3.size;replace hD7 := hD7.bel hX3;replace hD8 := hD8.bel hX3;replace hB0 := hB0.bel hX3;have hce := hce.below hX3 hge;replace hge := Nat.lt_of_lt_of_le hge (hX3).size;clear hX3;refine wpList_nil ?_
      gi_upto_region 15 with fail
      refine lr_plain_to 7 [] (by kernel_rfl) (by rintro ⟨_, _, h9, _⟩; cases h9) (lasts_nil) ?_;simp only [its, List.take, List.drop, Nat.zero_add, Nat.reduceAdd];refine jf (.slice (some ⟨go, 0, none⟩) n c6) hD7 0 load_wds ?_;refine jm (.int .i64 (n : Int)) ?_;refine jv (.int .i64 (p : Int)) (exec_sub _ _ _ _ (by rfl) (n : Int) 1 (p : Int) (by rfl) (by rfl) (by omega) (by omega) (by omega)) ?_;refine jm (.int .i64 (tick : Int)) ?_;refine jv (.int .i64 ((tick + 1 : Nat) : Int)) (exec_add _ _ _ _ (by rfl) (tick : Int) 1 ((tick + 1 : Nat) : Int) (by rfl) (by rfl) (by omega) (by omega) (by omega)) ?_;refine jv (.pointer (some ⟨go, 0 + p * 5, none⟩)) (exec_ixv Tryd.underlying56 info_wd _ _ (by rfl) go (0) n c6 p (by omega) (by rfl) (by rfl) rfl) ?_;refine jn (.pointer (some ⟨go, 0 + p * 5 + 1, none⟩)) ?_;refine jzb hb fun X4 hX4 hb => ?_;replace hOW := own_since hOW hX4;replace hbut := hbut.trans (But.of_since hX4 hmw);replace hmw := Nat.le_trans hmw hX4.size;replace hD7 := hD7.bel hX4;replace hD8 := hD8.bel hX4;replace hB0 := hB0.bel hX4;have hce := hce.below hX4 hge;replace hge := Nat.lt_of_lt_of_le hge (hX4).size;clear hX4;refine op_store_own rfl 3 (.tmp 77) (.tmp 75) rfl hOW (0 + p * 5 + 1) rfl (.int .i64 ((tick + 1 : Nat) : Int)) (by rw [wds_len, HN.out]; omega) (fun X u h1 h2 => exec_sti _ _ (by rfl) _ _ (by rfl) (by rfl) u X h1 h2) ?_;intro w8 hO8 hG8;have hb := bel_grown hG8 hb hb.size (by omega);have hB0 := blk_grown hG8 hB0 (by omega);have hD8 := blk_grown hG8 hD8 (by omega)
      have hD7 := blk_grown hG8 hD7 (by omega);replace hbut := hbut.trans (But.of_grown hG8 hmw (fun k h => .inl (by injection h with h; omega)));replace hmw := Nat.le_trans hmw hG8.size;rw [Nat.zero_add, HFA.out] at hO8
      have hD7 : Blk w8 g7 56 [.slice (some ⟨go, 0, none⟩) (P.set p (y.1, tick + 1, y.2.2)).length c6] := by rw [HNA.out]; exact hD7
      have hOW : w8.ownsRow m 60 5 (.slice (some ⟨go, 0, none⟩) (P.set p (y.1, tick + 1, y.2.2)).length c6) (P.set p (y.1, tick + 1, y.2.2)).length (fl (wdc t) (P.set p (y.1, tick + 1, y.2.2))) := by
       rw [HNA.out]; exact hO8
      clear hO8 hG8;refine wpList_nil ?_
      gi_upto_region 16 with fail
      refine lr_plain_to 1 [] (by kernel_rfl) (by rintro ⟨_, _, h9, _⟩; cases h9) (lasts_nil) ?_;simp only [its, List.take, List.drop, Nat.zero_add, Nat.reduceAdd];refine jm (.int .i64 x) ?_;refine jzb hb fun X5 hX5 hb => ?_;replace hOW := own_since hOW hX5;replace hbut := hbut.trans (But.of_since hX5 hmw);replace hmw := Nat.le_trans hmw hX5.size;replace hD7 := hD7.bel hX5;replace hD8 := hD8.bel hX5;replace hB0 := hB0.bel hX5;clear hX5;refine op_store1g rfl g8 0 3 _ hD8 (.int .i64 x) (by simp) (fun X u h1 h2 => exec_sti _ _ (by rfl) _ _ (by rfl) (by rfl) u X h1 h2) ?_;intro w9 hR9 hG9;have hb := bel_grown hG9 hb hb.size (by omega);have hB0 := blk_grown hG9 hB0 (by omega);have hD7 := blk_grown hG9 hD7 (by omega);have hOW := own_grown hOW hG9 (fun g h h9 => by have h8 := own_base hOW _ h9; injection h with h; omega);replace hbut := hbut.trans (But.of_grown hG9 hmw (fun k h => .inr (.inr (by injection h with h; exact h.symm))));refine wpList_nil ?_
      gi_wp2
      exact ⟨trivial, hbut, ⟨⟨some ⟨go, 0, none⟩, c6, by rw [HA.out]; exact hD7, by rw [HA.out, ← HT.out]; exact hOW⟩, by rw [HNX.out]; exact hR9, hB0, hb⟩⟩
     ·have HJ : Hid (¬ arJ P la tick x) := fun h9 => by
       obtain ⟨h1, h2, h3⟩ := h9;exact hlx h3
      gi_upto_region 14 with fail
      refine lr_plain [] (by kernel_rfl) (by rintro ⟨_, _, h9, _⟩; cases h9) (lasts_nil) ?_;simp only [iX, Nat.reduceAdd];refine jm (.int .i64 (n : Int)) ?_;refine jv (.bool true) (exec_gtr _ _ _ _ (by rfl) .i64 (n : Int) 0 (by rfl) (by rfl) true (decide_eq_true (by omega))) ?_;refine jm (.bool true) ?_;refine jf (.slice (some ⟨go, 0, none⟩) n c6) hD7 0 load_wds ?_;refine jm (.int .i64 (n : Int)) ?_;refine jv (.int .i64 (p : Int)) (exec_sub _ _ _ _ (by rfl) (n : Int) 1 (p : Int) (by rfl) (by rfl) (by omega) (by omega) (by omega)) ?_;refine jv (.pointer (some ⟨go, 0 + p * 5, none⟩)) (exec_ixv Tryd.underlying56 info_wd _ _ (by rfl) go (0) n c6 p (by omega) (by rfl) (by rfl) rfl) ?_;refine jn (.pointer (some ⟨go, 0 + p * 5 + 1, none⟩)) ?_;refine jg (.int .i64 (y.2.1 : Int)) (fun X hX hF => exec_ld 3 _ (by rfl) go (0 + p * 5 + 1) (by rfl) _ X ((hce.below hX hge) 1 _ rfl) (fun X u h => load_int go (0 + p * 5 + 1) X u h)) ?_;refine jm (.int .i64 (tick : Int)) ?_;refine jv (.bool true) (exec_eqi _ _ _ _ (by rfl) .i64 (y.2.1 : Int) (tick : Int) (by rfl) (by rfl) true (decide_eq_true (by omega))) ?_;refine jm (.bool true) ?_;refine jm (.bool true) ?_;refine jf (.int .i64 la) hD8 0 load_int ?_;refine jm (.int .i64 x) ?_;refine jv (.bool false) (exec_eqi _ _ _ _ (by rfl) .i64 la x (by rfl) (by rfl) false (decide_eq_false (by omega))) ?_;refine jm (.bool false) ?_;refine jm (.bool false) ?_;refine jzb hb fun X3 hX3 hb => ?_;replace hOW := own_since hOW hX3;replace hbut := hbut.trans (But.of_since hX3 hmw)
      replace hmw := Nat.le_trans hmw hX3.size;replace hD7 := hD7.bel hX3;replace hD8 := hD8.bel hX3;replace hB0 := hB0.bel hX3;have hce := hce.below hX3 hge;replace hge := Nat.lt_of_lt_of_le hge (hX3).size;clear hX3;refine wpList_nil ?_
      have HA : Hid ((aR l f u (k + 1)).1 = P ++ [(tick, tick + 1, x)]) := by
       show _ = _
       rw [HNX.out]
       unfold arS
       rw [if_neg h0, if_neg HJ.out]
      have HNA : Hid ((P ++ [(tick, tick + 1, x)]).length = n + 1) := by
       show _ = _
       rw [List.length_append, HN.out]
       rfl
      have HFA : Hid (fl (wdc t) (P ++ [(tick, tick + 1, x)]) = fl (wdc t) P ++ wdc t (tick, tick + 1, x)) := fl_snoc _ _;have hmg : g7 < m ∧ g8 < m ∧ w.heap.size < m := ⟨by omega, by omega, by omega⟩
      gi_upto_region 12 with fail
      have hbA : m ≤ X3.heap.size := by omega
      have hn_hD7 : (Value.ownBlock (.slice (some ⟨go, 0, none⟩) n c6)) ≠ some g7 := fun h9 => by have h8 := own_base hOW _ h9; omega
      have hn_hD8 : (Value.ownBlock (.slice (some ⟨go, 0, none⟩) n c6)) ≠ some g8 := fun h9 => by have h8 := own_base hOW _ h9; omega
      have hn_hB0 : (Value.ownBlock (.slice (some ⟨go, 0, none⟩) n c6)) ≠ some w.heap.size := fun h9 => by have h8 := own_base hOW _ h9; omega
      refine lar_tail (⟨m, 60, 5, .slice (some ⟨go, 0, none⟩) n c6, n, (fl (wdc t) P), [.int .i64 (tick : Int), .int .i64 ((tick + 1 : Nat) : Int), .bool (rN (rk x t)), .string ⟨(rP (rk x t)).toArray⟩, .string ⟨(rD (rk x t)).toArray⟩]⟩ : Ar) 10 [none, none, none, none, none, none, none, none, none, some (Anew (⟨m, 60, 5, .slice (some ⟨go, 0, none⟩) n c6, n, (fl (wdc t) P), [.int .i64 (tick : Int), .int .i64 ((tick + 1 : Nat) : Int), .bool (rN (rk x t)), .string ⟨(rP (rk x t)).toArray⟩, .string ⟨(rD (rk x t)).toArray⟩]⟩ : Ar) 60), some (Aout (⟨m, 60, 5, .slice (some ⟨go, 0, none⟩) n c6, n, (fl (wdc t) P), [.int .i64 (tick : Int), .int .i64 ((tick + 1 : Nat) : Int), .bool (rN (rk x t)), .string ⟨(rP (rk x t)).toArray⟩, .string ⟨(rD (rk x t)).toArray⟩]⟩ : Ar))] (by kernel_rfl) (by kernel_rfl) (by kernel_rfl) (by kernel_rfl) (by rintro ⟨_, _, h9, _⟩; cases h9) rfl (la_none (la_none (la_none (la_none (la_none (la_none (la_none (la_none (la_none (la_some (fun v X Y h hR => Anew.lasts v X Y h hR) (la_some (fun v X Y h hR => Aout.lasts v X Y h hR) (la_nil)))))))))))) ?_;simp only [iB, List.dropLast, Nat.reduceAdd];refine ag hOW hbA (.slice (some ⟨go, 0, none⟩) n c6) (fun X σ hX hF => exec_ld 56 _ (by rfl) g7 0 (by rfl) _ X ((hX.blk hD7 hn_hD7).cell (j := 0) rfl) (fun X u h => load_wds g7 0 X u h)) ?_;refine am (.int .i64 (tick : Int)) ?_;refine am (.int .i64 (tick : Int)) ?_;refine ag hOW hbA (.int .i64 ((tick + 1 : Nat) : Int)) (fun X σ hX hF => exec_add _ _ _ _ (by rfl) (tick : Int) 1 ((tick + 1 : Nat) : Int) (by rfl) (by rfl) (by omega) (by omega) (by omega) X) ?_
      refine am (.int .i64 x) ?_;refine ag hOW hbA (.agg #[v]) (fun X σ hX hF => exec_lda 24 _ (by rfl) w.heap.size (by rfl) Tryd.underlying24 rfl X (hX.blk hB0 hn_hB0) info_kn) ?_;refine ac hOW hbA (f := 27) (args := [.agg #[v]]) (.int .i64 t) (fun X σ hX hF => (totK _ l X (HV.out X (hb.trans (hX.below.mono (show w.heap.size ≤ m by omega)))) HK.out).mono fun e X' ⟨h1, h2⟩ => ⟨by rw [h1, HT.out], h2⟩) ?_;refine ac hOW hbA (f := 33) (args := [.int .i64 x, .int .i64 t]) (.agg #[.bool (rN (rk x t)), .string ⟨(rP (rk x t)).toArray⟩, .string ⟨(rD (rk x t)).toArray⟩]) (fun X σ hX hF => partC x t X hxi hti ht0) ?_;refine an (.agg #[.int .i64 (tick : Int), .int .i64 ((tick + 1 : Nat) : Int), .bool (rN (rk x t)), .string ⟨(rP (rk x t)).toArray⟩, .string ⟨(rD (rk x t)).toArray⟩]) ?_;refine ab hOW 60 (fun X => by unfold execOp; go_simp) ?_;intro v48;refine aa hOW hbA 60 9 v48 List.mem_cons_self Tryd.underlying56 info_wdz rfl (show 0 < 5 by decide) (by rfl) (by intro u hu; simp only [List.mem_cons, List.not_mem_nil, or_false] at hu; rcases hu with rfl | rfl | rfl | rfl | rfl <;> rfl) (show n + 1 ≤ maxLen by unfold maxLen; omega) (show (n + 1) * 56 ≤ 140737488355328 by omega) ?_;intro v49;refine az hOW hbA ?_;intro X4 σ hX hF;have hO49 : X4.ownsRow m 60 5 v49 (n + 1) ((fl (wdc t) P) ++ [.int .i64 (tick : Int), .int .i64 ((tick + 1 : Nat) : Int), .bool (rN (rk x t)), .string ⟨(rP (rk x t)).toArray⟩, .string ⟨(rD (rk x t)).toArray⟩]) := (hF _ _ List.mem_cons_self).2;have hD7 := hX.blk hD7 hn_hD7
      have hD8 := hX.blk hD8 hn_hD8;have hB0 := hX.blk hB0 hn_hB0;have hb := hb.trans (hX.below.mono (show w.heap.size ≤ m by omega));clear hF hn_hD7 hn_hD8 hn_hB0;replace hbut := hbut.trans (But.of_grown hX.grown hmw (fun k h => .inl (own_base hOW k h).1));replace hmw := Nat.le_trans hmw hX.grown.size;obtain ⟨A7, c7, rfl, _, _⟩ := (Rd.of_own hO49).form;clear hOW hX;refine op_store1g rfl g7 0 56 _ hD7 (.slice A7 (n + 1) c7) (by simp) (fun X u h1 h2 => exec_stw _ _ (by rfl) _ _ (by rfl) (by rfl) u X h1 h2) ?_;intro w8 hR8 hG8;have hb := bel_grown hG8 hb hb.size (by omega);have hB0 := blk_grown hG8 hB0 (by omega);have hD8 := blk_grown hG8 hD8 (by omega);have hOW := own_grown hO49 hG8 (fun g h h9 => by have h8 := own_base hO49 _ h9; injection h with h; omega);replace hbut := hbut.trans (But.of_grown hG8 hmw (fun k h => .inr (.inl (by injection h with h; exact h.symm))));replace hmw := Nat.le_trans hmw hG8.size
      have hD7 : Blk w8 g7 56 [.slice A7 (P ++ [(tick, tick + 1, x)]).length c7] := by rw [HNA.out]; exact hR8
      have hOW : w8.ownsRow m 60 5 (.slice A7 (P ++ [(tick, tick + 1, x)]).length c7) (P ++ [(tick, tick + 1, x)]).length (fl (wdc t) (P ++ [(tick, tick + 1, x)])) := by
       rw [HNA.out, HFA.out]; exact hOW
      clear hO49 hR8 hG8;refine wpList_nil ?_
      gi_upto_region 16 with fail
      refine lr_plain_to 1 [] (by kernel_rfl) (by rintro ⟨_, _, h9, _⟩; cases h9) (lasts_nil) ?_;simp only [its, List.take, List.drop, Nat.zero_add, Nat.reduceAdd];refine jm (.int .i64 x) ?_;refine jzb hb fun X5 hX5 hb => ?_;replace hOW := own_since hOW hX5;replace hbut := hbut.trans (But.of_since hX5 hmw);replace hmw := Nat.le_trans hmw hX5.size;replace hD7 := hD7.bel hX5;replace hD8 := hD8.bel hX5;replace hB0 := hB0.bel hX5;clear hX5;refine op_store1g rfl g8 0 3 _ hD8 (.int .i64 x) (by simp) (fun X u h1 h2 => exec_sti _ _ (by rfl) _ _ (by rfl) (by rfl) u X h1 h2) ?_;intro w9 hR9 hG9;have hb := bel_grown hG9 hb hb.size (by omega);have hB0 := blk_grown hG9 hB0 (by omega);have hD7 := blk_grown hG9 hD7 (by omega);have hOW := own_grown hOW hG9 (fun g h h9 => by have h8 := own_base hOW _ h9; injection h with h; omega);replace hbut := hbut.trans (But.of_grown hG9 hmw (fun k h => .inr (.inr (by injection h with h; exact h.symm))));refine wpList_nil ?_
      gi_wp2
      exact ⟨trivial, hbut, ⟨⟨A7, c7, by rw [HA.out]; exact hD7, by rw [HA.out, ← HT.out]; exact hOW⟩, by rw [HNX.out]; exact hR9, hB0, hb⟩⟩
    ·have HJ : Hid (¬ arJ P la tick x) := fun h9 => by
      obtain ⟨h1, h2, h3⟩ := h9;rw [HPP.out, ← HY.out] at h2;exact hyt h2
     gi_upto_region 14 with fail
     refine lr_plain [] (by kernel_rfl) (by rintro ⟨_, _, h9, _⟩; cases h9) (lasts_nil) ?_;simp only [iX, Nat.reduceAdd];refine jm (.int .i64 (n : Int)) ?_;refine jv (.bool true) (exec_gtr _ _ _ _ (by rfl) .i64 (n : Int) 0 (by rfl) (by rfl) true (decide_eq_true (by omega))) ?_;refine jm (.bool true) ?_;refine jf (.slice (some ⟨go, 0, none⟩) n c6) hD7 0 load_wds ?_;refine jm (.int .i64 (n : Int)) ?_;refine jv (.int .i64 (p : Int)) (exec_sub _ _ _ _ (by rfl) (n : Int) 1 (p : Int) (by rfl) (by rfl) (by omega) (by omega) (by omega)) ?_;refine jv (.pointer (some ⟨go, 0 + p * 5, none⟩)) (exec_ixv Tryd.underlying56 info_wd _ _ (by rfl) go (0) n c6 p (by omega) (by rfl) (by rfl) rfl) ?_;refine jn (.pointer (some ⟨go, 0 + p * 5 + 1, none⟩)) ?_;refine jg (.int .i64 (y.2.1 : Int)) (fun X hX hF => exec_ld 3 _ (by rfl) go (0 + p * 5 + 1) (by rfl) _ X ((hce.below hX hge) 1 _ rfl) (fun X u h => load_int go (0 + p * 5 + 1) X u h)) ?_;refine jm (.int .i64 (tick : Int)) ?_;refine jv (.bool false) (exec_eqi _ _ _ _ (by rfl) .i64 (y.2.1 : Int) (tick : Int) (by rfl) (by rfl) false (decide_eq_false (by omega))) ?_;refine jm (.bool false) ?_;refine jm (.bool false) ?_;refine js ?_;refine js ?_;refine js ?_;refine jm (.bool false) ?_;refine jm (.bool false) ?_;refine jzb hb fun X3 hX3 hb => ?_;replace hOW := own_since hOW hX3;replace hbut := hbut.trans (But.of_since hX3 hmw);replace hmw := Nat.le_trans hmw hX3.size;replace hD7 := hD7.bel hX3;replace hD8 := hD8.bel hX3;replace hB0 := hB0.bel hX3;have hce := hce.below hX3 hge
     replace hge := Nat.lt_of_lt_of_le hge (hX3).size;clear hX3;refine wpList_nil ?_
     have HA : Hid ((aR l f u (k + 1)).1 = P ++ [(tick, tick + 1, x)]) := by
      show _ = _
      rw [HNX.out]
      unfold arS
      rw [if_neg h0, if_neg HJ.out]
     have HNA : Hid ((P ++ [(tick, tick + 1, x)]).length = n + 1) := by
      show _ = _
      rw [List.length_append, HN.out]
      rfl
     have HFA : Hid (fl (wdc t) (P ++ [(tick, tick + 1, x)]) = fl (wdc t) P ++ wdc t (tick, tick + 1, x)) := fl_snoc _ _;have hmg : g7 < m ∧ g8 < m ∧ w.heap.size < m := ⟨by omega, by omega, by omega⟩
     gi_upto_region 12 with fail
     have hbA : m ≤ X3.heap.size := by omega
     have hn_hD7 : (Value.ownBlock (.slice (some ⟨go, 0, none⟩) n c6)) ≠ some g7 := fun h9 => by have h8 := own_base hOW _ h9; omega
     have hn_hD8 : (Value.ownBlock (.slice (some ⟨go, 0, none⟩) n c6)) ≠ some g8 := fun h9 => by have h8 := own_base hOW _ h9; omega
     have hn_hB0 : (Value.ownBlock (.slice (some ⟨go, 0, none⟩) n c6)) ≠ some w.heap.size := fun h9 => by have h8 := own_base hOW _ h9; omega
     refine lar_tail (⟨m, 60, 5, .slice (some ⟨go, 0, none⟩) n c6, n, (fl (wdc t) P), [.int .i64 (tick : Int), .int .i64 ((tick + 1 : Nat) : Int), .bool (rN (rk x t)), .string ⟨(rP (rk x t)).toArray⟩, .string ⟨(rD (rk x t)).toArray⟩]⟩ : Ar) 10 [none, none, none, none, none, none, none, none, none, some (Anew (⟨m, 60, 5, .slice (some ⟨go, 0, none⟩) n c6, n, (fl (wdc t) P), [.int .i64 (tick : Int), .int .i64 ((tick + 1 : Nat) : Int), .bool (rN (rk x t)), .string ⟨(rP (rk x t)).toArray⟩, .string ⟨(rD (rk x t)).toArray⟩]⟩ : Ar) 60), some (Aout (⟨m, 60, 5, .slice (some ⟨go, 0, none⟩) n c6, n, (fl (wdc t) P), [.int .i64 (tick : Int), .int .i64 ((tick + 1 : Nat) : Int), .bool (rN (rk x t)), .string ⟨(rP (rk x t)).toArray⟩, .string ⟨(rD (rk x t)).toArray⟩]⟩ : Ar))] (by kernel_rfl) (by kernel_rfl) (by kernel_rfl) (by kernel_rfl) (by rintro ⟨_, _, h9, _⟩; cases h9) rfl (la_none (la_none (la_none (la_none (la_none (la_none (la_none (la_none (la_none (la_some (fun v X Y h hR => Anew.lasts v X Y h hR) (la_some (fun v X Y h hR => Aout.lasts v X Y h hR) (la_nil)))))))))))) ?_;simp only [iB, List.dropLast, Nat.reduceAdd];refine ag hOW hbA (.slice (some ⟨go, 0, none⟩) n c6) (fun X σ hX hF => exec_ld 56 _ (by rfl) g7 0 (by rfl) _ X ((hX.blk hD7 hn_hD7).cell (j := 0) rfl) (fun X u h => load_wds g7 0 X u h)) ?_;refine am (.int .i64 (tick : Int)) ?_;refine am (.int .i64 (tick : Int)) ?_;refine ag hOW hbA (.int .i64 ((tick + 1 : Nat) : Int)) (fun X σ hX hF => exec_add _ _ _ _ (by rfl) (tick : Int) 1 ((tick + 1 : Nat) : Int) (by rfl) (by rfl) (by omega) (by omega) (by omega) X) ?_
     refine am (.int .i64 x) ?_;refine ag hOW hbA (.agg #[v]) (fun X σ hX hF => exec_lda 24 _ (by rfl) w.heap.size (by rfl) Tryd.underlying24 rfl X (hX.blk hB0 hn_hB0) info_kn) ?_;refine ac hOW hbA (f := 27) (args := [.agg #[v]]) (.int .i64 t) (fun X σ hX hF => (totK _ l X (HV.out X (hb.trans (hX.below.mono (show w.heap.size ≤ m by omega)))) HK.out).mono fun e X' ⟨h1, h2⟩ => ⟨by rw [h1, HT.out], h2⟩) ?_;refine ac hOW hbA (f := 33) (args := [.int .i64 x, .int .i64 t]) (.agg #[.bool (rN (rk x t)), .string ⟨(rP (rk x t)).toArray⟩, .string ⟨(rD (rk x t)).toArray⟩]) (fun X σ hX hF => partC x t X hxi hti ht0) ?_;refine an (.agg #[.int .i64 (tick : Int), .int .i64 ((tick + 1 : Nat) : Int), .bool (rN (rk x t)), .string ⟨(rP (rk x t)).toArray⟩, .string ⟨(rD (rk x t)).toArray⟩]) ?_;refine ab hOW 60 (fun X => by unfold execOp; go_simp) ?_;intro v48;refine aa hOW hbA 60 9 v48 List.mem_cons_self Tryd.underlying56 info_wdz rfl (show 0 < 5 by decide) (by rfl) (by intro u hu; simp only [List.mem_cons, List.not_mem_nil, or_false] at hu; rcases hu with rfl | rfl | rfl | rfl | rfl <;> rfl) (show n + 1 ≤ maxLen by unfold maxLen; omega) (show (n + 1) * 56 ≤ 140737488355328 by omega) ?_;intro v49;refine az hOW hbA ?_;intro X4 σ hX hF;have hO49 : X4.ownsRow m 60 5 v49 (n + 1) ((fl (wdc t) P) ++ [.int .i64 (tick : Int), .int .i64 ((tick + 1 : Nat) : Int), .bool (rN (rk x t)), .string ⟨(rP (rk x t)).toArray⟩, .string ⟨(rD (rk x t)).toArray⟩]) := (hF _ _ List.mem_cons_self).2;have hD7 := hX.blk hD7 hn_hD7
     have hD8 := hX.blk hD8 hn_hD8;have hB0 := hX.blk hB0 hn_hB0;have hb := hb.trans (hX.below.mono (show w.heap.size ≤ m by omega));clear hF hn_hD7 hn_hD8 hn_hB0;replace hbut := hbut.trans (But.of_grown hX.grown hmw (fun k h => .inl (own_base hOW k h).1));replace hmw := Nat.le_trans hmw hX.grown.size;obtain ⟨A7, c7, rfl, _, _⟩ := (Rd.of_own hO49).form;clear hOW hX;refine op_store1g rfl g7 0 56 _ hD7 (.slice A7 (n + 1) c7) (by simp) (fun X u h1 h2 => exec_stw _ _ (by rfl) _ _ (by rfl) (by rfl) u X h1 h2) ?_;intro w8 hR8 hG8;have hb := bel_grown hG8 hb hb.size (by omega);have hB0 := blk_grown hG8 hB0 (by omega);have hD8 := blk_grown hG8 hD8 (by omega);have hOW := own_grown hO49 hG8 (fun g h h9 => by have h8 := own_base hO49 _ h9; injection h with h; omega);replace hbut := hbut.trans (But.of_grown hG8 hmw (fun k h => .inr (.inl (by injection h with h; exact h.symm))));replace hmw := Nat.le_trans hmw hG8.size
     have hD7 : Blk w8 g7 56 [.slice A7 (P ++ [(tick, tick + 1, x)]).length c7] := by rw [HNA.out]; exact hR8
     have hOW : w8.ownsRow m 60 5 (.slice A7 (P ++ [(tick, tick + 1, x)]).length c7) (P ++ [(tick, tick + 1, x)]).length (fl (wdc t) (P ++ [(tick, tick + 1, x)])) := by
      rw [HNA.out, HFA.out]; exact hOW
     clear hO49 hR8 hG8;refine wpList_nil ?_
     gi_upto_region 16 with fail
     refine lr_plain_to 1 [] (by kernel_rfl) (by rintro ⟨_, _, h9, _⟩; cases h9) (lasts_nil) ?_;simp only [its, List.take, List.drop, Nat.zero_add, Nat.reduceAdd];refine jm (.int .i64 x) ?_;refine jzb hb fun X5 hX5 hb => ?_;replace hOW := own_since hOW hX5;replace hbut := hbut.trans (But.of_since hX5 hmw);replace hmw := Nat.le_trans hmw hX5.size;replace hD7 := hD7.bel hX5;replace hD8 := hD8.bel hX5;replace hB0 := hB0.bel hX5;clear hX5;refine op_store1g rfl g8 0 3 _ hD8 (.int .i64 x) (by simp) (fun X u h1 h2 => exec_sti _ _ (by rfl) _ _ (by rfl) (by rfl) u X h1 h2) ?_;intro w9 hR9 hG9;have hb := bel_grown hG9 hb hb.size (by omega);have hB0 := blk_grown hG9 hB0 (by omega);have hD7 := blk_grown hG9 hD7 (by omega);have hOW := own_grown hOW hG9 (fun g h h9 => by have h8 := own_base hOW _ h9; injection h with h; omega);replace hbut := hbut.trans (But.of_grown hG9 hmw (fun k h => .inr (.inr (by injection h with h; exact h.symm))));refine wpList_nil ?_
     gi_wp2
     exact ⟨trivial, hbut, ⟨⟨A7, c7, by rw [HA.out]; exact hD7, by rw [HA.out, ← HT.out]; exact hOW⟩, by rw [HNX.out]; exact hR9, hB0, hb⟩⟩
 case done =>
  intro D m W hD hm hi hKD;clear hD7 hD8 hB0 hb hC1 hC2;obtain ⟨⟨A6, c6, hD7, hOW⟩, hD8, hB0, hb⟩ := hi;have hgD : g7 < D ∧ g8 < D := ⟨by omega, by omega⟩;go_upto_region 17 with fail;refine jp ?_;refine jf (.slice A6 (aR l f u (aN l f u)).1.length c6) hD7 0 load_wds ?_;refine jm (.slice A6 (aR l f u (aN l f u)).1.length c6) ?_;refine jm (.int .i64 0) ?_;refine jzb hb fun X1 hX1 hb => ?_;replace hOW := own_since hOW hX1;replace hKD := (hX1.block D (Array.getElem?_eq_some_iff.1 hKD).1).trans hKD;replace hD7 := hD7.bel hX1;clear hX1
  go_wp2
  refine ret_m1 hKD (fun X => results_tmp2 rfl _ _ _) rfl ?_;exact ⟨.slice A6 (aR l f u (aN l f u)).1.length c6, rfl, (Kept.putObj (B := 0) hKD rfl (Nat.zero_le _)).owns (ownsRow_mono hOW (by omega)), (Kept.putObj (B := w.heap.size) hKD rfl (by omega)).below hb (Nat.le_refl _)⟩
end Go.Proofs.YtcpedbpldgndmaaDoor
