/-
  curve: Differ.
-/
import Derived.Test.YtchhlgcakjjncaaGreatDoorCsh
import Derived.Test.YtchhlgcakjjncaaGreatDoorPl13e
import Derived.Test.YtchhlgcakjjncaaGreatDoorMA
set_option linter.unusedSimpArgs false
set_option linter.unusedVariables false
set_option maxRecDepth 100000
set_option maxHeartbeats 1600000
namespace Go.Proofs.YtchhlgcakjjncaaGreatDoor
open Go.RowKit
theorem info_bt : (Tryz.prog.info? 73).map (·.size) = some 2 := by kernel_rfl
theorem info_btz : (Tryz.prog.info? 73).map (fun i => (i.zero, i.size, i.bytes)) = some (some (.agg #[.int .i64 0, .int .i64 0]), 2, 16) := by kernel_rfl
/-- An interval as it lies. -/
def btc (x : Int × Int) : List Value := [.int .i64 x.1, .int .i64 x.2]
theorem btc_len (x : Int × Int) : (btc x).length = 2 := rfl
theorem flb_cons (x : Int × Int) (S : List (Int × Int)) : fl btc (x :: S) = btc x ++ fl btc S := rfl
theorem flb_grow : ∀ (o : List (Int × Int)) (x : Int × Int) (tl : List Value) (s : Int), (fl btc (o ++ [x]) ++ tl).set (o.length * 2 + 1) (.int .i64 s) = fl btc (o ++ [(x.1, s)]) ++ tl
  | [], x, tl, s => rfl
  | y :: o, x, tl, s => by
    have ih := flb_grow o x tl s
    have h9 : (o.length + 1) * 2 + 1 = o.length * 2 + 1 + 1 + 1 := by omega
    rw [List.length_cons, h9, List.cons_append, flb_cons, List.cons_append, flb_cons]
    show btc y ++ ((fl btc (o ++ [x]) ++ tl).set (o.length * 2 + 1) (Value.int IntKind.i64 s)) = btc y ++ (fl btc (o ++ [(x.1, s)]) ++ tl)
    rw [ih]
theorem flb_at : ∀ (o : List (Int × Int)) (x : Int × Int) (tl : List Value), ((fl btc (o ++ [x]) ++ tl).drop (o.length * 2)).take 2 = btc x
  | [], _, _ => rfl
  | y :: o, x, tl => by
    have ih := flb_at o x tl
    have h9 : (o.length + 1) * 2 = o.length * 2 + 1 + 1 := by omega
    rw [List.length_cons, h9]
    exact ih
theorem fl_snoc (o : List (Int × Int)) (x : Int × Int) : fl btc (o ++ [x]) = fl btc o ++ btc x := by
  unfold fl
  rw [List.map_append, List.flatten_append]
  simp
/-- The intervals that were found so far, in a row of the call's own. -/
def OutD (X : World) (B : Nat) (A : Option Addr) (n c : Nat) (l : List (Int × Int)) : Prop :=
  l.length = n ∧ ((n = 0 ∧ A = none ∧ c = 0) ∨ ∃ g tl, A = some ⟨g, 0, none⟩ ∧ B < g ∧ 0 < n ∧ n ≤ c ∧ c ≤ maxLen ∧ Blk X g 73 (fl btc l ++ tl))
theorem OutD.bel {X X' : World} {B : Nat} {A : Option Addr} {n c : Nat} {l : List (Int × Int)} (h : OutD X B A n c l) (hS : Since X X') : OutD X' B A n c l := by
  refine ⟨h.1, ?_⟩
  rcases h.2 with h1 | ⟨g, tl, h1, h2, h3, h4, h5, h6⟩
  · exact .inl h1
  · exact .inr ⟨g, tl, h1, h2, h3, h4, h5, h6.bel hS⟩
theorem OutD.rd {X : World} {B : Nat} {A : Option Addr} {n c : Nat} {l : List (Int × Int)} (h : OutD X B A n c l) : Rd X 2 (.slice A n c) n (fl btc l) := by
  obtain ⟨hl, h⟩ := h
  have hln : (fl btc l).length = n * 2 := by rw [fl_len (fun x _ => btc_len x), hl]
  rcases h with ⟨h1, h2, h3⟩ | ⟨g, tl, h1, h2, h3, h4, h5, h6⟩
  · subst h1 h2 h3
    exact ⟨hln, none, 0, rfl, Nat.le_refl _, Nat.zero_le _, fun _ => rfl, fun h => absurd h (Nat.lt_irrefl 0)⟩
  · subst h1
    exact ⟨hln, _, _, rfl, h4, h5, (fun h => by cases h), fun _ => ⟨g, 0, rfl, h6.lt, h6.cl.head⟩⟩
theorem OutD.rdf {X : World} {B : Nat} {A : Option Addr} {n c : Nat} {l : List (Int × Int)} (h : OutD X B A n c l) : Rd X 2 (.slice A n n) n (fl btc l) := by
  have h1 := h.rd
  obtain ⟨hl, h2⟩ := h
  rcases h2 with ⟨e1, e2, e3⟩ | ⟨g, tl, e1, e2, e3, e4, e5, e6⟩
  · subst e1 e2 e3
    exact h1
  · exact h1.fit e3
/-- 'append(s[:n:n], x)': the slice lies anew, with one more. -/
theorem append_cpo {P : Program} {w : World} {ops : Array Oper} {rest : List Oper} {o : Oper} {a : Act} {Q : Exit → Act → World → Prop} (cs : List Value) (tb : TypeId) (hgd : o.guard = none) (s x : Operand) (t : TypeId)
    (ho : o.op = .call { callee := .builtin .append, args := #[s, x], argTypes := #[t, t] })
    (e : TypeId) (z : Value) (size bytes : Nat) (ht : P.underlying t = some (.slice e)) (hi : (P.info? e).map (fun i => (i.zero, i.size, i.bytes)) = some (some z, size, bytes))
    (hz1 : z.cells.size = size) (hsz0 : 0 < size) (A : Option Addr) (n : Nat) (xs : List Value) (hs : a.eval s = .slice A n n) (hrs : Rd w size (.slice A n n) n xs)
    (hx : a.eval x = .slice (some ⟨w.heap.size, 0, none⟩) 1 1) (hcs : cs.length = size) (h1 : ∀ u ∈ cs, u.oneCell' = true)
    (hbytes : (n + 1) * bytes ≤ 140737488355328) (h63 : n + 1 ≤ maxLen)
    (h : ∀ g c' tl w', w.heap.size ≤ g → n + 1 ≤ c' → c' ≤ maxLen → Blk w' g e (xs ++ cs ++ tl) → Below w.heap.size w w' → wpList P ops Q rest (a.put o.dst (.slice (some ⟨g, 0, none⟩) (n + 1) c')) w') :
    wpList P ops Q (o :: rest) a (w.alloc (.cells cs.toArray tb)) := by
  obtain ⟨i, hi', hz0, hsz, hby⟩ := info_parts hi
  have hrs := hrs.alloc (.cells cs.toArray tb)
  obtain ⟨hl2, A2, c2, hv2, _, _, hz2, hcell2⟩ := hrs
  injection hv2 with e1 e2 e3
  subst e1
  refine wpList_append_grows (w.alloc (.cells cs.toArray tb)) hgd s x t ho e i z size bytes ht hi' hz0 hsz hby hz1 hsz0 A n n xs hs (fun hA => by have := hz2 hA; omega) hl2 (fun ad hA j u hj => ?_) ⟨w.heap.size, 0, none⟩ 1 1 cs hx (by omega) (fun j u hj => ?_) h1 (by omega) h63 hbytes ?_
  · have hn0 : 0 < n := by
      rcases Nat.eq_zero_or_pos n with h' | h'
      · subst h'
        have : xs = [] := List.eq_nil_of_length_eq_zero (by simpa using hl2)
        subst this
        simp at hj
      · exact h'
    obtain ⟨b2, off2, hA2, _, hc2⟩ := hcell2 hn0
    rw [hA2] at hA
    injection hA with hA
    subst hA
    have e : (⟨b2, off2, none⟩ : Addr).add j = ⟨b2, off2 + j, none⟩ := by unfold Addr.add; split <;> simp_all
    rw [e]
    exact hc2 j u hj
  · rw [add_zero_spot]
    exact Cl.new (w := w) (t := tb) (cs := cs.toArray) rfl j u hj
  · intro v' w' h2 h3
    have hR := Rd.of_own h2
    obtain ⟨A3, c3, rfl, _, _⟩ := hR.form
    obtain ⟨g, tl, rfl, k1, k2, k3, k4⟩ := Blk.of_ownP h2 (by omega)
    have hsz : w.heap.size ≤ (w.alloc (.cells cs.toArray tb)).heap.size := by simp
    exact h g c3 tl w' (by omega) k3 k2 k4 (((Below.refl _ w).alloc (Nat.le_refl _) _).grown h3 (by simp) (fun k hk => by cases hk))
/-- A slice of two curves. -/
def Cv2 (B : Nat) (x y : Value) (v : Value) (X : World) : Prop := ∃ g, v = .slice (some ⟨g, 0, none⟩) 2 2 ∧ B < g ∧ Blk X g 48 [x, y]
theorem Cv2.lasts (B : Nat) (x y : Value) : Lasts (Cv2 B x y) := fun _ _ _ ⟨g, h1, h2, h3⟩ hS => ⟨g, h1, h2, h3.bel hS⟩
theorem exec_bsC2 {f : Operand → Value} {o : Oper} (x y : Operand) (ho : o.op = .buildSlice 113 2 #[(0, x), (1, y)]) (B : Nat) (A A' : Option Addr) (n c n' c' : Nat) (hx : f x = .agg #[.slice A n c]) (hy : f y = .agg #[.slice A' n' c']) (X : World) (hB : B < X.heap.size) :
    ∃ v X', (execOp f o).run Tryz.prog X = .ok (.value v) X' ∧ Cv2 B (.slice A n c) (.slice A' n' c') v X' ∧ Since X X' := by
  refine ⟨.slice (some ⟨X.heap.size, 0, none⟩) 2 2, X.alloc (.cells [Value.slice A n c, .slice A' n' c'].toArray 48), ?_, ⟨_, rfl, hB, Blk.new rfl⟩, since_alloc X _⟩
  unfold execOp
  simp only [ho]
  go_simp
theorem dfS_of_nil {o : List (Int × Int)} {s : Int} (h : o.length = 0) : dfS o s = o ++ [(s, s)] := by
  rw [List.eq_nil_of_length_eq_zero h]
  rfl
def dfE (l m : List Pt) : Int := if ck l ≠ 0 then ck l else ck m
def dfL (l m : List Pt) : List (Int × Int) := if ck l = 0 ∧ ck m = 0 then dfl (l.map kp) (m.map kp) 3001 else []
theorem differC1 (A : Option Addr) (n c : Nat) (l : List Pt) (A' : Option Addr) (n' c' : Nat) (m : List Pt) (w : World) (hr : Rd w 4 (.slice A n c) n (fl ptc l)) (hr' : Rd w 4 (.slice A' n' c') n' (fl ptc m)) (hln : l.length = n) (hlm : m.length = n') (hn1 : n ≤ 9223372036854775807) (hn2 : n' ≤ 9223372036854775807) (hf : fewP l 1000) (hf' : fewP m 1000) (hc : ck l ≠ 0) : Calls Tryz.prog 44 #[.agg #[.slice A n c], .agg #[.slice A' n' c']] w fun e w' => ∃ A9 m9 c9, e = .returned (.tuple #[.slice A9 m9 c9, .int .i64 (dfE l m)]) ∧ Rd w' 2 (.slice A9 m9 c9) m9 (fl btc (dfL l m)) ∧ (dfL l m).length = m9 ∧ Since w w' := by
  have HRX : Hid (∀ X, Since w X → Rd X 4 (.slice A n c) n (fl ptc l)) := fun X h => hr.below h
  have HRY : Hid (∀ X, Since w X → Rd X 4 (.slice A' n' c') n' (fl ptc m)) := fun X h => hr'.below h
  have HFL : Hid (dfE l m = ck l ∧ dfL l m = []) := ⟨if_pos hc, if_neg (fun h9 => hc h9.1)⟩
  clear hr hr'
  go_enter Tryz.func44, Tryz.ntmps44
  go_upto_region 1 with (fail)
  obtain ⟨W0, hW0, hB0, hB1, hb⟩ := start2 w 48 48 [.slice A n c] [.slice A' n' c']
  rw [← hW0]
  clear hW0
  refine lx_plain [none, none, some (Cv2 (w.heap.size + 1) (.slice A n c) (.slice A' n' c'))] (lasts_none (lasts_none (lasts_some (Cv2.lasts _ _ _) (lasts_nil)))) ?_
  simp only [iX, Nat.reduceAdd]
  refine ja hB0 Tryz.underlying48 (by rfl) info_cv ?_
  refine ja hB1 Tryz.underlying48 (by rfl) info_cv ?_
  refine lx_new (by rfl) (fun X hX hF => exec_bsC2 _ _ (by rfl) (w.heap.size + 1) A A' n c n' c' (by rfl) (by rfl) X ((hB1.bel hX).lt)) ?_
  intro v15
  simp only [pX]
  refine jg (.int .i64 (2 : Int)) (fun X hX hF => by obtain ⟨g9, h9, _⟩ := (hF _ _ List.mem_cons_self rfl); subst h9; exact exec_lenv Tryz.underlying113 _ (by rfl) (some ⟨g9, 0, none⟩) 2 2 (by rfl) _ rfl X) ?_
  refine jm (.int .i64 0) ?_
  refine lx_nil ?_
  intro X1 hX1 hF
  have hv15 := hF _ _ List.mem_cons_self
  have hB0 := hB0.bel hX1
  have hB1 := hB1.bel hX1
  have hb := bel_next hb hX1
  clear hF hX1
  obtain ⟨g, rfl, hg, hBg⟩ := hv15
  go_wp2
  go_loopw [17] (fun kv wr => ∃ k : Nat, k < 1 ∧ kv = .int .i64 (k : Int) ∧ Blk wr w.heap.size 48 [.slice A n c] ∧ Blk wr (w.heap.size + 1) 48 [.slice A' n' c'] ∧ Blk wr g 48 [.slice A n c, .slice A' n' c'] ∧ Below w.heap.size w wr) (fun kv _ => 2 - (intOf kv).toNat)
  case atStart => exact ⟨0, by omega, rfl, hB0, hB1, hBg, hb⟩
  case round =>
    clear hB0 hB1 hBg hb
    obtain ⟨k, hk, rfl, hB0, hB1, hBg, hb⟩ := hrel
    obtain rfl : k = 0 := by omega
    go_upto_region 2 with (fail)
    refine jp ?_
    refine jv (.bool true) (exec_lss _ _ _ _ (by rfl) .i64 ((0 : Nat) : Int) (2 : Int) (by rfl) (by rfl) true (by first | rfl | exact decide_eq_true (by omega))) ?_
    refine jz fun X1 hX1 => ?_
    have hB0 := hB0.bel hX1
    have hB1 := hB1.bel hX1
    have hBg := hBg.bel hX1
    have hb := bel_next hb hX1
    clear hX1
    have hcx : Cl X1 g (0 + 0 * 1) [.slice A n c] := hBg.cl.part 0 [.slice A n c] (by rfl)
    have hbb := hBg.lt
    go_upto_region 3 with (fail)
    refine jq 2 ?_
    refine jv (.pointer (some ⟨g, 0 + 0 * 1, none⟩)) (exec_ixv Tryz.underlying113 info_cv _ _ (by rfl) g (0) 2 2 0 (by omega) (by rfl) (by rfl) rfl) ?_
    refine jg (.agg #[.slice A n c]) (fun X hX hF => exec_ldc 48 _ (by rfl) g (0 + 0 * 1) (by rfl) Tryz.underlying48 rfl [.slice A n c] X (Cl.part (hcx.below hX hbb) 0 _ (by rfl)) info_cv) ?_
    refine jz fun X2 hX2 => ?_
    have hB0 := hB0.bel hX2
    have hB1 := hB1.bel hX2
    have hBg := hBg.bel hX2
    have hcx := hcx.below hX2 hbb
    replace hbb := Nat.lt_of_lt_of_le hbb (hX2).size
    have hb := bel_next hb hX2
    clear hX2
    go_upto_region 4 with (refine osn 48 7 20 #[.slice A n c] info_cv ?_)
    obtain ⟨Y2, hY9, hD7, hS9⟩ := start1 X2 48 [.slice A n c]
    rw [← hY9]
    clear hY9
    have hgs7 := hb.size
    have hlt7x0 := hB0.lt
    have hlt7x1 := hB1.lt
    have hlt7x2 := hBg.lt
    have hcx := hcx.below hS9 hbb
    replace hbb := Nat.lt_of_lt_of_le hbb (hS9).size
    have hB0 := hB0.bel hS9
    have hB1 := hB1.bel hS9
    have hBg := hBg.bel hS9
    have hb := bel_next hb hS9
    clear hS9
    generalize X2.heap.size = g7 at *
    refine jp ?_
    refine ja hD7 Tryz.underlying48 (by rfl) info_cv ?_
    refine jc (.int .i64 (ck l)) (fun X hX hF => checkC A n c l X (HRX.out X (hb.trans (Below.mono hX hb.size))) hln hn1 hf.mono) ?_
    refine jm (.int .i64 (ck l)) ?_
    refine jz fun X3 hX3 => ?_
    have hB0 := hB0.bel hX3
    have hB1 := hB1.bel hX3
    have hBg := hBg.bel hX3
    have hD7 := hD7.bel hX3
    have hb := bel_next hb hX3
    clear hX3
    go_upto_region 5 with (fail)
    refine jp ?_
    refine jm (.int .i64 (ck l)) ?_
    refine jv (.bool true) (exec_nei _ _ _ _ (by rfl) .i64 (ck l) 0 (by rfl) (by rfl) true (by rw [decide_eq_false (by omega)]; rfl)) ?_
    refine jz fun X4 hX4 => ?_
    have hB0 := hB0.bel hX4
    have hB1 := hB1.bel hX4
    have hBg := hBg.bel hX4
    have hD7 := hD7.bel hX4
    have hb := bel_next hb hX4
    clear hX4
    go_upto_region 6 with (fail)
    refine jp ?_
    refine jm (.int .i64 (ck l)) ?_
    refine jm (.slice none 0 0) ?_
    refine jm (.int .i64 (ck l)) ?_
    refine jz fun X5 hX5 => ?_
    have hB0 := hB0.bel hX5
    have hB1 := hB1.bel hX5
    have hBg := hBg.bel hX5
    have hD7 := hD7.bel hX5
    have hb := bel_next hb hX5
    clear hX5
    go_wp2
    go_ret2
    exact ⟨none, 0, 0, by rw [HFL.out.1]; rfl, by rw [HFL.out.2]; exact ⟨rfl, none, 0, rfl, Nat.le_refl _, Nat.zero_le _, fun _ => rfl, fun h => absurd h (Nat.lt_irrefl 0)⟩, by rw [HFL.out.2]; rfl, hb⟩
theorem differC2 (A : Option Addr) (n c : Nat) (l : List Pt) (A' : Option Addr) (n' c' : Nat) (m : List Pt) (w : World) (hr : Rd w 4 (.slice A n c) n (fl ptc l)) (hr' : Rd w 4 (.slice A' n' c') n' (fl ptc m)) (hln : l.length = n) (hlm : m.length = n') (hn1 : n ≤ 9223372036854775807) (hn2 : n' ≤ 9223372036854775807) (hf : fewP l 1000) (hf' : fewP m 1000) (hc : ck l = 0) (hc2 : ck m ≠ 0) : Calls Tryz.prog 44 #[.agg #[.slice A n c], .agg #[.slice A' n' c']] w fun e w' => ∃ A9 m9 c9, e = .returned (.tuple #[.slice A9 m9 c9, .int .i64 (dfE l m)]) ∧ Rd w' 2 (.slice A9 m9 c9) m9 (fl btc (dfL l m)) ∧ (dfL l m).length = m9 ∧ Since w w' := by
  have HRX : Hid (∀ X, Since w X → Rd X 4 (.slice A n c) n (fl ptc l)) := fun X h => hr.below h
  have HRY : Hid (∀ X, Since w X → Rd X 4 (.slice A' n' c') n' (fl ptc m)) := fun X h => hr'.below h
  have HFL : Hid (dfE l m = ck m ∧ dfL l m = []) := ⟨if_neg (fun h9 => h9 hc), if_neg (fun h9 => hc2 h9.2)⟩
  clear hr hr'
  go_enter Tryz.func44, Tryz.ntmps44
  go_upto_region 1 with (fail)
  obtain ⟨W0, hW0, hB0, hB1, hb⟩ := start2 w 48 48 [.slice A n c] [.slice A' n' c']
  rw [← hW0]
  clear hW0
  refine lx_plain [none, none, some (Cv2 (w.heap.size + 1) (.slice A n c) (.slice A' n' c'))] (lasts_none (lasts_none (lasts_some (Cv2.lasts _ _ _) (lasts_nil)))) ?_
  simp only [iX, Nat.reduceAdd]
  refine ja hB0 Tryz.underlying48 (by rfl) info_cv ?_
  refine ja hB1 Tryz.underlying48 (by rfl) info_cv ?_
  refine lx_new (by rfl) (fun X hX hF => exec_bsC2 _ _ (by rfl) (w.heap.size + 1) A A' n c n' c' (by rfl) (by rfl) X ((hB1.bel hX).lt)) ?_
  intro v15
  simp only [pX]
  refine jg (.int .i64 (2 : Int)) (fun X hX hF => by obtain ⟨g9, h9, _⟩ := (hF _ _ List.mem_cons_self rfl); subst h9; exact exec_lenv Tryz.underlying113 _ (by rfl) (some ⟨g9, 0, none⟩) 2 2 (by rfl) _ rfl X) ?_
  refine jm (.int .i64 0) ?_
  refine lx_nil ?_
  intro X1 hX1 hF
  have hv15 := hF _ _ List.mem_cons_self
  have hB0 := hB0.bel hX1
  have hB1 := hB1.bel hX1
  have hb := bel_next hb hX1
  clear hF hX1
  obtain ⟨g, rfl, hg, hBg⟩ := hv15
  go_wp2
  go_loopw [17] (fun kv wr => ∃ k : Nat, k < 2 ∧ kv = .int .i64 (k : Int) ∧ Blk wr w.heap.size 48 [.slice A n c] ∧ Blk wr (w.heap.size + 1) 48 [.slice A' n' c'] ∧ Blk wr g 48 [.slice A n c, .slice A' n' c'] ∧ Below w.heap.size w wr) (fun kv _ => 2 - (intOf kv).toNat)
  case atStart => exact ⟨0, by omega, rfl, hB0, hB1, hBg, hb⟩
  case round =>
    clear hB0 hB1 hBg hb
    obtain ⟨k, hk, rfl, hB0, hB1, hBg, hb⟩ := hrel
    obtain rfl | rfl : k = 0 ∨ k = 1 := by omega
    · go_upto_region 2 with (fail)
      refine jp ?_
      refine jv (.bool true) (exec_lss _ _ _ _ (by rfl) .i64 ((0 : Nat) : Int) (2 : Int) (by rfl) (by rfl) true (by first | rfl | exact decide_eq_true (by omega))) ?_
      refine jz fun X1 hX1 => ?_
      have hB0 := hB0.bel hX1
      have hB1 := hB1.bel hX1
      have hBg := hBg.bel hX1
      have hb := bel_next hb hX1
      clear hX1
      have hcx : Cl X1 g (0 + 0 * 1) [.slice A n c] := hBg.cl.part 0 [.slice A n c] (by rfl)
      have hbb := hBg.lt
      go_upto_region 3 with (fail)
      refine jq 2 ?_
      refine jv (.pointer (some ⟨g, 0 + 0 * 1, none⟩)) (exec_ixv Tryz.underlying113 info_cv _ _ (by rfl) g (0) 2 2 0 (by omega) (by rfl) (by rfl) rfl) ?_
      refine jg (.agg #[.slice A n c]) (fun X hX hF => exec_ldc 48 _ (by rfl) g (0 + 0 * 1) (by rfl) Tryz.underlying48 rfl [.slice A n c] X (Cl.part (hcx.below hX hbb) 0 _ (by rfl)) info_cv) ?_
      refine jz fun X2 hX2 => ?_
      have hB0 := hB0.bel hX2
      have hB1 := hB1.bel hX2
      have hBg := hBg.bel hX2
      have hcx := hcx.below hX2 hbb
      replace hbb := Nat.lt_of_lt_of_le hbb (hX2).size
      have hb := bel_next hb hX2
      clear hX2
      go_upto_region 4 with (refine osn 48 7 20 #[.slice A n c] info_cv ?_)
      obtain ⟨Y2, hY9, hD7, hS9⟩ := start1 X2 48 [.slice A n c]
      rw [← hY9]
      clear hY9
      have hgs7 := hb.size
      have hlt7x0 := hB0.lt
      have hlt7x1 := hB1.lt
      have hlt7x2 := hBg.lt
      have hcx := hcx.below hS9 hbb
      replace hbb := Nat.lt_of_lt_of_le hbb (hS9).size
      have hB0 := hB0.bel hS9
      have hB1 := hB1.bel hS9
      have hBg := hBg.bel hS9
      have hb := bel_next hb hS9
      clear hS9
      generalize X2.heap.size = g7 at *
      refine jp ?_
      refine ja hD7 Tryz.underlying48 (by rfl) info_cv ?_
      refine jc (.int .i64 (ck l)) (fun X hX hF => checkC A n c l X (HRX.out X (hb.trans (Below.mono hX hb.size))) hln hn1 hf.mono) ?_
      refine jm (.int .i64 (ck l)) ?_
      refine jz fun X3 hX3 => ?_
      have hB0 := hB0.bel hX3
      have hB1 := hB1.bel hX3
      have hBg := hBg.bel hX3
      have hD7 := hD7.bel hX3
      have hb := bel_next hb hX3
      clear hX3
      go_upto_region 5 with (fail)
      refine jp ?_
      refine jm (.int .i64 (ck l)) ?_
      refine jv (.bool false) (exec_nei _ _ _ _ (by rfl) .i64 (ck l) 0 (by rfl) (by rfl) false (by rw [decide_eq_true (by omega)]; rfl)) ?_
      refine jz fun X4 hX4 => ?_
      have hB0 := hB0.bel hX4
      have hB1 := hB1.bel hX4
      have hBg := hBg.bel hX4
      have hD7 := hD7.bel hX4
      have hb := bel_next hb hX4
      clear hX4
      go_upto_region 7 with (fail)
      refine jp ?_
      refine jv (.int .i64 ((0 + 1 : Nat) : Int)) (exec_add _ _ _ _ (by rfl) ((0 : Nat) : Int) 1 ((0 + 1 : Nat) : Int) (by rfl) (by rfl) (by omega) (by omega) (by omega)) ?_
      refine jm (.int .i64 ((0 + 1 : Nat) : Int)) ?_
      refine jz fun X5 hX5 => ?_
      have hB0 := hB0.bel hX5
      have hB1 := hB1.bel hX5
      have hBg := hBg.bel hX5
      have hD7 := hD7.bel hX5
      have hb := bel_next hb hX5
      clear hX5
      go_wp2
      go_roundw
      case rel => exact ⟨0 + 1, by omega, rfl, hB0, hB1, hBg, hb⟩
      case measure => simp [intOf]
    · go_upto_region 2 with (fail)
      refine jp ?_
      refine jv (.bool true) (exec_lss _ _ _ _ (by rfl) .i64 ((1 : Nat) : Int) (2 : Int) (by rfl) (by rfl) true (by first | rfl | exact decide_eq_true (by omega))) ?_
      refine jz fun X1 hX1 => ?_
      have hB0 := hB0.bel hX1
      have hB1 := hB1.bel hX1
      have hBg := hBg.bel hX1
      have hb := bel_next hb hX1
      clear hX1
      have hcx : Cl X1 g (0 + 1 * 1) [.slice A' n' c'] := hBg.cl.part 1 [.slice A' n' c'] (by rfl)
      have hbb := hBg.lt
      go_upto_region 3 with (fail)
      refine jq 2 ?_
      refine jv (.pointer (some ⟨g, 0 + 1 * 1, none⟩)) (exec_ixv Tryz.underlying113 info_cv _ _ (by rfl) g (0) 2 2 1 (by omega) (by rfl) (by rfl) rfl) ?_
      refine jg (.agg #[.slice A' n' c']) (fun X hX hF => exec_ldc 48 _ (by rfl) g (0 + 1 * 1) (by rfl) Tryz.underlying48 rfl [.slice A' n' c'] X (Cl.part (hcx.below hX hbb) 0 _ (by rfl)) info_cv) ?_
      refine jz fun X2 hX2 => ?_
      have hB0 := hB0.bel hX2
      have hB1 := hB1.bel hX2
      have hBg := hBg.bel hX2
      have hcx := hcx.below hX2 hbb
      replace hbb := Nat.lt_of_lt_of_le hbb (hX2).size
      have hb := bel_next hb hX2
      clear hX2
      go_upto_region 4 with (refine osn 48 7 20 #[.slice A' n' c'] info_cv ?_)
      obtain ⟨Y2, hY9, hD7, hS9⟩ := start1 X2 48 [.slice A' n' c']
      rw [← hY9]
      clear hY9
      have hgs7 := hb.size
      have hlt7x0 := hB0.lt
      have hlt7x1 := hB1.lt
      have hlt7x2 := hBg.lt
      have hcx := hcx.below hS9 hbb
      replace hbb := Nat.lt_of_lt_of_le hbb (hS9).size
      have hB0 := hB0.bel hS9
      have hB1 := hB1.bel hS9
      have hBg := hBg.bel hS9
      have hb := bel_next hb hS9
      clear hS9
      generalize X2.heap.size = g7 at *
      refine jp ?_
      refine ja hD7 Tryz.underlying48 (by rfl) info_cv ?_
      refine jc (.int .i64 (ck m)) (fun X hX hF => checkC A' n' c' m X (HRY.out X (hb.trans (Below.mono hX hb.size))) hlm hn2 hf'.mono) ?_
      refine jm (.int .i64 (ck m)) ?_
      refine jz fun X3 hX3 => ?_
      have hB0 := hB0.bel hX3
      have hB1 := hB1.bel hX3
      have hBg := hBg.bel hX3
      have hD7 := hD7.bel hX3
      have hb := bel_next hb hX3
      clear hX3
      go_upto_region 5 with (fail)
      refine jp ?_
      refine jm (.int .i64 (ck m)) ?_
      refine jv (.bool true) (exec_nei _ _ _ _ (by rfl) .i64 (ck m) 0 (by rfl) (by rfl) true (by rw [decide_eq_false (by omega)]; rfl)) ?_
      refine jz fun X4 hX4 => ?_
      have hB0 := hB0.bel hX4
      have hB1 := hB1.bel hX4
      have hBg := hBg.bel hX4
      have hD7 := hD7.bel hX4
      have hb := bel_next hb hX4
      clear hX4
      go_upto_region 6 with (fail)
      refine jp ?_
      refine jm (.int .i64 (ck m)) ?_
      refine jm (.slice none 0 0) ?_
      refine jm (.int .i64 (ck m)) ?_
      refine jz fun X5 hX5 => ?_
      have hB0 := hB0.bel hX5
      have hB1 := hB1.bel hX5
      have hBg := hBg.bel hX5
      have hD7 := hD7.bel hX5
      have hb := bel_next hb hX5
      clear hX5
      go_wp2
      go_ret2
      exact ⟨none, 0, 0, by rw [HFL.out.1]; rfl, by rw [HFL.out.2]; exact ⟨rfl, none, 0, rfl, Nat.le_refl _, Nat.zero_le _, fun _ => rfl, fun h => absurd h (Nat.lt_irrefl 0)⟩, by rw [HFL.out.2]; rfl, hb⟩
theorem differCo (b off : Nat) (n c : Nat) (l : List Pt) (b2 off2 : Nat) (n' c' : Nat) (m : List Pt) (w : World) (hr : Rd w 4 (.slice (some ⟨b, off, none⟩) n c) n (fl ptc l)) (hr' : Rd w 4 (.slice (some ⟨b2, off2, none⟩) n' c') n' (fl ptc m)) (hln : l.length = n) (hlm : m.length = n') (hn1 : n ≤ 9223372036854775807) (hn2 : n' ≤ 9223372036854775807) (hf : fewP l 1000) (hf' : fewP m 1000) (hc : ck l = 0) (hc2 : ck m = 0) : Calls Tryz.prog 44 #[.agg #[.slice (some ⟨b, off, none⟩) n c], .agg #[.slice (some ⟨b2, off2, none⟩) n' c']] w fun e w' => ∃ A9 m9 c9, e = .returned (.tuple #[.slice A9 m9 c9, .int .i64 (dfE l m)]) ∧ Rd w' 2 (.slice A9 m9 c9) m9 (fl btc (dfL l m)) ∧ (dfL l m).length = m9 ∧ Since w w' := by
  have HRX : Hid (∀ X, Since w X → Rd X 4 (.slice (some ⟨b, off, none⟩) n c) n (fl ptc l)) := fun X h => hr.below h
  have HRY : Hid (∀ X, Since w X → Rd X 4 (.slice (some ⟨b2, off2, none⟩) n' c') n' (fl ptc m)) := fun X h => hr'.below h
  have HFL : Hid (dfE l m = 0 ∧ dfL l m = dfl (l.map kp) (m.map kp) 3001) := ⟨(if_neg (fun h9 => h9 hc)).trans hc2, if_pos ⟨hc, hc2⟩⟩
  have hok := ck_zero hc
  have hok2 := ck_zero hc2
  have hn16 : n ≤ 16 := by rw [← hln, ← List.length_map kp]; exact hok.crv.few
  have hm16 : n' ≤ 16 := by rw [← hlm, ← List.length_map kp]; exact hok2.crv.few
  clear hr hr'
  go_enter Tryz.func44, Tryz.ntmps44
  go_upto_region 1 with (fail)
  obtain ⟨W0, hW0, hB0, hB1, hb⟩ := start2 w 48 48 [.slice (some ⟨b, off, none⟩) n c] [.slice (some ⟨b2, off2, none⟩) n' c']
  rw [← hW0]
  clear hW0
  refine lx_plain [none, none, some (Cv2 (w.heap.size + 1) (.slice (some ⟨b, off, none⟩) n c) (.slice (some ⟨b2, off2, none⟩) n' c'))] (lasts_none (lasts_none (lasts_some (Cv2.lasts _ _ _) (lasts_nil)))) ?_
  simp only [iX, Nat.reduceAdd]
  refine ja hB0 Tryz.underlying48 (by rfl) info_cv ?_
  refine ja hB1 Tryz.underlying48 (by rfl) info_cv ?_
  refine lx_new (by rfl) (fun X hX hF => exec_bsC2 _ _ (by rfl) (w.heap.size + 1) (some ⟨b, off, none⟩) (some ⟨b2, off2, none⟩) n c n' c' (by rfl) (by rfl) X ((hB1.bel hX).lt)) ?_
  intro v15
  simp only [pX]
  refine jg (.int .i64 (2 : Int)) (fun X hX hF => by obtain ⟨g9, h9, _⟩ := (hF _ _ List.mem_cons_self rfl); subst h9; exact exec_lenv Tryz.underlying113 _ (by rfl) (some ⟨g9, 0, none⟩) 2 2 (by rfl) _ rfl X) ?_
  refine jm (.int .i64 0) ?_
  refine lx_nil ?_
  intro X1 hX1 hF
  have hv15 := hF _ _ List.mem_cons_self
  have hB0 := hB0.bel hX1
  have hB1 := hB1.bel hX1
  have hb := bel_next hb hX1
  clear hF hX1
  obtain ⟨g, rfl, hg, hBg⟩ := hv15
  go_wp2
  go_loopw [17] (fun kv wr => ∃ k : Nat, k ≤ 2 ∧ kv = .int .i64 (k : Int) ∧ Blk wr w.heap.size 48 [.slice (some ⟨b, off, none⟩) n c] ∧ Blk wr (w.heap.size + 1) 48 [.slice (some ⟨b2, off2, none⟩) n' c'] ∧ Blk wr g 48 [.slice (some ⟨b, off, none⟩) n c, .slice (some ⟨b2, off2, none⟩) n' c'] ∧ Below w.heap.size w wr) (fun kv _ => 2 - (intOf kv).toNat)
  case atStart => exact ⟨0, by omega, rfl, hB0, hB1, hBg, hb⟩
  case round =>
    clear hB0 hB1 hBg hb
    obtain ⟨k, hk, rfl, hB0, hB1, hBg, hb⟩ := hrel
    obtain rfl | rfl | rfl : k = 0 ∨ k = 1 ∨ k = 2 := by omega
    · go_upto_region 2 with (fail)
      refine jp ?_
      refine jv (.bool true) (exec_lss _ _ _ _ (by rfl) .i64 ((0 : Nat) : Int) (2 : Int) (by rfl) (by rfl) true (by first | rfl | exact decide_eq_true (by omega))) ?_
      refine jz fun X1 hX1 => ?_
      have hB0 := hB0.bel hX1
      have hB1 := hB1.bel hX1
      have hBg := hBg.bel hX1
      have hb := bel_next hb hX1
      clear hX1
      have hcx : Cl X1 g (0 + 0 * 1) [.slice (some ⟨b, off, none⟩) n c] := hBg.cl.part 0 [.slice (some ⟨b, off, none⟩) n c] (by rfl)
      have hbb := hBg.lt
      go_upto_region 3 with (fail)
      refine jq 2 ?_
      refine jv (.pointer (some ⟨g, 0 + 0 * 1, none⟩)) (exec_ixv Tryz.underlying113 info_cv _ _ (by rfl) g (0) 2 2 0 (by omega) (by rfl) (by rfl) rfl) ?_
      refine jg (.agg #[.slice (some ⟨b, off, none⟩) n c]) (fun X hX hF => exec_ldc 48 _ (by rfl) g (0 + 0 * 1) (by rfl) Tryz.underlying48 rfl [.slice (some ⟨b, off, none⟩) n c] X (Cl.part (hcx.below hX hbb) 0 _ (by rfl)) info_cv) ?_
      refine jz fun X2 hX2 => ?_
      have hB0 := hB0.bel hX2
      have hB1 := hB1.bel hX2
      have hBg := hBg.bel hX2
      have hcx := hcx.below hX2 hbb
      replace hbb := Nat.lt_of_lt_of_le hbb (hX2).size
      have hb := bel_next hb hX2
      clear hX2
      go_upto_region 4 with (refine osn 48 7 20 #[.slice (some ⟨b, off, none⟩) n c] info_cv ?_)
      obtain ⟨Y2, hY9, hD7, hS9⟩ := start1 X2 48 [.slice (some ⟨b, off, none⟩) n c]
      rw [← hY9]
      clear hY9
      have hgs7 := hb.size
      have hlt7x0 := hB0.lt
      have hlt7x1 := hB1.lt
      have hlt7x2 := hBg.lt
      have hcx := hcx.below hS9 hbb
      replace hbb := Nat.lt_of_lt_of_le hbb (hS9).size
      have hB0 := hB0.bel hS9
      have hB1 := hB1.bel hS9
      have hBg := hBg.bel hS9
      have hb := bel_next hb hS9
      clear hS9
      generalize X2.heap.size = g7 at *
      refine jp ?_
      refine ja hD7 Tryz.underlying48 (by rfl) info_cv ?_
      refine jc (.int .i64 (ck l)) (fun X hX hF => checkC (some ⟨b, off, none⟩) n c l X (HRX.out X (hb.trans (Below.mono hX hb.size))) hln hn1 hf.mono) ?_
      refine jm (.int .i64 (ck l)) ?_
      refine jz fun X3 hX3 => ?_
      have hB0 := hB0.bel hX3
      have hB1 := hB1.bel hX3
      have hBg := hBg.bel hX3
      have hD7 := hD7.bel hX3
      have hb := bel_next hb hX3
      clear hX3
      go_upto_region 5 with (fail)
      refine jp ?_
      refine jm (.int .i64 (ck l)) ?_
      refine jv (.bool false) (exec_nei _ _ _ _ (by rfl) .i64 (ck l) 0 (by rfl) (by rfl) false (by rw [decide_eq_true (by omega)]; rfl)) ?_
      refine jz fun X4 hX4 => ?_
      have hB0 := hB0.bel hX4
      have hB1 := hB1.bel hX4
      have hBg := hBg.bel hX4
      have hD7 := hD7.bel hX4
      have hb := bel_next hb hX4
      clear hX4
      go_upto_region 7 with (fail)
      refine jp ?_
      refine jv (.int .i64 ((0 + 1 : Nat) : Int)) (exec_add _ _ _ _ (by rfl) ((0 : Nat) : Int) 1 ((0 + 1 : Nat) : Int) (by rfl) (by rfl) (by omega) (by omega) (by omega)) ?_
      refine jm (.int .i64 ((0 + 1 : Nat) : Int)) ?_
      refine jz fun X5 hX5 => ?_
      have hB0 := hB0.bel hX5
      have hB1 := hB1.bel hX5
      have hBg := hBg.bel hX5
      have hD7 := hD7.bel hX5
      have hb := bel_next hb hX5
      clear hX5
      go_wp2
      go_roundw
      case rel => exact ⟨0 + 1, by omega, rfl, hB0, hB1, hBg, hb⟩
      case measure => simp [intOf]
    · go_upto_region 2 with (fail)
      refine jp ?_
      refine jv (.bool true) (exec_lss _ _ _ _ (by rfl) .i64 ((1 : Nat) : Int) (2 : Int) (by rfl) (by rfl) true (by first | rfl | exact decide_eq_true (by omega))) ?_
      refine jz fun X1 hX1 => ?_
      have hB0 := hB0.bel hX1
      have hB1 := hB1.bel hX1
      have hBg := hBg.bel hX1
      have hb := bel_next hb hX1
      clear hX1
      have hcx : Cl X1 g (0 + 1 * 1) [.slice (some ⟨b2, off2, none⟩) n' c'] := hBg.cl.part 1 [.slice (some ⟨b2, off2, none⟩) n' c'] (by rfl)
      have hbb := hBg.lt
      go_upto_region 3 with (fail)
      refine jq 2 ?_
      refine jv (.pointer (some ⟨g, 0 + 1 * 1, none⟩)) (exec_ixv Tryz.underlying113 info_cv _ _ (by rfl) g (0) 2 2 1 (by omega) (by rfl) (by rfl) rfl) ?_
      refine jg (.agg #[.slice (some ⟨b2, off2, none⟩) n' c']) (fun X hX hF => exec_ldc 48 _ (by rfl) g (0 + 1 * 1) (by rfl) Tryz.underlying48 rfl [.slice (some ⟨b2, off2, none⟩) n' c'] X (Cl.part (hcx.below hX hbb) 0 _ (by rfl)) info_cv) ?_
      refine jz fun X2 hX2 => ?_
      have hB0 := hB0.bel hX2
      have hB1 := hB1.bel hX2
      have hBg := hBg.bel hX2
      have hcx := hcx.below hX2 hbb
      replace hbb := Nat.lt_of_lt_of_le hbb (hX2).size
      have hb := bel_next hb hX2
      clear hX2
      go_upto_region 4 with (refine osn 48 7 20 #[.slice (some ⟨b2, off2, none⟩) n' c'] info_cv ?_)
      obtain ⟨Y2, hY9, hD7, hS9⟩ := start1 X2 48 [.slice (some ⟨b2, off2, none⟩) n' c']
      rw [← hY9]
      clear hY9
      have hgs7 := hb.size
      have hlt7x0 := hB0.lt
      have hlt7x1 := hB1.lt
      have hlt7x2 := hBg.lt
      have hcx := hcx.below hS9 hbb
      replace hbb := Nat.lt_of_lt_of_le hbb (hS9).size
      have hB0 := hB0.bel hS9
      have hB1 := hB1.bel hS9
      have hBg := hBg.bel hS9
      have hb := bel_next hb hS9
      clear hS9
      generalize X2.heap.size = g7 at *
      refine jp ?_
      refine ja hD7 Tryz.underlying48 (by rfl) info_cv ?_
      refine jc (.int .i64 (ck m)) (fun X hX hF => checkC (some ⟨b2, off2, none⟩) n' c' m X (HRY.out X (hb.trans (Below.mono hX hb.size))) hlm hn2 hf'.mono) ?_
      refine jm (.int .i64 (ck m)) ?_
      refine jz fun X3 hX3 => ?_
      have hB0 := hB0.bel hX3
      have hB1 := hB1.bel hX3
      have hBg := hBg.bel hX3
      have hD7 := hD7.bel hX3
      have hb := bel_next hb hX3
      clear hX3
      go_upto_region 5 with (fail)
      refine jp ?_
      refine jm (.int .i64 (ck m)) ?_
      refine jv (.bool false) (exec_nei _ _ _ _ (by rfl) .i64 (ck m) 0 (by rfl) (by rfl) false (by rw [decide_eq_true (by omega)]; rfl)) ?_
      refine jz fun X4 hX4 => ?_
      have hB0 := hB0.bel hX4
      have hB1 := hB1.bel hX4
      have hBg := hBg.bel hX4
      have hD7 := hD7.bel hX4
      have hb := bel_next hb hX4
      clear hX4
      go_upto_region 7 with (fail)
      refine jp ?_
      refine jv (.int .i64 ((1 + 1 : Nat) : Int)) (exec_add _ _ _ _ (by rfl) ((1 : Nat) : Int) 1 ((1 + 1 : Nat) : Int) (by rfl) (by rfl) (by omega) (by omega) (by omega)) ?_
      refine jm (.int .i64 ((1 + 1 : Nat) : Int)) ?_
      refine jz fun X5 hX5 => ?_
      have hB0 := hB0.bel hX5
      have hB1 := hB1.bel hX5
      have hBg := hBg.bel hX5
      have hD7 := hD7.bel hX5
      have hb := bel_next hb hX5
      clear hX5
      go_wp2
      go_roundw
      case rel => exact ⟨1 + 1, by omega, rfl, hB0, hB1, hBg, hb⟩
      case measure => simp [intOf]
    · rw [show ((2 : Nat) : Int) = 2 from rfl]
      go_upto_region 2 with (fail)
      refine jp ?_
      refine jv (.bool false) (exec_lss _ _ _ _ (by rfl) .i64 (2 : Int) (2 : Int) (by rfl) (by rfl) false (by first | rfl | exact decide_eq_false (by omega))) ?_
      refine jz fun X1 hX1 => ?_
      have hB0 := hB0.bel hX1
      have hB1 := hB1.bel hX1
      have hBg := hBg.bel hX1
      have hb := bel_next hb hX1
      clear hX1
      go_upto_region 8 with (fail)
      refine jp ?_
      refine jm (.slice none 0 0) ?_
      refine jz fun X2 hX2 => ?_
      have hB0 := hB0.bel hX2
      have hB1 := hB1.bel hX2
      have hBg := hBg.bel hX2
      have hb := bel_next hb hX2
      clear hX2
      go_upto_region 9 with (fail)
      refine jp ?_
      refine jm (.int .i64 0) ?_
      refine jz fun X3 hX3 => ?_
      have hB0 := hB0.bel hX3
      have hB1 := hB1.bel hX3
      have hBg := hBg.bel hX3
      have hb := bel_next hb hX3
      clear hX3
      clear hBg hg
      go_wp2
      go_loopw [9, 27] (fun ov kv wr => ∃ (k : Nat) (A9 : Option Addr) (n9 c9 : Nat), k ≤ 3001 ∧ ov = .slice A9 n9 c9 ∧ kv = .int .i64 (k : Int) ∧ Hid (OutD wr (w.heap.size + 1) A9 n9 c9 (dfl (l.map kp) (m.map kp) k)) ∧ Blk wr w.heap.size 48 [.slice (some ⟨b, off, none⟩) n c] ∧ Blk wr (w.heap.size + 1) 48 [.slice (some ⟨b2, off2, none⟩) n' c'] ∧ Below w.heap.size w wr) (fun ov kv _ => 3001 - (intOf kv).toNat)
      case atStart => exact ⟨0, none, 0, 0, by omega, rfl, rfl, ⟨rfl, .inl ⟨rfl, rfl, rfl⟩⟩, hB0, hB1, hb⟩
      case round =>
        clear hB0 hB1 hb
        obtain ⟨k, A9, n9, c9, hk, rfl, rfl, HO, hB0, hB1, hb⟩ := hrel
        have hd9 := dfl_len (l.map kp) (m.map kp) k
        have hn9 : n9 ≤ 3001 := by have := HO.out.1; omega
        clear hd9
        rcases Nat.lt_or_ge k 3001 with hlt9 | hlt9
        · obtain ⟨s, hs⟩ : ∃ s : Int, s = -1000 + (k : Int) := ⟨_, rfl⟩
          have HSK := Lib.hid hs
          go_upto_region 10 with (fail)
          refine jp ?_
          refine jv (.bool true) (exec_lss _ _ _ _ (by rfl) .i64 (k : Int) 3001 (by rfl) (by rfl) true (decide_eq_true (by omega))) ?_
          refine jz fun X1 hX1 => ?_
          have HO : Hid (OutD _ _ _ _ _ _) := HO.out.bel hX1
          have hB0 := hB0.bel hX1
          have hB1 := hB1.bel hX1
          have hb := bel_next hb hX1
          clear hX1
          go_upto_region 11 with (fail)
          refine jp ?_
          refine jm (.int .i64 (k : Int)) ?_
          refine jm (.int .i64 (k : Int)) ?_
          refine jz fun X2 hX2 => ?_
          have HO : Hid (OutD _ _ _ _ _ _) := HO.out.bel hX2
          have hB0 := hB0.bel hX2
          have hB1 := hB1.bel hX2
          have hb := bel_next hb hX2
          clear hX2
          go_upto_region 12 with (fail)
          refine jp ?_
          refine jm (.int .i64 (k : Int)) ?_
          refine jv (.int .i64 s) (exec_add _ _ _ _ (by rfl) (-1000) (k : Int) s (by rfl) (by rfl) (by omega) (by omega) (by omega)) ?_
          refine jm (.int .i64 s) ?_
          refine jz fun X3 hX3 => ?_
          have HO : Hid (OutD _ _ _ _ _ _) := HO.out.bel hX3
          have hB0 := hB0.bel hX3
          have hB1 := hB1.bel hX3
          have hb := bel_next hb hX3
          clear hX3
          have hsb : -1000 ≤ s ∧ s ≤ 2000 := by omega
          clear hs
          by_cases hfe : (flowAt (l.map kp) s) = (flowAt (m.map kp) s)
          · go_upto_region 13 with (fail)
            refine jd ?_
            refine ja hB0 Tryz.underlying48 (by rfl) info_cv ?_
            refine jm (.int .i64 s) ?_
            refine jc (rt (rN (flowAt (l.map kp) s)) (rP (flowAt (l.map kp) s)) (rD (flowAt (l.map kp) s))) (fun X hX hF => catC b off n c l s X (HRX.out X (hb.trans (Below.mono hX hb.size))) hln hok hf) ?_
            refine ja hB1 Tryz.underlying48 (by rfl) info_cv ?_
            refine jm (.int .i64 s) ?_
            refine jc (rt (rN (flowAt (m.map kp) s)) (rP (flowAt (m.map kp) s)) (rD (flowAt (m.map kp) s))) (fun X hX hF => catC b2 off2 n' c' m s X (HRY.out X (hb.trans (Below.mono hX hb.size))) hlm hok2 hf') ?_
            refine jv (.bool true) (exec_eqr _ _ (by rfl) (rN (flowAt (l.map kp) s)) (rP (flowAt (l.map kp) s)) (rD (flowAt (l.map kp) s)) (rN (flowAt (m.map kp) s)) (rP (flowAt (m.map kp) s)) (rD (flowAt (m.map kp) s)) (by rfl) (by rfl) true (rb_eqt hfe)) ?_
            refine jz fun X4 hX4 => ?_
            have HO : Hid (OutD _ _ _ _ _ _) := HO.out.bel hX4
            have hB0 := hB0.bel hX4
            have hB1 := hB1.bel hX4
            have hb := bel_next hb hX4
            clear hX4
            have HN : Hid (OutD X4 (w.heap.size + 1) A9 n9 c9 (dfl (l.map kp) (m.map kp) (k + 1))) := by
              show OutD _ _ _ _ _ _
              rw [dfl_same (by rw [← HSK.out]; exact hfe)]
              exact HO.out
            go_upto_region 18 with (fail)
            refine jp ?_
            refine jv (.int .i64 ((k + 1 : Nat) : Int)) (exec_add _ _ _ _ (by rfl) (k : Int) 1 ((k + 1 : Nat) : Int) (by rfl) (by rfl) (by omega) (by omega) (by omega)) ?_
            refine jm (.int .i64 ((k + 1 : Nat) : Int)) ?_
            refine jz fun X5 hX5 => ?_
            have HN : Hid (OutD _ _ _ _ _ _) := HN.out.bel hX5
            have hB0 := hB0.bel hX5
            have hB1 := hB1.bel hX5
            have hb := bel_next hb hX5
            clear hX5
            go_wp2
            go_roundw
            case rel => exact ⟨k + 1, A9, n9, c9, by omega, rfl, rfl, HN, hB0, hB1, hb⟩
            case measure => simp [intOf]; omega
          · go_upto_region 13 with (fail)
            refine jd ?_
            refine ja hB0 Tryz.underlying48 (by rfl) info_cv ?_
            refine jm (.int .i64 s) ?_
            refine jc (rt (rN (flowAt (l.map kp) s)) (rP (flowAt (l.map kp) s)) (rD (flowAt (l.map kp) s))) (fun X hX hF => catC b off n c l s X (HRX.out X (hb.trans (Below.mono hX hb.size))) hln hok hf) ?_
            refine ja hB1 Tryz.underlying48 (by rfl) info_cv ?_
            refine jm (.int .i64 s) ?_
            refine jc (rt (rN (flowAt (m.map kp) s)) (rP (flowAt (m.map kp) s)) (rD (flowAt (m.map kp) s))) (fun X hX hF => catC b2 off2 n' c' m s X (HRY.out X (hb.trans (Below.mono hX hb.size))) hlm hok2 hf') ?_
            refine jv (.bool false) (exec_eqr _ _ (by rfl) (rN (flowAt (l.map kp) s)) (rP (flowAt (l.map kp) s)) (rD (flowAt (l.map kp) s)) (rN (flowAt (m.map kp) s)) (rP (flowAt (m.map kp) s)) (rD (flowAt (m.map kp) s)) (by rfl) (by rfl) false (rb_eqf hfe)) ?_
            refine jz fun X4 hX4 => ?_
            have HO : Hid (OutD _ _ _ _ _ _) := HO.out.bel hX4
            have hB0 := hB0.bel hX4
            have hB1 := hB1.bel hX4
            have hb := bel_next hb hX4
            clear hX4
            have HD : Hid (dfl (l.map kp) (m.map kp) (k + 1) = dfS (dfl (l.map kp) (m.map kp) k) s) := by
              show (if _ then _ else _) = _
              rw [← HSK.out, if_neg hfe]
            go_upto_region 14 with (fail)
            refine jp ?_
            refine jm (.slice A9 n9 c9) ?_
            refine jv (.int .i64 (n9 : Int)) (exec_lenv Tryz.underlying61 _ (by rfl) A9 n9 c9 (by rfl) _ rfl) ?_
            refine jm (.int .i64 (n9 : Int)) ?_
            refine jz fun X5 hX5 => ?_
            have HO : Hid (OutD _ _ _ _ _ _) := HO.out.bel hX5
            have hB0 := hB0.bel hX5
            have hB1 := hB1.bel hX5
            have hb := bel_next hb hX5
            clear hX5
            rcases Nat.eq_zero_or_pos n9 with hn0 | hn0
            · obtain ⟨hl0, hA0, hc0⟩ : n9 = 0 ∧ A9 = none ∧ c9 = 0 := by
                rcases HO.out.2 with h9 | ⟨_, _, _, _, h9, _⟩
                · exact h9
                · omega
              subst hl0 hA0 hc0
              go_upto_region 15 with (fail)
              refine jp ?_
              refine jm (.int .i64 ((0 : Nat) : Int)) ?_
              refine jv (.bool false) (exec_gtr _ _ _ _ (by rfl) .i64 ((0 : Nat) : Int) 0 (by rfl) (by rfl) false (by rfl)) ?_
              refine jm (.bool false) ?_
              refine js ?_
              refine js ?_
              refine js ?_
              refine js ?_
              refine js ?_
              refine js ?_
              refine js ?_
              refine js ?_
              refine js ?_
              refine jm (.bool false) ?_
              refine jz fun X6 hX6 => ?_
              have HO : Hid (OutD _ _ _ _ _ _) := HO.out.bel hX6
              have hB0 := hB0.bel hX6
              have hB1 := hB1.bel hX6
              have hb := bel_next hb hX6
              clear hX6
              have hrf := HO.out.rdf
              have hO1 := HO.out
              go_upto_region 17 with (fail)
              go_upto_region 18 with (at_builtin; go_loud (refine append_cpo [.int .i64 s, .int .i64 s] 73 rfl (.tmp 63) (.tmp 67) 61 rfl 73 _ 2 16 Tryz.underlying61 info_btz rfl (by decide) _ _ _ (by rfl) hrf (by rfl) (by rfl) (by intro u hu; simp only [List.mem_cons, List.not_mem_nil, or_false] at hu; rcases hu with rfl | rfl <;> rfl) (by omega) (by unfold maxLen; omega) ?_); intro g9 c8 tl w7 hg9 hc8 hc7 hB9 hb7)
              have hB0l := hB1.lt
              have HN : Hid (OutD w7 (w.heap.size + 1) (some ⟨g9, 0, none⟩) (0 + 1) c8 (dfl (l.map kp) (m.map kp) (k + 1))) := by
                show OutD _ _ _ _ _ _
                have e9 : dfl (l.map kp) (m.map kp) (k + 1) = dfl (l.map kp) (m.map kp) k ++ [(s, s)] := by rw [HD.out]; exact dfS_of_nil hO1.1
                rw [e9]
                refine ⟨by rw [List.length_append, hO1.1]; rfl, .inr ⟨g9, tl, rfl, by omega, by omega, hc8, hc7, ?_⟩⟩
                rw [fl_snoc]
                exact hB9
              have hB0 := hB0.bel hb7
              have hB1 := hB1.bel hb7
              have hb := hb.trans (hb7.mono hb.size)
              clear hb7 hg9 hB9 hO1 hrf HO HD
              refine jp ?_
              refine jv (.int .i64 ((k + 1 : Nat) : Int)) (exec_add _ _ _ _ (by rfl) (k : Int) 1 ((k + 1 : Nat) : Int) (by rfl) (by rfl) (by omega) (by omega) (by omega)) ?_
              refine jm (.int .i64 ((k + 1 : Nat) : Int)) ?_
              refine jz fun X7 hX7 => ?_
              have HN : Hid (OutD _ _ _ _ _ _) := HN.out.bel hX7
              have hB0 := hB0.bel hX7
              have hB1 := hB1.bel hX7
              have hb := bel_next hb hX7
              clear hX7
              go_wp2
              go_roundw
              case rel => exact ⟨k + 1, some ⟨g9, 0, none⟩, 0 + 1, c8, by omega, rfl, rfl, HN, hB0, hB1, hb⟩
              case measure => simp [intOf]; omega
            · obtain ⟨o, x, hox⟩ : ∃ o x, dfl (l.map kp) (m.map kp) k = o ++ [x] := by
                rcases List.eq_nil_or_concat (dfl (l.map kp) (m.map kp) k) with h9 | ⟨o, x, h9⟩
                · have := HO.out.1
                  rw [h9] at this
                  have h8 : (0 : Nat) = n9 := this
                  omega
                · exact ⟨o, x, by rw [h9, List.concat_eq_append]⟩
              have HOX := Lib.hid hox
              clear hox
              obtain ⟨g9, tl, hA9, hg9, hnp, hcn, hcm, hB9⟩ : ∃ g tl, A9 = some ⟨g, 0, none⟩ ∧ w.heap.size + 1 < g ∧ 0 < n9 ∧ n9 ≤ c9 ∧ c9 ≤ maxLen ∧ Blk _ g _ (fl btc (o ++ [x]) ++ tl) := by
                rcases HO.out.2 with ⟨e1, _⟩ | ⟨g, tl, e1, e2, e3, e4, e5, e6⟩
                · omega
                · exact ⟨g, tl, e1, e2, e3, e4, e5, by rw [← HOX.out]; exact e6⟩
              subst hA9
              have hol : o.length = n9 - 1 := by
                have h9 := HO.out.1
                rw [HOX.out, List.length_append] at h9
                simp at h9
                omega
              have hcx : Cl _ g9 (0 + (n9 - 1) * 2) (btc x) := hB9.cl.part ((n9 - 1) * 2) (btc x) (by rw [← hol]; exact flb_at o x tl)
              have hbb := hB9.lt
              by_cases hx2 : x.2 = s - 1
              · go_upto_region 15 with (fail)
                refine jp ?_
                refine jm (.int .i64 (n9 : Int)) ?_
                refine jv (.bool true) (exec_gtr _ _ _ _ (by rfl) .i64 (n9 : Int) 0 (by rfl) (by rfl) true (decide_eq_true (by omega))) ?_
                refine jm (.bool true) ?_
                refine jm (.slice (some ⟨g9, 0, none⟩) n9 c9) ?_
                refine jm (.int .i64 (n9 : Int)) ?_
                refine jv (.int .i64 ((n9 - 1 : Nat) : Int)) (exec_sub _ _ _ _ (by rfl) (n9 : Int) 1 ((n9 - 1 : Nat) : Int) (by rfl) (by rfl) (by omega) (by omega) (by omega)) ?_
                refine jv (.pointer (some ⟨g9, 0 + (n9 - 1) * 2, none⟩)) (exec_ixv Tryz.underlying61 info_bt _ _ (by rfl) g9 (0) n9 c9 (n9 - 1) (by omega) (by rfl) (by rfl) rfl) ?_
                refine jn (.pointer (some ⟨g9, 0 + (n9 - 1) * 2 + 1, none⟩)) ?_
                refine jg (.int .i64 x.2) (fun X hX hF => exec_ld 3 _ (by rfl) g9 (0 + (n9 - 1) * 2 + 1) (by rfl) _ X ((hcx.below hX hbb) 1 _ rfl) (fun X u h => load_int g9 (0 + (n9 - 1) * 2 + 1) X u h)) ?_
                refine jm (.int .i64 s) ?_
                refine jv (.int .i64 (s - 1)) (exec_sub _ _ _ _ (by rfl) s 1 (s - 1) (by rfl) (by rfl) (by omega) (by omega) (by omega)) ?_
                refine jv (.bool true) (exec_eqi _ _ _ _ (by rfl) .i64 x.2 (s - 1) (by rfl) (by rfl) true (decide_eq_true hx2)) ?_
                refine jm (.bool true) ?_
                refine jz fun X6 hX6 => ?_
                have HO : Hid (OutD _ _ _ _ _ _) := HO.out.bel hX6
                have hB0 := hB0.bel hX6
                have hB1 := hB1.bel hX6
                have hB9 := hB9.bel hX6
                have hcx := hcx.below hX6 hbb
                replace hbb := Nat.lt_of_lt_of_le hbb (hX6).size
                have hb := bel_next hb hX6
                clear hX6
                go_upto_region 16 with (fail)
                refine jq 6 ?_
                refine jm (.slice (some ⟨g9, 0, none⟩) n9 c9) ?_
                refine jm (.int .i64 (n9 : Int)) ?_
                refine jv (.int .i64 ((n9 - 1 : Nat) : Int)) (exec_sub _ _ _ _ (by rfl) (n9 : Int) 1 ((n9 - 1 : Nat) : Int) (by rfl) (by rfl) (by omega) (by omega) (by omega)) ?_
                refine jm (.int .i64 s) ?_
                refine jv (.pointer (some ⟨g9, 0 + (n9 - 1) * 2, none⟩)) (exec_ixv Tryz.underlying61 info_bt _ _ (by rfl) g9 (0) n9 c9 (n9 - 1) (by omega) (by rfl) (by rfl) rfl) ?_
                refine jn (.pointer (some ⟨g9, 0 + (n9 - 1) * 2 + 1, none⟩)) ?_
                refine jz fun X7 hX7 => ?_
                have HO : Hid (OutD _ _ _ _ _ _) := HO.out.bel hX7
                have hB0 := hB0.bel hX7
                have hB1 := hB1.bel hX7
                have hB9 := hB9.bel hX7
                have hcx := hcx.below hX7 hbb
                replace hbb := Nat.lt_of_lt_of_le hbb (hX7).size
                have hb := bel_next hb hX7
                clear hX7
                refine op_store1 rfl g9 (0 + (n9 - 1) * 2 + 1) 73 _ hB9 (.int .i64 s) (by rw [List.length_append, fl_len (fun x _ => btc_len x), List.length_append]; show _ < (o.length + 1) * 2 + _; omega) (fun X u h1 h2 => exec_sti _ _ (by rfl) _ _ (by rfl) (by rfl) u X h1 h2) ?_
                intro w9 hR9 hO9 hB8
                rw [Nat.zero_add, ← hol, flb_grow] at hR9
                have hb := hB8 _ _ hb (by omega)
                have hB0 := hO9 _ _ _ (by omega) hB0
                have hB1 := hO9 _ _ _ (by omega) hB1
                have HN : Hid (OutD w9 (w.heap.size + 1) (some ⟨g9, 0, none⟩) n9 c9 (dfl (l.map kp) (m.map kp) (k + 1))) := by
                  show OutD _ _ _ _ _ _
                  rw [HD.out, HOX.out, dfS_grow o x hx2]
                  exact ⟨by rw [List.length_append, hol]; show n9 - 1 + 1 = n9; omega, .inr ⟨g9, tl, rfl, hg9, hnp, hcn, hcm, hR9⟩⟩
                clear hR9 hO9 hB8 hcx hbb hB9
                go_upto_region 18 with (fail)
                refine jp ?_
                refine jv (.int .i64 ((k + 1 : Nat) : Int)) (exec_add _ _ _ _ (by rfl) (k : Int) 1 ((k + 1 : Nat) : Int) (by rfl) (by rfl) (by omega) (by omega) (by omega)) ?_
                refine jm (.int .i64 ((k + 1 : Nat) : Int)) ?_
                refine jz fun X8 hX8 => ?_
                have HN : Hid (OutD _ _ _ _ _ _) := HN.out.bel hX8
                have hB0 := hB0.bel hX8
                have hB1 := hB1.bel hX8
                have hb := bel_next hb hX8
                clear hX8
                go_wp2
                go_roundw
                case rel => exact ⟨k + 1, some ⟨g9, 0, none⟩, n9, c9, by omega, rfl, rfl, HN, hB0, hB1, hb⟩
                case measure => simp [intOf]; omega
              · go_upto_region 15 with (fail)
                refine jp ?_
                refine jm (.int .i64 (n9 : Int)) ?_
                refine jv (.bool true) (exec_gtr _ _ _ _ (by rfl) .i64 (n9 : Int) 0 (by rfl) (by rfl) true (decide_eq_true (by omega))) ?_
                refine jm (.bool true) ?_
                refine jm (.slice (some ⟨g9, 0, none⟩) n9 c9) ?_
                refine jm (.int .i64 (n9 : Int)) ?_
                refine jv (.int .i64 ((n9 - 1 : Nat) : Int)) (exec_sub _ _ _ _ (by rfl) (n9 : Int) 1 ((n9 - 1 : Nat) : Int) (by rfl) (by rfl) (by omega) (by omega) (by omega)) ?_
                refine jv (.pointer (some ⟨g9, 0 + (n9 - 1) * 2, none⟩)) (exec_ixv Tryz.underlying61 info_bt _ _ (by rfl) g9 (0) n9 c9 (n9 - 1) (by omega) (by rfl) (by rfl) rfl) ?_
                refine jn (.pointer (some ⟨g9, 0 + (n9 - 1) * 2 + 1, none⟩)) ?_
                refine jg (.int .i64 x.2) (fun X hX hF => exec_ld 3 _ (by rfl) g9 (0 + (n9 - 1) * 2 + 1) (by rfl) _ X ((hcx.below hX hbb) 1 _ rfl) (fun X u h => load_int g9 (0 + (n9 - 1) * 2 + 1) X u h)) ?_
                refine jm (.int .i64 s) ?_
                refine jv (.int .i64 (s - 1)) (exec_sub _ _ _ _ (by rfl) s 1 (s - 1) (by rfl) (by rfl) (by omega) (by omega) (by omega)) ?_
                refine jv (.bool false) (exec_eqi _ _ _ _ (by rfl) .i64 x.2 (s - 1) (by rfl) (by rfl) false (decide_eq_false hx2)) ?_
                refine jm (.bool false) ?_
                refine jz fun X6 hX6 => ?_
                have HO : Hid (OutD _ _ _ _ _ _) := HO.out.bel hX6
                have hB0 := hB0.bel hX6
                have hB1 := hB1.bel hX6
                have hB9 := hB9.bel hX6
                have hcx := hcx.below hX6 hbb
                replace hbb := Nat.lt_of_lt_of_le hbb (hX6).size
                have hb := bel_next hb hX6
                clear hX6
                clear hB9 hcx hbb
                have hrf := HO.out.rdf
                have hO1 := HO.out
                go_upto_region 17 with (fail)
                go_upto_region 18 with (at_builtin; go_loud (refine append_cpo [.int .i64 s, .int .i64 s] 73 rfl (.tmp 63) (.tmp 67) 61 rfl 73 _ 2 16 Tryz.underlying61 info_btz rfl (by decide) _ _ _ (by rfl) hrf (by rfl) (by rfl) (by intro u hu; simp only [List.mem_cons, List.not_mem_nil, or_false] at hu; rcases hu with rfl | rfl <;> rfl) (by omega) (by unfold maxLen; omega) ?_); intro g8 c8 tl8 w7 hg8 hc8 hc7 hB9 hb7)
                have hB0l := hB1.lt
                have HN : Hid (OutD w7 (w.heap.size + 1) (some ⟨g8, 0, none⟩) (n9 + 1) c8 (dfl (l.map kp) (m.map kp) (k + 1))) := by
                  show OutD _ _ _ _ _ _
                  have e9 : dfl (l.map kp) (m.map kp) (k + 1) = dfl (l.map kp) (m.map kp) k ++ [(s, s)] := by rw [HD.out]; exact by rw [HOX.out]; exact dfS_new o x hx2
                  rw [e9]
                  refine ⟨by rw [List.length_append, hO1.1]; rfl, .inr ⟨g8, tl8, rfl, by omega, by omega, hc8, hc7, ?_⟩⟩
                  rw [fl_snoc]
                  exact hB9
                have hB0 := hB0.bel hb7
                have hB1 := hB1.bel hb7
                have hb := hb.trans (hb7.mono hb.size)
                clear hb7 hg8 hB9 hO1 hrf HO HD
                refine jp ?_
                refine jv (.int .i64 ((k + 1 : Nat) : Int)) (exec_add _ _ _ _ (by rfl) (k : Int) 1 ((k + 1 : Nat) : Int) (by rfl) (by rfl) (by omega) (by omega) (by omega)) ?_
                refine jm (.int .i64 ((k + 1 : Nat) : Int)) ?_
                refine jz fun X7 hX7 => ?_
                have HN : Hid (OutD _ _ _ _ _ _) := HN.out.bel hX7
                have hB0 := hB0.bel hX7
                have hB1 := hB1.bel hX7
                have hb := bel_next hb hX7
                clear hX7
                go_wp2
                go_roundw
                case rel => exact ⟨k + 1, some ⟨g8, 0, none⟩, n9 + 1, c8, by omega, rfl, rfl, HN, hB0, hB1, hb⟩
                case measure => simp [intOf]; omega
        · obtain rfl : k = 3001 := by omega
          go_upto_region 10 with (fail)
          refine jp ?_
          refine jv (.bool false) (exec_lss _ _ _ _ (by rfl) .i64 ((3001 : Nat) : Int) 3001 (by rfl) (by rfl) false (by rfl)) ?_
          refine jz fun X1 hX1 => ?_
          have HO : Hid (OutD _ _ _ _ _ _) := HO.out.bel hX1
          have hB0 := hB0.bel hX1
          have hB1 := hB1.bel hX1
          have hb := bel_next hb hX1
          clear hX1
          go_upto_region 19 with (fail)
          refine jp ?_
          refine jm (.slice A9 n9 c9) ?_
          refine jm (.slice A9 n9 c9) ?_
          refine jm (.int .i64 0) ?_
          refine jz fun X2 hX2 => ?_
          have HO : Hid (OutD _ _ _ _ _ _) := HO.out.bel hX2
          have hB0 := hB0.bel hX2
          have hB1 := hB1.bel hX2
          have hb := bel_next hb hX2
          clear hX2
          go_wp2
          go_ret2
          exact ⟨A9, n9, c9, by rw [HFL.out.1]; rfl, by rw [HFL.out.2]; exact HO.out.rd, by rw [HFL.out.2]; exact HO.out.1, hb⟩
theorem differC (A : Option Addr) (n c : Nat) (l : List Pt) (A' : Option Addr) (n' c' : Nat) (m : List Pt) (w : World) (hr : Rd w 4 (.slice A n c) n (fl ptc l)) (hr' : Rd w 4 (.slice A' n' c') n' (fl ptc m)) (hln : l.length = n) (hlm : m.length = n') (hn1 : n ≤ 9223372036854775807) (hn2 : n' ≤ 9223372036854775807) (hf : fewP l 1000) (hf' : fewP m 1000) : Calls Tryz.prog 44 #[.agg #[.slice A n c], .agg #[.slice A' n' c']] w fun e w' => ∃ A9 m9 c9, e = .returned (.tuple #[.slice A9 m9 c9, .int .i64 (dfE l m)]) ∧ Rd w' 2 (.slice A9 m9 c9) m9 (fl btc (dfL l m)) ∧ (dfL l m).length = m9 ∧ Since w w' := by
  by_cases hc : ck l = 0
  · by_cases hc2 : ck m = 0
    · obtain ⟨b, off, rfl⟩ := some_addr hr hln hc
      obtain ⟨b2, off2, rfl⟩ := some_addr hr' hlm hc2
      exact differCo b off n c l b2 off2 n' c' m w hr hr' hln hlm hn1 hn2 hf hf' hc hc2
    · exact differC2 A n c l A' n' c' m w hr hr' hln hlm hn1 hn2 hf hf' hc hc2
  · exact differC1 A n c l A' n' c' m w hr hr' hln hlm hn1 hn2 hf hf' hc
end Go.Proofs.YtchhlgcakjjncaaGreatDoor
