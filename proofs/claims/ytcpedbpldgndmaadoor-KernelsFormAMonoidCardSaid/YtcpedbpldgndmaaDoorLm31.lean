/-
  law 31: KernelsFormAMonoid.
-/
import Derived.Test.YtcpedbpldgndmaaDoorKq
import Derived.Test.YtcpedbpldgndmaaDoorS31
set_option linter.unusedSimpArgs false
set_option linter.unusedVariables false
set_option maxRecDepth 100000
set_option maxHeartbeats 1600000
namespace Go.Proofs.YtcpedbpldgndmaaDoor
open Go.RowKit
theorem load_u8x (b k : Nat) (X : World) (v : Value) (h : X.cell? ⟨b, k, none⟩ = some v) : (loadVar 5 ⟨b, k, none⟩).run Tryd.prog X = .ok v X := by
  go_simp
theorem kmo0 (u1 u2 u3 : Value) (l m k : List Int) (x y : Nat) (w : World) (h1 : Ks l u1 w) (h2 : Ks m u2 w) (h3 : Ks k u3 w) (hx : x ≤ 255) (hy : y ≤ 255) (HA : Hid (fewK l.length = false)) : Calls Tryd.prog 3 #[.agg #[u1, u2], .agg #[u3], .agg #[.int .u8 (x : Int), .int .u8 (y : Int)]] w fun e w' => e = .returned (.bool true) ∧ Since w w' := by
  obtain ⟨A, n, c, e1, _, _, _⟩ := h1.at
  subst e1
  obtain ⟨A2, n2, c2, e2, _, _, _⟩ := h2.at
  subst e2
  obtain ⟨A3, n3, c3, e3, _, _, _⟩ := h3.at
  subst e3
  have hnil : Ks [] (.slice none 0 0) w := ks_nil w
  have H1 : Hid (∀ X, Since w X → Ks l (.slice A n c) X) := fun X h => Ks.lasts l _ _ _ h1 h
  have H2 : Hid (∀ X, Since w X → Ks m (.slice A2 n2 c2) X) := fun X h => Ks.lasts m _ _ _ h2 h
  have H3 : Hid (∀ X, Since w X → Ks k (.slice A3 n3 c3) X) := fun X h => Ks.lasts k _ _ _ h3 h
  go_enter Tryd.func3, Tryd.ntmps3
  go_upto_region 1 with (fail)
  obtain ⟨W0, hW0, hB0, hB1, hB2, hb⟩ := start3 w 26 24 27 [.slice A n c, .slice A2 n2 c2] [.slice A3 n3 c3] [.int .u8 (x : Int), .int .u8 (y : Int)]
  rw [← hW0]
  clear hW0
  replace h1 := H1.out _ hb
  replace h2 := H2.out _ hb
  replace h3 := H3.out _ hb
  replace hnil : Ks [] (.slice none 0 0) W0 := ks_nil W0
  refine jp ?_
  refine jn (.pointer (some ⟨w.heap.size, 0, none⟩)) ?_
  refine jg (.agg #[.slice A n c]) (fun X hX hF => exec_inr 24 _ (by rfl) w.heap.size 0 [.slice A n c] (by rfl) Tryd.underlying24 rfl X (hB0.bel hX) (by rfl) info_kn) ?_
  refine jc (.bool false) (fun X hX hF => mo (fewV _ l X ⟨_, rfl, ((Ks.lasts l) _ _ _ h1 hX)⟩) (by rw [HA.out])) ?_
  refine jm (.bool true) ?_
  refine jm (.bool true) ?_
  refine js ?_
  refine js ?_
  refine js ?_
  refine js ?_
  refine jm (.bool true) ?_
  refine jm (.bool true) ?_
  refine js ?_
  refine js ?_
  refine js ?_
  refine jm (.bool true) ?_
  refine jm (.bool true) ?_
  refine js ?_
  refine js ?_
  refine js ?_
  refine js ?_
  refine jm (.bool true) ?_
  refine jm (.bool true) ?_
  refine js ?_
  refine js ?_
  refine js ?_
  refine js ?_
  refine jm (.bool true) ?_
  refine jm (.bool true) ?_
  refine js ?_
  refine js ?_
  refine js ?_
  refine jm (.bool true) ?_
  refine jz fun X1 hX1 => ?_
  replace h1 := (Ks.lasts l) _ _ _ h1 hX1
  replace h2 := (Ks.lasts m) _ _ _ h2 hX1
  replace h3 := (Ks.lasts k) _ _ _ h3 hX1
  replace hnil := (Ks.lasts []) _ _ _ hnil hX1
  replace hB0 := hB0.bel hX1
  replace hB1 := hB1.bel hX1
  replace hB2 := hB2.bel hX1
  have hb := bel_next hb hX1
  clear hX1
  go_upto_region 2 with (fail)
  refine jp ?_
  refine jc (.bool true) (fun X hX hF => sanC X) ?_
  refine jm (.bool true) ?_
  refine jz fun X2 hX2 => ?_
  replace h1 := (Ks.lasts l) _ _ _ h1 hX2
  replace h2 := (Ks.lasts m) _ _ _ h2 hX2
  replace h3 := (Ks.lasts k) _ _ _ h3 hX2
  replace hnil := (Ks.lasts []) _ _ _ hnil hX2
  replace hB0 := hB0.bel hX2
  replace hB1 := hB1.bel hX2
  replace hB2 := hB2.bel hX2
  have hb := bel_next hb hX2
  clear hX2
  go_wp2
  go_ret
  exact ⟨rfl, hb⟩
theorem kmo1 (u1 u2 u3 : Value) (l m k : List Int) (x y : Nat) (w : World) (h1 : Ks l u1 w) (h2 : Ks m u2 w) (h3 : Ks k u3 w) (hx : x ≤ 255) (hy : y ≤ 255) (HA : Hid (fewK l.length = true)) (HB : Hid (fewK m.length = false)) : Calls Tryd.prog 3 #[.agg #[u1, u2], .agg #[u3], .agg #[.int .u8 (x : Int), .int .u8 (y : Int)]] w fun e w' => e = .returned (.bool true) ∧ Since w w' := by
  obtain ⟨A, n, c, e1, _, _, _⟩ := h1.at
  subst e1
  obtain ⟨A2, n2, c2, e2, _, _, _⟩ := h2.at
  subst e2
  obtain ⟨A3, n3, c3, e3, _, _, _⟩ := h3.at
  subst e3
  have hnil : Ks [] (.slice none 0 0) w := ks_nil w
  have H1 : Hid (∀ X, Since w X → Ks l (.slice A n c) X) := fun X h => Ks.lasts l _ _ _ h1 h
  have H2 : Hid (∀ X, Since w X → Ks m (.slice A2 n2 c2) X) := fun X h => Ks.lasts m _ _ _ h2 h
  have H3 : Hid (∀ X, Since w X → Ks k (.slice A3 n3 c3) X) := fun X h => Ks.lasts k _ _ _ h3 h
  go_enter Tryd.func3, Tryd.ntmps3
  go_upto_region 1 with (fail)
  obtain ⟨W0, hW0, hB0, hB1, hB2, hb⟩ := start3 w 26 24 27 [.slice A n c, .slice A2 n2 c2] [.slice A3 n3 c3] [.int .u8 (x : Int), .int .u8 (y : Int)]
  rw [← hW0]
  clear hW0
  replace h1 := H1.out _ hb
  replace h2 := H2.out _ hb
  replace h3 := H3.out _ hb
  replace hnil : Ks [] (.slice none 0 0) W0 := ks_nil W0
  refine jp ?_
  refine jn (.pointer (some ⟨w.heap.size, 0, none⟩)) ?_
  refine jg (.agg #[.slice A n c]) (fun X hX hF => exec_inr 24 _ (by rfl) w.heap.size 0 [.slice A n c] (by rfl) Tryd.underlying24 rfl X (hB0.bel hX) (by rfl) info_kn) ?_
  refine jc (.bool true) (fun X hX hF => mo (fewV _ l X ⟨_, rfl, ((Ks.lasts l) _ _ _ h1 hX)⟩) (by rw [HA.out])) ?_
  refine jm (.bool false) ?_
  refine jm (.bool false) ?_
  refine jn (.pointer (some ⟨w.heap.size, 1, none⟩)) ?_
  refine jg (.agg #[.slice A2 n2 c2]) (fun X hX hF => exec_inr 24 _ (by rfl) w.heap.size 1 [.slice A2 n2 c2] (by rfl) Tryd.underlying24 rfl X (hB0.bel hX) (by rfl) info_kn) ?_
  refine jc (.bool false) (fun X hX hF => mo (fewV _ m X ⟨_, rfl, ((Ks.lasts m) _ _ _ h2 hX)⟩) (by rw [HB.out])) ?_
  refine jm (.bool true) ?_
  refine jm (.bool true) ?_
  refine jm (.bool true) ?_
  refine js ?_
  refine js ?_
  refine js ?_
  refine jm (.bool true) ?_
  refine jm (.bool true) ?_
  refine js ?_
  refine js ?_
  refine js ?_
  refine js ?_
  refine jm (.bool true) ?_
  refine jm (.bool true) ?_
  refine js ?_
  refine js ?_
  refine js ?_
  refine js ?_
  refine jm (.bool true) ?_
  refine jm (.bool true) ?_
  refine js ?_
  refine js ?_
  refine js ?_
  refine jm (.bool true) ?_
  refine jz fun X1 hX1 => ?_
  replace h1 := (Ks.lasts l) _ _ _ h1 hX1
  replace h2 := (Ks.lasts m) _ _ _ h2 hX1
  replace h3 := (Ks.lasts k) _ _ _ h3 hX1
  replace hnil := (Ks.lasts []) _ _ _ hnil hX1
  replace hB0 := hB0.bel hX1
  replace hB1 := hB1.bel hX1
  replace hB2 := hB2.bel hX1
  have hb := bel_next hb hX1
  clear hX1
  go_upto_region 2 with (fail)
  refine jp ?_
  refine jc (.bool true) (fun X hX hF => sanC X) ?_
  refine jm (.bool true) ?_
  refine jz fun X2 hX2 => ?_
  replace h1 := (Ks.lasts l) _ _ _ h1 hX2
  replace h2 := (Ks.lasts m) _ _ _ h2 hX2
  replace h3 := (Ks.lasts k) _ _ _ h3 hX2
  replace hnil := (Ks.lasts []) _ _ _ hnil hX2
  replace hB0 := hB0.bel hX2
  replace hB1 := hB1.bel hX2
  replace hB2 := hB2.bel hX2
  have hb := bel_next hb hX2
  clear hX2
  go_wp2
  go_ret
  exact ⟨rfl, hb⟩
theorem kmo2 (u1 u2 u3 : Value) (l m k : List Int) (x y : Nat) (w : World) (h1 : Ks l u1 w) (h2 : Ks m u2 w) (h3 : Ks k u3 w) (hx : x ≤ 255) (hy : y ≤ 255) (HA : Hid (fewK l.length = true)) (HB : Hid (fewK m.length = true)) (HC : Hid (fewK k.length = false)) : Calls Tryd.prog 3 #[.agg #[u1, u2], .agg #[u3], .agg #[.int .u8 (x : Int), .int .u8 (y : Int)]] w fun e w' => e = .returned (.bool true) ∧ Since w w' := by
  obtain ⟨A, n, c, e1, _, _, _⟩ := h1.at
  subst e1
  obtain ⟨A2, n2, c2, e2, _, _, _⟩ := h2.at
  subst e2
  obtain ⟨A3, n3, c3, e3, _, _, _⟩ := h3.at
  subst e3
  have hnil : Ks [] (.slice none 0 0) w := ks_nil w
  have H1 : Hid (∀ X, Since w X → Ks l (.slice A n c) X) := fun X h => Ks.lasts l _ _ _ h1 h
  have H2 : Hid (∀ X, Since w X → Ks m (.slice A2 n2 c2) X) := fun X h => Ks.lasts m _ _ _ h2 h
  have H3 : Hid (∀ X, Since w X → Ks k (.slice A3 n3 c3) X) := fun X h => Ks.lasts k _ _ _ h3 h
  go_enter Tryd.func3, Tryd.ntmps3
  go_upto_region 1 with (fail)
  obtain ⟨W0, hW0, hB0, hB1, hB2, hb⟩ := start3 w 26 24 27 [.slice A n c, .slice A2 n2 c2] [.slice A3 n3 c3] [.int .u8 (x : Int), .int .u8 (y : Int)]
  rw [← hW0]
  clear hW0
  replace h1 := H1.out _ hb
  replace h2 := H2.out _ hb
  replace h3 := H3.out _ hb
  replace hnil : Ks [] (.slice none 0 0) W0 := ks_nil W0
  refine jp ?_
  refine jn (.pointer (some ⟨w.heap.size, 0, none⟩)) ?_
  refine jg (.agg #[.slice A n c]) (fun X hX hF => exec_inr 24 _ (by rfl) w.heap.size 0 [.slice A n c] (by rfl) Tryd.underlying24 rfl X (hB0.bel hX) (by rfl) info_kn) ?_
  refine jc (.bool true) (fun X hX hF => mo (fewV _ l X ⟨_, rfl, ((Ks.lasts l) _ _ _ h1 hX)⟩) (by rw [HA.out])) ?_
  refine jm (.bool false) ?_
  refine jm (.bool false) ?_
  refine jn (.pointer (some ⟨w.heap.size, 1, none⟩)) ?_
  refine jg (.agg #[.slice A2 n2 c2]) (fun X hX hF => exec_inr 24 _ (by rfl) w.heap.size 1 [.slice A2 n2 c2] (by rfl) Tryd.underlying24 rfl X (hB0.bel hX) (by rfl) info_kn) ?_
  refine jc (.bool true) (fun X hX hF => mo (fewV _ m X ⟨_, rfl, ((Ks.lasts m) _ _ _ h2 hX)⟩) (by rw [HB.out])) ?_
  refine jm (.bool false) ?_
  refine jm (.bool false) ?_
  refine jm (.bool false) ?_
  refine ja hB1 Tryd.underlying24 (by rfl) info_kn ?_
  refine jc (.bool false) (fun X hX hF => mo (fewV _ k X ⟨_, rfl, ((Ks.lasts k) _ _ _ h3 hX)⟩) (by rw [HC.out])) ?_
  refine jm (.bool true) ?_
  refine jm (.bool true) ?_
  refine jm (.bool true) ?_
  refine js ?_
  refine js ?_
  refine js ?_
  refine js ?_
  refine jm (.bool true) ?_
  refine jm (.bool true) ?_
  refine js ?_
  refine js ?_
  refine js ?_
  refine js ?_
  refine jm (.bool true) ?_
  refine jm (.bool true) ?_
  refine js ?_
  refine js ?_
  refine js ?_
  refine jm (.bool true) ?_
  refine jz fun X1 hX1 => ?_
  replace h1 := (Ks.lasts l) _ _ _ h1 hX1
  replace h2 := (Ks.lasts m) _ _ _ h2 hX1
  replace h3 := (Ks.lasts k) _ _ _ h3 hX1
  replace hnil := (Ks.lasts []) _ _ _ hnil hX1
  replace hB0 := hB0.bel hX1
  replace hB1 := hB1.bel hX1
  replace hB2 := hB2.bel hX1
  have hb := bel_next hb hX1
  clear hX1
  go_upto_region 2 with (fail)
  refine jp ?_
  refine jc (.bool true) (fun X hX hF => sanC X) ?_
  refine jm (.bool true) ?_
  refine jz fun X2 hX2 => ?_
  replace h1 := (Ks.lasts l) _ _ _ h1 hX2
  replace h2 := (Ks.lasts m) _ _ _ h2 hX2
  replace h3 := (Ks.lasts k) _ _ _ h3 hX2
  replace hnil := (Ks.lasts []) _ _ _ hnil hX2
  replace hB0 := hB0.bel hX2
  replace hB1 := hB1.bel hX2
  replace hB2 := hB2.bel hX2
  have hb := bel_next hb hX2
  clear hX2
  go_wp2
  go_ret
  exact ⟨rfl, hb⟩
theorem kmo3 (u1 u2 u3 : Value) (l m k : List Int) (x y : Nat) (w : World) (h1 : Ks l u1 w) (h2 : Ks m u2 w) (h3 : Ks k u3 w) (hx : x ≤ 255) (hy : y ≤ 255) (HA : Hid (fewK l.length = true)) (HB : Hid (fewK m.length = true)) (HC : Hid (fewK k.length = true)) (HD : Hid (kcE l ≠ 0)) : Calls Tryd.prog 3 #[.agg #[u1, u2], .agg #[u3], .agg #[.int .u8 (x : Int), .int .u8 (y : Int)]] w fun e w' => e = .returned (.bool true) ∧ Since w w' := by
  obtain ⟨z, z9⟩ : ∃ z, kcE l = z := ⟨_, rfl⟩
  have HZ := Lib.hid z9
  have hz0 : z ≠ 0 := by rw [← z9]; exact HD.out
  clear z9
  obtain ⟨A, n, c, e1, _, _, _⟩ := h1.at
  subst e1
  obtain ⟨A2, n2, c2, e2, _, _, _⟩ := h2.at
  subst e2
  obtain ⟨A3, n3, c3, e3, _, _, _⟩ := h3.at
  subst e3
  have hnil : Ks [] (.slice none 0 0) w := ks_nil w
  have H1 : Hid (∀ X, Since w X → Ks l (.slice A n c) X) := fun X h => Ks.lasts l _ _ _ h1 h
  have H2 : Hid (∀ X, Since w X → Ks m (.slice A2 n2 c2) X) := fun X h => Ks.lasts m _ _ _ h2 h
  have H3 : Hid (∀ X, Since w X → Ks k (.slice A3 n3 c3) X) := fun X h => Ks.lasts k _ _ _ h3 h
  go_enter Tryd.func3, Tryd.ntmps3
  go_upto_region 1 with (fail)
  obtain ⟨W0, hW0, hB0, hB1, hB2, hb⟩ := start3 w 26 24 27 [.slice A n c, .slice A2 n2 c2] [.slice A3 n3 c3] [.int .u8 (x : Int), .int .u8 (y : Int)]
  rw [← hW0]
  clear hW0
  replace h1 := H1.out _ hb
  replace h2 := H2.out _ hb
  replace h3 := H3.out _ hb
  replace hnil : Ks [] (.slice none 0 0) W0 := ks_nil W0
  refine jp ?_
  refine jn (.pointer (some ⟨w.heap.size, 0, none⟩)) ?_
  refine jg (.agg #[.slice A n c]) (fun X hX hF => exec_inr 24 _ (by rfl) w.heap.size 0 [.slice A n c] (by rfl) Tryd.underlying24 rfl X (hB0.bel hX) (by rfl) info_kn) ?_
  refine jc (.bool true) (fun X hX hF => mo (fewV _ l X ⟨_, rfl, ((Ks.lasts l) _ _ _ h1 hX)⟩) (by rw [HA.out])) ?_
  refine jm (.bool false) ?_
  refine jm (.bool false) ?_
  refine jn (.pointer (some ⟨w.heap.size, 1, none⟩)) ?_
  refine jg (.agg #[.slice A2 n2 c2]) (fun X hX hF => exec_inr 24 _ (by rfl) w.heap.size 1 [.slice A2 n2 c2] (by rfl) Tryd.underlying24 rfl X (hB0.bel hX) (by rfl) info_kn) ?_
  refine jc (.bool true) (fun X hX hF => mo (fewV _ m X ⟨_, rfl, ((Ks.lasts m) _ _ _ h2 hX)⟩) (by rw [HB.out])) ?_
  refine jm (.bool false) ?_
  refine jm (.bool false) ?_
  refine jm (.bool false) ?_
  refine ja hB1 Tryd.underlying24 (by rfl) info_kn ?_
  refine jc (.bool true) (fun X hX hF => mo (fewV _ k X ⟨_, rfl, ((Ks.lasts k) _ _ _ h3 hX)⟩) (by rw [HC.out])) ?_
  refine jm (.bool false) ?_
  refine jm (.bool false) ?_
  refine jm (.bool false) ?_
  refine jn (.pointer (some ⟨w.heap.size, 0, none⟩)) ?_
  refine jg (.agg #[.slice A n c]) (fun X hX hF => exec_inr 24 _ (by rfl) w.heap.size 0 [.slice A n c] (by rfl) Tryd.underlying24 rfl X (hB0.bel hX) (by rfl) info_kn) ?_
  refine jc (.int .i64 z) (fun X hX hF => kchV _ l X ⟨_, rfl, ((Ks.lasts l) _ _ _ h1 hX)⟩ HZ.out) ?_
  refine jv (.bool true) (exec_nei _ _ _ _ (by rfl) .i64 z 0 (by rfl) (by rfl) true (by rw [decide_eq_false (by omega)]; rfl)) ?_
  refine jm (.bool true) ?_
  refine jm (.bool true) ?_
  refine js ?_
  refine js ?_
  refine js ?_
  refine js ?_
  refine jm (.bool true) ?_
  refine jm (.bool true) ?_
  refine js ?_
  refine js ?_
  refine js ?_
  refine jm (.bool true) ?_
  refine jz fun X1 hX1 => ?_
  replace h1 := (Ks.lasts l) _ _ _ h1 hX1
  replace h2 := (Ks.lasts m) _ _ _ h2 hX1
  replace h3 := (Ks.lasts k) _ _ _ h3 hX1
  replace hnil := (Ks.lasts []) _ _ _ hnil hX1
  replace hB0 := hB0.bel hX1
  replace hB1 := hB1.bel hX1
  replace hB2 := hB2.bel hX1
  have hb := bel_next hb hX1
  clear hX1
  go_upto_region 2 with (fail)
  refine jp ?_
  refine jc (.bool true) (fun X hX hF => sanC X) ?_
  refine jm (.bool true) ?_
  refine jz fun X2 hX2 => ?_
  replace h1 := (Ks.lasts l) _ _ _ h1 hX2
  replace h2 := (Ks.lasts m) _ _ _ h2 hX2
  replace h3 := (Ks.lasts k) _ _ _ h3 hX2
  replace hnil := (Ks.lasts []) _ _ _ hnil hX2
  replace hB0 := hB0.bel hX2
  replace hB1 := hB1.bel hX2
  replace hB2 := hB2.bel hX2
  have hb := bel_next hb hX2
  clear hX2
  go_wp2
  go_ret
  exact ⟨rfl, hb⟩
theorem kmo4 (u1 u2 u3 : Value) (l m k : List Int) (x y : Nat) (w : World) (h1 : Ks l u1 w) (h2 : Ks m u2 w) (h3 : Ks k u3 w) (hx : x ≤ 255) (hy : y ≤ 255) (HA : Hid (fewK l.length = true)) (HB : Hid (fewK m.length = true)) (HC : Hid (fewK k.length = true)) (HD : Hid (kcE l = 0)) (HE : Hid (kcE m ≠ 0)) : Calls Tryd.prog 3 #[.agg #[u1, u2], .agg #[u3], .agg #[.int .u8 (x : Int), .int .u8 (y : Int)]] w fun e w' => e = .returned (.bool true) ∧ Since w w' := by
  obtain ⟨z, z9⟩ : ∃ z, kcE m = z := ⟨_, rfl⟩
  have HZ := Lib.hid z9
  have hz0 : z ≠ 0 := by rw [← z9]; exact HE.out
  clear z9
  obtain ⟨A, n, c, e1, _, _, _⟩ := h1.at
  subst e1
  obtain ⟨A2, n2, c2, e2, _, _, _⟩ := h2.at
  subst e2
  obtain ⟨A3, n3, c3, e3, _, _, _⟩ := h3.at
  subst e3
  have hnil : Ks [] (.slice none 0 0) w := ks_nil w
  have H1 : Hid (∀ X, Since w X → Ks l (.slice A n c) X) := fun X h => Ks.lasts l _ _ _ h1 h
  have H2 : Hid (∀ X, Since w X → Ks m (.slice A2 n2 c2) X) := fun X h => Ks.lasts m _ _ _ h2 h
  have H3 : Hid (∀ X, Since w X → Ks k (.slice A3 n3 c3) X) := fun X h => Ks.lasts k _ _ _ h3 h
  go_enter Tryd.func3, Tryd.ntmps3
  go_upto_region 1 with (fail)
  obtain ⟨W0, hW0, hB0, hB1, hB2, hb⟩ := start3 w 26 24 27 [.slice A n c, .slice A2 n2 c2] [.slice A3 n3 c3] [.int .u8 (x : Int), .int .u8 (y : Int)]
  rw [← hW0]
  clear hW0
  replace h1 := H1.out _ hb
  replace h2 := H2.out _ hb
  replace h3 := H3.out _ hb
  replace hnil : Ks [] (.slice none 0 0) W0 := ks_nil W0
  refine jp ?_
  refine jn (.pointer (some ⟨w.heap.size, 0, none⟩)) ?_
  refine jg (.agg #[.slice A n c]) (fun X hX hF => exec_inr 24 _ (by rfl) w.heap.size 0 [.slice A n c] (by rfl) Tryd.underlying24 rfl X (hB0.bel hX) (by rfl) info_kn) ?_
  refine jc (.bool true) (fun X hX hF => mo (fewV _ l X ⟨_, rfl, ((Ks.lasts l) _ _ _ h1 hX)⟩) (by rw [HA.out])) ?_
  refine jm (.bool false) ?_
  refine jm (.bool false) ?_
  refine jn (.pointer (some ⟨w.heap.size, 1, none⟩)) ?_
  refine jg (.agg #[.slice A2 n2 c2]) (fun X hX hF => exec_inr 24 _ (by rfl) w.heap.size 1 [.slice A2 n2 c2] (by rfl) Tryd.underlying24 rfl X (hB0.bel hX) (by rfl) info_kn) ?_
  refine jc (.bool true) (fun X hX hF => mo (fewV _ m X ⟨_, rfl, ((Ks.lasts m) _ _ _ h2 hX)⟩) (by rw [HB.out])) ?_
  refine jm (.bool false) ?_
  refine jm (.bool false) ?_
  refine jm (.bool false) ?_
  refine ja hB1 Tryd.underlying24 (by rfl) info_kn ?_
  refine jc (.bool true) (fun X hX hF => mo (fewV _ k X ⟨_, rfl, ((Ks.lasts k) _ _ _ h3 hX)⟩) (by rw [HC.out])) ?_
  refine jm (.bool false) ?_
  refine jm (.bool false) ?_
  refine jm (.bool false) ?_
  refine jn (.pointer (some ⟨w.heap.size, 0, none⟩)) ?_
  refine jg (.agg #[.slice A n c]) (fun X hX hF => exec_inr 24 _ (by rfl) w.heap.size 0 [.slice A n c] (by rfl) Tryd.underlying24 rfl X (hB0.bel hX) (by rfl) info_kn) ?_
  refine jc (.int .i64 0) (fun X hX hF => kchV _ l X ⟨_, rfl, ((Ks.lasts l) _ _ _ h1 hX)⟩ HD.out) ?_
  refine jv (.bool false) (exec_nei _ _ _ _ (by rfl) .i64 0 0 (by rfl) (by rfl) false (by rw [decide_eq_true (by omega)]; rfl)) ?_
  refine jm (.bool false) ?_
  refine jm (.bool false) ?_
  refine jn (.pointer (some ⟨w.heap.size, 1, none⟩)) ?_
  refine jg (.agg #[.slice A2 n2 c2]) (fun X hX hF => exec_inr 24 _ (by rfl) w.heap.size 1 [.slice A2 n2 c2] (by rfl) Tryd.underlying24 rfl X (hB0.bel hX) (by rfl) info_kn) ?_
  refine jc (.int .i64 z) (fun X hX hF => kchV _ m X ⟨_, rfl, ((Ks.lasts m) _ _ _ h2 hX)⟩ HZ.out) ?_
  refine jv (.bool true) (exec_nei _ _ _ _ (by rfl) .i64 z 0 (by rfl) (by rfl) true (by rw [decide_eq_false (by omega)]; rfl)) ?_
  refine jm (.bool true) ?_
  refine jm (.bool true) ?_
  refine js ?_
  refine js ?_
  refine js ?_
  refine jm (.bool true) ?_
  refine jz fun X1 hX1 => ?_
  replace h1 := (Ks.lasts l) _ _ _ h1 hX1
  replace h2 := (Ks.lasts m) _ _ _ h2 hX1
  replace h3 := (Ks.lasts k) _ _ _ h3 hX1
  replace hnil := (Ks.lasts []) _ _ _ hnil hX1
  replace hB0 := hB0.bel hX1
  replace hB1 := hB1.bel hX1
  replace hB2 := hB2.bel hX1
  have hb := bel_next hb hX1
  clear hX1
  go_upto_region 2 with (fail)
  refine jp ?_
  refine jc (.bool true) (fun X hX hF => sanC X) ?_
  refine jm (.bool true) ?_
  refine jz fun X2 hX2 => ?_
  replace h1 := (Ks.lasts l) _ _ _ h1 hX2
  replace h2 := (Ks.lasts m) _ _ _ h2 hX2
  replace h3 := (Ks.lasts k) _ _ _ h3 hX2
  replace hnil := (Ks.lasts []) _ _ _ hnil hX2
  replace hB0 := hB0.bel hX2
  replace hB1 := hB1.bel hX2
  replace hB2 := hB2.bel hX2
  have hb := bel_next hb hX2
  clear hX2
  go_wp2
  go_ret
  exact ⟨rfl, hb⟩
theorem kmo5 (u1 u2 u3 : Value) (l m k : List Int) (x y : Nat) (w : World) (h1 : Ks l u1 w) (h2 : Ks m u2 w) (h3 : Ks k u3 w) (hx : x ≤ 255) (hy : y ≤ 255) (HA : Hid (fewK l.length = true)) (HB : Hid (fewK m.length = true)) (HC : Hid (fewK k.length = true)) (HD : Hid (kcE l = 0)) (HE : Hid (kcE m = 0)) (HF : Hid (kcE k ≠ 0)) : Calls Tryd.prog 3 #[.agg #[u1, u2], .agg #[u3], .agg #[.int .u8 (x : Int), .int .u8 (y : Int)]] w fun e w' => e = .returned (.bool true) ∧ Since w w' := by
  obtain ⟨z, z9⟩ : ∃ z, kcE k = z := ⟨_, rfl⟩
  have HZ := Lib.hid z9
  have hz0 : z ≠ 0 := by rw [← z9]; exact HF.out
  clear z9
  obtain ⟨A, n, c, e1, _, _, _⟩ := h1.at
  subst e1
  obtain ⟨A2, n2, c2, e2, _, _, _⟩ := h2.at
  subst e2
  obtain ⟨A3, n3, c3, e3, _, _, _⟩ := h3.at
  subst e3
  have hnil : Ks [] (.slice none 0 0) w := ks_nil w
  have H1 : Hid (∀ X, Since w X → Ks l (.slice A n c) X) := fun X h => Ks.lasts l _ _ _ h1 h
  have H2 : Hid (∀ X, Since w X → Ks m (.slice A2 n2 c2) X) := fun X h => Ks.lasts m _ _ _ h2 h
  have H3 : Hid (∀ X, Since w X → Ks k (.slice A3 n3 c3) X) := fun X h => Ks.lasts k _ _ _ h3 h
  go_enter Tryd.func3, Tryd.ntmps3
  go_upto_region 1 with (fail)
  obtain ⟨W0, hW0, hB0, hB1, hB2, hb⟩ := start3 w 26 24 27 [.slice A n c, .slice A2 n2 c2] [.slice A3 n3 c3] [.int .u8 (x : Int), .int .u8 (y : Int)]
  rw [← hW0]
  clear hW0
  replace h1 := H1.out _ hb
  replace h2 := H2.out _ hb
  replace h3 := H3.out _ hb
  replace hnil : Ks [] (.slice none 0 0) W0 := ks_nil W0
  refine jp ?_
  refine jn (.pointer (some ⟨w.heap.size, 0, none⟩)) ?_
  refine jg (.agg #[.slice A n c]) (fun X hX hF => exec_inr 24 _ (by rfl) w.heap.size 0 [.slice A n c] (by rfl) Tryd.underlying24 rfl X (hB0.bel hX) (by rfl) info_kn) ?_
  refine jc (.bool true) (fun X hX hF => mo (fewV _ l X ⟨_, rfl, ((Ks.lasts l) _ _ _ h1 hX)⟩) (by rw [HA.out])) ?_
  refine jm (.bool false) ?_
  refine jm (.bool false) ?_
  refine jn (.pointer (some ⟨w.heap.size, 1, none⟩)) ?_
  refine jg (.agg #[.slice A2 n2 c2]) (fun X hX hF => exec_inr 24 _ (by rfl) w.heap.size 1 [.slice A2 n2 c2] (by rfl) Tryd.underlying24 rfl X (hB0.bel hX) (by rfl) info_kn) ?_
  refine jc (.bool true) (fun X hX hF => mo (fewV _ m X ⟨_, rfl, ((Ks.lasts m) _ _ _ h2 hX)⟩) (by rw [HB.out])) ?_
  refine jm (.bool false) ?_
  refine jm (.bool false) ?_
  refine jm (.bool false) ?_
  refine ja hB1 Tryd.underlying24 (by rfl) info_kn ?_
  refine jc (.bool true) (fun X hX hF => mo (fewV _ k X ⟨_, rfl, ((Ks.lasts k) _ _ _ h3 hX)⟩) (by rw [HC.out])) ?_
  refine jm (.bool false) ?_
  refine jm (.bool false) ?_
  refine jm (.bool false) ?_
  refine jn (.pointer (some ⟨w.heap.size, 0, none⟩)) ?_
  refine jg (.agg #[.slice A n c]) (fun X hX hF => exec_inr 24 _ (by rfl) w.heap.size 0 [.slice A n c] (by rfl) Tryd.underlying24 rfl X (hB0.bel hX) (by rfl) info_kn) ?_
  refine jc (.int .i64 0) (fun X hX hF => kchV _ l X ⟨_, rfl, ((Ks.lasts l) _ _ _ h1 hX)⟩ HD.out) ?_
  refine jv (.bool false) (exec_nei _ _ _ _ (by rfl) .i64 0 0 (by rfl) (by rfl) false (by rw [decide_eq_true (by omega)]; rfl)) ?_
  refine jm (.bool false) ?_
  refine jm (.bool false) ?_
  refine jn (.pointer (some ⟨w.heap.size, 1, none⟩)) ?_
  refine jg (.agg #[.slice A2 n2 c2]) (fun X hX hF => exec_inr 24 _ (by rfl) w.heap.size 1 [.slice A2 n2 c2] (by rfl) Tryd.underlying24 rfl X (hB0.bel hX) (by rfl) info_kn) ?_
  refine jc (.int .i64 0) (fun X hX hF => kchV _ m X ⟨_, rfl, ((Ks.lasts m) _ _ _ h2 hX)⟩ HE.out) ?_
  refine jv (.bool false) (exec_nei _ _ _ _ (by rfl) .i64 0 0 (by rfl) (by rfl) false (by rw [decide_eq_true (by omega)]; rfl)) ?_
  refine jm (.bool false) ?_
  refine jm (.bool false) ?_
  refine ja hB1 Tryd.underlying24 (by rfl) info_kn ?_
  refine jc (.int .i64 z) (fun X hX hF => kchV _ k X ⟨_, rfl, ((Ks.lasts k) _ _ _ h3 hX)⟩ HZ.out) ?_
  refine jv (.bool true) (exec_nei _ _ _ _ (by rfl) .i64 z 0 (by rfl) (by rfl) true (by rw [decide_eq_false (by omega)]; rfl)) ?_
  refine jm (.bool true) ?_
  refine jz fun X1 hX1 => ?_
  replace h1 := (Ks.lasts l) _ _ _ h1 hX1
  replace h2 := (Ks.lasts m) _ _ _ h2 hX1
  replace h3 := (Ks.lasts k) _ _ _ h3 hX1
  replace hnil := (Ks.lasts []) _ _ _ hnil hX1
  replace hB0 := hB0.bel hX1
  replace hB1 := hB1.bel hX1
  replace hB2 := hB2.bel hX1
  have hb := bel_next hb hX1
  clear hX1
  go_upto_region 2 with (fail)
  refine jp ?_
  refine jc (.bool true) (fun X hX hF => sanC X) ?_
  refine jm (.bool true) ?_
  refine jz fun X2 hX2 => ?_
  replace h1 := (Ks.lasts l) _ _ _ h1 hX2
  replace h2 := (Ks.lasts m) _ _ _ h2 hX2
  replace h3 := (Ks.lasts k) _ _ _ h3 hX2
  replace hnil := (Ks.lasts []) _ _ _ hnil hX2
  replace hB0 := hB0.bel hX2
  replace hB1 := hB1.bel hX2
  replace hB2 := hB2.bel hX2
  have hb := bel_next hb hX2
  clear hX2
  go_wp2
  go_ret
  exact ⟨rfl, hb⟩
theorem kmo6 (u1 u2 u3 : Value) (l m k : List Int) (x y : Nat) (w : World) (h1 : Ks l u1 w) (h2 : Ks m u2 w) (h3 : Ks k u3 w) (hx : x ≤ 255) (hy : y ≤ 255) (HA : Hid (fewK l.length = true)) (HB : Hid (fewK m.length = true)) (HC : Hid (fewK k.length = true)) (HD : Hid (kcE l = 0)) (HE : Hid (kcE m = 0)) (HF : Hid (kcE k = 0)) (HP : Hid (cpE l m ≠ 0)) : Calls Tryd.prog 3 #[.agg #[u1, u2], .agg #[u3], .agg #[.int .u8 (x : Int), .int .u8 (y : Int)]] w fun e w' => e = .returned (.bool true) ∧ Since w w' := by
  have HKL : Hid (Kok l) := kcE_ok.1 HD.out
  have HKM : Hid (Kok m) := kcE_ok.1 HE.out
  have HKK : Hid (Kok k) := kcE_ok.1 HF.out
  obtain ⟨p, p9⟩ : ∃ p, x % 100 = p := ⟨_, rfl⟩
  obtain ⟨q, q9⟩ : ∃ q, y % 100 = q := ⟨_, rfl⟩
  have hp : p < 100 := by omega
  have hq : q < 100 := by omega
  obtain ⟨z, z9⟩ : ∃ z, cpE l m = z := ⟨_, rfl⟩
  have HZ := Lib.hid z9
  have HZ2 : Hid (cpE m l = z) := by
    show _ = _
    rw [← z9]; exact (cpE_comm HKL.out HKM.out).symm
  have hz0 : z ≠ 0 := by rw [← z9]; exact HP.out
  have hz2 : z = 2 ∨ z = 3 := by rw [← z9]; exact cpE_two HP.out
  clear z9
  obtain ⟨A, n, c, e1, _, _, _⟩ := h1.at
  subst e1
  obtain ⟨A2, n2, c2, e2, _, _, _⟩ := h2.at
  subst e2
  obtain ⟨A3, n3, c3, e3, _, _, _⟩ := h3.at
  subst e3
  have hnil : Ks [] (.slice none 0 0) w := ks_nil w
  have H1 : Hid (∀ X, Since w X → Ks l (.slice A n c) X) := fun X h => Ks.lasts l _ _ _ h1 h
  have H2 : Hid (∀ X, Since w X → Ks m (.slice A2 n2 c2) X) := fun X h => Ks.lasts m _ _ _ h2 h
  have H3 : Hid (∀ X, Since w X → Ks k (.slice A3 n3 c3) X) := fun X h => Ks.lasts k _ _ _ h3 h
  go_enter Tryd.func3, Tryd.ntmps3
  go_upto_region 1 with (fail)
  obtain ⟨W0, hW0, hB0, hB1, hB2, hb⟩ := start3 w 26 24 27 [.slice A n c, .slice A2 n2 c2] [.slice A3 n3 c3] [.int .u8 (x : Int), .int .u8 (y : Int)]
  rw [← hW0]
  clear hW0
  replace h1 := H1.out _ hb
  replace h2 := H2.out _ hb
  replace h3 := H3.out _ hb
  replace hnil : Ks [] (.slice none 0 0) W0 := ks_nil W0
  refine jp ?_
  refine jn (.pointer (some ⟨w.heap.size, 0, none⟩)) ?_
  refine jg (.agg #[.slice A n c]) (fun X hX hF => exec_inr 24 _ (by rfl) w.heap.size 0 [.slice A n c] (by rfl) Tryd.underlying24 rfl X (hB0.bel hX) (by rfl) info_kn) ?_
  refine jc (.bool true) (fun X hX hF => mo (fewV _ l X ⟨_, rfl, ((Ks.lasts l) _ _ _ h1 hX)⟩) (by rw [HA.out])) ?_
  refine jm (.bool false) ?_
  refine jm (.bool false) ?_
  refine jn (.pointer (some ⟨w.heap.size, 1, none⟩)) ?_
  refine jg (.agg #[.slice A2 n2 c2]) (fun X hX hF => exec_inr 24 _ (by rfl) w.heap.size 1 [.slice A2 n2 c2] (by rfl) Tryd.underlying24 rfl X (hB0.bel hX) (by rfl) info_kn) ?_
  refine jc (.bool true) (fun X hX hF => mo (fewV _ m X ⟨_, rfl, ((Ks.lasts m) _ _ _ h2 hX)⟩) (by rw [HB.out])) ?_
  refine jm (.bool false) ?_
  refine jm (.bool false) ?_
  refine jm (.bool false) ?_
  refine ja hB1 Tryd.underlying24 (by rfl) info_kn ?_
  refine jc (.bool true) (fun X hX hF => mo (fewV _ k X ⟨_, rfl, ((Ks.lasts k) _ _ _ h3 hX)⟩) (by rw [HC.out])) ?_
  refine jm (.bool false) ?_
  refine jm (.bool false) ?_
  refine jm (.bool false) ?_
  refine jn (.pointer (some ⟨w.heap.size, 0, none⟩)) ?_
  refine jg (.agg #[.slice A n c]) (fun X hX hF => exec_inr 24 _ (by rfl) w.heap.size 0 [.slice A n c] (by rfl) Tryd.underlying24 rfl X (hB0.bel hX) (by rfl) info_kn) ?_
  refine jc (.int .i64 0) (fun X hX hF => kchV _ l X ⟨_, rfl, ((Ks.lasts l) _ _ _ h1 hX)⟩ HD.out) ?_
  refine jv (.bool false) (exec_nei _ _ _ _ (by rfl) .i64 0 0 (by rfl) (by rfl) false (by rw [decide_eq_true (by omega)]; rfl)) ?_
  refine jm (.bool false) ?_
  refine jm (.bool false) ?_
  refine jn (.pointer (some ⟨w.heap.size, 1, none⟩)) ?_
  refine jg (.agg #[.slice A2 n2 c2]) (fun X hX hF => exec_inr 24 _ (by rfl) w.heap.size 1 [.slice A2 n2 c2] (by rfl) Tryd.underlying24 rfl X (hB0.bel hX) (by rfl) info_kn) ?_
  refine jc (.int .i64 0) (fun X hX hF => kchV _ m X ⟨_, rfl, ((Ks.lasts m) _ _ _ h2 hX)⟩ HE.out) ?_
  refine jv (.bool false) (exec_nei _ _ _ _ (by rfl) .i64 0 0 (by rfl) (by rfl) false (by rw [decide_eq_true (by omega)]; rfl)) ?_
  refine jm (.bool false) ?_
  refine jm (.bool false) ?_
  refine ja hB1 Tryd.underlying24 (by rfl) info_kn ?_
  refine jc (.int .i64 0) (fun X hX hF => kchV _ k X ⟨_, rfl, ((Ks.lasts k) _ _ _ h3 hX)⟩ HF.out) ?_
  refine jv (.bool false) (exec_nei _ _ _ _ (by rfl) .i64 0 0 (by rfl) (by rfl) false (by rw [decide_eq_true (by omega)]; rfl)) ?_
  refine jm (.bool false) ?_
  refine jz fun X1 hX1 => ?_
  replace h1 := (Ks.lasts l) _ _ _ h1 hX1
  replace h2 := (Ks.lasts m) _ _ _ h2 hX1
  replace h3 := (Ks.lasts k) _ _ _ h3 hX1
  replace hnil := (Ks.lasts []) _ _ _ hnil hX1
  replace hB0 := hB0.bel hX1
  replace hB1 := hB1.bel hX1
  replace hB2 := hB2.bel hX1
  have hb := bel_next hb hX1
  clear hX1
  go_upto_region 3 with (fail)
  refine jq 8 ?_
  refine jn (.pointer (some ⟨w.heap.size, 0, none⟩)) ?_
  refine jg (.agg #[.slice A n c]) (fun X hX hF => exec_inr 24 _ (by rfl) w.heap.size 0 [.slice A n c] (by rfl) Tryd.underlying24 rfl X (hB0.bel hX) (by rfl) info_kn) ?_
  refine jn (.pointer (some ⟨w.heap.size, 1, none⟩)) ?_
  refine jg (.agg #[.slice A2 n2 c2]) (fun X hX hF => exec_inr 24 _ (by rfl) w.heap.size 1 [.slice A2 n2 c2] (by rfl) Tryd.underlying24 rfl X (hB0.bel hX) (by rfl) info_kn) ?_
  refine jc (.tuple #[.agg #[.slice none 0 0], .int .i64 z]) (fun X hX hF => cpVE _ _ l m X ⟨_, rfl, ((Ks.lasts l) _ _ _ h1 hX)⟩ ⟨_, rfl, ((Ks.lasts m) _ _ _ h2 hX)⟩ HKL.out HKM.out HZ.out hz0) ?_
  refine jm (.tuple #[.agg #[.slice none 0 0], .int .i64 z]) ?_
  refine jm (.agg #[.slice none 0 0]) ?_
  refine jm (.int .i64 z) ?_
  refine jz fun X2 hX2 => ?_
  replace h1 := (Ks.lasts l) _ _ _ h1 hX2
  replace h2 := (Ks.lasts m) _ _ _ h2 hX2
  replace h3 := (Ks.lasts k) _ _ _ h3 hX2
  replace hnil := (Ks.lasts []) _ _ _ hnil hX2
  replace hB0 := hB0.bel hX2
  replace hB1 := hB1.bel hX2
  replace hB2 := hB2.bel hX2
  have hb := bel_next hb hX2
  clear hX2
  go_upto_region 4 with (refine osn 24 7 76 #[.slice none 0 0] info_kn ?_)
  obtain ⟨Y2, hY9, hD7, hS9⟩ := start1 X2 24 [.slice none 0 0]
  rw [← hY9]
  clear hY9
  have hgs7 := hb.size
  have hlt7x0 := hB0.lt
  have hlt7x1 := hB1.lt
  have hlt7x2 := hB2.lt
  have hB0 := hB0.bel hS9
  have hB1 := hB1.bel hS9
  have hB2 := hB2.bel hS9
  have h1 := (Ks.lasts l) _ _ _ h1 hS9
  have h2 := (Ks.lasts m) _ _ _ h2 hS9
  have h3 := (Ks.lasts k) _ _ _ h3 hS9
  have hnil := (Ks.lasts []) _ _ _ hnil hS9
  have hb := bel_next hb hS9
  clear hS9
  generalize X2.heap.size = g7 at *
  refine jq 8 ?_
  refine jn (.pointer (some ⟨w.heap.size, 1, none⟩)) ?_
  refine jg (.agg #[.slice A2 n2 c2]) (fun X hX hF => exec_inr 24 _ (by rfl) w.heap.size 1 [.slice A2 n2 c2] (by rfl) Tryd.underlying24 rfl X (hB0.bel hX) (by rfl) info_kn) ?_
  refine jn (.pointer (some ⟨w.heap.size, 0, none⟩)) ?_
  refine jg (.agg #[.slice A n c]) (fun X hX hF => exec_inr 24 _ (by rfl) w.heap.size 0 [.slice A n c] (by rfl) Tryd.underlying24 rfl X (hB0.bel hX) (by rfl) info_kn) ?_
  refine jc (.tuple #[.agg #[.slice none 0 0], .int .i64 z]) (fun X hX hF => cpVE _ _ m l X ⟨_, rfl, ((Ks.lasts m) _ _ _ h2 hX)⟩ ⟨_, rfl, ((Ks.lasts l) _ _ _ h1 hX)⟩ HKM.out HKL.out HZ2.out hz0) ?_
  refine jm (.tuple #[.agg #[.slice none 0 0], .int .i64 z]) ?_
  refine jm (.agg #[.slice none 0 0]) ?_
  refine jm (.int .i64 z) ?_
  refine jz fun X3 hX3 => ?_
  replace h1 := (Ks.lasts l) _ _ _ h1 hX3
  replace h2 := (Ks.lasts m) _ _ _ h2 hX3
  replace h3 := (Ks.lasts k) _ _ _ h3 hX3
  replace hnil := (Ks.lasts []) _ _ _ hnil hX3
  replace hB0 := hB0.bel hX3
  replace hB1 := hB1.bel hX3
  replace hB2 := hB2.bel hX3
  replace hD7 := hD7.bel hX3
  have hb := bel_next hb hX3
  clear hX3
  go_upto_region 5 with (refine osn 24 9 84 #[.slice none 0 0] info_kn ?_)
  obtain ⟨Y3, hY9, hD9, hS9⟩ := start1 X3 24 [.slice none 0 0]
  rw [← hY9]
  clear hY9
  have hgs9 := hb.size
  have hlt9x0 := hB0.lt
  have hlt9x1 := hB1.lt
  have hlt9x2 := hB2.lt
  have hlt9x3 := hD7.lt
  have hB0 := hB0.bel hS9
  have hB1 := hB1.bel hS9
  have hB2 := hB2.bel hS9
  have hD7 := hD7.bel hS9
  have h1 := (Ks.lasts l) _ _ _ h1 hS9
  have h2 := (Ks.lasts m) _ _ _ h2 hS9
  have h3 := (Ks.lasts k) _ _ _ h3 hS9
  have hnil := (Ks.lasts []) _ _ _ hnil hS9
  have hb := bel_next hb hS9
  clear hS9
  generalize X3.heap.size = g9 at *
  go_upto_region 5 with (fail)
  refine lx_plain_to 4 [some (Tp (Kn (dly 0)) 0), none, some (Kn (dly 0))] (lasts_some (Tp.lasts (Kn.lasts (dly 0)) _) (lasts_none (lasts_some (Kn.lasts (dly 0)) (lasts_nil)))) ?_
  simp only [its, List.take, List.drop, Nat.zero_add, Nat.reduceAdd]
  refine jk (fun X hX hF => dlyV 0 X (by decide)) ?_
  intro v87
  refine jm (v87) ?_
  refine lx_new (by rfl) (fun X hX hF => by obtain ⟨u9, h9, h8⟩ := (hF _ _ List.mem_cons_self rfl); subst h9; exact ⟨u9, X, rfl, h8, Below.refl _ _⟩) ?_
  intro v88
  simp only [pX]
  refine jg (.int .i64 0) (fun X hX hF => by obtain ⟨u9, h9, _⟩ := (hF _ _ (List.mem_cons_of_mem _ List.mem_cons_self) rfl); subst h9; rfl) ?_
  refine lx_nil ?_
  intro X4 hX4 hF
  replace h1 := (Ks.lasts l) _ _ _ h1 hX4
  replace h2 := (Ks.lasts m) _ _ _ h2 hX4
  replace h3 := (Ks.lasts k) _ _ _ h3 hX4
  replace hnil := (Ks.lasts []) _ _ _ hnil hX4
  have hv87 := hF _ _ (List.mem_cons_of_mem _ List.mem_cons_self)
  have hv88 := hF _ _ List.mem_cons_self
  replace hB0 := hB0.bel hX4
  replace hB1 := hB1.bel hX4
  replace hB2 := hB2.bel hX4
  replace hD7 := hD7.bel hX4
  replace hD9 := hD9.bel hX4
  have hb := bel_next hb hX4
  clear hF hX4
  obtain ⟨u88, e88, A88, c88, f88, q88⟩ := hv88
  subst f88
  subst e88
  have hv88 : Ks (dly 0) (.slice A88 ((dly 0)).length c88) X4 := ⟨_, _, rfl, q88⟩
  clear q88
  go_upto_region 6 with (refine osn 24 11 88 #[.slice A88 ((dly 0)).length c88] info_kn ?_)
  obtain ⟨Y4, hY9, hD11, hS9⟩ := start1 X4 24 [.slice A88 ((dly 0)).length c88]
  rw [← hY9]
  clear hY9
  have hgs11 := hb.size
  have hlt11x0 := hB0.lt
  have hlt11x1 := hB1.lt
  have hlt11x2 := hB2.lt
  have hlt11x3 := hD7.lt
  have hlt11x4 := hD9.lt
  replace hB0 := hB0.bel hS9
  replace hB1 := hB1.bel hS9
  replace hB2 := hB2.bel hS9
  replace hD7 := hD7.bel hS9
  replace hD9 := hD9.bel hS9
  replace h1 := (Ks.lasts l) _ _ _ h1 hS9
  replace h2 := (Ks.lasts m) _ _ _ h2 hS9
  replace h3 := (Ks.lasts k) _ _ _ h3 hS9
  replace hnil := (Ks.lasts []) _ _ _ hnil hS9
  replace hv87 := (Tp.lasts (Kn.lasts (dly 0)) _) _ _ _ hv87 hS9
  replace hv88 := (Ks.lasts (dly 0)) _ _ _ hv88 hS9
  have hb := bel_next hb hS9
  clear hS9
  generalize X4.heap.size = g11 at *
  refine lx_plain_to 7 [none, none, none, some (Tp (Kn (red l)) 0), none, some (Kn (red l))] (lasts_none (lasts_none (lasts_none (lasts_some (Tp.lasts (Kn.lasts (red l)) _) (lasts_none (lasts_some (Kn.lasts (red l)) (lasts_nil))))))) ?_
  simp only [its, List.take, List.drop, Nat.zero_add, Nat.reduceAdd]
  refine jn (.pointer (some ⟨w.heap.size, 0, none⟩)) ?_
  refine jg (.agg #[.slice A n c]) (fun X hX hF => exec_inr 24 _ (by rfl) w.heap.size 0 [.slice A n c] (by rfl) Tryd.underlying24 rfl X (hB0.bel hX) (by rfl) info_kn) ?_
  refine ja hD11 Tryd.underlying24 (by rfl) info_kn ?_
  refine jk (fun X hX hF => (cpV _ _ l (dly 0) X ⟨_, rfl, ((Ks.lasts l) _ _ _ h1 hX)⟩ ⟨_, rfl, ((Ks.lasts (dly 0)) _ _ _ hv88 hX)⟩ HKL.out (dly_kok (by decide)) (cp_zero HKL.out)).mono fun e X' ⟨v9, h1, h2, h3⟩ => ⟨v9, h1, by rw [(show cpK l (dly 0) = red l from cpK_zero HKL.out)] at h2; exact h2, h3⟩) ?_
  intro v94
  refine jm (v94) ?_
  refine lx_new (by rfl) (fun X hX hF => by obtain ⟨u9, h9, h8⟩ := (hF _ _ List.mem_cons_self rfl); subst h9; exact ⟨u9, X, rfl, h8, Below.refl _ _⟩) ?_
  intro v95
  simp only [pX]
  refine jg (.int .i64 0) (fun X hX hF => by obtain ⟨u9, h9, _⟩ := (hF _ _ (List.mem_cons_of_mem _ List.mem_cons_self) rfl); subst h9; rfl) ?_
  refine lx_nil ?_
  intro X5 hX5 hF
  replace h1 := (Ks.lasts l) _ _ _ h1 hX5
  replace h2 := (Ks.lasts m) _ _ _ h2 hX5
  replace h3 := (Ks.lasts k) _ _ _ h3 hX5
  replace hnil := (Ks.lasts []) _ _ _ hnil hX5
  replace hv87 := (Tp.lasts (Kn.lasts (dly 0)) _) _ _ _ hv87 hX5
  replace hv88 := (Ks.lasts (dly 0)) _ _ _ hv88 hX5
  have hv94 := hF _ _ (List.mem_cons_of_mem _ List.mem_cons_self)
  have hv95 := hF _ _ List.mem_cons_self
  replace hB0 := hB0.bel hX5
  replace hB1 := hB1.bel hX5
  replace hB2 := hB2.bel hX5
  replace hD7 := hD7.bel hX5
  replace hD9 := hD9.bel hX5
  replace hD11 := hD11.bel hX5
  have hb := bel_next hb hX5
  clear hF hX5
  obtain ⟨u95, e95, A95, c95, f95, q95⟩ := hv95
  subst f95
  subst e95
  have hv95 : Ks (red l) (.slice A95 ((red l)).length c95) X5 := ⟨_, _, rfl, q95⟩
  clear q95
  go_upto_region 7 with (refine osn 24 13 95 #[.slice A95 ((red l)).length c95] info_kn ?_)
  obtain ⟨Y5, hY9, hD13, hS9⟩ := start1 X5 24 [.slice A95 ((red l)).length c95]
  rw [← hY9]
  clear hY9
  have hgs13 := hb.size
  have hlt13x0 := hB0.lt
  have hlt13x1 := hB1.lt
  have hlt13x2 := hB2.lt
  have hlt13x3 := hD7.lt
  have hlt13x4 := hD9.lt
  have hlt13x5 := hD11.lt
  replace hB0 := hB0.bel hS9
  replace hB1 := hB1.bel hS9
  replace hB2 := hB2.bel hS9
  replace hD7 := hD7.bel hS9
  replace hD9 := hD9.bel hS9
  replace hD11 := hD11.bel hS9
  replace h1 := (Ks.lasts l) _ _ _ h1 hS9
  replace h2 := (Ks.lasts m) _ _ _ h2 hS9
  replace h3 := (Ks.lasts k) _ _ _ h3 hS9
  replace hnil := (Ks.lasts []) _ _ _ hnil hS9
  replace hv87 := (Tp.lasts (Kn.lasts (dly 0)) _) _ _ _ hv87 hS9
  replace hv88 := (Ks.lasts (dly 0)) _ _ _ hv88 hS9
  replace hv94 := (Tp.lasts (Kn.lasts (red l)) _) _ _ _ hv94 hS9
  replace hv95 := (Ks.lasts (red l)) _ _ _ hv95 hS9
  have hb := bel_next hb hS9
  clear hS9
  generalize X5.heap.size = g13 at *
  refine lx_plain_to 6 [none, none, some (Tp (Kn (red l)) 0), none, some (Kn (red l))] (lasts_none (lasts_none (lasts_some (Tp.lasts (Kn.lasts (red l)) _) (lasts_none (lasts_some (Kn.lasts (red l)) (lasts_nil)))))) ?_
  simp only [its, List.take, List.drop, Nat.zero_add, Nat.reduceAdd]
  refine jn (.pointer (some ⟨w.heap.size, 0, none⟩)) ?_
  refine jg (.agg #[.slice A n c]) (fun X hX hF => exec_inr 24 _ (by rfl) w.heap.size 0 [.slice A n c] (by rfl) Tryd.underlying24 rfl X (hB0.bel hX) (by rfl) info_kn) ?_
  refine jk (fun X hX hF => rduV _ l X ⟨_, rfl, ((Ks.lasts l) _ _ _ h1 hX)⟩ HKL.out) ?_
  intro v100
  refine jm (v100) ?_
  refine lx_new (by rfl) (fun X hX hF => by obtain ⟨u9, h9, h8⟩ := (hF _ _ List.mem_cons_self rfl); subst h9; exact ⟨u9, X, rfl, h8, Below.refl _ _⟩) ?_
  intro v101
  simp only [pX]
  refine jg (.int .i64 0) (fun X hX hF => by obtain ⟨u9, h9, _⟩ := (hF _ _ (List.mem_cons_of_mem _ List.mem_cons_self) rfl); subst h9; rfl) ?_
  refine lx_nil ?_
  intro X6 hX6 hF
  replace h1 := (Ks.lasts l) _ _ _ h1 hX6
  replace h2 := (Ks.lasts m) _ _ _ h2 hX6
  replace h3 := (Ks.lasts k) _ _ _ h3 hX6
  replace hnil := (Ks.lasts []) _ _ _ hnil hX6
  replace hv87 := (Tp.lasts (Kn.lasts (dly 0)) _) _ _ _ hv87 hX6
  replace hv88 := (Ks.lasts (dly 0)) _ _ _ hv88 hX6
  replace hv94 := (Tp.lasts (Kn.lasts (red l)) _) _ _ _ hv94 hX6
  replace hv95 := (Ks.lasts (red l)) _ _ _ hv95 hX6
  have hv100 := hF _ _ (List.mem_cons_of_mem _ List.mem_cons_self)
  have hv101 := hF _ _ List.mem_cons_self
  replace hB0 := hB0.bel hX6
  replace hB1 := hB1.bel hX6
  replace hB2 := hB2.bel hX6
  replace hD7 := hD7.bel hX6
  replace hD9 := hD9.bel hX6
  replace hD11 := hD11.bel hX6
  replace hD13 := hD13.bel hX6
  have hb := bel_next hb hX6
  clear hF hX6
  obtain ⟨u101, e101, A101, c101, f101, q101⟩ := hv101
  subst f101
  subst e101
  have hv101 : Ks (red l) (.slice A101 ((red l)).length c101) X6 := ⟨_, _, rfl, q101⟩
  clear q101
  go_upto_region 8 with (refine osn 24 15 101 #[.slice A101 ((red l)).length c101] info_kn ?_)
  obtain ⟨Y6, hY9, hD15, hS9⟩ := start1 X6 24 [.slice A101 ((red l)).length c101]
  rw [← hY9]
  clear hY9
  have hgs15 := hb.size
  have hlt15x0 := hB0.lt
  have hlt15x1 := hB1.lt
  have hlt15x2 := hB2.lt
  have hlt15x3 := hD7.lt
  have hlt15x4 := hD9.lt
  have hlt15x5 := hD11.lt
  have hlt15x6 := hD13.lt
  replace hB0 := hB0.bel hS9
  replace hB1 := hB1.bel hS9
  replace hB2 := hB2.bel hS9
  replace hD7 := hD7.bel hS9
  replace hD9 := hD9.bel hS9
  replace hD11 := hD11.bel hS9
  replace hD13 := hD13.bel hS9
  replace h1 := (Ks.lasts l) _ _ _ h1 hS9
  replace h2 := (Ks.lasts m) _ _ _ h2 hS9
  replace h3 := (Ks.lasts k) _ _ _ h3 hS9
  replace hnil := (Ks.lasts []) _ _ _ hnil hS9
  replace hv87 := (Tp.lasts (Kn.lasts (dly 0)) _) _ _ _ hv87 hS9
  replace hv88 := (Ks.lasts (dly 0)) _ _ _ hv88 hS9
  replace hv94 := (Tp.lasts (Kn.lasts (red l)) _) _ _ _ hv94 hS9
  replace hv95 := (Ks.lasts (red l)) _ _ _ hv95 hS9
  replace hv100 := (Tp.lasts (Kn.lasts (red l)) _) _ _ _ hv100 hS9
  replace hv101 := (Ks.lasts (red l)) _ _ _ hv101 hS9
  have hb := bel_next hb hS9
  clear hS9
  generalize X6.heap.size = g15 at *
  refine lx_plain_to 8 [none, none, none, none, some (Tp (Kn (dly p)) 0), none, some (Kn (dly p))] (lasts_none (lasts_none (lasts_none (lasts_none (lasts_some (Tp.lasts (Kn.lasts (dly p)) _) (lasts_none (lasts_some (Kn.lasts (dly p)) (lasts_nil)))))))) ?_
  simp only [its, List.take, List.drop, Nat.zero_add, Nat.reduceAdd]
  refine jn (.pointer (some ⟨(w.heap.size + 2), 0, none⟩)) ?_
  refine jf (.int .u8 (x : Int)) hB2 0 load_u8x ?_
  refine jv (.int .i64 (x : Int)) (exec_cnv _ _ .u8 .i64 Tryd.underlying5 Tryd.underlying3 _ (by rfl) (x : Int) (x : Int) (by rfl) (by rw [IntWalk.i64_in _ (by omega)])) ?_
  refine jv (.int .i64 (p : Int)) (exec_rem _ _ _ _ (by rfl) .i64 (x : Int) 100 (p : Int) (by rfl) (by rfl) (by omega) (by omega) (by omega)) ?_
  refine jk (fun X hX hF => dlyV p X (by omega)) ?_
  intro v108
  refine jm (v108) ?_
  refine lx_new (by rfl) (fun X hX hF => by obtain ⟨u9, h9, h8⟩ := (hF _ _ List.mem_cons_self rfl); subst h9; exact ⟨u9, X, rfl, h8, Below.refl _ _⟩) ?_
  intro v109
  simp only [pX]
  refine jg (.int .i64 0) (fun X hX hF => by obtain ⟨u9, h9, _⟩ := (hF _ _ (List.mem_cons_of_mem _ List.mem_cons_self) rfl); subst h9; rfl) ?_
  refine lx_nil ?_
  intro X7 hX7 hF
  replace h1 := (Ks.lasts l) _ _ _ h1 hX7
  replace h2 := (Ks.lasts m) _ _ _ h2 hX7
  replace h3 := (Ks.lasts k) _ _ _ h3 hX7
  replace hnil := (Ks.lasts []) _ _ _ hnil hX7
  replace hv87 := (Tp.lasts (Kn.lasts (dly 0)) _) _ _ _ hv87 hX7
  replace hv88 := (Ks.lasts (dly 0)) _ _ _ hv88 hX7
  replace hv94 := (Tp.lasts (Kn.lasts (red l)) _) _ _ _ hv94 hX7
  replace hv95 := (Ks.lasts (red l)) _ _ _ hv95 hX7
  replace hv100 := (Tp.lasts (Kn.lasts (red l)) _) _ _ _ hv100 hX7
  replace hv101 := (Ks.lasts (red l)) _ _ _ hv101 hX7
  have hv108 := hF _ _ (List.mem_cons_of_mem _ List.mem_cons_self)
  have hv109 := hF _ _ List.mem_cons_self
  replace hB0 := hB0.bel hX7
  replace hB1 := hB1.bel hX7
  replace hB2 := hB2.bel hX7
  replace hD7 := hD7.bel hX7
  replace hD9 := hD9.bel hX7
  replace hD11 := hD11.bel hX7
  replace hD13 := hD13.bel hX7
  replace hD15 := hD15.bel hX7
  have hb := bel_next hb hX7
  clear hF hX7
  obtain ⟨u109, e109, A109, c109, f109, q109⟩ := hv109
  subst f109
  subst e109
  have hv109 : Ks (dly p) (.slice A109 ((dly p)).length c109) X7 := ⟨_, _, rfl, q109⟩
  clear q109
  go_upto_region 9 with (refine osn 24 17 109 #[.slice A109 ((dly p)).length c109] info_kn ?_)
  obtain ⟨Y7, hY9, hD17, hS9⟩ := start1 X7 24 [.slice A109 ((dly p)).length c109]
  rw [← hY9]
  clear hY9
  have hgs17 := hb.size
  have hlt17x0 := hB0.lt
  have hlt17x1 := hB1.lt
  have hlt17x2 := hB2.lt
  have hlt17x3 := hD7.lt
  have hlt17x4 := hD9.lt
  have hlt17x5 := hD11.lt
  have hlt17x6 := hD13.lt
  have hlt17x7 := hD15.lt
  replace hB0 := hB0.bel hS9
  replace hB1 := hB1.bel hS9
  replace hB2 := hB2.bel hS9
  replace hD7 := hD7.bel hS9
  replace hD9 := hD9.bel hS9
  replace hD11 := hD11.bel hS9
  replace hD13 := hD13.bel hS9
  replace hD15 := hD15.bel hS9
  replace h1 := (Ks.lasts l) _ _ _ h1 hS9
  replace h2 := (Ks.lasts m) _ _ _ h2 hS9
  replace h3 := (Ks.lasts k) _ _ _ h3 hS9
  replace hnil := (Ks.lasts []) _ _ _ hnil hS9
  replace hv87 := (Tp.lasts (Kn.lasts (dly 0)) _) _ _ _ hv87 hS9
  replace hv88 := (Ks.lasts (dly 0)) _ _ _ hv88 hS9
  replace hv94 := (Tp.lasts (Kn.lasts (red l)) _) _ _ _ hv94 hS9
  replace hv95 := (Ks.lasts (red l)) _ _ _ hv95 hS9
  replace hv100 := (Tp.lasts (Kn.lasts (red l)) _) _ _ _ hv100 hS9
  replace hv101 := (Ks.lasts (red l)) _ _ _ hv101 hS9
  replace hv108 := (Tp.lasts (Kn.lasts (dly p)) _) _ _ _ hv108 hS9
  replace hv109 := (Ks.lasts (dly p)) _ _ _ hv109 hS9
  have hb := bel_next hb hS9
  clear hS9
  generalize X7.heap.size = g17 at *
  refine lx_plain_to 8 [none, none, none, none, some (Tp (Kn (dly q)) 0), none, some (Kn (dly q))] (lasts_none (lasts_none (lasts_none (lasts_none (lasts_some (Tp.lasts (Kn.lasts (dly q)) _) (lasts_none (lasts_some (Kn.lasts (dly q)) (lasts_nil)))))))) ?_
  simp only [its, List.take, List.drop, Nat.zero_add, Nat.reduceAdd]
  refine jn (.pointer (some ⟨(w.heap.size + 2), 1, none⟩)) ?_
  refine jf (.int .u8 (y : Int)) hB2 1 load_u8x ?_
  refine jv (.int .i64 (y : Int)) (exec_cnv _ _ .u8 .i64 Tryd.underlying5 Tryd.underlying3 _ (by rfl) (y : Int) (y : Int) (by rfl) (by rw [IntWalk.i64_in _ (by omega)])) ?_
  refine jv (.int .i64 (q : Int)) (exec_rem _ _ _ _ (by rfl) .i64 (y : Int) 100 (q : Int) (by rfl) (by rfl) (by omega) (by omega) (by omega)) ?_
  refine jk (fun X hX hF => dlyV q X (by omega)) ?_
  intro v116
  refine jm (v116) ?_
  refine lx_new (by rfl) (fun X hX hF => by obtain ⟨u9, h9, h8⟩ := (hF _ _ List.mem_cons_self rfl); subst h9; exact ⟨u9, X, rfl, h8, Below.refl _ _⟩) ?_
  intro v117
  simp only [pX]
  refine jg (.int .i64 0) (fun X hX hF => by obtain ⟨u9, h9, _⟩ := (hF _ _ (List.mem_cons_of_mem _ List.mem_cons_self) rfl); subst h9; rfl) ?_
  refine lx_nil ?_
  intro X8 hX8 hF
  replace h1 := (Ks.lasts l) _ _ _ h1 hX8
  replace h2 := (Ks.lasts m) _ _ _ h2 hX8
  replace h3 := (Ks.lasts k) _ _ _ h3 hX8
  replace hnil := (Ks.lasts []) _ _ _ hnil hX8
  replace hv87 := (Tp.lasts (Kn.lasts (dly 0)) _) _ _ _ hv87 hX8
  replace hv88 := (Ks.lasts (dly 0)) _ _ _ hv88 hX8
  replace hv94 := (Tp.lasts (Kn.lasts (red l)) _) _ _ _ hv94 hX8
  replace hv95 := (Ks.lasts (red l)) _ _ _ hv95 hX8
  replace hv100 := (Tp.lasts (Kn.lasts (red l)) _) _ _ _ hv100 hX8
  replace hv101 := (Ks.lasts (red l)) _ _ _ hv101 hX8
  replace hv108 := (Tp.lasts (Kn.lasts (dly p)) _) _ _ _ hv108 hX8
  replace hv109 := (Ks.lasts (dly p)) _ _ _ hv109 hX8
  have hv116 := hF _ _ (List.mem_cons_of_mem _ List.mem_cons_self)
  have hv117 := hF _ _ List.mem_cons_self
  replace hB0 := hB0.bel hX8
  replace hB1 := hB1.bel hX8
  replace hB2 := hB2.bel hX8
  replace hD7 := hD7.bel hX8
  replace hD9 := hD9.bel hX8
  replace hD11 := hD11.bel hX8
  replace hD13 := hD13.bel hX8
  replace hD15 := hD15.bel hX8
  replace hD17 := hD17.bel hX8
  have hb := bel_next hb hX8
  clear hF hX8
  obtain ⟨u117, e117, A117, c117, f117, q117⟩ := hv117
  subst f117
  subst e117
  have hv117 : Ks (dly q) (.slice A117 ((dly q)).length c117) X8 := ⟨_, _, rfl, q117⟩
  clear q117
  go_upto_region 10 with (refine osn 24 19 117 #[.slice A117 ((dly q)).length c117] info_kn ?_)
  obtain ⟨Y8, hY9, hD19, hS9⟩ := start1 X8 24 [.slice A117 ((dly q)).length c117]
  rw [← hY9]
  clear hY9
  have hgs19 := hb.size
  have hlt19x0 := hB0.lt
  have hlt19x1 := hB1.lt
  have hlt19x2 := hB2.lt
  have hlt19x3 := hD7.lt
  have hlt19x4 := hD9.lt
  have hlt19x5 := hD11.lt
  have hlt19x6 := hD13.lt
  have hlt19x7 := hD15.lt
  have hlt19x8 := hD17.lt
  replace hB0 := hB0.bel hS9
  replace hB1 := hB1.bel hS9
  replace hB2 := hB2.bel hS9
  replace hD7 := hD7.bel hS9
  replace hD9 := hD9.bel hS9
  replace hD11 := hD11.bel hS9
  replace hD13 := hD13.bel hS9
  replace hD15 := hD15.bel hS9
  replace hD17 := hD17.bel hS9
  replace h1 := (Ks.lasts l) _ _ _ h1 hS9
  replace h2 := (Ks.lasts m) _ _ _ h2 hS9
  replace h3 := (Ks.lasts k) _ _ _ h3 hS9
  replace hnil := (Ks.lasts []) _ _ _ hnil hS9
  replace hv87 := (Tp.lasts (Kn.lasts (dly 0)) _) _ _ _ hv87 hS9
  replace hv88 := (Ks.lasts (dly 0)) _ _ _ hv88 hS9
  replace hv94 := (Tp.lasts (Kn.lasts (red l)) _) _ _ _ hv94 hS9
  replace hv95 := (Ks.lasts (red l)) _ _ _ hv95 hS9
  replace hv100 := (Tp.lasts (Kn.lasts (red l)) _) _ _ _ hv100 hS9
  replace hv101 := (Ks.lasts (red l)) _ _ _ hv101 hS9
  replace hv108 := (Tp.lasts (Kn.lasts (dly p)) _) _ _ _ hv108 hS9
  replace hv109 := (Ks.lasts (dly p)) _ _ _ hv109 hS9
  replace hv116 := (Tp.lasts (Kn.lasts (dly q)) _) _ _ _ hv116 hS9
  replace hv117 := (Ks.lasts (dly q)) _ _ _ hv117 hS9
  have hb := bel_next hb hS9
  clear hS9
  generalize X8.heap.size = g19 at *
  refine lx_plain_to 6 [none, none, some (Tp (Kn (dly (p + q))) 0), none, some (Kn (dly (p + q)))] (lasts_none (lasts_none (lasts_some (Tp.lasts (Kn.lasts (dly (p + q))) _) (lasts_none (lasts_some (Kn.lasts (dly (p + q))) (lasts_nil)))))) ?_
  simp only [its, List.take, List.drop, Nat.zero_add, Nat.reduceAdd]
  refine ja hD17 Tryd.underlying24 (by rfl) info_kn ?_
  refine ja hD19 Tryd.underlying24 (by rfl) info_kn ?_
  refine jk (fun X hX hF => (cpV _ _ (dly p) (dly q) X ⟨_, rfl, ((Ks.lasts (dly p)) _ _ _ hv109 hX)⟩ ⟨_, rfl, ((Ks.lasts (dly q)) _ _ _ hv117 hX)⟩ (dly_kok (by omega)) (dly_kok (by omega)) (cp_dly hp hq)).mono fun e X' ⟨v9, h1, h2, h3⟩ => ⟨v9, h1, by rw [(show cpK (dly p) (dly q) = dly (p + q) from cpK_dly hp hq)] at h2; exact h2, h3⟩) ?_
  intro v122
  refine jm (v122) ?_
  refine lx_new (by rfl) (fun X hX hF => by obtain ⟨u9, h9, h8⟩ := (hF _ _ List.mem_cons_self rfl); subst h9; exact ⟨u9, X, rfl, h8, Below.refl _ _⟩) ?_
  intro v123
  simp only [pX]
  refine jg (.int .i64 0) (fun X hX hF => by obtain ⟨u9, h9, _⟩ := (hF _ _ (List.mem_cons_of_mem _ List.mem_cons_self) rfl); subst h9; rfl) ?_
  refine lx_nil ?_
  intro X9 hX9 hF
  replace h1 := (Ks.lasts l) _ _ _ h1 hX9
  replace h2 := (Ks.lasts m) _ _ _ h2 hX9
  replace h3 := (Ks.lasts k) _ _ _ h3 hX9
  replace hnil := (Ks.lasts []) _ _ _ hnil hX9
  replace hv87 := (Tp.lasts (Kn.lasts (dly 0)) _) _ _ _ hv87 hX9
  replace hv88 := (Ks.lasts (dly 0)) _ _ _ hv88 hX9
  replace hv94 := (Tp.lasts (Kn.lasts (red l)) _) _ _ _ hv94 hX9
  replace hv95 := (Ks.lasts (red l)) _ _ _ hv95 hX9
  replace hv100 := (Tp.lasts (Kn.lasts (red l)) _) _ _ _ hv100 hX9
  replace hv101 := (Ks.lasts (red l)) _ _ _ hv101 hX9
  replace hv108 := (Tp.lasts (Kn.lasts (dly p)) _) _ _ _ hv108 hX9
  replace hv109 := (Ks.lasts (dly p)) _ _ _ hv109 hX9
  replace hv116 := (Tp.lasts (Kn.lasts (dly q)) _) _ _ _ hv116 hX9
  replace hv117 := (Ks.lasts (dly q)) _ _ _ hv117 hX9
  have hv122 := hF _ _ (List.mem_cons_of_mem _ List.mem_cons_self)
  have hv123 := hF _ _ List.mem_cons_self
  replace hB0 := hB0.bel hX9
  replace hB1 := hB1.bel hX9
  replace hB2 := hB2.bel hX9
  replace hD7 := hD7.bel hX9
  replace hD9 := hD9.bel hX9
  replace hD11 := hD11.bel hX9
  replace hD13 := hD13.bel hX9
  replace hD15 := hD15.bel hX9
  replace hD17 := hD17.bel hX9
  replace hD19 := hD19.bel hX9
  have hb := bel_next hb hX9
  clear hF hX9
  obtain ⟨u123, e123, A123, c123, f123, q123⟩ := hv123
  subst f123
  subst e123
  have hv123 : Ks (dly (p + q)) (.slice A123 ((dly (p + q))).length c123) X9 := ⟨_, _, rfl, q123⟩
  clear q123
  go_upto_region 11 with (refine osn 24 21 123 #[.slice A123 ((dly (p + q))).length c123] info_kn ?_)
  obtain ⟨Y9, hY9, hD21, hS9⟩ := start1 X9 24 [.slice A123 ((dly (p + q))).length c123]
  rw [← hY9]
  clear hY9
  have hgs21 := hb.size
  have hlt21x0 := hB0.lt
  have hlt21x1 := hB1.lt
  have hlt21x2 := hB2.lt
  have hlt21x3 := hD7.lt
  have hlt21x4 := hD9.lt
  have hlt21x5 := hD11.lt
  have hlt21x6 := hD13.lt
  have hlt21x7 := hD15.lt
  have hlt21x8 := hD17.lt
  have hlt21x9 := hD19.lt
  replace hB0 := hB0.bel hS9
  replace hB1 := hB1.bel hS9
  replace hB2 := hB2.bel hS9
  replace hD7 := hD7.bel hS9
  replace hD9 := hD9.bel hS9
  replace hD11 := hD11.bel hS9
  replace hD13 := hD13.bel hS9
  replace hD15 := hD15.bel hS9
  replace hD17 := hD17.bel hS9
  replace hD19 := hD19.bel hS9
  replace h1 := (Ks.lasts l) _ _ _ h1 hS9
  replace h2 := (Ks.lasts m) _ _ _ h2 hS9
  replace h3 := (Ks.lasts k) _ _ _ h3 hS9
  replace hnil := (Ks.lasts []) _ _ _ hnil hS9
  replace hv87 := (Tp.lasts (Kn.lasts (dly 0)) _) _ _ _ hv87 hS9
  replace hv88 := (Ks.lasts (dly 0)) _ _ _ hv88 hS9
  replace hv94 := (Tp.lasts (Kn.lasts (red l)) _) _ _ _ hv94 hS9
  replace hv95 := (Ks.lasts (red l)) _ _ _ hv95 hS9
  replace hv100 := (Tp.lasts (Kn.lasts (red l)) _) _ _ _ hv100 hS9
  replace hv101 := (Ks.lasts (red l)) _ _ _ hv101 hS9
  replace hv108 := (Tp.lasts (Kn.lasts (dly p)) _) _ _ _ hv108 hS9
  replace hv109 := (Ks.lasts (dly p)) _ _ _ hv109 hS9
  replace hv116 := (Tp.lasts (Kn.lasts (dly q)) _) _ _ _ hv116 hS9
  replace hv117 := (Ks.lasts (dly q)) _ _ _ hv117 hS9
  replace hv122 := (Tp.lasts (Kn.lasts (dly (p + q))) _) _ _ _ hv122 hS9
  replace hv123 := (Ks.lasts (dly (p + q))) _ _ _ hv123 hS9
  have hb := bel_next hb hS9
  clear hS9
  generalize X9.heap.size = g21 at *
  refine lx_plain_to 13 [none, none, none, none, none, none, none, none, none, some (Tp (Kn (dly (p + q))) 0), none, some (Kn (dly (p + q)))] (lasts_none (lasts_none (lasts_none (lasts_none (lasts_none (lasts_none (lasts_none (lasts_none (lasts_none (lasts_some (Tp.lasts (Kn.lasts (dly (p + q))) _) (lasts_none (lasts_some (Kn.lasts (dly (p + q))) (lasts_nil))))))))))))) ?_
  simp only [its, List.take, List.drop, Nat.zero_add, Nat.reduceAdd]
  refine jn (.pointer (some ⟨(w.heap.size + 2), 0, none⟩)) ?_
  refine jf (.int .u8 (x : Int)) hB2 0 load_u8x ?_
  refine jv (.int .i64 (x : Int)) (exec_cnv _ _ .u8 .i64 Tryd.underlying5 Tryd.underlying3 _ (by rfl) (x : Int) (x : Int) (by rfl) (by rw [IntWalk.i64_in _ (by omega)])) ?_
  refine jv (.int .i64 (p : Int)) (exec_rem _ _ _ _ (by rfl) .i64 (x : Int) 100 (p : Int) (by rfl) (by rfl) (by omega) (by omega) (by omega)) ?_
  refine jn (.pointer (some ⟨(w.heap.size + 2), 1, none⟩)) ?_
  refine jf (.int .u8 (y : Int)) hB2 1 load_u8x ?_
  refine jv (.int .i64 (y : Int)) (exec_cnv _ _ .u8 .i64 Tryd.underlying5 Tryd.underlying3 _ (by rfl) (y : Int) (y : Int) (by rfl) (by rw [IntWalk.i64_in _ (by omega)])) ?_
  refine jv (.int .i64 (q : Int)) (exec_rem _ _ _ _ (by rfl) .i64 (y : Int) 100 (q : Int) (by rfl) (by rfl) (by omega) (by omega) (by omega)) ?_
  refine jv (.int .i64 ((p + q : Nat) : Int)) (exec_add _ _ _ _ (by rfl) (p : Int) (q : Int) ((p + q : Nat) : Int) (by rfl) (by rfl) (by omega) (by omega) (by omega)) ?_
  refine jk (fun X hX hF => dlyV (p + q) X (by omega)) ?_
  intro v135
  refine jm (v135) ?_
  refine lx_new (by rfl) (fun X hX hF => by obtain ⟨u9, h9, h8⟩ := (hF _ _ List.mem_cons_self rfl); subst h9; exact ⟨u9, X, rfl, h8, Below.refl _ _⟩) ?_
  intro v136
  simp only [pX]
  refine jg (.int .i64 0) (fun X hX hF => by obtain ⟨u9, h9, _⟩ := (hF _ _ (List.mem_cons_of_mem _ List.mem_cons_self) rfl); subst h9; rfl) ?_
  refine lx_nil ?_
  intro X10 hX10 hF
  replace h1 := (Ks.lasts l) _ _ _ h1 hX10
  replace h2 := (Ks.lasts m) _ _ _ h2 hX10
  replace h3 := (Ks.lasts k) _ _ _ h3 hX10
  replace hnil := (Ks.lasts []) _ _ _ hnil hX10
  replace hv87 := (Tp.lasts (Kn.lasts (dly 0)) _) _ _ _ hv87 hX10
  replace hv88 := (Ks.lasts (dly 0)) _ _ _ hv88 hX10
  replace hv94 := (Tp.lasts (Kn.lasts (red l)) _) _ _ _ hv94 hX10
  replace hv95 := (Ks.lasts (red l)) _ _ _ hv95 hX10
  replace hv100 := (Tp.lasts (Kn.lasts (red l)) _) _ _ _ hv100 hX10
  replace hv101 := (Ks.lasts (red l)) _ _ _ hv101 hX10
  replace hv108 := (Tp.lasts (Kn.lasts (dly p)) _) _ _ _ hv108 hX10
  replace hv109 := (Ks.lasts (dly p)) _ _ _ hv109 hX10
  replace hv116 := (Tp.lasts (Kn.lasts (dly q)) _) _ _ _ hv116 hX10
  replace hv117 := (Ks.lasts (dly q)) _ _ _ hv117 hX10
  replace hv122 := (Tp.lasts (Kn.lasts (dly (p + q))) _) _ _ _ hv122 hX10
  replace hv123 := (Ks.lasts (dly (p + q))) _ _ _ hv123 hX10
  have hv135 := hF _ _ (List.mem_cons_of_mem _ List.mem_cons_self)
  have hv136 := hF _ _ List.mem_cons_self
  replace hB0 := hB0.bel hX10
  replace hB1 := hB1.bel hX10
  replace hB2 := hB2.bel hX10
  replace hD7 := hD7.bel hX10
  replace hD9 := hD9.bel hX10
  replace hD11 := hD11.bel hX10
  replace hD13 := hD13.bel hX10
  replace hD15 := hD15.bel hX10
  replace hD17 := hD17.bel hX10
  replace hD19 := hD19.bel hX10
  replace hD21 := hD21.bel hX10
  have hb := bel_next hb hX10
  clear hF hX10
  obtain ⟨u136, e136, A136, c136, f136, q136⟩ := hv136
  subst f136
  subst e136
  have hv136 : Ks (dly (p + q)) (.slice A136 ((dly (p + q))).length c136) X10 := ⟨_, _, rfl, q136⟩
  clear q136
  go_upto_region 12 with (refine osn 24 23 136 #[.slice A136 ((dly (p + q))).length c136] info_kn ?_)
  obtain ⟨Y10, hY9, hD23, hS9⟩ := start1 X10 24 [.slice A136 ((dly (p + q))).length c136]
  rw [← hY9]
  clear hY9
  have hgs23 := hb.size
  have hlt23x0 := hB0.lt
  have hlt23x1 := hB1.lt
  have hlt23x2 := hB2.lt
  have hlt23x3 := hD7.lt
  have hlt23x4 := hD9.lt
  have hlt23x5 := hD11.lt
  have hlt23x6 := hD13.lt
  have hlt23x7 := hD15.lt
  have hlt23x8 := hD17.lt
  have hlt23x9 := hD19.lt
  have hlt23x10 := hD21.lt
  replace hB0 := hB0.bel hS9
  replace hB1 := hB1.bel hS9
  replace hB2 := hB2.bel hS9
  replace hD7 := hD7.bel hS9
  replace hD9 := hD9.bel hS9
  replace hD11 := hD11.bel hS9
  replace hD13 := hD13.bel hS9
  replace hD15 := hD15.bel hS9
  replace hD17 := hD17.bel hS9
  replace hD19 := hD19.bel hS9
  replace hD21 := hD21.bel hS9
  replace h1 := (Ks.lasts l) _ _ _ h1 hS9
  replace h2 := (Ks.lasts m) _ _ _ h2 hS9
  replace h3 := (Ks.lasts k) _ _ _ h3 hS9
  replace hnil := (Ks.lasts []) _ _ _ hnil hS9
  replace hv87 := (Tp.lasts (Kn.lasts (dly 0)) _) _ _ _ hv87 hS9
  replace hv88 := (Ks.lasts (dly 0)) _ _ _ hv88 hS9
  replace hv94 := (Tp.lasts (Kn.lasts (red l)) _) _ _ _ hv94 hS9
  replace hv95 := (Ks.lasts (red l)) _ _ _ hv95 hS9
  replace hv100 := (Tp.lasts (Kn.lasts (red l)) _) _ _ _ hv100 hS9
  replace hv101 := (Ks.lasts (red l)) _ _ _ hv101 hS9
  replace hv108 := (Tp.lasts (Kn.lasts (dly p)) _) _ _ _ hv108 hS9
  replace hv109 := (Ks.lasts (dly p)) _ _ _ hv109 hS9
  replace hv116 := (Tp.lasts (Kn.lasts (dly q)) _) _ _ _ hv116 hS9
  replace hv117 := (Ks.lasts (dly q)) _ _ _ hv117 hS9
  replace hv122 := (Tp.lasts (Kn.lasts (dly (p + q))) _) _ _ _ hv122 hS9
  replace hv123 := (Ks.lasts (dly (p + q))) _ _ _ hv123 hS9
  replace hv135 := (Tp.lasts (Kn.lasts (dly (p + q))) _) _ _ _ hv135 hS9
  replace hv136 := (Ks.lasts (dly (p + q))) _ _ _ hv136 hS9
  have hb := bel_next hb hS9
  clear hS9
  generalize X10.heap.size = g23 at *
  refine jp ?_
  refine jm (.int .i64 z) ?_
  refine jm (.int .i64 z) ?_
  refine jv (.bool false) (exec_nei _ _ _ _ (by rfl) .i64 z z (by rfl) (by rfl) false (by rw [decide_eq_true (by omega)]; rfl)) ?_
  refine jm (.bool false) ?_
  refine ja hD7 Tryd.underlying24 (by rfl) info_kn ?_
  refine ja hD9 Tryd.underlying24 (by rfl) info_kn ?_
  refine jc (.bool true) (fun X hX hF => smV _ _ [] X ⟨_, rfl, ((Ks.lasts []) _ _ _ hnil hX)⟩ ⟨_, rfl, ((Ks.lasts []) _ _ _ hnil hX)⟩) ?_
  refine jm (.bool false) ?_
  refine jm (.bool false) ?_
  refine jm (.bool false) ?_
  refine jm (.int .i64 0) ?_
  refine jv (.bool false) (exec_nei _ _ _ _ (by rfl) .i64 0 0 (by rfl) (by rfl) false (by rw [decide_eq_true (by omega)]; rfl)) ?_
  refine jm (.bool false) ?_
  refine jm (.bool false) ?_
  refine jm (.int .i64 0) ?_
  refine jv (.bool false) (exec_nei _ _ _ _ (by rfl) .i64 0 0 (by rfl) (by rfl) false (by rw [decide_eq_true (by omega)]; rfl)) ?_
  refine jm (.bool false) ?_
  refine jm (.bool false) ?_
  refine jm (.int .i64 0) ?_
  refine jv (.bool false) (exec_nei _ _ _ _ (by rfl) .i64 0 0 (by rfl) (by rfl) false (by rw [decide_eq_true (by omega)]; rfl)) ?_
  refine jm (.bool false) ?_
  refine jm (.bool false) ?_
  refine ja hD13 Tryd.underlying24 (by rfl) info_kn ?_
  refine ja hD15 Tryd.underlying24 (by rfl) info_kn ?_
  refine jc (.bool true) (fun X hX hF => smV _ _ (red l) X ⟨_, rfl, ((Ks.lasts (red l)) _ _ _ hv95 hX)⟩ ⟨_, rfl, ((Ks.lasts (red l)) _ _ _ hv101 hX)⟩) ?_
  refine jm (.bool false) ?_
  refine jm (.bool false) ?_
  refine jm (.bool false) ?_
  refine jm (.int .i64 0) ?_
  refine jv (.bool false) (exec_nei _ _ _ _ (by rfl) .i64 0 0 (by rfl) (by rfl) false (by rw [decide_eq_true (by omega)]; rfl)) ?_
  refine jm (.bool false) ?_
  refine jm (.bool false) ?_
  refine jm (.int .i64 0) ?_
  refine jv (.bool false) (exec_nei _ _ _ _ (by rfl) .i64 0 0 (by rfl) (by rfl) false (by rw [decide_eq_true (by omega)]; rfl)) ?_
  refine jm (.bool false) ?_
  refine jm (.bool false) ?_
  refine jm (.int .i64 0) ?_
  refine jv (.bool false) (exec_nei _ _ _ _ (by rfl) .i64 0 0 (by rfl) (by rfl) false (by rw [decide_eq_true (by omega)]; rfl)) ?_
  refine jm (.bool false) ?_
  refine jm (.bool false) ?_
  refine jm (.int .i64 0) ?_
  refine jv (.bool false) (exec_nei _ _ _ _ (by rfl) .i64 0 0 (by rfl) (by rfl) false (by rw [decide_eq_true (by omega)]; rfl)) ?_
  refine jm (.bool false) ?_
  refine jm (.bool false) ?_
  refine ja hD21 Tryd.underlying24 (by rfl) info_kn ?_
  refine ja hD23 Tryd.underlying24 (by rfl) info_kn ?_
  refine jc (.bool true) (fun X hX hF => smV _ _ (dly (p + q)) X ⟨_, rfl, ((Ks.lasts (dly (p + q))) _ _ _ hv123 hX)⟩ ⟨_, rfl, ((Ks.lasts (dly (p + q))) _ _ _ hv136 hX)⟩) ?_
  refine jm (.bool false) ?_
  refine jm (.bool false) ?_
  refine lx_nil ?_
  intro X11 hX11 hF
  replace h1 := (Ks.lasts l) _ _ _ h1 hX11
  replace h2 := (Ks.lasts m) _ _ _ h2 hX11
  replace h3 := (Ks.lasts k) _ _ _ h3 hX11
  replace hnil := (Ks.lasts []) _ _ _ hnil hX11
  replace hv87 := (Tp.lasts (Kn.lasts (dly 0)) _) _ _ _ hv87 hX11
  replace hv88 := (Ks.lasts (dly 0)) _ _ _ hv88 hX11
  replace hv94 := (Tp.lasts (Kn.lasts (red l)) _) _ _ _ hv94 hX11
  replace hv95 := (Ks.lasts (red l)) _ _ _ hv95 hX11
  replace hv100 := (Tp.lasts (Kn.lasts (red l)) _) _ _ _ hv100 hX11
  replace hv101 := (Ks.lasts (red l)) _ _ _ hv101 hX11
  replace hv108 := (Tp.lasts (Kn.lasts (dly p)) _) _ _ _ hv108 hX11
  replace hv109 := (Ks.lasts (dly p)) _ _ _ hv109 hX11
  replace hv116 := (Tp.lasts (Kn.lasts (dly q)) _) _ _ _ hv116 hX11
  replace hv117 := (Ks.lasts (dly q)) _ _ _ hv117 hX11
  replace hv122 := (Tp.lasts (Kn.lasts (dly (p + q))) _) _ _ _ hv122 hX11
  replace hv123 := (Ks.lasts (dly (p + q))) _ _ _ hv123 hX11
  replace hv135 := (Tp.lasts (Kn.lasts (dly (p + q))) _) _ _ _ hv135 hX11
  replace hv136 := (Ks.lasts (dly (p + q))) _ _ _ hv136 hX11
  replace hB0 := hB0.bel hX11
  replace hB1 := hB1.bel hX11
  replace hB2 := hB2.bel hX11
  replace hD7 := hD7.bel hX11
  replace hD9 := hD9.bel hX11
  replace hD11 := hD11.bel hX11
  replace hD13 := hD13.bel hX11
  replace hD15 := hD15.bel hX11
  replace hD17 := hD17.bel hX11
  replace hD19 := hD19.bel hX11
  replace hD21 := hD21.bel hX11
  replace hD23 := hD23.bel hX11
  have hb := bel_next hb hX11
  clear hF hX11
  go_upto_region 14 with (fail)
  refine jp ?_
  refine jm (.int .i64 z) ?_
  refine jv (.bool true) (exec_nei _ _ _ _ (by rfl) .i64 z 0 (by rfl) (by rfl) true (by rw [decide_eq_false (by omega)]; rfl)) ?_
  refine lx_nil ?_
  intro X12 hX12 hF
  replace h1 := (Ks.lasts l) _ _ _ h1 hX12
  replace h2 := (Ks.lasts m) _ _ _ h2 hX12
  replace h3 := (Ks.lasts k) _ _ _ h3 hX12
  replace hnil := (Ks.lasts []) _ _ _ hnil hX12
  replace hv87 := (Tp.lasts (Kn.lasts (dly 0)) _) _ _ _ hv87 hX12
  replace hv88 := (Ks.lasts (dly 0)) _ _ _ hv88 hX12
  replace hv94 := (Tp.lasts (Kn.lasts (red l)) _) _ _ _ hv94 hX12
  replace hv95 := (Ks.lasts (red l)) _ _ _ hv95 hX12
  replace hv100 := (Tp.lasts (Kn.lasts (red l)) _) _ _ _ hv100 hX12
  replace hv101 := (Ks.lasts (red l)) _ _ _ hv101 hX12
  replace hv108 := (Tp.lasts (Kn.lasts (dly p)) _) _ _ _ hv108 hX12
  replace hv109 := (Ks.lasts (dly p)) _ _ _ hv109 hX12
  replace hv116 := (Tp.lasts (Kn.lasts (dly q)) _) _ _ _ hv116 hX12
  replace hv117 := (Ks.lasts (dly q)) _ _ _ hv117 hX12
  replace hv122 := (Tp.lasts (Kn.lasts (dly (p + q))) _) _ _ _ hv122 hX12
  replace hv123 := (Ks.lasts (dly (p + q))) _ _ _ hv123 hX12
  replace hv135 := (Tp.lasts (Kn.lasts (dly (p + q))) _) _ _ _ hv135 hX12
  replace hv136 := (Ks.lasts (dly (p + q))) _ _ _ hv136 hX12
  replace hB0 := hB0.bel hX12
  replace hB1 := hB1.bel hX12
  replace hB2 := hB2.bel hX12
  replace hD7 := hD7.bel hX12
  replace hD9 := hD9.bel hX12
  replace hD11 := hD11.bel hX12
  replace hD13 := hD13.bel hX12
  replace hD15 := hD15.bel hX12
  replace hD17 := hD17.bel hX12
  replace hD19 := hD19.bel hX12
  replace hD21 := hD21.bel hX12
  replace hD23 := hD23.bel hX12
  have hb := bel_next hb hX12
  clear hF hX12
  rcases hz2 with hz2 | hz2
  · go_upto_region 15 with (fail)
    refine jp ?_
    refine jc (.bool true) (fun X hX hF => sanC X) ?_
    refine jm (.bool true) ?_
    refine jm (.int .i64 z) ?_
    refine jv (.bool false) (exec_eqi _ _ _ _ (by rfl) .i64 z 3 (by rfl) (by rfl) false (decide_eq_false (by omega))) ?_
    refine jm (.bool false) ?_
    refine jm (.int .i64 z) ?_
    refine jv (.bool true) (exec_eqi _ _ _ _ (by rfl) .i64 z 2 (by rfl) (by rfl) true (decide_eq_true (by omega))) ?_
    refine jm (.bool true) ?_
    refine jm (.bool true) ?_
    refine jm (.bool true) ?_
    refine lx_nil ?_
    intro X13 hX13 hF
    replace h1 := (Ks.lasts l) _ _ _ h1 hX13
    replace h2 := (Ks.lasts m) _ _ _ h2 hX13
    replace h3 := (Ks.lasts k) _ _ _ h3 hX13
    replace hnil := (Ks.lasts []) _ _ _ hnil hX13
    replace hv87 := (Tp.lasts (Kn.lasts (dly 0)) _) _ _ _ hv87 hX13
    replace hv88 := (Ks.lasts (dly 0)) _ _ _ hv88 hX13
    replace hv94 := (Tp.lasts (Kn.lasts (red l)) _) _ _ _ hv94 hX13
    replace hv95 := (Ks.lasts (red l)) _ _ _ hv95 hX13
    replace hv100 := (Tp.lasts (Kn.lasts (red l)) _) _ _ _ hv100 hX13
    replace hv101 := (Ks.lasts (red l)) _ _ _ hv101 hX13
    replace hv108 := (Tp.lasts (Kn.lasts (dly p)) _) _ _ _ hv108 hX13
    replace hv109 := (Ks.lasts (dly p)) _ _ _ hv109 hX13
    replace hv116 := (Tp.lasts (Kn.lasts (dly q)) _) _ _ _ hv116 hX13
    replace hv117 := (Ks.lasts (dly q)) _ _ _ hv117 hX13
    replace hv122 := (Tp.lasts (Kn.lasts (dly (p + q))) _) _ _ _ hv122 hX13
    replace hv123 := (Ks.lasts (dly (p + q))) _ _ _ hv123 hX13
    replace hv135 := (Tp.lasts (Kn.lasts (dly (p + q))) _) _ _ _ hv135 hX13
    replace hv136 := (Ks.lasts (dly (p + q))) _ _ _ hv136 hX13
    replace hB0 := hB0.bel hX13
    replace hB1 := hB1.bel hX13
    replace hB2 := hB2.bel hX13
    replace hD7 := hD7.bel hX13
    replace hD9 := hD9.bel hX13
    replace hD11 := hD11.bel hX13
    replace hD13 := hD13.bel hX13
    replace hD15 := hD15.bel hX13
    replace hD17 := hD17.bel hX13
    replace hD19 := hD19.bel hX13
    replace hD21 := hD21.bel hX13
    replace hD23 := hD23.bel hX13
    have hb := bel_next hb hX13
    clear hF hX13
    go_wp2
    go_ret
    exact ⟨rfl, hb⟩
  · go_upto_region 15 with (fail)
    refine jp ?_
    refine jc (.bool true) (fun X hX hF => sanC X) ?_
    refine jm (.bool true) ?_
    refine jm (.int .i64 z) ?_
    refine jv (.bool true) (exec_eqi _ _ _ _ (by rfl) .i64 z 3 (by rfl) (by rfl) true (decide_eq_true (by omega))) ?_
    refine jm (.bool true) ?_
    refine js ?_
    refine js ?_
    refine jm (.bool true) ?_
    refine jm (.bool true) ?_
    refine jm (.bool true) ?_
    refine lx_nil ?_
    intro X13 hX13 hF
    replace h1 := (Ks.lasts l) _ _ _ h1 hX13
    replace h2 := (Ks.lasts m) _ _ _ h2 hX13
    replace h3 := (Ks.lasts k) _ _ _ h3 hX13
    replace hnil := (Ks.lasts []) _ _ _ hnil hX13
    replace hv87 := (Tp.lasts (Kn.lasts (dly 0)) _) _ _ _ hv87 hX13
    replace hv88 := (Ks.lasts (dly 0)) _ _ _ hv88 hX13
    replace hv94 := (Tp.lasts (Kn.lasts (red l)) _) _ _ _ hv94 hX13
    replace hv95 := (Ks.lasts (red l)) _ _ _ hv95 hX13
    replace hv100 := (Tp.lasts (Kn.lasts (red l)) _) _ _ _ hv100 hX13
    replace hv101 := (Ks.lasts (red l)) _ _ _ hv101 hX13
    replace hv108 := (Tp.lasts (Kn.lasts (dly p)) _) _ _ _ hv108 hX13
    replace hv109 := (Ks.lasts (dly p)) _ _ _ hv109 hX13
    replace hv116 := (Tp.lasts (Kn.lasts (dly q)) _) _ _ _ hv116 hX13
    replace hv117 := (Ks.lasts (dly q)) _ _ _ hv117 hX13
    replace hv122 := (Tp.lasts (Kn.lasts (dly (p + q))) _) _ _ _ hv122 hX13
    replace hv123 := (Ks.lasts (dly (p + q))) _ _ _ hv123 hX13
    replace hv135 := (Tp.lasts (Kn.lasts (dly (p + q))) _) _ _ _ hv135 hX13
    replace hv136 := (Ks.lasts (dly (p + q))) _ _ _ hv136 hX13
    replace hB0 := hB0.bel hX13
    replace hB1 := hB1.bel hX13
    replace hB2 := hB2.bel hX13
    replace hD7 := hD7.bel hX13
    replace hD9 := hD9.bel hX13
    replace hD11 := hD11.bel hX13
    replace hD13 := hD13.bel hX13
    replace hD15 := hD15.bel hX13
    replace hD17 := hD17.bel hX13
    replace hD19 := hD19.bel hX13
    replace hD21 := hD21.bel hX13
    replace hD23 := hD23.bel hX13
    have hb := bel_next hb hX13
    clear hF hX13
    go_wp2
    go_ret
    exact ⟨rfl, hb⟩
theorem kmo7 (u1 u2 u3 : Value) (l m k : List Int) (x y : Nat) (w : World) (h1 : Ks l u1 w) (h2 : Ks m u2 w) (h3 : Ks k u3 w) (hx : x ≤ 255) (hy : y ≤ 255) (HA : Hid (fewK l.length = true)) (HB : Hid (fewK m.length = true)) (HC : Hid (fewK k.length = true)) (HD : Hid (kcE l = 0)) (HE : Hid (kcE m = 0)) (HF : Hid (kcE k = 0)) (HP : Hid (cpE l m = 0)) : Calls Tryd.prog 3 #[.agg #[u1, u2], .agg #[u3], .agg #[.int .u8 (x : Int), .int .u8 (y : Int)]] w fun e w' => e = .returned (.bool true) ∧ Since w w' := by
  have HKL : Hid (Kok l) := kcE_ok.1 HD.out
  have HKM : Hid (Kok m) := kcE_ok.1 HE.out
  have HKK : Hid (Kok k) := kcE_ok.1 HF.out
  obtain ⟨p, p9⟩ : ∃ p, x % 100 = p := ⟨_, rfl⟩
  obtain ⟨q, q9⟩ : ∃ q, y % 100 = q := ⟨_, rfl⟩
  have hp : p < 100 := by omega
  have hq : q < 100 := by omega
  have HP2 : Hid (cpE m l = 0) := by
    show _ = _
    rw [← HP.out]; exact (cpE_comm HKL.out HKM.out).symm
  have hl30 := few_len HKL.out HA.out
  have hm30 := few_len HKM.out HB.out
  have HML : szR (mean l) 661 := (mean_sz HKL.out).mono (by omega)
  have HMM : szR (mean m) 661 := (mean_sz HKM.out).mono (by omega)
  clear hl30 hm30
  obtain ⟨A, n, c, e1, _, _, _⟩ := h1.at
  subst e1
  obtain ⟨A2, n2, c2, e2, _, _, _⟩ := h2.at
  subst e2
  obtain ⟨A3, n3, c3, e3, _, _, _⟩ := h3.at
  subst e3
  have hnil : Ks [] (.slice none 0 0) w := ks_nil w
  have H1 : Hid (∀ X, Since w X → Ks l (.slice A n c) X) := fun X h => Ks.lasts l _ _ _ h1 h
  have H2 : Hid (∀ X, Since w X → Ks m (.slice A2 n2 c2) X) := fun X h => Ks.lasts m _ _ _ h2 h
  have H3 : Hid (∀ X, Since w X → Ks k (.slice A3 n3 c3) X) := fun X h => Ks.lasts k _ _ _ h3 h
  go_enter Tryd.func3, Tryd.ntmps3
  go_upto_region 1 with (fail)
  obtain ⟨W0, hW0, hB0, hB1, hB2, hb⟩ := start3 w 26 24 27 [.slice A n c, .slice A2 n2 c2] [.slice A3 n3 c3] [.int .u8 (x : Int), .int .u8 (y : Int)]
  rw [← hW0]
  clear hW0
  replace h1 := H1.out _ hb
  replace h2 := H2.out _ hb
  replace h3 := H3.out _ hb
  replace hnil : Ks [] (.slice none 0 0) W0 := ks_nil W0
  refine jp ?_
  refine jn (.pointer (some ⟨w.heap.size, 0, none⟩)) ?_
  refine jg (.agg #[.slice A n c]) (fun X hX hF => exec_inr 24 _ (by rfl) w.heap.size 0 [.slice A n c] (by rfl) Tryd.underlying24 rfl X (hB0.bel hX) (by rfl) info_kn) ?_
  refine jc (.bool true) (fun X hX hF => mo (fewV _ l X ⟨_, rfl, ((Ks.lasts l) _ _ _ h1 hX)⟩) (by rw [HA.out])) ?_
  refine jm (.bool false) ?_
  refine jm (.bool false) ?_
  refine jn (.pointer (some ⟨w.heap.size, 1, none⟩)) ?_
  refine jg (.agg #[.slice A2 n2 c2]) (fun X hX hF => exec_inr 24 _ (by rfl) w.heap.size 1 [.slice A2 n2 c2] (by rfl) Tryd.underlying24 rfl X (hB0.bel hX) (by rfl) info_kn) ?_
  refine jc (.bool true) (fun X hX hF => mo (fewV _ m X ⟨_, rfl, ((Ks.lasts m) _ _ _ h2 hX)⟩) (by rw [HB.out])) ?_
  refine jm (.bool false) ?_
  refine jm (.bool false) ?_
  refine jm (.bool false) ?_
  refine ja hB1 Tryd.underlying24 (by rfl) info_kn ?_
  refine jc (.bool true) (fun X hX hF => mo (fewV _ k X ⟨_, rfl, ((Ks.lasts k) _ _ _ h3 hX)⟩) (by rw [HC.out])) ?_
  refine jm (.bool false) ?_
  refine jm (.bool false) ?_
  refine jm (.bool false) ?_
  refine jn (.pointer (some ⟨w.heap.size, 0, none⟩)) ?_
  refine jg (.agg #[.slice A n c]) (fun X hX hF => exec_inr 24 _ (by rfl) w.heap.size 0 [.slice A n c] (by rfl) Tryd.underlying24 rfl X (hB0.bel hX) (by rfl) info_kn) ?_
  refine jc (.int .i64 0) (fun X hX hF => kchV _ l X ⟨_, rfl, ((Ks.lasts l) _ _ _ h1 hX)⟩ HD.out) ?_
  refine jv (.bool false) (exec_nei _ _ _ _ (by rfl) .i64 0 0 (by rfl) (by rfl) false (by rw [decide_eq_true (by omega)]; rfl)) ?_
  refine jm (.bool false) ?_
  refine jm (.bool false) ?_
  refine jn (.pointer (some ⟨w.heap.size, 1, none⟩)) ?_
  refine jg (.agg #[.slice A2 n2 c2]) (fun X hX hF => exec_inr 24 _ (by rfl) w.heap.size 1 [.slice A2 n2 c2] (by rfl) Tryd.underlying24 rfl X (hB0.bel hX) (by rfl) info_kn) ?_
  refine jc (.int .i64 0) (fun X hX hF => kchV _ m X ⟨_, rfl, ((Ks.lasts m) _ _ _ h2 hX)⟩ HE.out) ?_
  refine jv (.bool false) (exec_nei _ _ _ _ (by rfl) .i64 0 0 (by rfl) (by rfl) false (by rw [decide_eq_true (by omega)]; rfl)) ?_
  refine jm (.bool false) ?_
  refine jm (.bool false) ?_
  refine ja hB1 Tryd.underlying24 (by rfl) info_kn ?_
  refine jc (.int .i64 0) (fun X hX hF => kchV _ k X ⟨_, rfl, ((Ks.lasts k) _ _ _ h3 hX)⟩ HF.out) ?_
  refine jv (.bool false) (exec_nei _ _ _ _ (by rfl) .i64 0 0 (by rfl) (by rfl) false (by rw [decide_eq_true (by omega)]; rfl)) ?_
  refine jm (.bool false) ?_
  refine jz fun X1 hX1 => ?_
  replace h1 := (Ks.lasts l) _ _ _ h1 hX1
  replace h2 := (Ks.lasts m) _ _ _ h2 hX1
  replace h3 := (Ks.lasts k) _ _ _ h3 hX1
  replace hnil := (Ks.lasts []) _ _ _ hnil hX1
  replace hB0 := hB0.bel hX1
  replace hB1 := hB1.bel hX1
  replace hB2 := hB2.bel hX1
  have hb := bel_next hb hX1
  clear hX1
  go_upto_region 3 with (fail)
  refine lx_plain_to 8 [none, none, none, none, some (Tp (Kn (cpK l m)) 0), none, some (Kn (cpK l m))] (lasts_none (lasts_none (lasts_none (lasts_none (lasts_some (Tp.lasts (Kn.lasts (cpK l m)) _) (lasts_none (lasts_some (Kn.lasts (cpK l m)) (lasts_nil)))))))) ?_
  simp only [its, List.take, List.drop, Nat.zero_add, Nat.reduceAdd]
  refine jn (.pointer (some ⟨w.heap.size, 0, none⟩)) ?_
  refine jg (.agg #[.slice A n c]) (fun X hX hF => exec_inr 24 _ (by rfl) w.heap.size 0 [.slice A n c] (by rfl) Tryd.underlying24 rfl X (hB0.bel hX) (by rfl) info_kn) ?_
  refine jn (.pointer (some ⟨w.heap.size, 1, none⟩)) ?_
  refine jg (.agg #[.slice A2 n2 c2]) (fun X hX hF => exec_inr 24 _ (by rfl) w.heap.size 1 [.slice A2 n2 c2] (by rfl) Tryd.underlying24 rfl X (hB0.bel hX) (by rfl) info_kn) ?_
  refine jk (fun X hX hF => cpV _ _ l m X ⟨_, rfl, ((Ks.lasts l) _ _ _ h1 hX)⟩ ⟨_, rfl, ((Ks.lasts m) _ _ _ h2 hX)⟩ HKL.out HKM.out HP.out) ?_
  intro v75
  refine jm (v75) ?_
  refine lx_new (by rfl) (fun X hX hF => by obtain ⟨u9, h9, h8⟩ := (hF _ _ List.mem_cons_self rfl); subst h9; exact ⟨u9, X, rfl, h8, Below.refl _ _⟩) ?_
  intro v76
  simp only [pX]
  refine jg (.int .i64 0) (fun X hX hF => by obtain ⟨u9, h9, _⟩ := (hF _ _ (List.mem_cons_of_mem _ List.mem_cons_self) rfl); subst h9; rfl) ?_
  refine lx_nil ?_
  intro X2 hX2 hF
  replace h1 := (Ks.lasts l) _ _ _ h1 hX2
  replace h2 := (Ks.lasts m) _ _ _ h2 hX2
  replace h3 := (Ks.lasts k) _ _ _ h3 hX2
  replace hnil := (Ks.lasts []) _ _ _ hnil hX2
  have hv75 := hF _ _ (List.mem_cons_of_mem _ List.mem_cons_self)
  have hv76 := hF _ _ List.mem_cons_self
  replace hB0 := hB0.bel hX2
  replace hB1 := hB1.bel hX2
  replace hB2 := hB2.bel hX2
  have hb := bel_next hb hX2
  clear hF hX2
  obtain ⟨u76, e76, A76, c76, f76, q76⟩ := hv76
  subst f76
  subst e76
  have hv76 : Ks (cpK l m) (.slice A76 ((cpK l m)).length c76) X2 := ⟨_, _, rfl, q76⟩
  clear q76
  go_upto_region 4 with (refine osn 24 7 76 #[.slice A76 ((cpK l m)).length c76] info_kn ?_)
  obtain ⟨Y2, hY9, hD7, hS9⟩ := start1 X2 24 [.slice A76 ((cpK l m)).length c76]
  rw [← hY9]
  clear hY9
  have hgs7 := hb.size
  have hlt7x0 := hB0.lt
  have hlt7x1 := hB1.lt
  have hlt7x2 := hB2.lt
  replace hB0 := hB0.bel hS9
  replace hB1 := hB1.bel hS9
  replace hB2 := hB2.bel hS9
  replace h1 := (Ks.lasts l) _ _ _ h1 hS9
  replace h2 := (Ks.lasts m) _ _ _ h2 hS9
  replace h3 := (Ks.lasts k) _ _ _ h3 hS9
  replace hnil := (Ks.lasts []) _ _ _ hnil hS9
  replace hv75 := (Tp.lasts (Kn.lasts (cpK l m)) _) _ _ _ hv75 hS9
  replace hv76 := (Ks.lasts (cpK l m)) _ _ _ hv76 hS9
  have hb := bel_next hb hS9
  clear hS9
  generalize X2.heap.size = g7 at *
  refine lx_plain_to 8 [none, none, none, none, some (Tp (Kn (cpK l m)) 0), none, some (Kn (cpK l m))] (lasts_none (lasts_none (lasts_none (lasts_none (lasts_some (Tp.lasts (Kn.lasts (cpK l m)) _) (lasts_none (lasts_some (Kn.lasts (cpK l m)) (lasts_nil)))))))) ?_
  simp only [its, List.take, List.drop, Nat.zero_add, Nat.reduceAdd]
  refine jn (.pointer (some ⟨w.heap.size, 1, none⟩)) ?_
  refine jg (.agg #[.slice A2 n2 c2]) (fun X hX hF => exec_inr 24 _ (by rfl) w.heap.size 1 [.slice A2 n2 c2] (by rfl) Tryd.underlying24 rfl X (hB0.bel hX) (by rfl) info_kn) ?_
  refine jn (.pointer (some ⟨w.heap.size, 0, none⟩)) ?_
  refine jg (.agg #[.slice A n c]) (fun X hX hF => exec_inr 24 _ (by rfl) w.heap.size 0 [.slice A n c] (by rfl) Tryd.underlying24 rfl X (hB0.bel hX) (by rfl) info_kn) ?_
  refine jk (fun X hX hF => (cpV _ _ m l X ⟨_, rfl, ((Ks.lasts m) _ _ _ h2 hX)⟩ ⟨_, rfl, ((Ks.lasts l) _ _ _ h1 hX)⟩ HKM.out HKL.out HP2.out).mono fun e X' ⟨v9, h1, h2, h3⟩ => ⟨v9, h1, by rw [(show cpK m l = cpK l m from (cpK_comm HKL.out HKM.out HP.out).symm)] at h2; exact h2, h3⟩) ?_
  intro v83
  refine jm (v83) ?_
  refine lx_new (by rfl) (fun X hX hF => by obtain ⟨u9, h9, h8⟩ := (hF _ _ List.mem_cons_self rfl); subst h9; exact ⟨u9, X, rfl, h8, Below.refl _ _⟩) ?_
  intro v84
  simp only [pX]
  refine jg (.int .i64 0) (fun X hX hF => by obtain ⟨u9, h9, _⟩ := (hF _ _ (List.mem_cons_of_mem _ List.mem_cons_self) rfl); subst h9; rfl) ?_
  refine lx_nil ?_
  intro X3 hX3 hF
  replace h1 := (Ks.lasts l) _ _ _ h1 hX3
  replace h2 := (Ks.lasts m) _ _ _ h2 hX3
  replace h3 := (Ks.lasts k) _ _ _ h3 hX3
  replace hnil := (Ks.lasts []) _ _ _ hnil hX3
  replace hv75 := (Tp.lasts (Kn.lasts (cpK l m)) _) _ _ _ hv75 hX3
  replace hv76 := (Ks.lasts (cpK l m)) _ _ _ hv76 hX3
  have hv83 := hF _ _ (List.mem_cons_of_mem _ List.mem_cons_self)
  have hv84 := hF _ _ List.mem_cons_self
  replace hB0 := hB0.bel hX3
  replace hB1 := hB1.bel hX3
  replace hB2 := hB2.bel hX3
  replace hD7 := hD7.bel hX3
  have hb := bel_next hb hX3
  clear hF hX3
  obtain ⟨u84, e84, A84, c84, f84, q84⟩ := hv84
  subst f84
  subst e84
  have hv84 : Ks (cpK l m) (.slice A84 ((cpK l m)).length c84) X3 := ⟨_, _, rfl, q84⟩
  clear q84
  go_upto_region 5 with (refine osn 24 9 84 #[.slice A84 ((cpK l m)).length c84] info_kn ?_)
  obtain ⟨Y3, hY9, hD9, hS9⟩ := start1 X3 24 [.slice A84 ((cpK l m)).length c84]
  rw [← hY9]
  clear hY9
  have hgs9 := hb.size
  have hlt9x0 := hB0.lt
  have hlt9x1 := hB1.lt
  have hlt9x2 := hB2.lt
  have hlt9x3 := hD7.lt
  replace hB0 := hB0.bel hS9
  replace hB1 := hB1.bel hS9
  replace hB2 := hB2.bel hS9
  replace hD7 := hD7.bel hS9
  replace h1 := (Ks.lasts l) _ _ _ h1 hS9
  replace h2 := (Ks.lasts m) _ _ _ h2 hS9
  replace h3 := (Ks.lasts k) _ _ _ h3 hS9
  replace hnil := (Ks.lasts []) _ _ _ hnil hS9
  replace hv75 := (Tp.lasts (Kn.lasts (cpK l m)) _) _ _ _ hv75 hS9
  replace hv76 := (Ks.lasts (cpK l m)) _ _ _ hv76 hS9
  replace hv83 := (Tp.lasts (Kn.lasts (cpK l m)) _) _ _ _ hv83 hS9
  replace hv84 := (Ks.lasts (cpK l m)) _ _ _ hv84 hS9
  have hb := bel_next hb hS9
  clear hS9
  generalize X3.heap.size = g9 at *
  go_upto_region 5 with (fail)
  refine lx_plain_to 4 [some (Tp (Kn (dly 0)) 0), none, some (Kn (dly 0))] (lasts_some (Tp.lasts (Kn.lasts (dly 0)) _) (lasts_none (lasts_some (Kn.lasts (dly 0)) (lasts_nil)))) ?_
  simp only [its, List.take, List.drop, Nat.zero_add, Nat.reduceAdd]
  refine jk (fun X hX hF => dlyV 0 X (by decide)) ?_
  intro v87
  refine jm (v87) ?_
  refine lx_new (by rfl) (fun X hX hF => by obtain ⟨u9, h9, h8⟩ := (hF _ _ List.mem_cons_self rfl); subst h9; exact ⟨u9, X, rfl, h8, Below.refl _ _⟩) ?_
  intro v88
  simp only [pX]
  refine jg (.int .i64 0) (fun X hX hF => by obtain ⟨u9, h9, _⟩ := (hF _ _ (List.mem_cons_of_mem _ List.mem_cons_self) rfl); subst h9; rfl) ?_
  refine lx_nil ?_
  intro X4 hX4 hF
  replace h1 := (Ks.lasts l) _ _ _ h1 hX4
  replace h2 := (Ks.lasts m) _ _ _ h2 hX4
  replace h3 := (Ks.lasts k) _ _ _ h3 hX4
  replace hnil := (Ks.lasts []) _ _ _ hnil hX4
  replace hv75 := (Tp.lasts (Kn.lasts (cpK l m)) _) _ _ _ hv75 hX4
  replace hv76 := (Ks.lasts (cpK l m)) _ _ _ hv76 hX4
  replace hv83 := (Tp.lasts (Kn.lasts (cpK l m)) _) _ _ _ hv83 hX4
  replace hv84 := (Ks.lasts (cpK l m)) _ _ _ hv84 hX4
  have hv87 := hF _ _ (List.mem_cons_of_mem _ List.mem_cons_self)
  have hv88 := hF _ _ List.mem_cons_self
  replace hB0 := hB0.bel hX4
  replace hB1 := hB1.bel hX4
  replace hB2 := hB2.bel hX4
  replace hD7 := hD7.bel hX4
  replace hD9 := hD9.bel hX4
  have hb := bel_next hb hX4
  clear hF hX4
  obtain ⟨u88, e88, A88, c88, f88, q88⟩ := hv88
  subst f88
  subst e88
  have hv88 : Ks (dly 0) (.slice A88 ((dly 0)).length c88) X4 := ⟨_, _, rfl, q88⟩
  clear q88
  go_upto_region 6 with (refine osn 24 11 88 #[.slice A88 ((dly 0)).length c88] info_kn ?_)
  obtain ⟨Y4, hY9, hD11, hS9⟩ := start1 X4 24 [.slice A88 ((dly 0)).length c88]
  rw [← hY9]
  clear hY9
  have hgs11 := hb.size
  have hlt11x0 := hB0.lt
  have hlt11x1 := hB1.lt
  have hlt11x2 := hB2.lt
  have hlt11x3 := hD7.lt
  have hlt11x4 := hD9.lt
  replace hB0 := hB0.bel hS9
  replace hB1 := hB1.bel hS9
  replace hB2 := hB2.bel hS9
  replace hD7 := hD7.bel hS9
  replace hD9 := hD9.bel hS9
  replace h1 := (Ks.lasts l) _ _ _ h1 hS9
  replace h2 := (Ks.lasts m) _ _ _ h2 hS9
  replace h3 := (Ks.lasts k) _ _ _ h3 hS9
  replace hnil := (Ks.lasts []) _ _ _ hnil hS9
  replace hv75 := (Tp.lasts (Kn.lasts (cpK l m)) _) _ _ _ hv75 hS9
  replace hv76 := (Ks.lasts (cpK l m)) _ _ _ hv76 hS9
  replace hv83 := (Tp.lasts (Kn.lasts (cpK l m)) _) _ _ _ hv83 hS9
  replace hv84 := (Ks.lasts (cpK l m)) _ _ _ hv84 hS9
  replace hv87 := (Tp.lasts (Kn.lasts (dly 0)) _) _ _ _ hv87 hS9
  replace hv88 := (Ks.lasts (dly 0)) _ _ _ hv88 hS9
  have hb := bel_next hb hS9
  clear hS9
  generalize X4.heap.size = g11 at *
  refine lx_plain_to 7 [none, none, none, some (Tp (Kn (red l)) 0), none, some (Kn (red l))] (lasts_none (lasts_none (lasts_none (lasts_some (Tp.lasts (Kn.lasts (red l)) _) (lasts_none (lasts_some (Kn.lasts (red l)) (lasts_nil))))))) ?_
  simp only [its, List.take, List.drop, Nat.zero_add, Nat.reduceAdd]
  refine jn (.pointer (some ⟨w.heap.size, 0, none⟩)) ?_
  refine jg (.agg #[.slice A n c]) (fun X hX hF => exec_inr 24 _ (by rfl) w.heap.size 0 [.slice A n c] (by rfl) Tryd.underlying24 rfl X (hB0.bel hX) (by rfl) info_kn) ?_
  refine ja hD11 Tryd.underlying24 (by rfl) info_kn ?_
  refine jk (fun X hX hF => (cpV _ _ l (dly 0) X ⟨_, rfl, ((Ks.lasts l) _ _ _ h1 hX)⟩ ⟨_, rfl, ((Ks.lasts (dly 0)) _ _ _ hv88 hX)⟩ HKL.out (dly_kok (by decide)) (cp_zero HKL.out)).mono fun e X' ⟨v9, h1, h2, h3⟩ => ⟨v9, h1, by rw [(show cpK l (dly 0) = red l from cpK_zero HKL.out)] at h2; exact h2, h3⟩) ?_
  intro v94
  refine jm (v94) ?_
  refine lx_new (by rfl) (fun X hX hF => by obtain ⟨u9, h9, h8⟩ := (hF _ _ List.mem_cons_self rfl); subst h9; exact ⟨u9, X, rfl, h8, Below.refl _ _⟩) ?_
  intro v95
  simp only [pX]
  refine jg (.int .i64 0) (fun X hX hF => by obtain ⟨u9, h9, _⟩ := (hF _ _ (List.mem_cons_of_mem _ List.mem_cons_self) rfl); subst h9; rfl) ?_
  refine lx_nil ?_
  intro X5 hX5 hF
  replace h1 := (Ks.lasts l) _ _ _ h1 hX5
  replace h2 := (Ks.lasts m) _ _ _ h2 hX5
  replace h3 := (Ks.lasts k) _ _ _ h3 hX5
  replace hnil := (Ks.lasts []) _ _ _ hnil hX5
  replace hv75 := (Tp.lasts (Kn.lasts (cpK l m)) _) _ _ _ hv75 hX5
  replace hv76 := (Ks.lasts (cpK l m)) _ _ _ hv76 hX5
  replace hv83 := (Tp.lasts (Kn.lasts (cpK l m)) _) _ _ _ hv83 hX5
  replace hv84 := (Ks.lasts (cpK l m)) _ _ _ hv84 hX5
  replace hv87 := (Tp.lasts (Kn.lasts (dly 0)) _) _ _ _ hv87 hX5
  replace hv88 := (Ks.lasts (dly 0)) _ _ _ hv88 hX5
  have hv94 := hF _ _ (List.mem_cons_of_mem _ List.mem_cons_self)
  have hv95 := hF _ _ List.mem_cons_self
  replace hB0 := hB0.bel hX5
  replace hB1 := hB1.bel hX5
  replace hB2 := hB2.bel hX5
  replace hD7 := hD7.bel hX5
  replace hD9 := hD9.bel hX5
  replace hD11 := hD11.bel hX5
  have hb := bel_next hb hX5
  clear hF hX5
  obtain ⟨u95, e95, A95, c95, f95, q95⟩ := hv95
  subst f95
  subst e95
  have hv95 : Ks (red l) (.slice A95 ((red l)).length c95) X5 := ⟨_, _, rfl, q95⟩
  clear q95
  go_upto_region 7 with (refine osn 24 13 95 #[.slice A95 ((red l)).length c95] info_kn ?_)
  obtain ⟨Y5, hY9, hD13, hS9⟩ := start1 X5 24 [.slice A95 ((red l)).length c95]
  rw [← hY9]
  clear hY9
  have hgs13 := hb.size
  have hlt13x0 := hB0.lt
  have hlt13x1 := hB1.lt
  have hlt13x2 := hB2.lt
  have hlt13x3 := hD7.lt
  have hlt13x4 := hD9.lt
  have hlt13x5 := hD11.lt
  replace hB0 := hB0.bel hS9
  replace hB1 := hB1.bel hS9
  replace hB2 := hB2.bel hS9
  replace hD7 := hD7.bel hS9
  replace hD9 := hD9.bel hS9
  replace hD11 := hD11.bel hS9
  replace h1 := (Ks.lasts l) _ _ _ h1 hS9
  replace h2 := (Ks.lasts m) _ _ _ h2 hS9
  replace h3 := (Ks.lasts k) _ _ _ h3 hS9
  replace hnil := (Ks.lasts []) _ _ _ hnil hS9
  replace hv75 := (Tp.lasts (Kn.lasts (cpK l m)) _) _ _ _ hv75 hS9
  replace hv76 := (Ks.lasts (cpK l m)) _ _ _ hv76 hS9
  replace hv83 := (Tp.lasts (Kn.lasts (cpK l m)) _) _ _ _ hv83 hS9
  replace hv84 := (Ks.lasts (cpK l m)) _ _ _ hv84 hS9
  replace hv87 := (Tp.lasts (Kn.lasts (dly 0)) _) _ _ _ hv87 hS9
  replace hv88 := (Ks.lasts (dly 0)) _ _ _ hv88 hS9
  replace hv94 := (Tp.lasts (Kn.lasts (red l)) _) _ _ _ hv94 hS9
  replace hv95 := (Ks.lasts (red l)) _ _ _ hv95 hS9
  have hb := bel_next hb hS9
  clear hS9
  generalize X5.heap.size = g13 at *
  refine lx_plain_to 6 [none, none, some (Tp (Kn (red l)) 0), none, some (Kn (red l))] (lasts_none (lasts_none (lasts_some (Tp.lasts (Kn.lasts (red l)) _) (lasts_none (lasts_some (Kn.lasts (red l)) (lasts_nil)))))) ?_
  simp only [its, List.take, List.drop, Nat.zero_add, Nat.reduceAdd]
  refine jn (.pointer (some ⟨w.heap.size, 0, none⟩)) ?_
  refine jg (.agg #[.slice A n c]) (fun X hX hF => exec_inr 24 _ (by rfl) w.heap.size 0 [.slice A n c] (by rfl) Tryd.underlying24 rfl X (hB0.bel hX) (by rfl) info_kn) ?_
  refine jk (fun X hX hF => rduV _ l X ⟨_, rfl, ((Ks.lasts l) _ _ _ h1 hX)⟩ HKL.out) ?_
  intro v100
  refine jm (v100) ?_
  refine lx_new (by rfl) (fun X hX hF => by obtain ⟨u9, h9, h8⟩ := (hF _ _ List.mem_cons_self rfl); subst h9; exact ⟨u9, X, rfl, h8, Below.refl _ _⟩) ?_
  intro v101
  simp only [pX]
  refine jg (.int .i64 0) (fun X hX hF => by obtain ⟨u9, h9, _⟩ := (hF _ _ (List.mem_cons_of_mem _ List.mem_cons_self) rfl); subst h9; rfl) ?_
  refine lx_nil ?_
  intro X6 hX6 hF
  replace h1 := (Ks.lasts l) _ _ _ h1 hX6
  replace h2 := (Ks.lasts m) _ _ _ h2 hX6
  replace h3 := (Ks.lasts k) _ _ _ h3 hX6
  replace hnil := (Ks.lasts []) _ _ _ hnil hX6
  replace hv75 := (Tp.lasts (Kn.lasts (cpK l m)) _) _ _ _ hv75 hX6
  replace hv76 := (Ks.lasts (cpK l m)) _ _ _ hv76 hX6
  replace hv83 := (Tp.lasts (Kn.lasts (cpK l m)) _) _ _ _ hv83 hX6
  replace hv84 := (Ks.lasts (cpK l m)) _ _ _ hv84 hX6
  replace hv87 := (Tp.lasts (Kn.lasts (dly 0)) _) _ _ _ hv87 hX6
  replace hv88 := (Ks.lasts (dly 0)) _ _ _ hv88 hX6
  replace hv94 := (Tp.lasts (Kn.lasts (red l)) _) _ _ _ hv94 hX6
  replace hv95 := (Ks.lasts (red l)) _ _ _ hv95 hX6
  have hv100 := hF _ _ (List.mem_cons_of_mem _ List.mem_cons_self)
  have hv101 := hF _ _ List.mem_cons_self
  replace hB0 := hB0.bel hX6
  replace hB1 := hB1.bel hX6
  replace hB2 := hB2.bel hX6
  replace hD7 := hD7.bel hX6
  replace hD9 := hD9.bel hX6
  replace hD11 := hD11.bel hX6
  replace hD13 := hD13.bel hX6
  have hb := bel_next hb hX6
  clear hF hX6
  obtain ⟨u101, e101, A101, c101, f101, q101⟩ := hv101
  subst f101
  subst e101
  have hv101 : Ks (red l) (.slice A101 ((red l)).length c101) X6 := ⟨_, _, rfl, q101⟩
  clear q101
  go_upto_region 8 with (refine osn 24 15 101 #[.slice A101 ((red l)).length c101] info_kn ?_)
  obtain ⟨Y6, hY9, hD15, hS9⟩ := start1 X6 24 [.slice A101 ((red l)).length c101]
  rw [← hY9]
  clear hY9
  have hgs15 := hb.size
  have hlt15x0 := hB0.lt
  have hlt15x1 := hB1.lt
  have hlt15x2 := hB2.lt
  have hlt15x3 := hD7.lt
  have hlt15x4 := hD9.lt
  have hlt15x5 := hD11.lt
  have hlt15x6 := hD13.lt
  replace hB0 := hB0.bel hS9
  replace hB1 := hB1.bel hS9
  replace hB2 := hB2.bel hS9
  replace hD7 := hD7.bel hS9
  replace hD9 := hD9.bel hS9
  replace hD11 := hD11.bel hS9
  replace hD13 := hD13.bel hS9
  replace h1 := (Ks.lasts l) _ _ _ h1 hS9
  replace h2 := (Ks.lasts m) _ _ _ h2 hS9
  replace h3 := (Ks.lasts k) _ _ _ h3 hS9
  replace hnil := (Ks.lasts []) _ _ _ hnil hS9
  replace hv75 := (Tp.lasts (Kn.lasts (cpK l m)) _) _ _ _ hv75 hS9
  replace hv76 := (Ks.lasts (cpK l m)) _ _ _ hv76 hS9
  replace hv83 := (Tp.lasts (Kn.lasts (cpK l m)) _) _ _ _ hv83 hS9
  replace hv84 := (Ks.lasts (cpK l m)) _ _ _ hv84 hS9
  replace hv87 := (Tp.lasts (Kn.lasts (dly 0)) _) _ _ _ hv87 hS9
  replace hv88 := (Ks.lasts (dly 0)) _ _ _ hv88 hS9
  replace hv94 := (Tp.lasts (Kn.lasts (red l)) _) _ _ _ hv94 hS9
  replace hv95 := (Ks.lasts (red l)) _ _ _ hv95 hS9
  replace hv100 := (Tp.lasts (Kn.lasts (red l)) _) _ _ _ hv100 hS9
  replace hv101 := (Ks.lasts (red l)) _ _ _ hv101 hS9
  have hb := bel_next hb hS9
  clear hS9
  generalize X6.heap.size = g15 at *
  refine lx_plain_to 8 [none, none, none, none, some (Tp (Kn (dly p)) 0), none, some (Kn (dly p))] (lasts_none (lasts_none (lasts_none (lasts_none (lasts_some (Tp.lasts (Kn.lasts (dly p)) _) (lasts_none (lasts_some (Kn.lasts (dly p)) (lasts_nil)))))))) ?_
  simp only [its, List.take, List.drop, Nat.zero_add, Nat.reduceAdd]
  refine jn (.pointer (some ⟨(w.heap.size + 2), 0, none⟩)) ?_
  refine jf (.int .u8 (x : Int)) hB2 0 load_u8x ?_
  refine jv (.int .i64 (x : Int)) (exec_cnv _ _ .u8 .i64 Tryd.underlying5 Tryd.underlying3 _ (by rfl) (x : Int) (x : Int) (by rfl) (by rw [IntWalk.i64_in _ (by omega)])) ?_
  refine jv (.int .i64 (p : Int)) (exec_rem _ _ _ _ (by rfl) .i64 (x : Int) 100 (p : Int) (by rfl) (by rfl) (by omega) (by omega) (by omega)) ?_
  refine jk (fun X hX hF => dlyV p X (by omega)) ?_
  intro v108
  refine jm (v108) ?_
  refine lx_new (by rfl) (fun X hX hF => by obtain ⟨u9, h9, h8⟩ := (hF _ _ List.mem_cons_self rfl); subst h9; exact ⟨u9, X, rfl, h8, Below.refl _ _⟩) ?_
  intro v109
  simp only [pX]
  refine jg (.int .i64 0) (fun X hX hF => by obtain ⟨u9, h9, _⟩ := (hF _ _ (List.mem_cons_of_mem _ List.mem_cons_self) rfl); subst h9; rfl) ?_
  refine lx_nil ?_
  intro X7 hX7 hF
  replace h1 := (Ks.lasts l) _ _ _ h1 hX7
  replace h2 := (Ks.lasts m) _ _ _ h2 hX7
  replace h3 := (Ks.lasts k) _ _ _ h3 hX7
  replace hnil := (Ks.lasts []) _ _ _ hnil hX7
  replace hv75 := (Tp.lasts (Kn.lasts (cpK l m)) _) _ _ _ hv75 hX7
  replace hv76 := (Ks.lasts (cpK l m)) _ _ _ hv76 hX7
  replace hv83 := (Tp.lasts (Kn.lasts (cpK l m)) _) _ _ _ hv83 hX7
  replace hv84 := (Ks.lasts (cpK l m)) _ _ _ hv84 hX7
  replace hv87 := (Tp.lasts (Kn.lasts (dly 0)) _) _ _ _ hv87 hX7
  replace hv88 := (Ks.lasts (dly 0)) _ _ _ hv88 hX7
  replace hv94 := (Tp.lasts (Kn.lasts (red l)) _) _ _ _ hv94 hX7
  replace hv95 := (Ks.lasts (red l)) _ _ _ hv95 hX7
  replace hv100 := (Tp.lasts (Kn.lasts (red l)) _) _ _ _ hv100 hX7
  replace hv101 := (Ks.lasts (red l)) _ _ _ hv101 hX7
  have hv108 := hF _ _ (List.mem_cons_of_mem _ List.mem_cons_self)
  have hv109 := hF _ _ List.mem_cons_self
  replace hB0 := hB0.bel hX7
  replace hB1 := hB1.bel hX7
  replace hB2 := hB2.bel hX7
  replace hD7 := hD7.bel hX7
  replace hD9 := hD9.bel hX7
  replace hD11 := hD11.bel hX7
  replace hD13 := hD13.bel hX7
  replace hD15 := hD15.bel hX7
  have hb := bel_next hb hX7
  clear hF hX7
  obtain ⟨u109, e109, A109, c109, f109, q109⟩ := hv109
  subst f109
  subst e109
  have hv109 : Ks (dly p) (.slice A109 ((dly p)).length c109) X7 := ⟨_, _, rfl, q109⟩
  clear q109
  go_upto_region 9 with (refine osn 24 17 109 #[.slice A109 ((dly p)).length c109] info_kn ?_)
  obtain ⟨Y7, hY9, hD17, hS9⟩ := start1 X7 24 [.slice A109 ((dly p)).length c109]
  rw [← hY9]
  clear hY9
  have hgs17 := hb.size
  have hlt17x0 := hB0.lt
  have hlt17x1 := hB1.lt
  have hlt17x2 := hB2.lt
  have hlt17x3 := hD7.lt
  have hlt17x4 := hD9.lt
  have hlt17x5 := hD11.lt
  have hlt17x6 := hD13.lt
  have hlt17x7 := hD15.lt
  replace hB0 := hB0.bel hS9
  replace hB1 := hB1.bel hS9
  replace hB2 := hB2.bel hS9
  replace hD7 := hD7.bel hS9
  replace hD9 := hD9.bel hS9
  replace hD11 := hD11.bel hS9
  replace hD13 := hD13.bel hS9
  replace hD15 := hD15.bel hS9
  replace h1 := (Ks.lasts l) _ _ _ h1 hS9
  replace h2 := (Ks.lasts m) _ _ _ h2 hS9
  replace h3 := (Ks.lasts k) _ _ _ h3 hS9
  replace hnil := (Ks.lasts []) _ _ _ hnil hS9
  replace hv75 := (Tp.lasts (Kn.lasts (cpK l m)) _) _ _ _ hv75 hS9
  replace hv76 := (Ks.lasts (cpK l m)) _ _ _ hv76 hS9
  replace hv83 := (Tp.lasts (Kn.lasts (cpK l m)) _) _ _ _ hv83 hS9
  replace hv84 := (Ks.lasts (cpK l m)) _ _ _ hv84 hS9
  replace hv87 := (Tp.lasts (Kn.lasts (dly 0)) _) _ _ _ hv87 hS9
  replace hv88 := (Ks.lasts (dly 0)) _ _ _ hv88 hS9
  replace hv94 := (Tp.lasts (Kn.lasts (red l)) _) _ _ _ hv94 hS9
  replace hv95 := (Ks.lasts (red l)) _ _ _ hv95 hS9
  replace hv100 := (Tp.lasts (Kn.lasts (red l)) _) _ _ _ hv100 hS9
  replace hv101 := (Ks.lasts (red l)) _ _ _ hv101 hS9
  replace hv108 := (Tp.lasts (Kn.lasts (dly p)) _) _ _ _ hv108 hS9
  replace hv109 := (Ks.lasts (dly p)) _ _ _ hv109 hS9
  have hb := bel_next hb hS9
  clear hS9
  generalize X7.heap.size = g17 at *
  refine lx_plain_to 8 [none, none, none, none, some (Tp (Kn (dly q)) 0), none, some (Kn (dly q))] (lasts_none (lasts_none (lasts_none (lasts_none (lasts_some (Tp.lasts (Kn.lasts (dly q)) _) (lasts_none (lasts_some (Kn.lasts (dly q)) (lasts_nil)))))))) ?_
  simp only [its, List.take, List.drop, Nat.zero_add, Nat.reduceAdd]
  refine jn (.pointer (some ⟨(w.heap.size + 2), 1, none⟩)) ?_
  refine jf (.int .u8 (y : Int)) hB2 1 load_u8x ?_
  refine jv (.int .i64 (y : Int)) (exec_cnv _ _ .u8 .i64 Tryd.underlying5 Tryd.underlying3 _ (by rfl) (y : Int) (y : Int) (by rfl) (by rw [IntWalk.i64_in _ (by omega)])) ?_
  refine jv (.int .i64 (q : Int)) (exec_rem _ _ _ _ (by rfl) .i64 (y : Int) 100 (q : Int) (by rfl) (by rfl) (by omega) (by omega) (by omega)) ?_
  refine jk (fun X hX hF => dlyV q X (by omega)) ?_
  intro v116
  refine jm (v116) ?_
  refine lx_new (by rfl) (fun X hX hF => by obtain ⟨u9, h9, h8⟩ := (hF _ _ List.mem_cons_self rfl); subst h9; exact ⟨u9, X, rfl, h8, Below.refl _ _⟩) ?_
  intro v117
  simp only [pX]
  refine jg (.int .i64 0) (fun X hX hF => by obtain ⟨u9, h9, _⟩ := (hF _ _ (List.mem_cons_of_mem _ List.mem_cons_self) rfl); subst h9; rfl) ?_
  refine lx_nil ?_
  intro X8 hX8 hF
  replace h1 := (Ks.lasts l) _ _ _ h1 hX8
  replace h2 := (Ks.lasts m) _ _ _ h2 hX8
  replace h3 := (Ks.lasts k) _ _ _ h3 hX8
  replace hnil := (Ks.lasts []) _ _ _ hnil hX8
  replace hv75 := (Tp.lasts (Kn.lasts (cpK l m)) _) _ _ _ hv75 hX8
  replace hv76 := (Ks.lasts (cpK l m)) _ _ _ hv76 hX8
  replace hv83 := (Tp.lasts (Kn.lasts (cpK l m)) _) _ _ _ hv83 hX8
  replace hv84 := (Ks.lasts (cpK l m)) _ _ _ hv84 hX8
  replace hv87 := (Tp.lasts (Kn.lasts (dly 0)) _) _ _ _ hv87 hX8
  replace hv88 := (Ks.lasts (dly 0)) _ _ _ hv88 hX8
  replace hv94 := (Tp.lasts (Kn.lasts (red l)) _) _ _ _ hv94 hX8
  replace hv95 := (Ks.lasts (red l)) _ _ _ hv95 hX8
  replace hv100 := (Tp.lasts (Kn.lasts (red l)) _) _ _ _ hv100 hX8
  replace hv101 := (Ks.lasts (red l)) _ _ _ hv101 hX8
  replace hv108 := (Tp.lasts (Kn.lasts (dly p)) _) _ _ _ hv108 hX8
  replace hv109 := (Ks.lasts (dly p)) _ _ _ hv109 hX8
  have hv116 := hF _ _ (List.mem_cons_of_mem _ List.mem_cons_self)
  have hv117 := hF _ _ List.mem_cons_self
  replace hB0 := hB0.bel hX8
  replace hB1 := hB1.bel hX8
  replace hB2 := hB2.bel hX8
  replace hD7 := hD7.bel hX8
  replace hD9 := hD9.bel hX8
  replace hD11 := hD11.bel hX8
  replace hD13 := hD13.bel hX8
  replace hD15 := hD15.bel hX8
  replace hD17 := hD17.bel hX8
  have hb := bel_next hb hX8
  clear hF hX8
  obtain ⟨u117, e117, A117, c117, f117, q117⟩ := hv117
  subst f117
  subst e117
  have hv117 : Ks (dly q) (.slice A117 ((dly q)).length c117) X8 := ⟨_, _, rfl, q117⟩
  clear q117
  go_upto_region 10 with (refine osn 24 19 117 #[.slice A117 ((dly q)).length c117] info_kn ?_)
  obtain ⟨Y8, hY9, hD19, hS9⟩ := start1 X8 24 [.slice A117 ((dly q)).length c117]
  rw [← hY9]
  clear hY9
  have hgs19 := hb.size
  have hlt19x0 := hB0.lt
  have hlt19x1 := hB1.lt
  have hlt19x2 := hB2.lt
  have hlt19x3 := hD7.lt
  have hlt19x4 := hD9.lt
  have hlt19x5 := hD11.lt
  have hlt19x6 := hD13.lt
  have hlt19x7 := hD15.lt
  have hlt19x8 := hD17.lt
  replace hB0 := hB0.bel hS9
  replace hB1 := hB1.bel hS9
  replace hB2 := hB2.bel hS9
  replace hD7 := hD7.bel hS9
  replace hD9 := hD9.bel hS9
  replace hD11 := hD11.bel hS9
  replace hD13 := hD13.bel hS9
  replace hD15 := hD15.bel hS9
  replace hD17 := hD17.bel hS9
  replace h1 := (Ks.lasts l) _ _ _ h1 hS9
  replace h2 := (Ks.lasts m) _ _ _ h2 hS9
  replace h3 := (Ks.lasts k) _ _ _ h3 hS9
  replace hnil := (Ks.lasts []) _ _ _ hnil hS9
  replace hv75 := (Tp.lasts (Kn.lasts (cpK l m)) _) _ _ _ hv75 hS9
  replace hv76 := (Ks.lasts (cpK l m)) _ _ _ hv76 hS9
  replace hv83 := (Tp.lasts (Kn.lasts (cpK l m)) _) _ _ _ hv83 hS9
  replace hv84 := (Ks.lasts (cpK l m)) _ _ _ hv84 hS9
  replace hv87 := (Tp.lasts (Kn.lasts (dly 0)) _) _ _ _ hv87 hS9
  replace hv88 := (Ks.lasts (dly 0)) _ _ _ hv88 hS9
  replace hv94 := (Tp.lasts (Kn.lasts (red l)) _) _ _ _ hv94 hS9
  replace hv95 := (Ks.lasts (red l)) _ _ _ hv95 hS9
  replace hv100 := (Tp.lasts (Kn.lasts (red l)) _) _ _ _ hv100 hS9
  replace hv101 := (Ks.lasts (red l)) _ _ _ hv101 hS9
  replace hv108 := (Tp.lasts (Kn.lasts (dly p)) _) _ _ _ hv108 hS9
  replace hv109 := (Ks.lasts (dly p)) _ _ _ hv109 hS9
  replace hv116 := (Tp.lasts (Kn.lasts (dly q)) _) _ _ _ hv116 hS9
  replace hv117 := (Ks.lasts (dly q)) _ _ _ hv117 hS9
  have hb := bel_next hb hS9
  clear hS9
  generalize X8.heap.size = g19 at *
  refine lx_plain_to 6 [none, none, some (Tp (Kn (dly (p + q))) 0), none, some (Kn (dly (p + q)))] (lasts_none (lasts_none (lasts_some (Tp.lasts (Kn.lasts (dly (p + q))) _) (lasts_none (lasts_some (Kn.lasts (dly (p + q))) (lasts_nil)))))) ?_
  simp only [its, List.take, List.drop, Nat.zero_add, Nat.reduceAdd]
  refine ja hD17 Tryd.underlying24 (by rfl) info_kn ?_
  refine ja hD19 Tryd.underlying24 (by rfl) info_kn ?_
  refine jk (fun X hX hF => (cpV _ _ (dly p) (dly q) X ⟨_, rfl, ((Ks.lasts (dly p)) _ _ _ hv109 hX)⟩ ⟨_, rfl, ((Ks.lasts (dly q)) _ _ _ hv117 hX)⟩ (dly_kok (by omega)) (dly_kok (by omega)) (cp_dly hp hq)).mono fun e X' ⟨v9, h1, h2, h3⟩ => ⟨v9, h1, by rw [(show cpK (dly p) (dly q) = dly (p + q) from cpK_dly hp hq)] at h2; exact h2, h3⟩) ?_
  intro v122
  refine jm (v122) ?_
  refine lx_new (by rfl) (fun X hX hF => by obtain ⟨u9, h9, h8⟩ := (hF _ _ List.mem_cons_self rfl); subst h9; exact ⟨u9, X, rfl, h8, Below.refl _ _⟩) ?_
  intro v123
  simp only [pX]
  refine jg (.int .i64 0) (fun X hX hF => by obtain ⟨u9, h9, _⟩ := (hF _ _ (List.mem_cons_of_mem _ List.mem_cons_self) rfl); subst h9; rfl) ?_
  refine lx_nil ?_
  intro X9 hX9 hF
  replace h1 := (Ks.lasts l) _ _ _ h1 hX9
  replace h2 := (Ks.lasts m) _ _ _ h2 hX9
  replace h3 := (Ks.lasts k) _ _ _ h3 hX9
  replace hnil := (Ks.lasts []) _ _ _ hnil hX9
  replace hv75 := (Tp.lasts (Kn.lasts (cpK l m)) _) _ _ _ hv75 hX9
  replace hv76 := (Ks.lasts (cpK l m)) _ _ _ hv76 hX9
  replace hv83 := (Tp.lasts (Kn.lasts (cpK l m)) _) _ _ _ hv83 hX9
  replace hv84 := (Ks.lasts (cpK l m)) _ _ _ hv84 hX9
  replace hv87 := (Tp.lasts (Kn.lasts (dly 0)) _) _ _ _ hv87 hX9
  replace hv88 := (Ks.lasts (dly 0)) _ _ _ hv88 hX9
  replace hv94 := (Tp.lasts (Kn.lasts (red l)) _) _ _ _ hv94 hX9
  replace hv95 := (Ks.lasts (red l)) _ _ _ hv95 hX9
  replace hv100 := (Tp.lasts (Kn.lasts (red l)) _) _ _ _ hv100 hX9
  replace hv101 := (Ks.lasts (red l)) _ _ _ hv101 hX9
  replace hv108 := (Tp.lasts (Kn.lasts (dly p)) _) _ _ _ hv108 hX9
  replace hv109 := (Ks.lasts (dly p)) _ _ _ hv109 hX9
  replace hv116 := (Tp.lasts (Kn.lasts (dly q)) _) _ _ _ hv116 hX9
  replace hv117 := (Ks.lasts (dly q)) _ _ _ hv117 hX9
  have hv122 := hF _ _ (List.mem_cons_of_mem _ List.mem_cons_self)
  have hv123 := hF _ _ List.mem_cons_self
  replace hB0 := hB0.bel hX9
  replace hB1 := hB1.bel hX9
  replace hB2 := hB2.bel hX9
  replace hD7 := hD7.bel hX9
  replace hD9 := hD9.bel hX9
  replace hD11 := hD11.bel hX9
  replace hD13 := hD13.bel hX9
  replace hD15 := hD15.bel hX9
  replace hD17 := hD17.bel hX9
  replace hD19 := hD19.bel hX9
  have hb := bel_next hb hX9
  clear hF hX9
  obtain ⟨u123, e123, A123, c123, f123, q123⟩ := hv123
  subst f123
  subst e123
  have hv123 : Ks (dly (p + q)) (.slice A123 ((dly (p + q))).length c123) X9 := ⟨_, _, rfl, q123⟩
  clear q123
  go_upto_region 11 with (refine osn 24 21 123 #[.slice A123 ((dly (p + q))).length c123] info_kn ?_)
  obtain ⟨Y9, hY9, hD21, hS9⟩ := start1 X9 24 [.slice A123 ((dly (p + q))).length c123]
  rw [← hY9]
  clear hY9
  have hgs21 := hb.size
  have hlt21x0 := hB0.lt
  have hlt21x1 := hB1.lt
  have hlt21x2 := hB2.lt
  have hlt21x3 := hD7.lt
  have hlt21x4 := hD9.lt
  have hlt21x5 := hD11.lt
  have hlt21x6 := hD13.lt
  have hlt21x7 := hD15.lt
  have hlt21x8 := hD17.lt
  have hlt21x9 := hD19.lt
  replace hB0 := hB0.bel hS9
  replace hB1 := hB1.bel hS9
  replace hB2 := hB2.bel hS9
  replace hD7 := hD7.bel hS9
  replace hD9 := hD9.bel hS9
  replace hD11 := hD11.bel hS9
  replace hD13 := hD13.bel hS9
  replace hD15 := hD15.bel hS9
  replace hD17 := hD17.bel hS9
  replace hD19 := hD19.bel hS9
  replace h1 := (Ks.lasts l) _ _ _ h1 hS9
  replace h2 := (Ks.lasts m) _ _ _ h2 hS9
  replace h3 := (Ks.lasts k) _ _ _ h3 hS9
  replace hnil := (Ks.lasts []) _ _ _ hnil hS9
  replace hv75 := (Tp.lasts (Kn.lasts (cpK l m)) _) _ _ _ hv75 hS9
  replace hv76 := (Ks.lasts (cpK l m)) _ _ _ hv76 hS9
  replace hv83 := (Tp.lasts (Kn.lasts (cpK l m)) _) _ _ _ hv83 hS9
  replace hv84 := (Ks.lasts (cpK l m)) _ _ _ hv84 hS9
  replace hv87 := (Tp.lasts (Kn.lasts (dly 0)) _) _ _ _ hv87 hS9
  replace hv88 := (Ks.lasts (dly 0)) _ _ _ hv88 hS9
  replace hv94 := (Tp.lasts (Kn.lasts (red l)) _) _ _ _ hv94 hS9
  replace hv95 := (Ks.lasts (red l)) _ _ _ hv95 hS9
  replace hv100 := (Tp.lasts (Kn.lasts (red l)) _) _ _ _ hv100 hS9
  replace hv101 := (Ks.lasts (red l)) _ _ _ hv101 hS9
  replace hv108 := (Tp.lasts (Kn.lasts (dly p)) _) _ _ _ hv108 hS9
  replace hv109 := (Ks.lasts (dly p)) _ _ _ hv109 hS9
  replace hv116 := (Tp.lasts (Kn.lasts (dly q)) _) _ _ _ hv116 hS9
  replace hv117 := (Ks.lasts (dly q)) _ _ _ hv117 hS9
  replace hv122 := (Tp.lasts (Kn.lasts (dly (p + q))) _) _ _ _ hv122 hS9
  replace hv123 := (Ks.lasts (dly (p + q))) _ _ _ hv123 hS9
  have hb := bel_next hb hS9
  clear hS9
  generalize X9.heap.size = g21 at *
  refine lx_plain_to 13 [none, none, none, none, none, none, none, none, none, some (Tp (Kn (dly (p + q))) 0), none, some (Kn (dly (p + q)))] (lasts_none (lasts_none (lasts_none (lasts_none (lasts_none (lasts_none (lasts_none (lasts_none (lasts_none (lasts_some (Tp.lasts (Kn.lasts (dly (p + q))) _) (lasts_none (lasts_some (Kn.lasts (dly (p + q))) (lasts_nil))))))))))))) ?_
  simp only [its, List.take, List.drop, Nat.zero_add, Nat.reduceAdd]
  refine jn (.pointer (some ⟨(w.heap.size + 2), 0, none⟩)) ?_
  refine jf (.int .u8 (x : Int)) hB2 0 load_u8x ?_
  refine jv (.int .i64 (x : Int)) (exec_cnv _ _ .u8 .i64 Tryd.underlying5 Tryd.underlying3 _ (by rfl) (x : Int) (x : Int) (by rfl) (by rw [IntWalk.i64_in _ (by omega)])) ?_
  refine jv (.int .i64 (p : Int)) (exec_rem _ _ _ _ (by rfl) .i64 (x : Int) 100 (p : Int) (by rfl) (by rfl) (by omega) (by omega) (by omega)) ?_
  refine jn (.pointer (some ⟨(w.heap.size + 2), 1, none⟩)) ?_
  refine jf (.int .u8 (y : Int)) hB2 1 load_u8x ?_
  refine jv (.int .i64 (y : Int)) (exec_cnv _ _ .u8 .i64 Tryd.underlying5 Tryd.underlying3 _ (by rfl) (y : Int) (y : Int) (by rfl) (by rw [IntWalk.i64_in _ (by omega)])) ?_
  refine jv (.int .i64 (q : Int)) (exec_rem _ _ _ _ (by rfl) .i64 (y : Int) 100 (q : Int) (by rfl) (by rfl) (by omega) (by omega) (by omega)) ?_
  refine jv (.int .i64 ((p + q : Nat) : Int)) (exec_add _ _ _ _ (by rfl) (p : Int) (q : Int) ((p + q : Nat) : Int) (by rfl) (by rfl) (by omega) (by omega) (by omega)) ?_
  refine jk (fun X hX hF => dlyV (p + q) X (by omega)) ?_
  intro v135
  refine jm (v135) ?_
  refine lx_new (by rfl) (fun X hX hF => by obtain ⟨u9, h9, h8⟩ := (hF _ _ List.mem_cons_self rfl); subst h9; exact ⟨u9, X, rfl, h8, Below.refl _ _⟩) ?_
  intro v136
  simp only [pX]
  refine jg (.int .i64 0) (fun X hX hF => by obtain ⟨u9, h9, _⟩ := (hF _ _ (List.mem_cons_of_mem _ List.mem_cons_self) rfl); subst h9; rfl) ?_
  refine lx_nil ?_
  intro X10 hX10 hF
  replace h1 := (Ks.lasts l) _ _ _ h1 hX10
  replace h2 := (Ks.lasts m) _ _ _ h2 hX10
  replace h3 := (Ks.lasts k) _ _ _ h3 hX10
  replace hnil := (Ks.lasts []) _ _ _ hnil hX10
  replace hv75 := (Tp.lasts (Kn.lasts (cpK l m)) _) _ _ _ hv75 hX10
  replace hv76 := (Ks.lasts (cpK l m)) _ _ _ hv76 hX10
  replace hv83 := (Tp.lasts (Kn.lasts (cpK l m)) _) _ _ _ hv83 hX10
  replace hv84 := (Ks.lasts (cpK l m)) _ _ _ hv84 hX10
  replace hv87 := (Tp.lasts (Kn.lasts (dly 0)) _) _ _ _ hv87 hX10
  replace hv88 := (Ks.lasts (dly 0)) _ _ _ hv88 hX10
  replace hv94 := (Tp.lasts (Kn.lasts (red l)) _) _ _ _ hv94 hX10
  replace hv95 := (Ks.lasts (red l)) _ _ _ hv95 hX10
  replace hv100 := (Tp.lasts (Kn.lasts (red l)) _) _ _ _ hv100 hX10
  replace hv101 := (Ks.lasts (red l)) _ _ _ hv101 hX10
  replace hv108 := (Tp.lasts (Kn.lasts (dly p)) _) _ _ _ hv108 hX10
  replace hv109 := (Ks.lasts (dly p)) _ _ _ hv109 hX10
  replace hv116 := (Tp.lasts (Kn.lasts (dly q)) _) _ _ _ hv116 hX10
  replace hv117 := (Ks.lasts (dly q)) _ _ _ hv117 hX10
  replace hv122 := (Tp.lasts (Kn.lasts (dly (p + q))) _) _ _ _ hv122 hX10
  replace hv123 := (Ks.lasts (dly (p + q))) _ _ _ hv123 hX10
  have hv135 := hF _ _ (List.mem_cons_of_mem _ List.mem_cons_self)
  have hv136 := hF _ _ List.mem_cons_self
  replace hB0 := hB0.bel hX10
  replace hB1 := hB1.bel hX10
  replace hB2 := hB2.bel hX10
  replace hD7 := hD7.bel hX10
  replace hD9 := hD9.bel hX10
  replace hD11 := hD11.bel hX10
  replace hD13 := hD13.bel hX10
  replace hD15 := hD15.bel hX10
  replace hD17 := hD17.bel hX10
  replace hD19 := hD19.bel hX10
  replace hD21 := hD21.bel hX10
  have hb := bel_next hb hX10
  clear hF hX10
  obtain ⟨u136, e136, A136, c136, f136, q136⟩ := hv136
  subst f136
  subst e136
  have hv136 : Ks (dly (p + q)) (.slice A136 ((dly (p + q))).length c136) X10 := ⟨_, _, rfl, q136⟩
  clear q136
  go_upto_region 12 with (refine osn 24 23 136 #[.slice A136 ((dly (p + q))).length c136] info_kn ?_)
  obtain ⟨Y10, hY9, hD23, hS9⟩ := start1 X10 24 [.slice A136 ((dly (p + q))).length c136]
  rw [← hY9]
  clear hY9
  have hgs23 := hb.size
  have hlt23x0 := hB0.lt
  have hlt23x1 := hB1.lt
  have hlt23x2 := hB2.lt
  have hlt23x3 := hD7.lt
  have hlt23x4 := hD9.lt
  have hlt23x5 := hD11.lt
  have hlt23x6 := hD13.lt
  have hlt23x7 := hD15.lt
  have hlt23x8 := hD17.lt
  have hlt23x9 := hD19.lt
  have hlt23x10 := hD21.lt
  replace hB0 := hB0.bel hS9
  replace hB1 := hB1.bel hS9
  replace hB2 := hB2.bel hS9
  replace hD7 := hD7.bel hS9
  replace hD9 := hD9.bel hS9
  replace hD11 := hD11.bel hS9
  replace hD13 := hD13.bel hS9
  replace hD15 := hD15.bel hS9
  replace hD17 := hD17.bel hS9
  replace hD19 := hD19.bel hS9
  replace hD21 := hD21.bel hS9
  replace h1 := (Ks.lasts l) _ _ _ h1 hS9
  replace h2 := (Ks.lasts m) _ _ _ h2 hS9
  replace h3 := (Ks.lasts k) _ _ _ h3 hS9
  replace hnil := (Ks.lasts []) _ _ _ hnil hS9
  replace hv75 := (Tp.lasts (Kn.lasts (cpK l m)) _) _ _ _ hv75 hS9
  replace hv76 := (Ks.lasts (cpK l m)) _ _ _ hv76 hS9
  replace hv83 := (Tp.lasts (Kn.lasts (cpK l m)) _) _ _ _ hv83 hS9
  replace hv84 := (Ks.lasts (cpK l m)) _ _ _ hv84 hS9
  replace hv87 := (Tp.lasts (Kn.lasts (dly 0)) _) _ _ _ hv87 hS9
  replace hv88 := (Ks.lasts (dly 0)) _ _ _ hv88 hS9
  replace hv94 := (Tp.lasts (Kn.lasts (red l)) _) _ _ _ hv94 hS9
  replace hv95 := (Ks.lasts (red l)) _ _ _ hv95 hS9
  replace hv100 := (Tp.lasts (Kn.lasts (red l)) _) _ _ _ hv100 hS9
  replace hv101 := (Ks.lasts (red l)) _ _ _ hv101 hS9
  replace hv108 := (Tp.lasts (Kn.lasts (dly p)) _) _ _ _ hv108 hS9
  replace hv109 := (Ks.lasts (dly p)) _ _ _ hv109 hS9
  replace hv116 := (Tp.lasts (Kn.lasts (dly q)) _) _ _ _ hv116 hS9
  replace hv117 := (Ks.lasts (dly q)) _ _ _ hv117 hS9
  replace hv122 := (Tp.lasts (Kn.lasts (dly (p + q))) _) _ _ _ hv122 hS9
  replace hv123 := (Ks.lasts (dly (p + q))) _ _ _ hv123 hS9
  replace hv135 := (Tp.lasts (Kn.lasts (dly (p + q))) _) _ _ _ hv135 hS9
  replace hv136 := (Ks.lasts (dly (p + q))) _ _ _ hv136 hS9
  have hb := bel_next hb hS9
  clear hS9
  generalize X10.heap.size = g23 at *
  refine jp ?_
  refine jm (.int .i64 0) ?_
  refine jm (.int .i64 0) ?_
  refine jv (.bool false) (exec_nei _ _ _ _ (by rfl) .i64 0 0 (by rfl) (by rfl) false (by rw [decide_eq_true (by omega)]; rfl)) ?_
  refine jm (.bool false) ?_
  refine ja hD7 Tryd.underlying24 (by rfl) info_kn ?_
  refine ja hD9 Tryd.underlying24 (by rfl) info_kn ?_
  refine jc (.bool true) (fun X hX hF => smV _ _ (cpK l m) X ⟨_, rfl, ((Ks.lasts (cpK l m)) _ _ _ hv76 hX)⟩ ⟨_, rfl, ((Ks.lasts (cpK l m)) _ _ _ hv84 hX)⟩) ?_
  refine jm (.bool false) ?_
  refine jm (.bool false) ?_
  refine jm (.bool false) ?_
  refine jm (.int .i64 0) ?_
  refine jv (.bool false) (exec_nei _ _ _ _ (by rfl) .i64 0 0 (by rfl) (by rfl) false (by rw [decide_eq_true (by omega)]; rfl)) ?_
  refine jm (.bool false) ?_
  refine jm (.bool false) ?_
  refine jm (.int .i64 0) ?_
  refine jv (.bool false) (exec_nei _ _ _ _ (by rfl) .i64 0 0 (by rfl) (by rfl) false (by rw [decide_eq_true (by omega)]; rfl)) ?_
  refine jm (.bool false) ?_
  refine jm (.bool false) ?_
  refine jm (.int .i64 0) ?_
  refine jv (.bool false) (exec_nei _ _ _ _ (by rfl) .i64 0 0 (by rfl) (by rfl) false (by rw [decide_eq_true (by omega)]; rfl)) ?_
  refine jm (.bool false) ?_
  refine jm (.bool false) ?_
  refine ja hD13 Tryd.underlying24 (by rfl) info_kn ?_
  refine ja hD15 Tryd.underlying24 (by rfl) info_kn ?_
  refine jc (.bool true) (fun X hX hF => smV _ _ (red l) X ⟨_, rfl, ((Ks.lasts (red l)) _ _ _ hv95 hX)⟩ ⟨_, rfl, ((Ks.lasts (red l)) _ _ _ hv101 hX)⟩) ?_
  refine jm (.bool false) ?_
  refine jm (.bool false) ?_
  refine jm (.bool false) ?_
  refine jm (.int .i64 0) ?_
  refine jv (.bool false) (exec_nei _ _ _ _ (by rfl) .i64 0 0 (by rfl) (by rfl) false (by rw [decide_eq_true (by omega)]; rfl)) ?_
  refine jm (.bool false) ?_
  refine jm (.bool false) ?_
  refine jm (.int .i64 0) ?_
  refine jv (.bool false) (exec_nei _ _ _ _ (by rfl) .i64 0 0 (by rfl) (by rfl) false (by rw [decide_eq_true (by omega)]; rfl)) ?_
  refine jm (.bool false) ?_
  refine jm (.bool false) ?_
  refine jm (.int .i64 0) ?_
  refine jv (.bool false) (exec_nei _ _ _ _ (by rfl) .i64 0 0 (by rfl) (by rfl) false (by rw [decide_eq_true (by omega)]; rfl)) ?_
  refine jm (.bool false) ?_
  refine jm (.bool false) ?_
  refine jm (.int .i64 0) ?_
  refine jv (.bool false) (exec_nei _ _ _ _ (by rfl) .i64 0 0 (by rfl) (by rfl) false (by rw [decide_eq_true (by omega)]; rfl)) ?_
  refine jm (.bool false) ?_
  refine jm (.bool false) ?_
  refine ja hD21 Tryd.underlying24 (by rfl) info_kn ?_
  refine ja hD23 Tryd.underlying24 (by rfl) info_kn ?_
  refine jc (.bool true) (fun X hX hF => smV _ _ (dly (p + q)) X ⟨_, rfl, ((Ks.lasts (dly (p + q))) _ _ _ hv123 hX)⟩ ⟨_, rfl, ((Ks.lasts (dly (p + q))) _ _ _ hv136 hX)⟩) ?_
  refine jm (.bool false) ?_
  refine jm (.bool false) ?_
  refine lx_nil ?_
  intro X11 hX11 hF
  replace h1 := (Ks.lasts l) _ _ _ h1 hX11
  replace h2 := (Ks.lasts m) _ _ _ h2 hX11
  replace h3 := (Ks.lasts k) _ _ _ h3 hX11
  replace hnil := (Ks.lasts []) _ _ _ hnil hX11
  replace hv75 := (Tp.lasts (Kn.lasts (cpK l m)) _) _ _ _ hv75 hX11
  replace hv76 := (Ks.lasts (cpK l m)) _ _ _ hv76 hX11
  replace hv83 := (Tp.lasts (Kn.lasts (cpK l m)) _) _ _ _ hv83 hX11
  replace hv84 := (Ks.lasts (cpK l m)) _ _ _ hv84 hX11
  replace hv87 := (Tp.lasts (Kn.lasts (dly 0)) _) _ _ _ hv87 hX11
  replace hv88 := (Ks.lasts (dly 0)) _ _ _ hv88 hX11
  replace hv94 := (Tp.lasts (Kn.lasts (red l)) _) _ _ _ hv94 hX11
  replace hv95 := (Ks.lasts (red l)) _ _ _ hv95 hX11
  replace hv100 := (Tp.lasts (Kn.lasts (red l)) _) _ _ _ hv100 hX11
  replace hv101 := (Ks.lasts (red l)) _ _ _ hv101 hX11
  replace hv108 := (Tp.lasts (Kn.lasts (dly p)) _) _ _ _ hv108 hX11
  replace hv109 := (Ks.lasts (dly p)) _ _ _ hv109 hX11
  replace hv116 := (Tp.lasts (Kn.lasts (dly q)) _) _ _ _ hv116 hX11
  replace hv117 := (Ks.lasts (dly q)) _ _ _ hv117 hX11
  replace hv122 := (Tp.lasts (Kn.lasts (dly (p + q))) _) _ _ _ hv122 hX11
  replace hv123 := (Ks.lasts (dly (p + q))) _ _ _ hv123 hX11
  replace hv135 := (Tp.lasts (Kn.lasts (dly (p + q))) _) _ _ _ hv135 hX11
  replace hv136 := (Ks.lasts (dly (p + q))) _ _ _ hv136 hX11
  replace hB0 := hB0.bel hX11
  replace hB1 := hB1.bel hX11
  replace hB2 := hB2.bel hX11
  replace hD7 := hD7.bel hX11
  replace hD9 := hD9.bel hX11
  replace hD11 := hD11.bel hX11
  replace hD13 := hD13.bel hX11
  replace hD15 := hD15.bel hX11
  replace hD17 := hD17.bel hX11
  replace hD19 := hD19.bel hX11
  replace hD21 := hD21.bel hX11
  replace hD23 := hD23.bel hX11
  have hb := bel_next hb hX11
  clear hF hX11
  go_upto_region 14 with (fail)
  refine jp ?_
  refine jm (.int .i64 0) ?_
  refine jv (.bool false) (exec_nei _ _ _ _ (by rfl) .i64 0 0 (by rfl) (by rfl) false (by rw [decide_eq_true (by omega)]; rfl)) ?_
  refine lx_nil ?_
  intro X12 hX12 hF
  replace h1 := (Ks.lasts l) _ _ _ h1 hX12
  replace h2 := (Ks.lasts m) _ _ _ h2 hX12
  replace h3 := (Ks.lasts k) _ _ _ h3 hX12
  replace hnil := (Ks.lasts []) _ _ _ hnil hX12
  replace hv75 := (Tp.lasts (Kn.lasts (cpK l m)) _) _ _ _ hv75 hX12
  replace hv76 := (Ks.lasts (cpK l m)) _ _ _ hv76 hX12
  replace hv83 := (Tp.lasts (Kn.lasts (cpK l m)) _) _ _ _ hv83 hX12
  replace hv84 := (Ks.lasts (cpK l m)) _ _ _ hv84 hX12
  replace hv87 := (Tp.lasts (Kn.lasts (dly 0)) _) _ _ _ hv87 hX12
  replace hv88 := (Ks.lasts (dly 0)) _ _ _ hv88 hX12
  replace hv94 := (Tp.lasts (Kn.lasts (red l)) _) _ _ _ hv94 hX12
  replace hv95 := (Ks.lasts (red l)) _ _ _ hv95 hX12
  replace hv100 := (Tp.lasts (Kn.lasts (red l)) _) _ _ _ hv100 hX12
  replace hv101 := (Ks.lasts (red l)) _ _ _ hv101 hX12
  replace hv108 := (Tp.lasts (Kn.lasts (dly p)) _) _ _ _ hv108 hX12
  replace hv109 := (Ks.lasts (dly p)) _ _ _ hv109 hX12
  replace hv116 := (Tp.lasts (Kn.lasts (dly q)) _) _ _ _ hv116 hX12
  replace hv117 := (Ks.lasts (dly q)) _ _ _ hv117 hX12
  replace hv122 := (Tp.lasts (Kn.lasts (dly (p + q))) _) _ _ _ hv122 hX12
  replace hv123 := (Ks.lasts (dly (p + q))) _ _ _ hv123 hX12
  replace hv135 := (Tp.lasts (Kn.lasts (dly (p + q))) _) _ _ _ hv135 hX12
  replace hv136 := (Ks.lasts (dly (p + q))) _ _ _ hv136 hX12
  replace hB0 := hB0.bel hX12
  replace hB1 := hB1.bel hX12
  replace hB2 := hB2.bel hX12
  replace hD7 := hD7.bel hX12
  replace hD9 := hD9.bel hX12
  replace hD11 := hD11.bel hX12
  replace hD13 := hD13.bel hX12
  replace hD15 := hD15.bel hX12
  replace hD17 := hD17.bel hX12
  replace hD19 := hD19.bel hX12
  replace hD21 := hD21.bel hX12
  replace hD23 := hD23.bel hX12
  have hb := bel_next hb hX12
  clear hF hX12
  go_upto_region 16 with (fail)
  refine jq 6 ?_
  refine jn (.pointer (some ⟨w.heap.size, 0, none⟩)) ?_
  refine jg (.agg #[.slice A n c]) (fun X hX hF => exec_inr 24 _ (by rfl) w.heap.size 0 [.slice A n c] (by rfl) Tryd.underlying24 rfl X (hB0.bel hX) (by rfl) info_kn) ?_
  refine jc (.tuple #[rt (rN (mean l)) (rP (mean l)) (rD (mean l)), .int .i64 0]) (fun X hX hF => meaV _ l X ⟨_, rfl, ((Ks.lasts l) _ _ _ h1 hX)⟩ HKL.out) ?_
  refine jm (.tuple #[rt (rN (mean l)) (rP (mean l)) (rD (mean l)), .int .i64 0]) ?_
  refine jm (rt (rN (mean l)) (rP (mean l)) (rD (mean l))) ?_
  refine jm (.int .i64 0) ?_
  refine lx_nil ?_
  intro X13 hX13 hF
  replace h1 := (Ks.lasts l) _ _ _ h1 hX13
  replace h2 := (Ks.lasts m) _ _ _ h2 hX13
  replace h3 := (Ks.lasts k) _ _ _ h3 hX13
  replace hnil := (Ks.lasts []) _ _ _ hnil hX13
  replace hv75 := (Tp.lasts (Kn.lasts (cpK l m)) _) _ _ _ hv75 hX13
  replace hv76 := (Ks.lasts (cpK l m)) _ _ _ hv76 hX13
  replace hv83 := (Tp.lasts (Kn.lasts (cpK l m)) _) _ _ _ hv83 hX13
  replace hv84 := (Ks.lasts (cpK l m)) _ _ _ hv84 hX13
  replace hv87 := (Tp.lasts (Kn.lasts (dly 0)) _) _ _ _ hv87 hX13
  replace hv88 := (Ks.lasts (dly 0)) _ _ _ hv88 hX13
  replace hv94 := (Tp.lasts (Kn.lasts (red l)) _) _ _ _ hv94 hX13
  replace hv95 := (Ks.lasts (red l)) _ _ _ hv95 hX13
  replace hv100 := (Tp.lasts (Kn.lasts (red l)) _) _ _ _ hv100 hX13
  replace hv101 := (Ks.lasts (red l)) _ _ _ hv101 hX13
  replace hv108 := (Tp.lasts (Kn.lasts (dly p)) _) _ _ _ hv108 hX13
  replace hv109 := (Ks.lasts (dly p)) _ _ _ hv109 hX13
  replace hv116 := (Tp.lasts (Kn.lasts (dly q)) _) _ _ _ hv116 hX13
  replace hv117 := (Ks.lasts (dly q)) _ _ _ hv117 hX13
  replace hv122 := (Tp.lasts (Kn.lasts (dly (p + q))) _) _ _ _ hv122 hX13
  replace hv123 := (Ks.lasts (dly (p + q))) _ _ _ hv123 hX13
  replace hv135 := (Tp.lasts (Kn.lasts (dly (p + q))) _) _ _ _ hv135 hX13
  replace hv136 := (Ks.lasts (dly (p + q))) _ _ _ hv136 hX13
  replace hB0 := hB0.bel hX13
  replace hB1 := hB1.bel hX13
  replace hB2 := hB2.bel hX13
  replace hD7 := hD7.bel hX13
  replace hD9 := hD9.bel hX13
  replace hD11 := hD11.bel hX13
  replace hD13 := hD13.bel hX13
  replace hD15 := hD15.bel hX13
  replace hD17 := hD17.bel hX13
  replace hD19 := hD19.bel hX13
  replace hD21 := hD21.bel hX13
  replace hD23 := hD23.bel hX13
  have hb := bel_next hb hX13
  clear hF hX13
  go_upto_region 17 with (refine osn 38 25 202 #[.bool (rN (mean l)), .string ⟨(rP (mean l)).toArray⟩, .string ⟨(rD (mean l)).toArray⟩] info_rat ?_)
  obtain ⟨Y13, hY9, hD25, hS9⟩ := start1 X13 38 [.bool (rN (mean l)), .string ⟨(rP (mean l)).toArray⟩, .string ⟨(rD (mean l)).toArray⟩]
  rw [← hY9]
  clear hY9
  have hgs25 := hb.size
  have hlt25x0 := hB0.lt
  have hlt25x1 := hB1.lt
  have hlt25x2 := hB2.lt
  have hlt25x3 := hD7.lt
  have hlt25x4 := hD9.lt
  have hlt25x5 := hD11.lt
  have hlt25x6 := hD13.lt
  have hlt25x7 := hD15.lt
  have hlt25x8 := hD17.lt
  have hlt25x9 := hD19.lt
  have hlt25x10 := hD21.lt
  have hlt25x11 := hD23.lt
  have hB0 := hB0.bel hS9
  have hB1 := hB1.bel hS9
  have hB2 := hB2.bel hS9
  have hD7 := hD7.bel hS9
  have hD9 := hD9.bel hS9
  have hD11 := hD11.bel hS9
  have hD13 := hD13.bel hS9
  have hD15 := hD15.bel hS9
  have hD17 := hD17.bel hS9
  have hD19 := hD19.bel hS9
  have hD21 := hD21.bel hS9
  have hD23 := hD23.bel hS9
  have h1 := (Ks.lasts l) _ _ _ h1 hS9
  have h2 := (Ks.lasts m) _ _ _ h2 hS9
  have h3 := (Ks.lasts k) _ _ _ h3 hS9
  have hnil := (Ks.lasts []) _ _ _ hnil hS9
  have hv75 := (Tp.lasts (Kn.lasts (cpK l m)) _) _ _ _ hv75 hS9
  have hv76 := (Ks.lasts (cpK l m)) _ _ _ hv76 hS9
  have hv83 := (Tp.lasts (Kn.lasts (cpK l m)) _) _ _ _ hv83 hS9
  have hv84 := (Ks.lasts (cpK l m)) _ _ _ hv84 hS9
  have hv87 := (Tp.lasts (Kn.lasts (dly 0)) _) _ _ _ hv87 hS9
  have hv88 := (Ks.lasts (dly 0)) _ _ _ hv88 hS9
  have hv94 := (Tp.lasts (Kn.lasts (red l)) _) _ _ _ hv94 hS9
  have hv95 := (Ks.lasts (red l)) _ _ _ hv95 hS9
  have hv100 := (Tp.lasts (Kn.lasts (red l)) _) _ _ _ hv100 hS9
  have hv101 := (Ks.lasts (red l)) _ _ _ hv101 hS9
  have hv108 := (Tp.lasts (Kn.lasts (dly p)) _) _ _ _ hv108 hS9
  have hv109 := (Ks.lasts (dly p)) _ _ _ hv109 hS9
  have hv116 := (Tp.lasts (Kn.lasts (dly q)) _) _ _ _ hv116 hS9
  have hv117 := (Ks.lasts (dly q)) _ _ _ hv117 hS9
  have hv122 := (Tp.lasts (Kn.lasts (dly (p + q))) _) _ _ _ hv122 hS9
  have hv123 := (Ks.lasts (dly (p + q))) _ _ _ hv123 hS9
  have hv135 := (Tp.lasts (Kn.lasts (dly (p + q))) _) _ _ _ hv135 hS9
  have hv136 := (Ks.lasts (dly (p + q))) _ _ _ hv136 hS9
  have hb := bel_next hb hS9
  clear hS9
  generalize X13.heap.size = g25 at *
  refine jq 6 ?_
  refine jn (.pointer (some ⟨w.heap.size, 1, none⟩)) ?_
  refine jg (.agg #[.slice A2 n2 c2]) (fun X hX hF => exec_inr 24 _ (by rfl) w.heap.size 1 [.slice A2 n2 c2] (by rfl) Tryd.underlying24 rfl X (hB0.bel hX) (by rfl) info_kn) ?_
  refine jc (.tuple #[rt (rN (mean m)) (rP (mean m)) (rD (mean m)), .int .i64 0]) (fun X hX hF => meaV _ m X ⟨_, rfl, ((Ks.lasts m) _ _ _ h2 hX)⟩ HKM.out) ?_
  refine jm (.tuple #[rt (rN (mean m)) (rP (mean m)) (rD (mean m)), .int .i64 0]) ?_
  refine jm (rt (rN (mean m)) (rP (mean m)) (rD (mean m))) ?_
  refine jm (.int .i64 0) ?_
  refine lx_nil ?_
  intro X14 hX14 hF
  replace h1 := (Ks.lasts l) _ _ _ h1 hX14
  replace h2 := (Ks.lasts m) _ _ _ h2 hX14
  replace h3 := (Ks.lasts k) _ _ _ h3 hX14
  replace hnil := (Ks.lasts []) _ _ _ hnil hX14
  replace hv75 := (Tp.lasts (Kn.lasts (cpK l m)) _) _ _ _ hv75 hX14
  replace hv76 := (Ks.lasts (cpK l m)) _ _ _ hv76 hX14
  replace hv83 := (Tp.lasts (Kn.lasts (cpK l m)) _) _ _ _ hv83 hX14
  replace hv84 := (Ks.lasts (cpK l m)) _ _ _ hv84 hX14
  replace hv87 := (Tp.lasts (Kn.lasts (dly 0)) _) _ _ _ hv87 hX14
  replace hv88 := (Ks.lasts (dly 0)) _ _ _ hv88 hX14
  replace hv94 := (Tp.lasts (Kn.lasts (red l)) _) _ _ _ hv94 hX14
  replace hv95 := (Ks.lasts (red l)) _ _ _ hv95 hX14
  replace hv100 := (Tp.lasts (Kn.lasts (red l)) _) _ _ _ hv100 hX14
  replace hv101 := (Ks.lasts (red l)) _ _ _ hv101 hX14
  replace hv108 := (Tp.lasts (Kn.lasts (dly p)) _) _ _ _ hv108 hX14
  replace hv109 := (Ks.lasts (dly p)) _ _ _ hv109 hX14
  replace hv116 := (Tp.lasts (Kn.lasts (dly q)) _) _ _ _ hv116 hX14
  replace hv117 := (Ks.lasts (dly q)) _ _ _ hv117 hX14
  replace hv122 := (Tp.lasts (Kn.lasts (dly (p + q))) _) _ _ _ hv122 hX14
  replace hv123 := (Ks.lasts (dly (p + q))) _ _ _ hv123 hX14
  replace hv135 := (Tp.lasts (Kn.lasts (dly (p + q))) _) _ _ _ hv135 hX14
  replace hv136 := (Ks.lasts (dly (p + q))) _ _ _ hv136 hX14
  replace hB0 := hB0.bel hX14
  replace hB1 := hB1.bel hX14
  replace hB2 := hB2.bel hX14
  replace hD7 := hD7.bel hX14
  replace hD9 := hD9.bel hX14
  replace hD11 := hD11.bel hX14
  replace hD13 := hD13.bel hX14
  replace hD15 := hD15.bel hX14
  replace hD17 := hD17.bel hX14
  replace hD19 := hD19.bel hX14
  replace hD21 := hD21.bel hX14
  replace hD23 := hD23.bel hX14
  replace hD25 := hD25.bel hX14
  have hb := bel_next hb hX14
  clear hF hX14
  go_upto_region 18 with (refine osn 38 27 208 #[.bool (rN (mean m)), .string ⟨(rP (mean m)).toArray⟩, .string ⟨(rD (mean m)).toArray⟩] info_rat ?_)
  obtain ⟨Y14, hY9, hD27, hS9⟩ := start1 X14 38 [.bool (rN (mean m)), .string ⟨(rP (mean m)).toArray⟩, .string ⟨(rD (mean m)).toArray⟩]
  rw [← hY9]
  clear hY9
  have hgs27 := hb.size
  have hlt27x0 := hB0.lt
  have hlt27x1 := hB1.lt
  have hlt27x2 := hB2.lt
  have hlt27x3 := hD7.lt
  have hlt27x4 := hD9.lt
  have hlt27x5 := hD11.lt
  have hlt27x6 := hD13.lt
  have hlt27x7 := hD15.lt
  have hlt27x8 := hD17.lt
  have hlt27x9 := hD19.lt
  have hlt27x10 := hD21.lt
  have hlt27x11 := hD23.lt
  have hlt27x12 := hD25.lt
  have hB0 := hB0.bel hS9
  have hB1 := hB1.bel hS9
  have hB2 := hB2.bel hS9
  have hD7 := hD7.bel hS9
  have hD9 := hD9.bel hS9
  have hD11 := hD11.bel hS9
  have hD13 := hD13.bel hS9
  have hD15 := hD15.bel hS9
  have hD17 := hD17.bel hS9
  have hD19 := hD19.bel hS9
  have hD21 := hD21.bel hS9
  have hD23 := hD23.bel hS9
  have hD25 := hD25.bel hS9
  have h1 := (Ks.lasts l) _ _ _ h1 hS9
  have h2 := (Ks.lasts m) _ _ _ h2 hS9
  have h3 := (Ks.lasts k) _ _ _ h3 hS9
  have hnil := (Ks.lasts []) _ _ _ hnil hS9
  have hv75 := (Tp.lasts (Kn.lasts (cpK l m)) _) _ _ _ hv75 hS9
  have hv76 := (Ks.lasts (cpK l m)) _ _ _ hv76 hS9
  have hv83 := (Tp.lasts (Kn.lasts (cpK l m)) _) _ _ _ hv83 hS9
  have hv84 := (Ks.lasts (cpK l m)) _ _ _ hv84 hS9
  have hv87 := (Tp.lasts (Kn.lasts (dly 0)) _) _ _ _ hv87 hS9
  have hv88 := (Ks.lasts (dly 0)) _ _ _ hv88 hS9
  have hv94 := (Tp.lasts (Kn.lasts (red l)) _) _ _ _ hv94 hS9
  have hv95 := (Ks.lasts (red l)) _ _ _ hv95 hS9
  have hv100 := (Tp.lasts (Kn.lasts (red l)) _) _ _ _ hv100 hS9
  have hv101 := (Ks.lasts (red l)) _ _ _ hv101 hS9
  have hv108 := (Tp.lasts (Kn.lasts (dly p)) _) _ _ _ hv108 hS9
  have hv109 := (Ks.lasts (dly p)) _ _ _ hv109 hS9
  have hv116 := (Tp.lasts (Kn.lasts (dly q)) _) _ _ _ hv116 hS9
  have hv117 := (Ks.lasts (dly q)) _ _ _ hv117 hS9
  have hv122 := (Tp.lasts (Kn.lasts (dly (p + q))) _) _ _ _ hv122 hS9
  have hv123 := (Ks.lasts (dly (p + q))) _ _ _ hv123 hS9
  have hv135 := (Tp.lasts (Kn.lasts (dly (p + q))) _) _ _ _ hv135 hS9
  have hv136 := (Ks.lasts (dly (p + q))) _ _ _ hv136 hS9
  have hb := bel_next hb hS9
  clear hS9
  generalize X14.heap.size = g27 at *
  refine jq 5 ?_
  refine ja hD7 Tryd.underlying24 (by rfl) info_kn ?_
  refine jc (.tuple #[rt (rN ((mean l) + (mean m))) (rP ((mean l) + (mean m))) (rD ((mean l) + (mean m))), .int .i64 0]) (fun X hX hF => mo (meaV _ (cpK l m) X ⟨_, rfl, ((Ks.lasts (cpK l m)) _ _ _ hv76 hX)⟩ (cpK_ok HKL.out HKM.out HP.out)) (by rw [(show mean (cpK l m) = mean l + mean m from cpK_mean HKL.out HKM.out HP.out)])) ?_
  refine jm (.tuple #[rt (rN ((mean l) + (mean m))) (rP ((mean l) + (mean m))) (rD ((mean l) + (mean m))), .int .i64 0]) ?_
  refine jm (rt (rN ((mean l) + (mean m))) (rP ((mean l) + (mean m))) (rD ((mean l) + (mean m)))) ?_
  refine jm (.int .i64 0) ?_
  refine lx_nil ?_
  intro X15 hX15 hF
  replace h1 := (Ks.lasts l) _ _ _ h1 hX15
  replace h2 := (Ks.lasts m) _ _ _ h2 hX15
  replace h3 := (Ks.lasts k) _ _ _ h3 hX15
  replace hnil := (Ks.lasts []) _ _ _ hnil hX15
  replace hv75 := (Tp.lasts (Kn.lasts (cpK l m)) _) _ _ _ hv75 hX15
  replace hv76 := (Ks.lasts (cpK l m)) _ _ _ hv76 hX15
  replace hv83 := (Tp.lasts (Kn.lasts (cpK l m)) _) _ _ _ hv83 hX15
  replace hv84 := (Ks.lasts (cpK l m)) _ _ _ hv84 hX15
  replace hv87 := (Tp.lasts (Kn.lasts (dly 0)) _) _ _ _ hv87 hX15
  replace hv88 := (Ks.lasts (dly 0)) _ _ _ hv88 hX15
  replace hv94 := (Tp.lasts (Kn.lasts (red l)) _) _ _ _ hv94 hX15
  replace hv95 := (Ks.lasts (red l)) _ _ _ hv95 hX15
  replace hv100 := (Tp.lasts (Kn.lasts (red l)) _) _ _ _ hv100 hX15
  replace hv101 := (Ks.lasts (red l)) _ _ _ hv101 hX15
  replace hv108 := (Tp.lasts (Kn.lasts (dly p)) _) _ _ _ hv108 hX15
  replace hv109 := (Ks.lasts (dly p)) _ _ _ hv109 hX15
  replace hv116 := (Tp.lasts (Kn.lasts (dly q)) _) _ _ _ hv116 hX15
  replace hv117 := (Ks.lasts (dly q)) _ _ _ hv117 hX15
  replace hv122 := (Tp.lasts (Kn.lasts (dly (p + q))) _) _ _ _ hv122 hX15
  replace hv123 := (Ks.lasts (dly (p + q))) _ _ _ hv123 hX15
  replace hv135 := (Tp.lasts (Kn.lasts (dly (p + q))) _) _ _ _ hv135 hX15
  replace hv136 := (Ks.lasts (dly (p + q))) _ _ _ hv136 hX15
  replace hB0 := hB0.bel hX15
  replace hB1 := hB1.bel hX15
  replace hB2 := hB2.bel hX15
  replace hD7 := hD7.bel hX15
  replace hD9 := hD9.bel hX15
  replace hD11 := hD11.bel hX15
  replace hD13 := hD13.bel hX15
  replace hD15 := hD15.bel hX15
  replace hD17 := hD17.bel hX15
  replace hD19 := hD19.bel hX15
  replace hD21 := hD21.bel hX15
  replace hD23 := hD23.bel hX15
  replace hD25 := hD25.bel hX15
  replace hD27 := hD27.bel hX15
  have hb := bel_next hb hX15
  clear hF hX15
  go_upto_region 19 with (refine osn 38 29 213 #[.bool (rN ((mean l) + (mean m))), .string ⟨(rP ((mean l) + (mean m))).toArray⟩, .string ⟨(rD ((mean l) + (mean m))).toArray⟩] info_rat ?_)
  obtain ⟨Y15, hY9, hD29, hS9⟩ := start1 X15 38 [.bool (rN ((mean l) + (mean m))), .string ⟨(rP ((mean l) + (mean m))).toArray⟩, .string ⟨(rD ((mean l) + (mean m))).toArray⟩]
  rw [← hY9]
  clear hY9
  have hgs29 := hb.size
  have hlt29x0 := hB0.lt
  have hlt29x1 := hB1.lt
  have hlt29x2 := hB2.lt
  have hlt29x3 := hD7.lt
  have hlt29x4 := hD9.lt
  have hlt29x5 := hD11.lt
  have hlt29x6 := hD13.lt
  have hlt29x7 := hD15.lt
  have hlt29x8 := hD17.lt
  have hlt29x9 := hD19.lt
  have hlt29x10 := hD21.lt
  have hlt29x11 := hD23.lt
  have hlt29x12 := hD25.lt
  have hlt29x13 := hD27.lt
  have hB0 := hB0.bel hS9
  have hB1 := hB1.bel hS9
  have hB2 := hB2.bel hS9
  have hD7 := hD7.bel hS9
  have hD9 := hD9.bel hS9
  have hD11 := hD11.bel hS9
  have hD13 := hD13.bel hS9
  have hD15 := hD15.bel hS9
  have hD17 := hD17.bel hS9
  have hD19 := hD19.bel hS9
  have hD21 := hD21.bel hS9
  have hD23 := hD23.bel hS9
  have hD25 := hD25.bel hS9
  have hD27 := hD27.bel hS9
  have h1 := (Ks.lasts l) _ _ _ h1 hS9
  have h2 := (Ks.lasts m) _ _ _ h2 hS9
  have h3 := (Ks.lasts k) _ _ _ h3 hS9
  have hnil := (Ks.lasts []) _ _ _ hnil hS9
  have hv75 := (Tp.lasts (Kn.lasts (cpK l m)) _) _ _ _ hv75 hS9
  have hv76 := (Ks.lasts (cpK l m)) _ _ _ hv76 hS9
  have hv83 := (Tp.lasts (Kn.lasts (cpK l m)) _) _ _ _ hv83 hS9
  have hv84 := (Ks.lasts (cpK l m)) _ _ _ hv84 hS9
  have hv87 := (Tp.lasts (Kn.lasts (dly 0)) _) _ _ _ hv87 hS9
  have hv88 := (Ks.lasts (dly 0)) _ _ _ hv88 hS9
  have hv94 := (Tp.lasts (Kn.lasts (red l)) _) _ _ _ hv94 hS9
  have hv95 := (Ks.lasts (red l)) _ _ _ hv95 hS9
  have hv100 := (Tp.lasts (Kn.lasts (red l)) _) _ _ _ hv100 hS9
  have hv101 := (Ks.lasts (red l)) _ _ _ hv101 hS9
  have hv108 := (Tp.lasts (Kn.lasts (dly p)) _) _ _ _ hv108 hS9
  have hv109 := (Ks.lasts (dly p)) _ _ _ hv109 hS9
  have hv116 := (Tp.lasts (Kn.lasts (dly q)) _) _ _ _ hv116 hS9
  have hv117 := (Ks.lasts (dly q)) _ _ _ hv117 hS9
  have hv122 := (Tp.lasts (Kn.lasts (dly (p + q))) _) _ _ _ hv122 hS9
  have hv123 := (Ks.lasts (dly (p + q))) _ _ _ hv123 hS9
  have hv135 := (Tp.lasts (Kn.lasts (dly (p + q))) _) _ _ _ hv135 hS9
  have hv136 := (Ks.lasts (dly (p + q))) _ _ _ hv136 hS9
  have hb := bel_next hb hS9
  clear hS9
  generalize X15.heap.size = g29 at *
  have LB0 : szR (mean l) 661 := HML
  have LB1 : szR (mean m) 661 := HMM
  refine jd ?_
  refine jm (.int .i64 0) ?_
  refine jv (.bool false) (exec_nei _ _ _ _ (by rfl) .i64 0 0 (by rfl) (by rfl) false (by rw [decide_eq_true (by omega)]; rfl)) ?_
  refine jm (.bool false) ?_
  refine ja hD29 Tryd.underlying38 (by rfl) info_rat ?_
  refine ja hD25 Tryd.underlying38 (by rfl) info_rat ?_
  refine ja hD27 Tryd.underlying38 (by rfl) info_rat ?_
  refine jc (rt (rN ((mean l) + (mean m))) (rP ((mean l) + (mean m))) (rD ((mean l) + (mean m)))) (fun X hX hF => addG (rN (mean l)) (rP (mean l)) (rD (mean l)) (rN (mean m)) (rP (mean m)) (rD (mean m)) (rq_rb (mean l)) (rq_rb (mean m)) X (tzR LB0 (by omega)) (tzR LB1 (by omega))) ?_
  refine jv (.bool false) (exec_ner _ _ (by rfl) (rN ((mean l) + (mean m))) (rP ((mean l) + (mean m))) (rD ((mean l) + (mean m))) (rN ((mean l) + (mean m))) (rP ((mean l) + (mean m))) (rD ((mean l) + (mean m))) (by rfl) (by rfl) false (by simp)) ?_
  refine jm (.bool false) ?_
  refine lx_nil ?_
  intro X16 hX16 hF
  replace h1 := (Ks.lasts l) _ _ _ h1 hX16
  replace h2 := (Ks.lasts m) _ _ _ h2 hX16
  replace h3 := (Ks.lasts k) _ _ _ h3 hX16
  replace hnil := (Ks.lasts []) _ _ _ hnil hX16
  replace hv75 := (Tp.lasts (Kn.lasts (cpK l m)) _) _ _ _ hv75 hX16
  replace hv76 := (Ks.lasts (cpK l m)) _ _ _ hv76 hX16
  replace hv83 := (Tp.lasts (Kn.lasts (cpK l m)) _) _ _ _ hv83 hX16
  replace hv84 := (Ks.lasts (cpK l m)) _ _ _ hv84 hX16
  replace hv87 := (Tp.lasts (Kn.lasts (dly 0)) _) _ _ _ hv87 hX16
  replace hv88 := (Ks.lasts (dly 0)) _ _ _ hv88 hX16
  replace hv94 := (Tp.lasts (Kn.lasts (red l)) _) _ _ _ hv94 hX16
  replace hv95 := (Ks.lasts (red l)) _ _ _ hv95 hX16
  replace hv100 := (Tp.lasts (Kn.lasts (red l)) _) _ _ _ hv100 hX16
  replace hv101 := (Ks.lasts (red l)) _ _ _ hv101 hX16
  replace hv108 := (Tp.lasts (Kn.lasts (dly p)) _) _ _ _ hv108 hX16
  replace hv109 := (Ks.lasts (dly p)) _ _ _ hv109 hX16
  replace hv116 := (Tp.lasts (Kn.lasts (dly q)) _) _ _ _ hv116 hX16
  replace hv117 := (Ks.lasts (dly q)) _ _ _ hv117 hX16
  replace hv122 := (Tp.lasts (Kn.lasts (dly (p + q))) _) _ _ _ hv122 hX16
  replace hv123 := (Ks.lasts (dly (p + q))) _ _ _ hv123 hX16
  replace hv135 := (Tp.lasts (Kn.lasts (dly (p + q))) _) _ _ _ hv135 hX16
  replace hv136 := (Ks.lasts (dly (p + q))) _ _ _ hv136 hX16
  replace hB0 := hB0.bel hX16
  replace hB1 := hB1.bel hX16
  replace hB2 := hB2.bel hX16
  replace hD7 := hD7.bel hX16
  replace hD9 := hD9.bel hX16
  replace hD11 := hD11.bel hX16
  replace hD13 := hD13.bel hX16
  replace hD15 := hD15.bel hX16
  replace hD17 := hD17.bel hX16
  replace hD19 := hD19.bel hX16
  replace hD21 := hD21.bel hX16
  replace hD23 := hD23.bel hX16
  replace hD25 := hD25.bel hX16
  replace hD27 := hD27.bel hX16
  replace hD29 := hD29.bel hX16
  have hb := bel_next hb hX16
  clear hF hX16
  by_cases HQ : cpE m k = 0
  · replace HQ := Lib.hid HQ
    go_upto_region 21 with (fail)
    refine lx_plain_to 7 [none, none, none, some (Tp (Kn (cpK m k)) 0), none, some (Kn (cpK m k))] (lasts_none (lasts_none (lasts_none (lasts_some (Tp.lasts (Kn.lasts (cpK m k)) _) (lasts_none (lasts_some (Kn.lasts (cpK m k)) (lasts_nil))))))) ?_
    simp only [its, List.take, List.drop, Nat.zero_add, Nat.reduceAdd]
    refine jn (.pointer (some ⟨w.heap.size, 1, none⟩)) ?_
    refine jg (.agg #[.slice A2 n2 c2]) (fun X hX hF => exec_inr 24 _ (by rfl) w.heap.size 1 [.slice A2 n2 c2] (by rfl) Tryd.underlying24 rfl X (hB0.bel hX) (by rfl) info_kn) ?_
    refine ja hB1 Tryd.underlying24 (by rfl) info_kn ?_
    refine jk (fun X hX hF => cpV _ _ m k X ⟨_, rfl, ((Ks.lasts m) _ _ _ h2 hX)⟩ ⟨_, rfl, ((Ks.lasts k) _ _ _ h3 hX)⟩ HKM.out HKK.out HQ.out) ?_
    intro v228
    refine jm (v228) ?_
    refine lx_new (by rfl) (fun X hX hF => by obtain ⟨u9, h9, h8⟩ := (hF _ _ List.mem_cons_self rfl); subst h9; exact ⟨u9, X, rfl, h8, Below.refl _ _⟩) ?_
    intro v229
    simp only [pX]
    refine jg (.int .i64 0) (fun X hX hF => by obtain ⟨u9, h9, _⟩ := (hF _ _ (List.mem_cons_of_mem _ List.mem_cons_self) rfl); subst h9; rfl) ?_
    refine lx_nil ?_
    intro X17 hX17 hF
    replace h1 := (Ks.lasts l) _ _ _ h1 hX17
    replace h2 := (Ks.lasts m) _ _ _ h2 hX17
    replace h3 := (Ks.lasts k) _ _ _ h3 hX17
    replace hnil := (Ks.lasts []) _ _ _ hnil hX17
    replace hv75 := (Tp.lasts (Kn.lasts (cpK l m)) _) _ _ _ hv75 hX17
    replace hv76 := (Ks.lasts (cpK l m)) _ _ _ hv76 hX17
    replace hv83 := (Tp.lasts (Kn.lasts (cpK l m)) _) _ _ _ hv83 hX17
    replace hv84 := (Ks.lasts (cpK l m)) _ _ _ hv84 hX17
    replace hv87 := (Tp.lasts (Kn.lasts (dly 0)) _) _ _ _ hv87 hX17
    replace hv88 := (Ks.lasts (dly 0)) _ _ _ hv88 hX17
    replace hv94 := (Tp.lasts (Kn.lasts (red l)) _) _ _ _ hv94 hX17
    replace hv95 := (Ks.lasts (red l)) _ _ _ hv95 hX17
    replace hv100 := (Tp.lasts (Kn.lasts (red l)) _) _ _ _ hv100 hX17
    replace hv101 := (Ks.lasts (red l)) _ _ _ hv101 hX17
    replace hv108 := (Tp.lasts (Kn.lasts (dly p)) _) _ _ _ hv108 hX17
    replace hv109 := (Ks.lasts (dly p)) _ _ _ hv109 hX17
    replace hv116 := (Tp.lasts (Kn.lasts (dly q)) _) _ _ _ hv116 hX17
    replace hv117 := (Ks.lasts (dly q)) _ _ _ hv117 hX17
    replace hv122 := (Tp.lasts (Kn.lasts (dly (p + q))) _) _ _ _ hv122 hX17
    replace hv123 := (Ks.lasts (dly (p + q))) _ _ _ hv123 hX17
    replace hv135 := (Tp.lasts (Kn.lasts (dly (p + q))) _) _ _ _ hv135 hX17
    replace hv136 := (Ks.lasts (dly (p + q))) _ _ _ hv136 hX17
    have hv228 := hF _ _ (List.mem_cons_of_mem _ List.mem_cons_self)
    have hv229 := hF _ _ List.mem_cons_self
    replace hB0 := hB0.bel hX17
    replace hB1 := hB1.bel hX17
    replace hB2 := hB2.bel hX17
    replace hD7 := hD7.bel hX17
    replace hD9 := hD9.bel hX17
    replace hD11 := hD11.bel hX17
    replace hD13 := hD13.bel hX17
    replace hD15 := hD15.bel hX17
    replace hD17 := hD17.bel hX17
    replace hD19 := hD19.bel hX17
    replace hD21 := hD21.bel hX17
    replace hD23 := hD23.bel hX17
    replace hD25 := hD25.bel hX17
    replace hD27 := hD27.bel hX17
    replace hD29 := hD29.bel hX17
    have hb := bel_next hb hX17
    clear hF hX17
    obtain ⟨u229, e229, A229, c229, f229, q229⟩ := hv229
    subst f229
    subst e229
    have hv229 : Ks (cpK m k) (.slice A229 ((cpK m k)).length c229) X17 := ⟨_, _, rfl, q229⟩
    clear q229
    go_upto_region 22 with (refine osn 24 31 229 #[.slice A229 ((cpK m k)).length c229] info_kn ?_)
    obtain ⟨Y17, hY9, hD31, hS9⟩ := start1 X17 24 [.slice A229 ((cpK m k)).length c229]
    rw [← hY9]
    clear hY9
    have hgs31 := hb.size
    have hlt31x0 := hB0.lt
    have hlt31x1 := hB1.lt
    have hlt31x2 := hB2.lt
    have hlt31x3 := hD7.lt
    have hlt31x4 := hD9.lt
    have hlt31x5 := hD11.lt
    have hlt31x6 := hD13.lt
    have hlt31x7 := hD15.lt
    have hlt31x8 := hD17.lt
    have hlt31x9 := hD19.lt
    have hlt31x10 := hD21.lt
    have hlt31x11 := hD23.lt
    have hlt31x12 := hD25.lt
    have hlt31x13 := hD27.lt
    have hlt31x14 := hD29.lt
    replace hB0 := hB0.bel hS9
    replace hB1 := hB1.bel hS9
    replace hB2 := hB2.bel hS9
    replace hD7 := hD7.bel hS9
    replace hD9 := hD9.bel hS9
    replace hD11 := hD11.bel hS9
    replace hD13 := hD13.bel hS9
    replace hD15 := hD15.bel hS9
    replace hD17 := hD17.bel hS9
    replace hD19 := hD19.bel hS9
    replace hD21 := hD21.bel hS9
    replace hD23 := hD23.bel hS9
    replace hD25 := hD25.bel hS9
    replace hD27 := hD27.bel hS9
    replace hD29 := hD29.bel hS9
    replace h1 := (Ks.lasts l) _ _ _ h1 hS9
    replace h2 := (Ks.lasts m) _ _ _ h2 hS9
    replace h3 := (Ks.lasts k) _ _ _ h3 hS9
    replace hnil := (Ks.lasts []) _ _ _ hnil hS9
    replace hv75 := (Tp.lasts (Kn.lasts (cpK l m)) _) _ _ _ hv75 hS9
    replace hv76 := (Ks.lasts (cpK l m)) _ _ _ hv76 hS9
    replace hv83 := (Tp.lasts (Kn.lasts (cpK l m)) _) _ _ _ hv83 hS9
    replace hv84 := (Ks.lasts (cpK l m)) _ _ _ hv84 hS9
    replace hv87 := (Tp.lasts (Kn.lasts (dly 0)) _) _ _ _ hv87 hS9
    replace hv88 := (Ks.lasts (dly 0)) _ _ _ hv88 hS9
    replace hv94 := (Tp.lasts (Kn.lasts (red l)) _) _ _ _ hv94 hS9
    replace hv95 := (Ks.lasts (red l)) _ _ _ hv95 hS9
    replace hv100 := (Tp.lasts (Kn.lasts (red l)) _) _ _ _ hv100 hS9
    replace hv101 := (Ks.lasts (red l)) _ _ _ hv101 hS9
    replace hv108 := (Tp.lasts (Kn.lasts (dly p)) _) _ _ _ hv108 hS9
    replace hv109 := (Ks.lasts (dly p)) _ _ _ hv109 hS9
    replace hv116 := (Tp.lasts (Kn.lasts (dly q)) _) _ _ _ hv116 hS9
    replace hv117 := (Ks.lasts (dly q)) _ _ _ hv117 hS9
    replace hv122 := (Tp.lasts (Kn.lasts (dly (p + q))) _) _ _ _ hv122 hS9
    replace hv123 := (Ks.lasts (dly (p + q))) _ _ _ hv123 hS9
    replace hv135 := (Tp.lasts (Kn.lasts (dly (p + q))) _) _ _ _ hv135 hS9
    replace hv136 := (Ks.lasts (dly (p + q))) _ _ _ hv136 hS9
    replace hv228 := (Tp.lasts (Kn.lasts (cpK m k)) _) _ _ _ hv228 hS9
    replace hv229 := (Ks.lasts (cpK m k)) _ _ _ hv229 hS9
    have hb := bel_next hb hS9
    clear hS9
    generalize X17.heap.size = g31 at *
    refine jp ?_
    refine jm (.int .i64 0) ?_
    refine jv (.bool false) (exec_nei _ _ _ _ (by rfl) .i64 0 0 (by rfl) (by rfl) false (by rw [decide_eq_true (by omega)]; rfl)) ?_
    refine lx_nil ?_
    intro X18 hX18 hF
    replace h1 := (Ks.lasts l) _ _ _ h1 hX18
    replace h2 := (Ks.lasts m) _ _ _ h2 hX18
    replace h3 := (Ks.lasts k) _ _ _ h3 hX18
    replace hnil := (Ks.lasts []) _ _ _ hnil hX18
    replace hv75 := (Tp.lasts (Kn.lasts (cpK l m)) _) _ _ _ hv75 hX18
    replace hv76 := (Ks.lasts (cpK l m)) _ _ _ hv76 hX18
    replace hv83 := (Tp.lasts (Kn.lasts (cpK l m)) _) _ _ _ hv83 hX18
    replace hv84 := (Ks.lasts (cpK l m)) _ _ _ hv84 hX18
    replace hv87 := (Tp.lasts (Kn.lasts (dly 0)) _) _ _ _ hv87 hX18
    replace hv88 := (Ks.lasts (dly 0)) _ _ _ hv88 hX18
    replace hv94 := (Tp.lasts (Kn.lasts (red l)) _) _ _ _ hv94 hX18
    replace hv95 := (Ks.lasts (red l)) _ _ _ hv95 hX18
    replace hv100 := (Tp.lasts (Kn.lasts (red l)) _) _ _ _ hv100 hX18
    replace hv101 := (Ks.lasts (red l)) _ _ _ hv101 hX18
    replace hv108 := (Tp.lasts (Kn.lasts (dly p)) _) _ _ _ hv108 hX18
    replace hv109 := (Ks.lasts (dly p)) _ _ _ hv109 hX18
    replace hv116 := (Tp.lasts (Kn.lasts (dly q)) _) _ _ _ hv116 hX18
    replace hv117 := (Ks.lasts (dly q)) _ _ _ hv117 hX18
    replace hv122 := (Tp.lasts (Kn.lasts (dly (p + q))) _) _ _ _ hv122 hX18
    replace hv123 := (Ks.lasts (dly (p + q))) _ _ _ hv123 hX18
    replace hv135 := (Tp.lasts (Kn.lasts (dly (p + q))) _) _ _ _ hv135 hX18
    replace hv136 := (Ks.lasts (dly (p + q))) _ _ _ hv136 hX18
    replace hv228 := (Tp.lasts (Kn.lasts (cpK m k)) _) _ _ _ hv228 hX18
    replace hv229 := (Ks.lasts (cpK m k)) _ _ _ hv229 hX18
    replace hB0 := hB0.bel hX18
    replace hB1 := hB1.bel hX18
    replace hB2 := hB2.bel hX18
    replace hD7 := hD7.bel hX18
    replace hD9 := hD9.bel hX18
    replace hD11 := hD11.bel hX18
    replace hD13 := hD13.bel hX18
    replace hD15 := hD15.bel hX18
    replace hD17 := hD17.bel hX18
    replace hD19 := hD19.bel hX18
    replace hD21 := hD21.bel hX18
    replace hD23 := hD23.bel hX18
    replace hD25 := hD25.bel hX18
    replace hD27 := hD27.bel hX18
    replace hD29 := hD29.bel hX18
    replace hD31 := hD31.bel hX18
    have hb := bel_next hb hX18
    clear hF hX18
    by_cases HR : cpE (cpK l m) k = 0
    · by_cases HS : cpE l (cpK m k) = 0
      · replace HR := Lib.hid HR
        replace HS := Lib.hid HS
        go_upto_region 24 with (fail)
        refine lx_plain_to 6 [none, none, some (Tp (Kn (cpK (cpK l m) k)) 0), none, some (Kn (cpK (cpK l m) k))] (lasts_none (lasts_none (lasts_some (Tp.lasts (Kn.lasts (cpK (cpK l m) k)) _) (lasts_none (lasts_some (Kn.lasts (cpK (cpK l m) k)) (lasts_nil)))))) ?_
        simp only [its, List.take, List.drop, Nat.zero_add, Nat.reduceAdd]
        refine ja hD7 Tryd.underlying24 (by rfl) info_kn ?_
        refine ja hB1 Tryd.underlying24 (by rfl) info_kn ?_
        refine jk (fun X hX hF => cpV _ _ (cpK l m) k X ⟨_, rfl, ((Ks.lasts (cpK l m)) _ _ _ hv76 hX)⟩ ⟨_, rfl, ((Ks.lasts k) _ _ _ h3 hX)⟩ (cpK_ok HKL.out HKM.out HP.out) HKK.out HR.out) ?_
        intro v237
        refine jm (v237) ?_
        refine lx_new (by rfl) (fun X hX hF => by obtain ⟨u9, h9, h8⟩ := (hF _ _ List.mem_cons_self rfl); subst h9; exact ⟨u9, X, rfl, h8, Below.refl _ _⟩) ?_
        intro v238
        simp only [pX]
        refine jg (.int .i64 0) (fun X hX hF => by obtain ⟨u9, h9, _⟩ := (hF _ _ (List.mem_cons_of_mem _ List.mem_cons_self) rfl); subst h9; rfl) ?_
        refine lx_nil ?_
        intro X19 hX19 hF
        replace h1 := (Ks.lasts l) _ _ _ h1 hX19
        replace h2 := (Ks.lasts m) _ _ _ h2 hX19
        replace h3 := (Ks.lasts k) _ _ _ h3 hX19
        replace hnil := (Ks.lasts []) _ _ _ hnil hX19
        replace hv75 := (Tp.lasts (Kn.lasts (cpK l m)) _) _ _ _ hv75 hX19
        replace hv76 := (Ks.lasts (cpK l m)) _ _ _ hv76 hX19
        replace hv83 := (Tp.lasts (Kn.lasts (cpK l m)) _) _ _ _ hv83 hX19
        replace hv84 := (Ks.lasts (cpK l m)) _ _ _ hv84 hX19
        replace hv87 := (Tp.lasts (Kn.lasts (dly 0)) _) _ _ _ hv87 hX19
        replace hv88 := (Ks.lasts (dly 0)) _ _ _ hv88 hX19
        replace hv94 := (Tp.lasts (Kn.lasts (red l)) _) _ _ _ hv94 hX19
        replace hv95 := (Ks.lasts (red l)) _ _ _ hv95 hX19
        replace hv100 := (Tp.lasts (Kn.lasts (red l)) _) _ _ _ hv100 hX19
        replace hv101 := (Ks.lasts (red l)) _ _ _ hv101 hX19
        replace hv108 := (Tp.lasts (Kn.lasts (dly p)) _) _ _ _ hv108 hX19
        replace hv109 := (Ks.lasts (dly p)) _ _ _ hv109 hX19
        replace hv116 := (Tp.lasts (Kn.lasts (dly q)) _) _ _ _ hv116 hX19
        replace hv117 := (Ks.lasts (dly q)) _ _ _ hv117 hX19
        replace hv122 := (Tp.lasts (Kn.lasts (dly (p + q))) _) _ _ _ hv122 hX19
        replace hv123 := (Ks.lasts (dly (p + q))) _ _ _ hv123 hX19
        replace hv135 := (Tp.lasts (Kn.lasts (dly (p + q))) _) _ _ _ hv135 hX19
        replace hv136 := (Ks.lasts (dly (p + q))) _ _ _ hv136 hX19
        replace hv228 := (Tp.lasts (Kn.lasts (cpK m k)) _) _ _ _ hv228 hX19
        replace hv229 := (Ks.lasts (cpK m k)) _ _ _ hv229 hX19
        have hv237 := hF _ _ (List.mem_cons_of_mem _ List.mem_cons_self)
        have hv238 := hF _ _ List.mem_cons_self
        replace hB0 := hB0.bel hX19
        replace hB1 := hB1.bel hX19
        replace hB2 := hB2.bel hX19
        replace hD7 := hD7.bel hX19
        replace hD9 := hD9.bel hX19
        replace hD11 := hD11.bel hX19
        replace hD13 := hD13.bel hX19
        replace hD15 := hD15.bel hX19
        replace hD17 := hD17.bel hX19
        replace hD19 := hD19.bel hX19
        replace hD21 := hD21.bel hX19
        replace hD23 := hD23.bel hX19
        replace hD25 := hD25.bel hX19
        replace hD27 := hD27.bel hX19
        replace hD29 := hD29.bel hX19
        replace hD31 := hD31.bel hX19
        have hb := bel_next hb hX19
        clear hF hX19
        obtain ⟨u238, e238, A238, c238, f238, q238⟩ := hv238
        subst f238
        subst e238
        have hv238 : Ks (cpK (cpK l m) k) (.slice A238 ((cpK (cpK l m) k)).length c238) X19 := ⟨_, _, rfl, q238⟩
        clear q238
        go_upto_region 25 with (refine osn 24 33 238 #[.slice A238 ((cpK (cpK l m) k)).length c238] info_kn ?_)
        obtain ⟨Y19, hY9, hD33, hS9⟩ := start1 X19 24 [.slice A238 ((cpK (cpK l m) k)).length c238]
        rw [← hY9]
        clear hY9
        have hgs33 := hb.size
        have hlt33x0 := hB0.lt
        have hlt33x1 := hB1.lt
        have hlt33x2 := hB2.lt
        have hlt33x3 := hD7.lt
        have hlt33x4 := hD9.lt
        have hlt33x5 := hD11.lt
        have hlt33x6 := hD13.lt
        have hlt33x7 := hD15.lt
        have hlt33x8 := hD17.lt
        have hlt33x9 := hD19.lt
        have hlt33x10 := hD21.lt
        have hlt33x11 := hD23.lt
        have hlt33x12 := hD25.lt
        have hlt33x13 := hD27.lt
        have hlt33x14 := hD29.lt
        have hlt33x15 := hD31.lt
        replace hB0 := hB0.bel hS9
        replace hB1 := hB1.bel hS9
        replace hB2 := hB2.bel hS9
        replace hD7 := hD7.bel hS9
        replace hD9 := hD9.bel hS9
        replace hD11 := hD11.bel hS9
        replace hD13 := hD13.bel hS9
        replace hD15 := hD15.bel hS9
        replace hD17 := hD17.bel hS9
        replace hD19 := hD19.bel hS9
        replace hD21 := hD21.bel hS9
        replace hD23 := hD23.bel hS9
        replace hD25 := hD25.bel hS9
        replace hD27 := hD27.bel hS9
        replace hD29 := hD29.bel hS9
        replace hD31 := hD31.bel hS9
        replace h1 := (Ks.lasts l) _ _ _ h1 hS9
        replace h2 := (Ks.lasts m) _ _ _ h2 hS9
        replace h3 := (Ks.lasts k) _ _ _ h3 hS9
        replace hnil := (Ks.lasts []) _ _ _ hnil hS9
        replace hv75 := (Tp.lasts (Kn.lasts (cpK l m)) _) _ _ _ hv75 hS9
        replace hv76 := (Ks.lasts (cpK l m)) _ _ _ hv76 hS9
        replace hv83 := (Tp.lasts (Kn.lasts (cpK l m)) _) _ _ _ hv83 hS9
        replace hv84 := (Ks.lasts (cpK l m)) _ _ _ hv84 hS9
        replace hv87 := (Tp.lasts (Kn.lasts (dly 0)) _) _ _ _ hv87 hS9
        replace hv88 := (Ks.lasts (dly 0)) _ _ _ hv88 hS9
        replace hv94 := (Tp.lasts (Kn.lasts (red l)) _) _ _ _ hv94 hS9
        replace hv95 := (Ks.lasts (red l)) _ _ _ hv95 hS9
        replace hv100 := (Tp.lasts (Kn.lasts (red l)) _) _ _ _ hv100 hS9
        replace hv101 := (Ks.lasts (red l)) _ _ _ hv101 hS9
        replace hv108 := (Tp.lasts (Kn.lasts (dly p)) _) _ _ _ hv108 hS9
        replace hv109 := (Ks.lasts (dly p)) _ _ _ hv109 hS9
        replace hv116 := (Tp.lasts (Kn.lasts (dly q)) _) _ _ _ hv116 hS9
        replace hv117 := (Ks.lasts (dly q)) _ _ _ hv117 hS9
        replace hv122 := (Tp.lasts (Kn.lasts (dly (p + q))) _) _ _ _ hv122 hS9
        replace hv123 := (Ks.lasts (dly (p + q))) _ _ _ hv123 hS9
        replace hv135 := (Tp.lasts (Kn.lasts (dly (p + q))) _) _ _ _ hv135 hS9
        replace hv136 := (Ks.lasts (dly (p + q))) _ _ _ hv136 hS9
        replace hv228 := (Tp.lasts (Kn.lasts (cpK m k)) _) _ _ _ hv228 hS9
        replace hv229 := (Ks.lasts (cpK m k)) _ _ _ hv229 hS9
        replace hv237 := (Tp.lasts (Kn.lasts (cpK (cpK l m) k)) _) _ _ _ hv237 hS9
        replace hv238 := (Ks.lasts (cpK (cpK l m) k)) _ _ _ hv238 hS9
        have hb := bel_next hb hS9
        clear hS9
        generalize X19.heap.size = g33 at *
        refine lx_plain_to 7 [none, none, none, some (Tp (Kn (cpK (cpK l m) k)) 0), none, some (Kn (cpK (cpK l m) k))] (lasts_none (lasts_none (lasts_none (lasts_some (Tp.lasts (Kn.lasts (cpK (cpK l m) k)) _) (lasts_none (lasts_some (Kn.lasts (cpK (cpK l m) k)) (lasts_nil))))))) ?_
        simp only [its, List.take, List.drop, Nat.zero_add, Nat.reduceAdd]
        refine jn (.pointer (some ⟨w.heap.size, 0, none⟩)) ?_
        refine jg (.agg #[.slice A n c]) (fun X hX hF => exec_inr 24 _ (by rfl) w.heap.size 0 [.slice A n c] (by rfl) Tryd.underlying24 rfl X (hB0.bel hX) (by rfl) info_kn) ?_
        refine ja hD31 Tryd.underlying24 (by rfl) info_kn ?_
        refine jk (fun X hX hF => (cpV _ _ l (cpK m k) X ⟨_, rfl, ((Ks.lasts l) _ _ _ h1 hX)⟩ ⟨_, rfl, ((Ks.lasts (cpK m k)) _ _ _ hv229 hX)⟩ HKL.out (cpK_ok HKM.out HKK.out HQ.out) HS.out).mono fun e X' ⟨v9, h1, h2, h3⟩ => ⟨v9, h1, by rw [(show cpK l (cpK m k) = cpK (cpK l m) k from (cpK_assoc HKL.out HKM.out HKK.out HP.out HQ.out HR.out HS.out).symm)] at h2; exact h2, h3⟩) ?_
        intro v244
        refine jm (v244) ?_
        refine lx_new (by rfl) (fun X hX hF => by obtain ⟨u9, h9, h8⟩ := (hF _ _ List.mem_cons_self rfl); subst h9; exact ⟨u9, X, rfl, h8, Below.refl _ _⟩) ?_
        intro v245
        simp only [pX]
        refine jg (.int .i64 0) (fun X hX hF => by obtain ⟨u9, h9, _⟩ := (hF _ _ (List.mem_cons_of_mem _ List.mem_cons_self) rfl); subst h9; rfl) ?_
        refine lx_nil ?_
        intro X20 hX20 hF
        replace h1 := (Ks.lasts l) _ _ _ h1 hX20
        replace h2 := (Ks.lasts m) _ _ _ h2 hX20
        replace h3 := (Ks.lasts k) _ _ _ h3 hX20
        replace hnil := (Ks.lasts []) _ _ _ hnil hX20
        replace hv75 := (Tp.lasts (Kn.lasts (cpK l m)) _) _ _ _ hv75 hX20
        replace hv76 := (Ks.lasts (cpK l m)) _ _ _ hv76 hX20
        replace hv83 := (Tp.lasts (Kn.lasts (cpK l m)) _) _ _ _ hv83 hX20
        replace hv84 := (Ks.lasts (cpK l m)) _ _ _ hv84 hX20
        replace hv87 := (Tp.lasts (Kn.lasts (dly 0)) _) _ _ _ hv87 hX20
        replace hv88 := (Ks.lasts (dly 0)) _ _ _ hv88 hX20
        replace hv94 := (Tp.lasts (Kn.lasts (red l)) _) _ _ _ hv94 hX20
        replace hv95 := (Ks.lasts (red l)) _ _ _ hv95 hX20
        replace hv100 := (Tp.lasts (Kn.lasts (red l)) _) _ _ _ hv100 hX20
        replace hv101 := (Ks.lasts (red l)) _ _ _ hv101 hX20
        replace hv108 := (Tp.lasts (Kn.lasts (dly p)) _) _ _ _ hv108 hX20
        replace hv109 := (Ks.lasts (dly p)) _ _ _ hv109 hX20
        replace hv116 := (Tp.lasts (Kn.lasts (dly q)) _) _ _ _ hv116 hX20
        replace hv117 := (Ks.lasts (dly q)) _ _ _ hv117 hX20
        replace hv122 := (Tp.lasts (Kn.lasts (dly (p + q))) _) _ _ _ hv122 hX20
        replace hv123 := (Ks.lasts (dly (p + q))) _ _ _ hv123 hX20
        replace hv135 := (Tp.lasts (Kn.lasts (dly (p + q))) _) _ _ _ hv135 hX20
        replace hv136 := (Ks.lasts (dly (p + q))) _ _ _ hv136 hX20
        replace hv228 := (Tp.lasts (Kn.lasts (cpK m k)) _) _ _ _ hv228 hX20
        replace hv229 := (Ks.lasts (cpK m k)) _ _ _ hv229 hX20
        replace hv237 := (Tp.lasts (Kn.lasts (cpK (cpK l m) k)) _) _ _ _ hv237 hX20
        replace hv238 := (Ks.lasts (cpK (cpK l m) k)) _ _ _ hv238 hX20
        have hv244 := hF _ _ (List.mem_cons_of_mem _ List.mem_cons_self)
        have hv245 := hF _ _ List.mem_cons_self
        replace hB0 := hB0.bel hX20
        replace hB1 := hB1.bel hX20
        replace hB2 := hB2.bel hX20
        replace hD7 := hD7.bel hX20
        replace hD9 := hD9.bel hX20
        replace hD11 := hD11.bel hX20
        replace hD13 := hD13.bel hX20
        replace hD15 := hD15.bel hX20
        replace hD17 := hD17.bel hX20
        replace hD19 := hD19.bel hX20
        replace hD21 := hD21.bel hX20
        replace hD23 := hD23.bel hX20
        replace hD25 := hD25.bel hX20
        replace hD27 := hD27.bel hX20
        replace hD29 := hD29.bel hX20
        replace hD31 := hD31.bel hX20
        replace hD33 := hD33.bel hX20
        have hb := bel_next hb hX20
        clear hF hX20
        obtain ⟨u245, e245, A245, c245, f245, q245⟩ := hv245
        subst f245
        subst e245
        have hv245 : Ks (cpK (cpK l m) k) (.slice A245 ((cpK (cpK l m) k)).length c245) X20 := ⟨_, _, rfl, q245⟩
        clear q245
        go_upto_region 26 with (refine osn 24 35 245 #[.slice A245 ((cpK (cpK l m) k)).length c245] info_kn ?_)
        obtain ⟨Y20, hY9, hD35, hS9⟩ := start1 X20 24 [.slice A245 ((cpK (cpK l m) k)).length c245]
        rw [← hY9]
        clear hY9
        have hgs35 := hb.size
        have hlt35x0 := hB0.lt
        have hlt35x1 := hB1.lt
        have hlt35x2 := hB2.lt
        have hlt35x3 := hD7.lt
        have hlt35x4 := hD9.lt
        have hlt35x5 := hD11.lt
        have hlt35x6 := hD13.lt
        have hlt35x7 := hD15.lt
        have hlt35x8 := hD17.lt
        have hlt35x9 := hD19.lt
        have hlt35x10 := hD21.lt
        have hlt35x11 := hD23.lt
        have hlt35x12 := hD25.lt
        have hlt35x13 := hD27.lt
        have hlt35x14 := hD29.lt
        have hlt35x15 := hD31.lt
        have hlt35x16 := hD33.lt
        replace hB0 := hB0.bel hS9
        replace hB1 := hB1.bel hS9
        replace hB2 := hB2.bel hS9
        replace hD7 := hD7.bel hS9
        replace hD9 := hD9.bel hS9
        replace hD11 := hD11.bel hS9
        replace hD13 := hD13.bel hS9
        replace hD15 := hD15.bel hS9
        replace hD17 := hD17.bel hS9
        replace hD19 := hD19.bel hS9
        replace hD21 := hD21.bel hS9
        replace hD23 := hD23.bel hS9
        replace hD25 := hD25.bel hS9
        replace hD27 := hD27.bel hS9
        replace hD29 := hD29.bel hS9
        replace hD31 := hD31.bel hS9
        replace hD33 := hD33.bel hS9
        replace h1 := (Ks.lasts l) _ _ _ h1 hS9
        replace h2 := (Ks.lasts m) _ _ _ h2 hS9
        replace h3 := (Ks.lasts k) _ _ _ h3 hS9
        replace hnil := (Ks.lasts []) _ _ _ hnil hS9
        replace hv75 := (Tp.lasts (Kn.lasts (cpK l m)) _) _ _ _ hv75 hS9
        replace hv76 := (Ks.lasts (cpK l m)) _ _ _ hv76 hS9
        replace hv83 := (Tp.lasts (Kn.lasts (cpK l m)) _) _ _ _ hv83 hS9
        replace hv84 := (Ks.lasts (cpK l m)) _ _ _ hv84 hS9
        replace hv87 := (Tp.lasts (Kn.lasts (dly 0)) _) _ _ _ hv87 hS9
        replace hv88 := (Ks.lasts (dly 0)) _ _ _ hv88 hS9
        replace hv94 := (Tp.lasts (Kn.lasts (red l)) _) _ _ _ hv94 hS9
        replace hv95 := (Ks.lasts (red l)) _ _ _ hv95 hS9
        replace hv100 := (Tp.lasts (Kn.lasts (red l)) _) _ _ _ hv100 hS9
        replace hv101 := (Ks.lasts (red l)) _ _ _ hv101 hS9
        replace hv108 := (Tp.lasts (Kn.lasts (dly p)) _) _ _ _ hv108 hS9
        replace hv109 := (Ks.lasts (dly p)) _ _ _ hv109 hS9
        replace hv116 := (Tp.lasts (Kn.lasts (dly q)) _) _ _ _ hv116 hS9
        replace hv117 := (Ks.lasts (dly q)) _ _ _ hv117 hS9
        replace hv122 := (Tp.lasts (Kn.lasts (dly (p + q))) _) _ _ _ hv122 hS9
        replace hv123 := (Ks.lasts (dly (p + q))) _ _ _ hv123 hS9
        replace hv135 := (Tp.lasts (Kn.lasts (dly (p + q))) _) _ _ _ hv135 hS9
        replace hv136 := (Ks.lasts (dly (p + q))) _ _ _ hv136 hS9
        replace hv228 := (Tp.lasts (Kn.lasts (cpK m k)) _) _ _ _ hv228 hS9
        replace hv229 := (Ks.lasts (cpK m k)) _ _ _ hv229 hS9
        replace hv237 := (Tp.lasts (Kn.lasts (cpK (cpK l m) k)) _) _ _ _ hv237 hS9
        replace hv238 := (Ks.lasts (cpK (cpK l m) k)) _ _ _ hv238 hS9
        replace hv244 := (Tp.lasts (Kn.lasts (cpK (cpK l m) k)) _) _ _ _ hv244 hS9
        replace hv245 := (Ks.lasts (cpK (cpK l m) k)) _ _ _ hv245 hS9
        have hb := bel_next hb hS9
        clear hS9
        generalize X20.heap.size = g35 at *
        refine jp ?_
        refine jc (.bool true) (fun X hX hF => sanC X) ?_
        refine jm (.bool true) ?_
        refine jm (.int .i64 0) ?_
        refine jv (.bool false) (exec_nei _ _ _ _ (by rfl) .i64 0 0 (by rfl) (by rfl) false (by rw [decide_eq_true (by omega)]; rfl)) ?_
        refine jm (.bool false) ?_
        refine jm (.int .i64 0) ?_
        refine jv (.bool false) (exec_nei _ _ _ _ (by rfl) .i64 0 0 (by rfl) (by rfl) false (by rw [decide_eq_true (by omega)]; rfl)) ?_
        refine jm (.bool false) ?_
        refine jm (.bool false) ?_
        refine ja hD33 Tryd.underlying24 (by rfl) info_kn ?_
        refine ja hD35 Tryd.underlying24 (by rfl) info_kn ?_
        refine jc (.bool true) (fun X hX hF => smV _ _ (cpK (cpK l m) k) X ⟨_, rfl, ((Ks.lasts (cpK (cpK l m) k)) _ _ _ hv238 hX)⟩ ⟨_, rfl, ((Ks.lasts (cpK (cpK l m) k)) _ _ _ hv245 hX)⟩) ?_
        refine jm (.bool true) ?_
        refine jm (.bool true) ?_
        refine jm (.bool true) ?_
        refine lx_nil ?_
        intro X21 hX21 hF
        replace h1 := (Ks.lasts l) _ _ _ h1 hX21
        replace h2 := (Ks.lasts m) _ _ _ h2 hX21
        replace h3 := (Ks.lasts k) _ _ _ h3 hX21
        replace hnil := (Ks.lasts []) _ _ _ hnil hX21
        replace hv75 := (Tp.lasts (Kn.lasts (cpK l m)) _) _ _ _ hv75 hX21
        replace hv76 := (Ks.lasts (cpK l m)) _ _ _ hv76 hX21
        replace hv83 := (Tp.lasts (Kn.lasts (cpK l m)) _) _ _ _ hv83 hX21
        replace hv84 := (Ks.lasts (cpK l m)) _ _ _ hv84 hX21
        replace hv87 := (Tp.lasts (Kn.lasts (dly 0)) _) _ _ _ hv87 hX21
        replace hv88 := (Ks.lasts (dly 0)) _ _ _ hv88 hX21
        replace hv94 := (Tp.lasts (Kn.lasts (red l)) _) _ _ _ hv94 hX21
        replace hv95 := (Ks.lasts (red l)) _ _ _ hv95 hX21
        replace hv100 := (Tp.lasts (Kn.lasts (red l)) _) _ _ _ hv100 hX21
        replace hv101 := (Ks.lasts (red l)) _ _ _ hv101 hX21
        replace hv108 := (Tp.lasts (Kn.lasts (dly p)) _) _ _ _ hv108 hX21
        replace hv109 := (Ks.lasts (dly p)) _ _ _ hv109 hX21
        replace hv116 := (Tp.lasts (Kn.lasts (dly q)) _) _ _ _ hv116 hX21
        replace hv117 := (Ks.lasts (dly q)) _ _ _ hv117 hX21
        replace hv122 := (Tp.lasts (Kn.lasts (dly (p + q))) _) _ _ _ hv122 hX21
        replace hv123 := (Ks.lasts (dly (p + q))) _ _ _ hv123 hX21
        replace hv135 := (Tp.lasts (Kn.lasts (dly (p + q))) _) _ _ _ hv135 hX21
        replace hv136 := (Ks.lasts (dly (p + q))) _ _ _ hv136 hX21
        replace hv228 := (Tp.lasts (Kn.lasts (cpK m k)) _) _ _ _ hv228 hX21
        replace hv229 := (Ks.lasts (cpK m k)) _ _ _ hv229 hX21
        replace hv237 := (Tp.lasts (Kn.lasts (cpK (cpK l m) k)) _) _ _ _ hv237 hX21
        replace hv238 := (Ks.lasts (cpK (cpK l m) k)) _ _ _ hv238 hX21
        replace hv244 := (Tp.lasts (Kn.lasts (cpK (cpK l m) k)) _) _ _ _ hv244 hX21
        replace hv245 := (Ks.lasts (cpK (cpK l m) k)) _ _ _ hv245 hX21
        replace hB0 := hB0.bel hX21
        replace hB1 := hB1.bel hX21
        replace hB2 := hB2.bel hX21
        replace hD7 := hD7.bel hX21
        replace hD9 := hD9.bel hX21
        replace hD11 := hD11.bel hX21
        replace hD13 := hD13.bel hX21
        replace hD15 := hD15.bel hX21
        replace hD17 := hD17.bel hX21
        replace hD19 := hD19.bel hX21
        replace hD21 := hD21.bel hX21
        replace hD23 := hD23.bel hX21
        replace hD25 := hD25.bel hX21
        replace hD27 := hD27.bel hX21
        replace hD29 := hD29.bel hX21
        replace hD31 := hD31.bel hX21
        replace hD33 := hD33.bel hX21
        replace hD35 := hD35.bel hX21
        have hb := bel_next hb hX21
        clear hF hX21
        go_wp2
        go_ret
        exact ⟨rfl, hb⟩
      · replace HR := Lib.hid HR
        obtain ⟨z2, z9⟩ : ∃ z, cpE l (cpK m k) = z := ⟨_, rfl⟩
        have HZ2x := Lib.hid z9
        have hz2 : z2 ≠ 0 := by rw [← z9]; exact HS
        clear z9 HS
        go_upto_region 24 with (fail)
        refine lx_plain_to 6 [none, none, some (Tp (Kn (cpK (cpK l m) k)) 0), none, some (Kn (cpK (cpK l m) k))] (lasts_none (lasts_none (lasts_some (Tp.lasts (Kn.lasts (cpK (cpK l m) k)) _) (lasts_none (lasts_some (Kn.lasts (cpK (cpK l m) k)) (lasts_nil)))))) ?_
        simp only [its, List.take, List.drop, Nat.zero_add, Nat.reduceAdd]
        refine ja hD7 Tryd.underlying24 (by rfl) info_kn ?_
        refine ja hB1 Tryd.underlying24 (by rfl) info_kn ?_
        refine jk (fun X hX hF => cpV _ _ (cpK l m) k X ⟨_, rfl, ((Ks.lasts (cpK l m)) _ _ _ hv76 hX)⟩ ⟨_, rfl, ((Ks.lasts k) _ _ _ h3 hX)⟩ (cpK_ok HKL.out HKM.out HP.out) HKK.out HR.out) ?_
        intro v237
        refine jm (v237) ?_
        refine lx_new (by rfl) (fun X hX hF => by obtain ⟨u9, h9, h8⟩ := (hF _ _ List.mem_cons_self rfl); subst h9; exact ⟨u9, X, rfl, h8, Below.refl _ _⟩) ?_
        intro v238
        simp only [pX]
        refine jg (.int .i64 0) (fun X hX hF => by obtain ⟨u9, h9, _⟩ := (hF _ _ (List.mem_cons_of_mem _ List.mem_cons_self) rfl); subst h9; rfl) ?_
        refine lx_nil ?_
        intro X19 hX19 hF
        replace h1 := (Ks.lasts l) _ _ _ h1 hX19
        replace h2 := (Ks.lasts m) _ _ _ h2 hX19
        replace h3 := (Ks.lasts k) _ _ _ h3 hX19
        replace hnil := (Ks.lasts []) _ _ _ hnil hX19
        replace hv75 := (Tp.lasts (Kn.lasts (cpK l m)) _) _ _ _ hv75 hX19
        replace hv76 := (Ks.lasts (cpK l m)) _ _ _ hv76 hX19
        replace hv83 := (Tp.lasts (Kn.lasts (cpK l m)) _) _ _ _ hv83 hX19
        replace hv84 := (Ks.lasts (cpK l m)) _ _ _ hv84 hX19
        replace hv87 := (Tp.lasts (Kn.lasts (dly 0)) _) _ _ _ hv87 hX19
        replace hv88 := (Ks.lasts (dly 0)) _ _ _ hv88 hX19
        replace hv94 := (Tp.lasts (Kn.lasts (red l)) _) _ _ _ hv94 hX19
        replace hv95 := (Ks.lasts (red l)) _ _ _ hv95 hX19
        replace hv100 := (Tp.lasts (Kn.lasts (red l)) _) _ _ _ hv100 hX19
        replace hv101 := (Ks.lasts (red l)) _ _ _ hv101 hX19
        replace hv108 := (Tp.lasts (Kn.lasts (dly p)) _) _ _ _ hv108 hX19
        replace hv109 := (Ks.lasts (dly p)) _ _ _ hv109 hX19
        replace hv116 := (Tp.lasts (Kn.lasts (dly q)) _) _ _ _ hv116 hX19
        replace hv117 := (Ks.lasts (dly q)) _ _ _ hv117 hX19
        replace hv122 := (Tp.lasts (Kn.lasts (dly (p + q))) _) _ _ _ hv122 hX19
        replace hv123 := (Ks.lasts (dly (p + q))) _ _ _ hv123 hX19
        replace hv135 := (Tp.lasts (Kn.lasts (dly (p + q))) _) _ _ _ hv135 hX19
        replace hv136 := (Ks.lasts (dly (p + q))) _ _ _ hv136 hX19
        replace hv228 := (Tp.lasts (Kn.lasts (cpK m k)) _) _ _ _ hv228 hX19
        replace hv229 := (Ks.lasts (cpK m k)) _ _ _ hv229 hX19
        have hv237 := hF _ _ (List.mem_cons_of_mem _ List.mem_cons_self)
        have hv238 := hF _ _ List.mem_cons_self
        replace hB0 := hB0.bel hX19
        replace hB1 := hB1.bel hX19
        replace hB2 := hB2.bel hX19
        replace hD7 := hD7.bel hX19
        replace hD9 := hD9.bel hX19
        replace hD11 := hD11.bel hX19
        replace hD13 := hD13.bel hX19
        replace hD15 := hD15.bel hX19
        replace hD17 := hD17.bel hX19
        replace hD19 := hD19.bel hX19
        replace hD21 := hD21.bel hX19
        replace hD23 := hD23.bel hX19
        replace hD25 := hD25.bel hX19
        replace hD27 := hD27.bel hX19
        replace hD29 := hD29.bel hX19
        replace hD31 := hD31.bel hX19
        have hb := bel_next hb hX19
        clear hF hX19
        obtain ⟨u238, e238, A238, c238, f238, q238⟩ := hv238
        subst f238
        subst e238
        have hv238 : Ks (cpK (cpK l m) k) (.slice A238 ((cpK (cpK l m) k)).length c238) X19 := ⟨_, _, rfl, q238⟩
        clear q238
        go_upto_region 25 with (refine osn 24 33 238 #[.slice A238 ((cpK (cpK l m) k)).length c238] info_kn ?_)
        obtain ⟨Y19, hY9, hD33, hS9⟩ := start1 X19 24 [.slice A238 ((cpK (cpK l m) k)).length c238]
        rw [← hY9]
        clear hY9
        have hgs33 := hb.size
        have hlt33x0 := hB0.lt
        have hlt33x1 := hB1.lt
        have hlt33x2 := hB2.lt
        have hlt33x3 := hD7.lt
        have hlt33x4 := hD9.lt
        have hlt33x5 := hD11.lt
        have hlt33x6 := hD13.lt
        have hlt33x7 := hD15.lt
        have hlt33x8 := hD17.lt
        have hlt33x9 := hD19.lt
        have hlt33x10 := hD21.lt
        have hlt33x11 := hD23.lt
        have hlt33x12 := hD25.lt
        have hlt33x13 := hD27.lt
        have hlt33x14 := hD29.lt
        have hlt33x15 := hD31.lt
        replace hB0 := hB0.bel hS9
        replace hB1 := hB1.bel hS9
        replace hB2 := hB2.bel hS9
        replace hD7 := hD7.bel hS9
        replace hD9 := hD9.bel hS9
        replace hD11 := hD11.bel hS9
        replace hD13 := hD13.bel hS9
        replace hD15 := hD15.bel hS9
        replace hD17 := hD17.bel hS9
        replace hD19 := hD19.bel hS9
        replace hD21 := hD21.bel hS9
        replace hD23 := hD23.bel hS9
        replace hD25 := hD25.bel hS9
        replace hD27 := hD27.bel hS9
        replace hD29 := hD29.bel hS9
        replace hD31 := hD31.bel hS9
        replace h1 := (Ks.lasts l) _ _ _ h1 hS9
        replace h2 := (Ks.lasts m) _ _ _ h2 hS9
        replace h3 := (Ks.lasts k) _ _ _ h3 hS9
        replace hnil := (Ks.lasts []) _ _ _ hnil hS9
        replace hv75 := (Tp.lasts (Kn.lasts (cpK l m)) _) _ _ _ hv75 hS9
        replace hv76 := (Ks.lasts (cpK l m)) _ _ _ hv76 hS9
        replace hv83 := (Tp.lasts (Kn.lasts (cpK l m)) _) _ _ _ hv83 hS9
        replace hv84 := (Ks.lasts (cpK l m)) _ _ _ hv84 hS9
        replace hv87 := (Tp.lasts (Kn.lasts (dly 0)) _) _ _ _ hv87 hS9
        replace hv88 := (Ks.lasts (dly 0)) _ _ _ hv88 hS9
        replace hv94 := (Tp.lasts (Kn.lasts (red l)) _) _ _ _ hv94 hS9
        replace hv95 := (Ks.lasts (red l)) _ _ _ hv95 hS9
        replace hv100 := (Tp.lasts (Kn.lasts (red l)) _) _ _ _ hv100 hS9
        replace hv101 := (Ks.lasts (red l)) _ _ _ hv101 hS9
        replace hv108 := (Tp.lasts (Kn.lasts (dly p)) _) _ _ _ hv108 hS9
        replace hv109 := (Ks.lasts (dly p)) _ _ _ hv109 hS9
        replace hv116 := (Tp.lasts (Kn.lasts (dly q)) _) _ _ _ hv116 hS9
        replace hv117 := (Ks.lasts (dly q)) _ _ _ hv117 hS9
        replace hv122 := (Tp.lasts (Kn.lasts (dly (p + q))) _) _ _ _ hv122 hS9
        replace hv123 := (Ks.lasts (dly (p + q))) _ _ _ hv123 hS9
        replace hv135 := (Tp.lasts (Kn.lasts (dly (p + q))) _) _ _ _ hv135 hS9
        replace hv136 := (Ks.lasts (dly (p + q))) _ _ _ hv136 hS9
        replace hv228 := (Tp.lasts (Kn.lasts (cpK m k)) _) _ _ _ hv228 hS9
        replace hv229 := (Ks.lasts (cpK m k)) _ _ _ hv229 hS9
        replace hv237 := (Tp.lasts (Kn.lasts (cpK (cpK l m) k)) _) _ _ _ hv237 hS9
        replace hv238 := (Ks.lasts (cpK (cpK l m) k)) _ _ _ hv238 hS9
        have hb := bel_next hb hS9
        clear hS9
        generalize X19.heap.size = g33 at *
        refine jq 7 ?_
        refine jn (.pointer (some ⟨w.heap.size, 0, none⟩)) ?_
        refine jg (.agg #[.slice A n c]) (fun X hX hF => exec_inr 24 _ (by rfl) w.heap.size 0 [.slice A n c] (by rfl) Tryd.underlying24 rfl X (hB0.bel hX) (by rfl) info_kn) ?_
        refine ja hD31 Tryd.underlying24 (by rfl) info_kn ?_
        refine jc (.tuple #[.agg #[.slice none 0 0], .int .i64 z2]) (fun X hX hF => cpVE _ _ l (cpK m k) X ⟨_, rfl, ((Ks.lasts l) _ _ _ h1 hX)⟩ ⟨_, rfl, ((Ks.lasts (cpK m k)) _ _ _ hv229 hX)⟩ HKL.out (cpK_ok HKM.out HKK.out HQ.out) HZ2x.out hz2) ?_
        refine jm (.tuple #[.agg #[.slice none 0 0], .int .i64 z2]) ?_
        refine jm (.agg #[.slice none 0 0]) ?_
        refine jm (.int .i64 z2) ?_
        refine lx_nil ?_
        intro X20 hX20 hF
        replace h1 := (Ks.lasts l) _ _ _ h1 hX20
        replace h2 := (Ks.lasts m) _ _ _ h2 hX20
        replace h3 := (Ks.lasts k) _ _ _ h3 hX20
        replace hnil := (Ks.lasts []) _ _ _ hnil hX20
        replace hv75 := (Tp.lasts (Kn.lasts (cpK l m)) _) _ _ _ hv75 hX20
        replace hv76 := (Ks.lasts (cpK l m)) _ _ _ hv76 hX20
        replace hv83 := (Tp.lasts (Kn.lasts (cpK l m)) _) _ _ _ hv83 hX20
        replace hv84 := (Ks.lasts (cpK l m)) _ _ _ hv84 hX20
        replace hv87 := (Tp.lasts (Kn.lasts (dly 0)) _) _ _ _ hv87 hX20
        replace hv88 := (Ks.lasts (dly 0)) _ _ _ hv88 hX20
        replace hv94 := (Tp.lasts (Kn.lasts (red l)) _) _ _ _ hv94 hX20
        replace hv95 := (Ks.lasts (red l)) _ _ _ hv95 hX20
        replace hv100 := (Tp.lasts (Kn.lasts (red l)) _) _ _ _ hv100 hX20
        replace hv101 := (Ks.lasts (red l)) _ _ _ hv101 hX20
        replace hv108 := (Tp.lasts (Kn.lasts (dly p)) _) _ _ _ hv108 hX20
        replace hv109 := (Ks.lasts (dly p)) _ _ _ hv109 hX20
        replace hv116 := (Tp.lasts (Kn.lasts (dly q)) _) _ _ _ hv116 hX20
        replace hv117 := (Ks.lasts (dly q)) _ _ _ hv117 hX20
        replace hv122 := (Tp.lasts (Kn.lasts (dly (p + q))) _) _ _ _ hv122 hX20
        replace hv123 := (Ks.lasts (dly (p + q))) _ _ _ hv123 hX20
        replace hv135 := (Tp.lasts (Kn.lasts (dly (p + q))) _) _ _ _ hv135 hX20
        replace hv136 := (Ks.lasts (dly (p + q))) _ _ _ hv136 hX20
        replace hv228 := (Tp.lasts (Kn.lasts (cpK m k)) _) _ _ _ hv228 hX20
        replace hv229 := (Ks.lasts (cpK m k)) _ _ _ hv229 hX20
        replace hv237 := (Tp.lasts (Kn.lasts (cpK (cpK l m) k)) _) _ _ _ hv237 hX20
        replace hv238 := (Ks.lasts (cpK (cpK l m) k)) _ _ _ hv238 hX20
        replace hB0 := hB0.bel hX20
        replace hB1 := hB1.bel hX20
        replace hB2 := hB2.bel hX20
        replace hD7 := hD7.bel hX20
        replace hD9 := hD9.bel hX20
        replace hD11 := hD11.bel hX20
        replace hD13 := hD13.bel hX20
        replace hD15 := hD15.bel hX20
        replace hD17 := hD17.bel hX20
        replace hD19 := hD19.bel hX20
        replace hD21 := hD21.bel hX20
        replace hD23 := hD23.bel hX20
        replace hD25 := hD25.bel hX20
        replace hD27 := hD27.bel hX20
        replace hD29 := hD29.bel hX20
        replace hD31 := hD31.bel hX20
        replace hD33 := hD33.bel hX20
        have hb := bel_next hb hX20
        clear hF hX20
        go_upto_region 26 with (refine osn 24 35 245 #[.slice none 0 0] info_kn ?_)
        obtain ⟨Y20, hY9, hD35, hS9⟩ := start1 X20 24 [.slice none 0 0]
        rw [← hY9]
        clear hY9
        have hgs35 := hb.size
        have hlt35x0 := hB0.lt
        have hlt35x1 := hB1.lt
        have hlt35x2 := hB2.lt
        have hlt35x3 := hD7.lt
        have hlt35x4 := hD9.lt
        have hlt35x5 := hD11.lt
        have hlt35x6 := hD13.lt
        have hlt35x7 := hD15.lt
        have hlt35x8 := hD17.lt
        have hlt35x9 := hD19.lt
        have hlt35x10 := hD21.lt
        have hlt35x11 := hD23.lt
        have hlt35x12 := hD25.lt
        have hlt35x13 := hD27.lt
        have hlt35x14 := hD29.lt
        have hlt35x15 := hD31.lt
        have hlt35x16 := hD33.lt
        have hB0 := hB0.bel hS9
        have hB1 := hB1.bel hS9
        have hB2 := hB2.bel hS9
        have hD7 := hD7.bel hS9
        have hD9 := hD9.bel hS9
        have hD11 := hD11.bel hS9
        have hD13 := hD13.bel hS9
        have hD15 := hD15.bel hS9
        have hD17 := hD17.bel hS9
        have hD19 := hD19.bel hS9
        have hD21 := hD21.bel hS9
        have hD23 := hD23.bel hS9
        have hD25 := hD25.bel hS9
        have hD27 := hD27.bel hS9
        have hD29 := hD29.bel hS9
        have hD31 := hD31.bel hS9
        have hD33 := hD33.bel hS9
        have h1 := (Ks.lasts l) _ _ _ h1 hS9
        have h2 := (Ks.lasts m) _ _ _ h2 hS9
        have h3 := (Ks.lasts k) _ _ _ h3 hS9
        have hnil := (Ks.lasts []) _ _ _ hnil hS9
        have hv75 := (Tp.lasts (Kn.lasts (cpK l m)) _) _ _ _ hv75 hS9
        have hv76 := (Ks.lasts (cpK l m)) _ _ _ hv76 hS9
        have hv83 := (Tp.lasts (Kn.lasts (cpK l m)) _) _ _ _ hv83 hS9
        have hv84 := (Ks.lasts (cpK l m)) _ _ _ hv84 hS9
        have hv87 := (Tp.lasts (Kn.lasts (dly 0)) _) _ _ _ hv87 hS9
        have hv88 := (Ks.lasts (dly 0)) _ _ _ hv88 hS9
        have hv94 := (Tp.lasts (Kn.lasts (red l)) _) _ _ _ hv94 hS9
        have hv95 := (Ks.lasts (red l)) _ _ _ hv95 hS9
        have hv100 := (Tp.lasts (Kn.lasts (red l)) _) _ _ _ hv100 hS9
        have hv101 := (Ks.lasts (red l)) _ _ _ hv101 hS9
        have hv108 := (Tp.lasts (Kn.lasts (dly p)) _) _ _ _ hv108 hS9
        have hv109 := (Ks.lasts (dly p)) _ _ _ hv109 hS9
        have hv116 := (Tp.lasts (Kn.lasts (dly q)) _) _ _ _ hv116 hS9
        have hv117 := (Ks.lasts (dly q)) _ _ _ hv117 hS9
        have hv122 := (Tp.lasts (Kn.lasts (dly (p + q))) _) _ _ _ hv122 hS9
        have hv123 := (Ks.lasts (dly (p + q))) _ _ _ hv123 hS9
        have hv135 := (Tp.lasts (Kn.lasts (dly (p + q))) _) _ _ _ hv135 hS9
        have hv136 := (Ks.lasts (dly (p + q))) _ _ _ hv136 hS9
        have hv228 := (Tp.lasts (Kn.lasts (cpK m k)) _) _ _ _ hv228 hS9
        have hv229 := (Ks.lasts (cpK m k)) _ _ _ hv229 hS9
        have hv237 := (Tp.lasts (Kn.lasts (cpK (cpK l m) k)) _) _ _ _ hv237 hS9
        have hv238 := (Ks.lasts (cpK (cpK l m) k)) _ _ _ hv238 hS9
        have hb := bel_next hb hS9
        clear hS9
        generalize X20.heap.size = g35 at *
        refine jp ?_
        refine jc (.bool true) (fun X hX hF => sanC X) ?_
        refine jm (.bool true) ?_
        refine jm (.int .i64 0) ?_
        refine jv (.bool false) (exec_nei _ _ _ _ (by rfl) .i64 0 0 (by rfl) (by rfl) false (by rw [decide_eq_true (by omega)]; rfl)) ?_
        refine jm (.bool false) ?_
        refine jm (.int .i64 z2) ?_
        refine jv (.bool true) (exec_nei _ _ _ _ (by rfl) .i64 z2 0 (by rfl) (by rfl) true (by rw [decide_eq_false (by omega)]; rfl)) ?_
        refine jm (.bool true) ?_
        refine jm (.bool true) ?_
        refine js ?_
        refine js ?_
        refine js ?_
        refine jm (.bool true) ?_
        refine jm (.bool true) ?_
        refine jm (.bool true) ?_
        refine lx_nil ?_
        intro X21 hX21 hF
        replace h1 := (Ks.lasts l) _ _ _ h1 hX21
        replace h2 := (Ks.lasts m) _ _ _ h2 hX21
        replace h3 := (Ks.lasts k) _ _ _ h3 hX21
        replace hnil := (Ks.lasts []) _ _ _ hnil hX21
        replace hv75 := (Tp.lasts (Kn.lasts (cpK l m)) _) _ _ _ hv75 hX21
        replace hv76 := (Ks.lasts (cpK l m)) _ _ _ hv76 hX21
        replace hv83 := (Tp.lasts (Kn.lasts (cpK l m)) _) _ _ _ hv83 hX21
        replace hv84 := (Ks.lasts (cpK l m)) _ _ _ hv84 hX21
        replace hv87 := (Tp.lasts (Kn.lasts (dly 0)) _) _ _ _ hv87 hX21
        replace hv88 := (Ks.lasts (dly 0)) _ _ _ hv88 hX21
        replace hv94 := (Tp.lasts (Kn.lasts (red l)) _) _ _ _ hv94 hX21
        replace hv95 := (Ks.lasts (red l)) _ _ _ hv95 hX21
        replace hv100 := (Tp.lasts (Kn.lasts (red l)) _) _ _ _ hv100 hX21
        replace hv101 := (Ks.lasts (red l)) _ _ _ hv101 hX21
        replace hv108 := (Tp.lasts (Kn.lasts (dly p)) _) _ _ _ hv108 hX21
        replace hv109 := (Ks.lasts (dly p)) _ _ _ hv109 hX21
        replace hv116 := (Tp.lasts (Kn.lasts (dly q)) _) _ _ _ hv116 hX21
        replace hv117 := (Ks.lasts (dly q)) _ _ _ hv117 hX21
        replace hv122 := (Tp.lasts (Kn.lasts (dly (p + q))) _) _ _ _ hv122 hX21
        replace hv123 := (Ks.lasts (dly (p + q))) _ _ _ hv123 hX21
        replace hv135 := (Tp.lasts (Kn.lasts (dly (p + q))) _) _ _ _ hv135 hX21
        replace hv136 := (Ks.lasts (dly (p + q))) _ _ _ hv136 hX21
        replace hv228 := (Tp.lasts (Kn.lasts (cpK m k)) _) _ _ _ hv228 hX21
        replace hv229 := (Ks.lasts (cpK m k)) _ _ _ hv229 hX21
        replace hv237 := (Tp.lasts (Kn.lasts (cpK (cpK l m) k)) _) _ _ _ hv237 hX21
        replace hv238 := (Ks.lasts (cpK (cpK l m) k)) _ _ _ hv238 hX21
        replace hB0 := hB0.bel hX21
        replace hB1 := hB1.bel hX21
        replace hB2 := hB2.bel hX21
        replace hD7 := hD7.bel hX21
        replace hD9 := hD9.bel hX21
        replace hD11 := hD11.bel hX21
        replace hD13 := hD13.bel hX21
        replace hD15 := hD15.bel hX21
        replace hD17 := hD17.bel hX21
        replace hD19 := hD19.bel hX21
        replace hD21 := hD21.bel hX21
        replace hD23 := hD23.bel hX21
        replace hD25 := hD25.bel hX21
        replace hD27 := hD27.bel hX21
        replace hD29 := hD29.bel hX21
        replace hD31 := hD31.bel hX21
        replace hD33 := hD33.bel hX21
        replace hD35 := hD35.bel hX21
        have hb := bel_next hb hX21
        clear hF hX21
        go_wp2
        go_ret
        exact ⟨rfl, hb⟩
    · by_cases HS : cpE l (cpK m k) = 0
      · obtain ⟨z1, z9⟩ : ∃ z, cpE (cpK l m) k = z := ⟨_, rfl⟩
        have HZ1 := Lib.hid z9
        have hz1 : z1 ≠ 0 := by rw [← z9]; exact HR
        clear z9 HR
        replace HS := Lib.hid HS
        go_upto_region 24 with (fail)
        refine jq 6 ?_
        refine ja hD7 Tryd.underlying24 (by rfl) info_kn ?_
        refine ja hB1 Tryd.underlying24 (by rfl) info_kn ?_
        refine jc (.tuple #[.agg #[.slice none 0 0], .int .i64 z1]) (fun X hX hF => cpVE _ _ (cpK l m) k X ⟨_, rfl, ((Ks.lasts (cpK l m)) _ _ _ hv76 hX)⟩ ⟨_, rfl, ((Ks.lasts k) _ _ _ h3 hX)⟩ (cpK_ok HKL.out HKM.out HP.out) HKK.out HZ1.out hz1) ?_
        refine jm (.tuple #[.agg #[.slice none 0 0], .int .i64 z1]) ?_
        refine jm (.agg #[.slice none 0 0]) ?_
        refine jm (.int .i64 z1) ?_
        refine lx_nil ?_
        intro X19 hX19 hF
        replace h1 := (Ks.lasts l) _ _ _ h1 hX19
        replace h2 := (Ks.lasts m) _ _ _ h2 hX19
        replace h3 := (Ks.lasts k) _ _ _ h3 hX19
        replace hnil := (Ks.lasts []) _ _ _ hnil hX19
        replace hv75 := (Tp.lasts (Kn.lasts (cpK l m)) _) _ _ _ hv75 hX19
        replace hv76 := (Ks.lasts (cpK l m)) _ _ _ hv76 hX19
        replace hv83 := (Tp.lasts (Kn.lasts (cpK l m)) _) _ _ _ hv83 hX19
        replace hv84 := (Ks.lasts (cpK l m)) _ _ _ hv84 hX19
        replace hv87 := (Tp.lasts (Kn.lasts (dly 0)) _) _ _ _ hv87 hX19
        replace hv88 := (Ks.lasts (dly 0)) _ _ _ hv88 hX19
        replace hv94 := (Tp.lasts (Kn.lasts (red l)) _) _ _ _ hv94 hX19
        replace hv95 := (Ks.lasts (red l)) _ _ _ hv95 hX19
        replace hv100 := (Tp.lasts (Kn.lasts (red l)) _) _ _ _ hv100 hX19
        replace hv101 := (Ks.lasts (red l)) _ _ _ hv101 hX19
        replace hv108 := (Tp.lasts (Kn.lasts (dly p)) _) _ _ _ hv108 hX19
        replace hv109 := (Ks.lasts (dly p)) _ _ _ hv109 hX19
        replace hv116 := (Tp.lasts (Kn.lasts (dly q)) _) _ _ _ hv116 hX19
        replace hv117 := (Ks.lasts (dly q)) _ _ _ hv117 hX19
        replace hv122 := (Tp.lasts (Kn.lasts (dly (p + q))) _) _ _ _ hv122 hX19
        replace hv123 := (Ks.lasts (dly (p + q))) _ _ _ hv123 hX19
        replace hv135 := (Tp.lasts (Kn.lasts (dly (p + q))) _) _ _ _ hv135 hX19
        replace hv136 := (Ks.lasts (dly (p + q))) _ _ _ hv136 hX19
        replace hv228 := (Tp.lasts (Kn.lasts (cpK m k)) _) _ _ _ hv228 hX19
        replace hv229 := (Ks.lasts (cpK m k)) _ _ _ hv229 hX19
        replace hB0 := hB0.bel hX19
        replace hB1 := hB1.bel hX19
        replace hB2 := hB2.bel hX19
        replace hD7 := hD7.bel hX19
        replace hD9 := hD9.bel hX19
        replace hD11 := hD11.bel hX19
        replace hD13 := hD13.bel hX19
        replace hD15 := hD15.bel hX19
        replace hD17 := hD17.bel hX19
        replace hD19 := hD19.bel hX19
        replace hD21 := hD21.bel hX19
        replace hD23 := hD23.bel hX19
        replace hD25 := hD25.bel hX19
        replace hD27 := hD27.bel hX19
        replace hD29 := hD29.bel hX19
        replace hD31 := hD31.bel hX19
        have hb := bel_next hb hX19
        clear hF hX19
        go_upto_region 25 with (refine osn 24 33 238 #[.slice none 0 0] info_kn ?_)
        obtain ⟨Y19, hY9, hD33, hS9⟩ := start1 X19 24 [.slice none 0 0]
        rw [← hY9]
        clear hY9
        have hgs33 := hb.size
        have hlt33x0 := hB0.lt
        have hlt33x1 := hB1.lt
        have hlt33x2 := hB2.lt
        have hlt33x3 := hD7.lt
        have hlt33x4 := hD9.lt
        have hlt33x5 := hD11.lt
        have hlt33x6 := hD13.lt
        have hlt33x7 := hD15.lt
        have hlt33x8 := hD17.lt
        have hlt33x9 := hD19.lt
        have hlt33x10 := hD21.lt
        have hlt33x11 := hD23.lt
        have hlt33x12 := hD25.lt
        have hlt33x13 := hD27.lt
        have hlt33x14 := hD29.lt
        have hlt33x15 := hD31.lt
        have hB0 := hB0.bel hS9
        have hB1 := hB1.bel hS9
        have hB2 := hB2.bel hS9
        have hD7 := hD7.bel hS9
        have hD9 := hD9.bel hS9
        have hD11 := hD11.bel hS9
        have hD13 := hD13.bel hS9
        have hD15 := hD15.bel hS9
        have hD17 := hD17.bel hS9
        have hD19 := hD19.bel hS9
        have hD21 := hD21.bel hS9
        have hD23 := hD23.bel hS9
        have hD25 := hD25.bel hS9
        have hD27 := hD27.bel hS9
        have hD29 := hD29.bel hS9
        have hD31 := hD31.bel hS9
        have h1 := (Ks.lasts l) _ _ _ h1 hS9
        have h2 := (Ks.lasts m) _ _ _ h2 hS9
        have h3 := (Ks.lasts k) _ _ _ h3 hS9
        have hnil := (Ks.lasts []) _ _ _ hnil hS9
        have hv75 := (Tp.lasts (Kn.lasts (cpK l m)) _) _ _ _ hv75 hS9
        have hv76 := (Ks.lasts (cpK l m)) _ _ _ hv76 hS9
        have hv83 := (Tp.lasts (Kn.lasts (cpK l m)) _) _ _ _ hv83 hS9
        have hv84 := (Ks.lasts (cpK l m)) _ _ _ hv84 hS9
        have hv87 := (Tp.lasts (Kn.lasts (dly 0)) _) _ _ _ hv87 hS9
        have hv88 := (Ks.lasts (dly 0)) _ _ _ hv88 hS9
        have hv94 := (Tp.lasts (Kn.lasts (red l)) _) _ _ _ hv94 hS9
        have hv95 := (Ks.lasts (red l)) _ _ _ hv95 hS9
        have hv100 := (Tp.lasts (Kn.lasts (red l)) _) _ _ _ hv100 hS9
        have hv101 := (Ks.lasts (red l)) _ _ _ hv101 hS9
        have hv108 := (Tp.lasts (Kn.lasts (dly p)) _) _ _ _ hv108 hS9
        have hv109 := (Ks.lasts (dly p)) _ _ _ hv109 hS9
        have hv116 := (Tp.lasts (Kn.lasts (dly q)) _) _ _ _ hv116 hS9
        have hv117 := (Ks.lasts (dly q)) _ _ _ hv117 hS9
        have hv122 := (Tp.lasts (Kn.lasts (dly (p + q))) _) _ _ _ hv122 hS9
        have hv123 := (Ks.lasts (dly (p + q))) _ _ _ hv123 hS9
        have hv135 := (Tp.lasts (Kn.lasts (dly (p + q))) _) _ _ _ hv135 hS9
        have hv136 := (Ks.lasts (dly (p + q))) _ _ _ hv136 hS9
        have hv228 := (Tp.lasts (Kn.lasts (cpK m k)) _) _ _ _ hv228 hS9
        have hv229 := (Ks.lasts (cpK m k)) _ _ _ hv229 hS9
        have hb := bel_next hb hS9
        clear hS9
        generalize X19.heap.size = g33 at *
        refine lx_plain_to 7 [none, none, none, some (Tp (Kn (cpK l (cpK m k))) 0), none, some (Kn (cpK l (cpK m k)))] (lasts_none (lasts_none (lasts_none (lasts_some (Tp.lasts (Kn.lasts (cpK l (cpK m k))) _) (lasts_none (lasts_some (Kn.lasts (cpK l (cpK m k))) (lasts_nil))))))) ?_
        simp only [its, List.take, List.drop, Nat.zero_add, Nat.reduceAdd]
        refine jn (.pointer (some ⟨w.heap.size, 0, none⟩)) ?_
        refine jg (.agg #[.slice A n c]) (fun X hX hF => exec_inr 24 _ (by rfl) w.heap.size 0 [.slice A n c] (by rfl) Tryd.underlying24 rfl X (hB0.bel hX) (by rfl) info_kn) ?_
        refine ja hD31 Tryd.underlying24 (by rfl) info_kn ?_
        refine jk (fun X hX hF => cpV _ _ l (cpK m k) X ⟨_, rfl, ((Ks.lasts l) _ _ _ h1 hX)⟩ ⟨_, rfl, ((Ks.lasts (cpK m k)) _ _ _ hv229 hX)⟩ HKL.out (cpK_ok HKM.out HKK.out HQ.out) HS.out) ?_
        intro v244
        refine jm (v244) ?_
        refine lx_new (by rfl) (fun X hX hF => by obtain ⟨u9, h9, h8⟩ := (hF _ _ List.mem_cons_self rfl); subst h9; exact ⟨u9, X, rfl, h8, Below.refl _ _⟩) ?_
        intro v245
        simp only [pX]
        refine jg (.int .i64 0) (fun X hX hF => by obtain ⟨u9, h9, _⟩ := (hF _ _ (List.mem_cons_of_mem _ List.mem_cons_self) rfl); subst h9; rfl) ?_
        refine lx_nil ?_
        intro X20 hX20 hF
        replace h1 := (Ks.lasts l) _ _ _ h1 hX20
        replace h2 := (Ks.lasts m) _ _ _ h2 hX20
        replace h3 := (Ks.lasts k) _ _ _ h3 hX20
        replace hnil := (Ks.lasts []) _ _ _ hnil hX20
        replace hv75 := (Tp.lasts (Kn.lasts (cpK l m)) _) _ _ _ hv75 hX20
        replace hv76 := (Ks.lasts (cpK l m)) _ _ _ hv76 hX20
        replace hv83 := (Tp.lasts (Kn.lasts (cpK l m)) _) _ _ _ hv83 hX20
        replace hv84 := (Ks.lasts (cpK l m)) _ _ _ hv84 hX20
        replace hv87 := (Tp.lasts (Kn.lasts (dly 0)) _) _ _ _ hv87 hX20
        replace hv88 := (Ks.lasts (dly 0)) _ _ _ hv88 hX20
        replace hv94 := (Tp.lasts (Kn.lasts (red l)) _) _ _ _ hv94 hX20
        replace hv95 := (Ks.lasts (red l)) _ _ _ hv95 hX20
        replace hv100 := (Tp.lasts (Kn.lasts (red l)) _) _ _ _ hv100 hX20
        replace hv101 := (Ks.lasts (red l)) _ _ _ hv101 hX20
        replace hv108 := (Tp.lasts (Kn.lasts (dly p)) _) _ _ _ hv108 hX20
        replace hv109 := (Ks.lasts (dly p)) _ _ _ hv109 hX20
        replace hv116 := (Tp.lasts (Kn.lasts (dly q)) _) _ _ _ hv116 hX20
        replace hv117 := (Ks.lasts (dly q)) _ _ _ hv117 hX20
        replace hv122 := (Tp.lasts (Kn.lasts (dly (p + q))) _) _ _ _ hv122 hX20
        replace hv123 := (Ks.lasts (dly (p + q))) _ _ _ hv123 hX20
        replace hv135 := (Tp.lasts (Kn.lasts (dly (p + q))) _) _ _ _ hv135 hX20
        replace hv136 := (Ks.lasts (dly (p + q))) _ _ _ hv136 hX20
        replace hv228 := (Tp.lasts (Kn.lasts (cpK m k)) _) _ _ _ hv228 hX20
        replace hv229 := (Ks.lasts (cpK m k)) _ _ _ hv229 hX20
        have hv244 := hF _ _ (List.mem_cons_of_mem _ List.mem_cons_self)
        have hv245 := hF _ _ List.mem_cons_self
        replace hB0 := hB0.bel hX20
        replace hB1 := hB1.bel hX20
        replace hB2 := hB2.bel hX20
        replace hD7 := hD7.bel hX20
        replace hD9 := hD9.bel hX20
        replace hD11 := hD11.bel hX20
        replace hD13 := hD13.bel hX20
        replace hD15 := hD15.bel hX20
        replace hD17 := hD17.bel hX20
        replace hD19 := hD19.bel hX20
        replace hD21 := hD21.bel hX20
        replace hD23 := hD23.bel hX20
        replace hD25 := hD25.bel hX20
        replace hD27 := hD27.bel hX20
        replace hD29 := hD29.bel hX20
        replace hD31 := hD31.bel hX20
        replace hD33 := hD33.bel hX20
        have hb := bel_next hb hX20
        clear hF hX20
        obtain ⟨u245, e245, A245, c245, f245, q245⟩ := hv245
        subst f245
        subst e245
        have hv245 : Ks (cpK l (cpK m k)) (.slice A245 ((cpK l (cpK m k))).length c245) X20 := ⟨_, _, rfl, q245⟩
        clear q245
        go_upto_region 26 with (refine osn 24 35 245 #[.slice A245 ((cpK l (cpK m k))).length c245] info_kn ?_)
        obtain ⟨Y20, hY9, hD35, hS9⟩ := start1 X20 24 [.slice A245 ((cpK l (cpK m k))).length c245]
        rw [← hY9]
        clear hY9
        have hgs35 := hb.size
        have hlt35x0 := hB0.lt
        have hlt35x1 := hB1.lt
        have hlt35x2 := hB2.lt
        have hlt35x3 := hD7.lt
        have hlt35x4 := hD9.lt
        have hlt35x5 := hD11.lt
        have hlt35x6 := hD13.lt
        have hlt35x7 := hD15.lt
        have hlt35x8 := hD17.lt
        have hlt35x9 := hD19.lt
        have hlt35x10 := hD21.lt
        have hlt35x11 := hD23.lt
        have hlt35x12 := hD25.lt
        have hlt35x13 := hD27.lt
        have hlt35x14 := hD29.lt
        have hlt35x15 := hD31.lt
        have hlt35x16 := hD33.lt
        replace hB0 := hB0.bel hS9
        replace hB1 := hB1.bel hS9
        replace hB2 := hB2.bel hS9
        replace hD7 := hD7.bel hS9
        replace hD9 := hD9.bel hS9
        replace hD11 := hD11.bel hS9
        replace hD13 := hD13.bel hS9
        replace hD15 := hD15.bel hS9
        replace hD17 := hD17.bel hS9
        replace hD19 := hD19.bel hS9
        replace hD21 := hD21.bel hS9
        replace hD23 := hD23.bel hS9
        replace hD25 := hD25.bel hS9
        replace hD27 := hD27.bel hS9
        replace hD29 := hD29.bel hS9
        replace hD31 := hD31.bel hS9
        replace hD33 := hD33.bel hS9
        replace h1 := (Ks.lasts l) _ _ _ h1 hS9
        replace h2 := (Ks.lasts m) _ _ _ h2 hS9
        replace h3 := (Ks.lasts k) _ _ _ h3 hS9
        replace hnil := (Ks.lasts []) _ _ _ hnil hS9
        replace hv75 := (Tp.lasts (Kn.lasts (cpK l m)) _) _ _ _ hv75 hS9
        replace hv76 := (Ks.lasts (cpK l m)) _ _ _ hv76 hS9
        replace hv83 := (Tp.lasts (Kn.lasts (cpK l m)) _) _ _ _ hv83 hS9
        replace hv84 := (Ks.lasts (cpK l m)) _ _ _ hv84 hS9
        replace hv87 := (Tp.lasts (Kn.lasts (dly 0)) _) _ _ _ hv87 hS9
        replace hv88 := (Ks.lasts (dly 0)) _ _ _ hv88 hS9
        replace hv94 := (Tp.lasts (Kn.lasts (red l)) _) _ _ _ hv94 hS9
        replace hv95 := (Ks.lasts (red l)) _ _ _ hv95 hS9
        replace hv100 := (Tp.lasts (Kn.lasts (red l)) _) _ _ _ hv100 hS9
        replace hv101 := (Ks.lasts (red l)) _ _ _ hv101 hS9
        replace hv108 := (Tp.lasts (Kn.lasts (dly p)) _) _ _ _ hv108 hS9
        replace hv109 := (Ks.lasts (dly p)) _ _ _ hv109 hS9
        replace hv116 := (Tp.lasts (Kn.lasts (dly q)) _) _ _ _ hv116 hS9
        replace hv117 := (Ks.lasts (dly q)) _ _ _ hv117 hS9
        replace hv122 := (Tp.lasts (Kn.lasts (dly (p + q))) _) _ _ _ hv122 hS9
        replace hv123 := (Ks.lasts (dly (p + q))) _ _ _ hv123 hS9
        replace hv135 := (Tp.lasts (Kn.lasts (dly (p + q))) _) _ _ _ hv135 hS9
        replace hv136 := (Ks.lasts (dly (p + q))) _ _ _ hv136 hS9
        replace hv228 := (Tp.lasts (Kn.lasts (cpK m k)) _) _ _ _ hv228 hS9
        replace hv229 := (Ks.lasts (cpK m k)) _ _ _ hv229 hS9
        replace hv244 := (Tp.lasts (Kn.lasts (cpK l (cpK m k))) _) _ _ _ hv244 hS9
        replace hv245 := (Ks.lasts (cpK l (cpK m k))) _ _ _ hv245 hS9
        have hb := bel_next hb hS9
        clear hS9
        generalize X20.heap.size = g35 at *
        refine jp ?_
        refine jc (.bool true) (fun X hX hF => sanC X) ?_
        refine jm (.bool true) ?_
        refine jm (.int .i64 z1) ?_
        refine jv (.bool true) (exec_nei _ _ _ _ (by rfl) .i64 z1 0 (by rfl) (by rfl) true (by rw [decide_eq_false (by omega)]; rfl)) ?_
        refine jm (.bool true) ?_
        refine js ?_
        refine js ?_
        refine jm (.bool true) ?_
        refine jm (.bool true) ?_
        refine js ?_
        refine js ?_
        refine js ?_
        refine jm (.bool true) ?_
        refine jm (.bool true) ?_
        refine jm (.bool true) ?_
        refine lx_nil ?_
        intro X21 hX21 hF
        replace h1 := (Ks.lasts l) _ _ _ h1 hX21
        replace h2 := (Ks.lasts m) _ _ _ h2 hX21
        replace h3 := (Ks.lasts k) _ _ _ h3 hX21
        replace hnil := (Ks.lasts []) _ _ _ hnil hX21
        replace hv75 := (Tp.lasts (Kn.lasts (cpK l m)) _) _ _ _ hv75 hX21
        replace hv76 := (Ks.lasts (cpK l m)) _ _ _ hv76 hX21
        replace hv83 := (Tp.lasts (Kn.lasts (cpK l m)) _) _ _ _ hv83 hX21
        replace hv84 := (Ks.lasts (cpK l m)) _ _ _ hv84 hX21
        replace hv87 := (Tp.lasts (Kn.lasts (dly 0)) _) _ _ _ hv87 hX21
        replace hv88 := (Ks.lasts (dly 0)) _ _ _ hv88 hX21
        replace hv94 := (Tp.lasts (Kn.lasts (red l)) _) _ _ _ hv94 hX21
        replace hv95 := (Ks.lasts (red l)) _ _ _ hv95 hX21
        replace hv100 := (Tp.lasts (Kn.lasts (red l)) _) _ _ _ hv100 hX21
        replace hv101 := (Ks.lasts (red l)) _ _ _ hv101 hX21
        replace hv108 := (Tp.lasts (Kn.lasts (dly p)) _) _ _ _ hv108 hX21
        replace hv109 := (Ks.lasts (dly p)) _ _ _ hv109 hX21
        replace hv116 := (Tp.lasts (Kn.lasts (dly q)) _) _ _ _ hv116 hX21
        replace hv117 := (Ks.lasts (dly q)) _ _ _ hv117 hX21
        replace hv122 := (Tp.lasts (Kn.lasts (dly (p + q))) _) _ _ _ hv122 hX21
        replace hv123 := (Ks.lasts (dly (p + q))) _ _ _ hv123 hX21
        replace hv135 := (Tp.lasts (Kn.lasts (dly (p + q))) _) _ _ _ hv135 hX21
        replace hv136 := (Ks.lasts (dly (p + q))) _ _ _ hv136 hX21
        replace hv228 := (Tp.lasts (Kn.lasts (cpK m k)) _) _ _ _ hv228 hX21
        replace hv229 := (Ks.lasts (cpK m k)) _ _ _ hv229 hX21
        replace hv244 := (Tp.lasts (Kn.lasts (cpK l (cpK m k))) _) _ _ _ hv244 hX21
        replace hv245 := (Ks.lasts (cpK l (cpK m k))) _ _ _ hv245 hX21
        replace hB0 := hB0.bel hX21
        replace hB1 := hB1.bel hX21
        replace hB2 := hB2.bel hX21
        replace hD7 := hD7.bel hX21
        replace hD9 := hD9.bel hX21
        replace hD11 := hD11.bel hX21
        replace hD13 := hD13.bel hX21
        replace hD15 := hD15.bel hX21
        replace hD17 := hD17.bel hX21
        replace hD19 := hD19.bel hX21
        replace hD21 := hD21.bel hX21
        replace hD23 := hD23.bel hX21
        replace hD25 := hD25.bel hX21
        replace hD27 := hD27.bel hX21
        replace hD29 := hD29.bel hX21
        replace hD31 := hD31.bel hX21
        replace hD33 := hD33.bel hX21
        replace hD35 := hD35.bel hX21
        have hb := bel_next hb hX21
        clear hF hX21
        go_wp2
        go_ret
        exact ⟨rfl, hb⟩
      · obtain ⟨z1, z9⟩ : ∃ z, cpE (cpK l m) k = z := ⟨_, rfl⟩
        have HZ1 := Lib.hid z9
        have hz1 : z1 ≠ 0 := by rw [← z9]; exact HR
        clear z9 HR
        obtain ⟨z2, z9⟩ : ∃ z, cpE l (cpK m k) = z := ⟨_, rfl⟩
        have HZ2x := Lib.hid z9
        have hz2 : z2 ≠ 0 := by rw [← z9]; exact HS
        clear z9 HS
        go_upto_region 24 with (fail)
        refine jq 6 ?_
        refine ja hD7 Tryd.underlying24 (by rfl) info_kn ?_
        refine ja hB1 Tryd.underlying24 (by rfl) info_kn ?_
        refine jc (.tuple #[.agg #[.slice none 0 0], .int .i64 z1]) (fun X hX hF => cpVE _ _ (cpK l m) k X ⟨_, rfl, ((Ks.lasts (cpK l m)) _ _ _ hv76 hX)⟩ ⟨_, rfl, ((Ks.lasts k) _ _ _ h3 hX)⟩ (cpK_ok HKL.out HKM.out HP.out) HKK.out HZ1.out hz1) ?_
        refine jm (.tuple #[.agg #[.slice none 0 0], .int .i64 z1]) ?_
        refine jm (.agg #[.slice none 0 0]) ?_
        refine jm (.int .i64 z1) ?_
        refine lx_nil ?_
        intro X19 hX19 hF
        replace h1 := (Ks.lasts l) _ _ _ h1 hX19
        replace h2 := (Ks.lasts m) _ _ _ h2 hX19
        replace h3 := (Ks.lasts k) _ _ _ h3 hX19
        replace hnil := (Ks.lasts []) _ _ _ hnil hX19
        replace hv75 := (Tp.lasts (Kn.lasts (cpK l m)) _) _ _ _ hv75 hX19
        replace hv76 := (Ks.lasts (cpK l m)) _ _ _ hv76 hX19
        replace hv83 := (Tp.lasts (Kn.lasts (cpK l m)) _) _ _ _ hv83 hX19
        replace hv84 := (Ks.lasts (cpK l m)) _ _ _ hv84 hX19
        replace hv87 := (Tp.lasts (Kn.lasts (dly 0)) _) _ _ _ hv87 hX19
        replace hv88 := (Ks.lasts (dly 0)) _ _ _ hv88 hX19
        replace hv94 := (Tp.lasts (Kn.lasts (red l)) _) _ _ _ hv94 hX19
        replace hv95 := (Ks.lasts (red l)) _ _ _ hv95 hX19
        replace hv100 := (Tp.lasts (Kn.lasts (red l)) _) _ _ _ hv100 hX19
        replace hv101 := (Ks.lasts (red l)) _ _ _ hv101 hX19
        replace hv108 := (Tp.lasts (Kn.lasts (dly p)) _) _ _ _ hv108 hX19
        replace hv109 := (Ks.lasts (dly p)) _ _ _ hv109 hX19
        replace hv116 := (Tp.lasts (Kn.lasts (dly q)) _) _ _ _ hv116 hX19
        replace hv117 := (Ks.lasts (dly q)) _ _ _ hv117 hX19
        replace hv122 := (Tp.lasts (Kn.lasts (dly (p + q))) _) _ _ _ hv122 hX19
        replace hv123 := (Ks.lasts (dly (p + q))) _ _ _ hv123 hX19
        replace hv135 := (Tp.lasts (Kn.lasts (dly (p + q))) _) _ _ _ hv135 hX19
        replace hv136 := (Ks.lasts (dly (p + q))) _ _ _ hv136 hX19
        replace hv228 := (Tp.lasts (Kn.lasts (cpK m k)) _) _ _ _ hv228 hX19
        replace hv229 := (Ks.lasts (cpK m k)) _ _ _ hv229 hX19
        replace hB0 := hB0.bel hX19
        replace hB1 := hB1.bel hX19
        replace hB2 := hB2.bel hX19
        replace hD7 := hD7.bel hX19
        replace hD9 := hD9.bel hX19
        replace hD11 := hD11.bel hX19
        replace hD13 := hD13.bel hX19
        replace hD15 := hD15.bel hX19
        replace hD17 := hD17.bel hX19
        replace hD19 := hD19.bel hX19
        replace hD21 := hD21.bel hX19
        replace hD23 := hD23.bel hX19
        replace hD25 := hD25.bel hX19
        replace hD27 := hD27.bel hX19
        replace hD29 := hD29.bel hX19
        replace hD31 := hD31.bel hX19
        have hb := bel_next hb hX19
        clear hF hX19
        go_upto_region 25 with (refine osn 24 33 238 #[.slice none 0 0] info_kn ?_)
        obtain ⟨Y19, hY9, hD33, hS9⟩ := start1 X19 24 [.slice none 0 0]
        rw [← hY9]
        clear hY9
        have hgs33 := hb.size
        have hlt33x0 := hB0.lt
        have hlt33x1 := hB1.lt
        have hlt33x2 := hB2.lt
        have hlt33x3 := hD7.lt
        have hlt33x4 := hD9.lt
        have hlt33x5 := hD11.lt
        have hlt33x6 := hD13.lt
        have hlt33x7 := hD15.lt
        have hlt33x8 := hD17.lt
        have hlt33x9 := hD19.lt
        have hlt33x10 := hD21.lt
        have hlt33x11 := hD23.lt
        have hlt33x12 := hD25.lt
        have hlt33x13 := hD27.lt
        have hlt33x14 := hD29.lt
        have hlt33x15 := hD31.lt
        have hB0 := hB0.bel hS9
        have hB1 := hB1.bel hS9
        have hB2 := hB2.bel hS9
        have hD7 := hD7.bel hS9
        have hD9 := hD9.bel hS9
        have hD11 := hD11.bel hS9
        have hD13 := hD13.bel hS9
        have hD15 := hD15.bel hS9
        have hD17 := hD17.bel hS9
        have hD19 := hD19.bel hS9
        have hD21 := hD21.bel hS9
        have hD23 := hD23.bel hS9
        have hD25 := hD25.bel hS9
        have hD27 := hD27.bel hS9
        have hD29 := hD29.bel hS9
        have hD31 := hD31.bel hS9
        have h1 := (Ks.lasts l) _ _ _ h1 hS9
        have h2 := (Ks.lasts m) _ _ _ h2 hS9
        have h3 := (Ks.lasts k) _ _ _ h3 hS9
        have hnil := (Ks.lasts []) _ _ _ hnil hS9
        have hv75 := (Tp.lasts (Kn.lasts (cpK l m)) _) _ _ _ hv75 hS9
        have hv76 := (Ks.lasts (cpK l m)) _ _ _ hv76 hS9
        have hv83 := (Tp.lasts (Kn.lasts (cpK l m)) _) _ _ _ hv83 hS9
        have hv84 := (Ks.lasts (cpK l m)) _ _ _ hv84 hS9
        have hv87 := (Tp.lasts (Kn.lasts (dly 0)) _) _ _ _ hv87 hS9
        have hv88 := (Ks.lasts (dly 0)) _ _ _ hv88 hS9
        have hv94 := (Tp.lasts (Kn.lasts (red l)) _) _ _ _ hv94 hS9
        have hv95 := (Ks.lasts (red l)) _ _ _ hv95 hS9
        have hv100 := (Tp.lasts (Kn.lasts (red l)) _) _ _ _ hv100 hS9
        have hv101 := (Ks.lasts (red l)) _ _ _ hv101 hS9
        have hv108 := (Tp.lasts (Kn.lasts (dly p)) _) _ _ _ hv108 hS9
        have hv109 := (Ks.lasts (dly p)) _ _ _ hv109 hS9
        have hv116 := (Tp.lasts (Kn.lasts (dly q)) _) _ _ _ hv116 hS9
        have hv117 := (Ks.lasts (dly q)) _ _ _ hv117 hS9
        have hv122 := (Tp.lasts (Kn.lasts (dly (p + q))) _) _ _ _ hv122 hS9
        have hv123 := (Ks.lasts (dly (p + q))) _ _ _ hv123 hS9
        have hv135 := (Tp.lasts (Kn.lasts (dly (p + q))) _) _ _ _ hv135 hS9
        have hv136 := (Ks.lasts (dly (p + q))) _ _ _ hv136 hS9
        have hv228 := (Tp.lasts (Kn.lasts (cpK m k)) _) _ _ _ hv228 hS9
        have hv229 := (Ks.lasts (cpK m k)) _ _ _ hv229 hS9
        have hb := bel_next hb hS9
        clear hS9
        generalize X19.heap.size = g33 at *
        refine jq 7 ?_
        refine jn (.pointer (some ⟨w.heap.size, 0, none⟩)) ?_
        refine jg (.agg #[.slice A n c]) (fun X hX hF => exec_inr 24 _ (by rfl) w.heap.size 0 [.slice A n c] (by rfl) Tryd.underlying24 rfl X (hB0.bel hX) (by rfl) info_kn) ?_
        refine ja hD31 Tryd.underlying24 (by rfl) info_kn ?_
        refine jc (.tuple #[.agg #[.slice none 0 0], .int .i64 z2]) (fun X hX hF => cpVE _ _ l (cpK m k) X ⟨_, rfl, ((Ks.lasts l) _ _ _ h1 hX)⟩ ⟨_, rfl, ((Ks.lasts (cpK m k)) _ _ _ hv229 hX)⟩ HKL.out (cpK_ok HKM.out HKK.out HQ.out) HZ2x.out hz2) ?_
        refine jm (.tuple #[.agg #[.slice none 0 0], .int .i64 z2]) ?_
        refine jm (.agg #[.slice none 0 0]) ?_
        refine jm (.int .i64 z2) ?_
        refine lx_nil ?_
        intro X20 hX20 hF
        replace h1 := (Ks.lasts l) _ _ _ h1 hX20
        replace h2 := (Ks.lasts m) _ _ _ h2 hX20
        replace h3 := (Ks.lasts k) _ _ _ h3 hX20
        replace hnil := (Ks.lasts []) _ _ _ hnil hX20
        replace hv75 := (Tp.lasts (Kn.lasts (cpK l m)) _) _ _ _ hv75 hX20
        replace hv76 := (Ks.lasts (cpK l m)) _ _ _ hv76 hX20
        replace hv83 := (Tp.lasts (Kn.lasts (cpK l m)) _) _ _ _ hv83 hX20
        replace hv84 := (Ks.lasts (cpK l m)) _ _ _ hv84 hX20
        replace hv87 := (Tp.lasts (Kn.lasts (dly 0)) _) _ _ _ hv87 hX20
        replace hv88 := (Ks.lasts (dly 0)) _ _ _ hv88 hX20
        replace hv94 := (Tp.lasts (Kn.lasts (red l)) _) _ _ _ hv94 hX20
        replace hv95 := (Ks.lasts (red l)) _ _ _ hv95 hX20
        replace hv100 := (Tp.lasts (Kn.lasts (red l)) _) _ _ _ hv100 hX20
        replace hv101 := (Ks.lasts (red l)) _ _ _ hv101 hX20
        replace hv108 := (Tp.lasts (Kn.lasts (dly p)) _) _ _ _ hv108 hX20
        replace hv109 := (Ks.lasts (dly p)) _ _ _ hv109 hX20
        replace hv116 := (Tp.lasts (Kn.lasts (dly q)) _) _ _ _ hv116 hX20
        replace hv117 := (Ks.lasts (dly q)) _ _ _ hv117 hX20
        replace hv122 := (Tp.lasts (Kn.lasts (dly (p + q))) _) _ _ _ hv122 hX20
        replace hv123 := (Ks.lasts (dly (p + q))) _ _ _ hv123 hX20
        replace hv135 := (Tp.lasts (Kn.lasts (dly (p + q))) _) _ _ _ hv135 hX20
        replace hv136 := (Ks.lasts (dly (p + q))) _ _ _ hv136 hX20
        replace hv228 := (Tp.lasts (Kn.lasts (cpK m k)) _) _ _ _ hv228 hX20
        replace hv229 := (Ks.lasts (cpK m k)) _ _ _ hv229 hX20
        replace hB0 := hB0.bel hX20
        replace hB1 := hB1.bel hX20
        replace hB2 := hB2.bel hX20
        replace hD7 := hD7.bel hX20
        replace hD9 := hD9.bel hX20
        replace hD11 := hD11.bel hX20
        replace hD13 := hD13.bel hX20
        replace hD15 := hD15.bel hX20
        replace hD17 := hD17.bel hX20
        replace hD19 := hD19.bel hX20
        replace hD21 := hD21.bel hX20
        replace hD23 := hD23.bel hX20
        replace hD25 := hD25.bel hX20
        replace hD27 := hD27.bel hX20
        replace hD29 := hD29.bel hX20
        replace hD31 := hD31.bel hX20
        replace hD33 := hD33.bel hX20
        have hb := bel_next hb hX20
        clear hF hX20
        go_upto_region 26 with (refine osn 24 35 245 #[.slice none 0 0] info_kn ?_)
        obtain ⟨Y20, hY9, hD35, hS9⟩ := start1 X20 24 [.slice none 0 0]
        rw [← hY9]
        clear hY9
        have hgs35 := hb.size
        have hlt35x0 := hB0.lt
        have hlt35x1 := hB1.lt
        have hlt35x2 := hB2.lt
        have hlt35x3 := hD7.lt
        have hlt35x4 := hD9.lt
        have hlt35x5 := hD11.lt
        have hlt35x6 := hD13.lt
        have hlt35x7 := hD15.lt
        have hlt35x8 := hD17.lt
        have hlt35x9 := hD19.lt
        have hlt35x10 := hD21.lt
        have hlt35x11 := hD23.lt
        have hlt35x12 := hD25.lt
        have hlt35x13 := hD27.lt
        have hlt35x14 := hD29.lt
        have hlt35x15 := hD31.lt
        have hlt35x16 := hD33.lt
        have hB0 := hB0.bel hS9
        have hB1 := hB1.bel hS9
        have hB2 := hB2.bel hS9
        have hD7 := hD7.bel hS9
        have hD9 := hD9.bel hS9
        have hD11 := hD11.bel hS9
        have hD13 := hD13.bel hS9
        have hD15 := hD15.bel hS9
        have hD17 := hD17.bel hS9
        have hD19 := hD19.bel hS9
        have hD21 := hD21.bel hS9
        have hD23 := hD23.bel hS9
        have hD25 := hD25.bel hS9
        have hD27 := hD27.bel hS9
        have hD29 := hD29.bel hS9
        have hD31 := hD31.bel hS9
        have hD33 := hD33.bel hS9
        have h1 := (Ks.lasts l) _ _ _ h1 hS9
        have h2 := (Ks.lasts m) _ _ _ h2 hS9
        have h3 := (Ks.lasts k) _ _ _ h3 hS9
        have hnil := (Ks.lasts []) _ _ _ hnil hS9
        have hv75 := (Tp.lasts (Kn.lasts (cpK l m)) _) _ _ _ hv75 hS9
        have hv76 := (Ks.lasts (cpK l m)) _ _ _ hv76 hS9
        have hv83 := (Tp.lasts (Kn.lasts (cpK l m)) _) _ _ _ hv83 hS9
        have hv84 := (Ks.lasts (cpK l m)) _ _ _ hv84 hS9
        have hv87 := (Tp.lasts (Kn.lasts (dly 0)) _) _ _ _ hv87 hS9
        have hv88 := (Ks.lasts (dly 0)) _ _ _ hv88 hS9
        have hv94 := (Tp.lasts (Kn.lasts (red l)) _) _ _ _ hv94 hS9
        have hv95 := (Ks.lasts (red l)) _ _ _ hv95 hS9
        have hv100 := (Tp.lasts (Kn.lasts (red l)) _) _ _ _ hv100 hS9
        have hv101 := (Ks.lasts (red l)) _ _ _ hv101 hS9
        have hv108 := (Tp.lasts (Kn.lasts (dly p)) _) _ _ _ hv108 hS9
        have hv109 := (Ks.lasts (dly p)) _ _ _ hv109 hS9
        have hv116 := (Tp.lasts (Kn.lasts (dly q)) _) _ _ _ hv116 hS9
        have hv117 := (Ks.lasts (dly q)) _ _ _ hv117 hS9
        have hv122 := (Tp.lasts (Kn.lasts (dly (p + q))) _) _ _ _ hv122 hS9
        have hv123 := (Ks.lasts (dly (p + q))) _ _ _ hv123 hS9
        have hv135 := (Tp.lasts (Kn.lasts (dly (p + q))) _) _ _ _ hv135 hS9
        have hv136 := (Ks.lasts (dly (p + q))) _ _ _ hv136 hS9
        have hv228 := (Tp.lasts (Kn.lasts (cpK m k)) _) _ _ _ hv228 hS9
        have hv229 := (Ks.lasts (cpK m k)) _ _ _ hv229 hS9
        have hb := bel_next hb hS9
        clear hS9
        generalize X20.heap.size = g35 at *
        refine jp ?_
        refine jc (.bool true) (fun X hX hF => sanC X) ?_
        refine jm (.bool true) ?_
        refine jm (.int .i64 z1) ?_
        refine jv (.bool true) (exec_nei _ _ _ _ (by rfl) .i64 z1 0 (by rfl) (by rfl) true (by rw [decide_eq_false (by omega)]; rfl)) ?_
        refine jm (.bool true) ?_
        refine js ?_
        refine js ?_
        refine jm (.bool true) ?_
        refine jm (.bool true) ?_
        refine js ?_
        refine js ?_
        refine js ?_
        refine jm (.bool true) ?_
        refine jm (.bool true) ?_
        refine jm (.bool true) ?_
        refine lx_nil ?_
        intro X21 hX21 hF
        replace h1 := (Ks.lasts l) _ _ _ h1 hX21
        replace h2 := (Ks.lasts m) _ _ _ h2 hX21
        replace h3 := (Ks.lasts k) _ _ _ h3 hX21
        replace hnil := (Ks.lasts []) _ _ _ hnil hX21
        replace hv75 := (Tp.lasts (Kn.lasts (cpK l m)) _) _ _ _ hv75 hX21
        replace hv76 := (Ks.lasts (cpK l m)) _ _ _ hv76 hX21
        replace hv83 := (Tp.lasts (Kn.lasts (cpK l m)) _) _ _ _ hv83 hX21
        replace hv84 := (Ks.lasts (cpK l m)) _ _ _ hv84 hX21
        replace hv87 := (Tp.lasts (Kn.lasts (dly 0)) _) _ _ _ hv87 hX21
        replace hv88 := (Ks.lasts (dly 0)) _ _ _ hv88 hX21
        replace hv94 := (Tp.lasts (Kn.lasts (red l)) _) _ _ _ hv94 hX21
        replace hv95 := (Ks.lasts (red l)) _ _ _ hv95 hX21
        replace hv100 := (Tp.lasts (Kn.lasts (red l)) _) _ _ _ hv100 hX21
        replace hv101 := (Ks.lasts (red l)) _ _ _ hv101 hX21
        replace hv108 := (Tp.lasts (Kn.lasts (dly p)) _) _ _ _ hv108 hX21
        replace hv109 := (Ks.lasts (dly p)) _ _ _ hv109 hX21
        replace hv116 := (Tp.lasts (Kn.lasts (dly q)) _) _ _ _ hv116 hX21
        replace hv117 := (Ks.lasts (dly q)) _ _ _ hv117 hX21
        replace hv122 := (Tp.lasts (Kn.lasts (dly (p + q))) _) _ _ _ hv122 hX21
        replace hv123 := (Ks.lasts (dly (p + q))) _ _ _ hv123 hX21
        replace hv135 := (Tp.lasts (Kn.lasts (dly (p + q))) _) _ _ _ hv135 hX21
        replace hv136 := (Ks.lasts (dly (p + q))) _ _ _ hv136 hX21
        replace hv228 := (Tp.lasts (Kn.lasts (cpK m k)) _) _ _ _ hv228 hX21
        replace hv229 := (Ks.lasts (cpK m k)) _ _ _ hv229 hX21
        replace hB0 := hB0.bel hX21
        replace hB1 := hB1.bel hX21
        replace hB2 := hB2.bel hX21
        replace hD7 := hD7.bel hX21
        replace hD9 := hD9.bel hX21
        replace hD11 := hD11.bel hX21
        replace hD13 := hD13.bel hX21
        replace hD15 := hD15.bel hX21
        replace hD17 := hD17.bel hX21
        replace hD19 := hD19.bel hX21
        replace hD21 := hD21.bel hX21
        replace hD23 := hD23.bel hX21
        replace hD25 := hD25.bel hX21
        replace hD27 := hD27.bel hX21
        replace hD29 := hD29.bel hX21
        replace hD31 := hD31.bel hX21
        replace hD33 := hD33.bel hX21
        replace hD35 := hD35.bel hX21
        have hb := bel_next hb hX21
        clear hF hX21
        go_wp2
        go_ret
        exact ⟨rfl, hb⟩
  · obtain ⟨z, z9⟩ : ∃ z, cpE m k = z := ⟨_, rfl⟩
    have HZ := Lib.hid z9
    have hz0 : z ≠ 0 := by rw [← z9]; exact HQ
    clear z9 HQ
    go_upto_region 21 with (fail)
    refine jq 7 ?_
    refine jn (.pointer (some ⟨w.heap.size, 1, none⟩)) ?_
    refine jg (.agg #[.slice A2 n2 c2]) (fun X hX hF => exec_inr 24 _ (by rfl) w.heap.size 1 [.slice A2 n2 c2] (by rfl) Tryd.underlying24 rfl X (hB0.bel hX) (by rfl) info_kn) ?_
    refine ja hB1 Tryd.underlying24 (by rfl) info_kn ?_
    refine jc (.tuple #[.agg #[.slice none 0 0], .int .i64 z]) (fun X hX hF => cpVE _ _ m k X ⟨_, rfl, ((Ks.lasts m) _ _ _ h2 hX)⟩ ⟨_, rfl, ((Ks.lasts k) _ _ _ h3 hX)⟩ HKM.out HKK.out HZ.out hz0) ?_
    refine jm (.tuple #[.agg #[.slice none 0 0], .int .i64 z]) ?_
    refine jm (.agg #[.slice none 0 0]) ?_
    refine jm (.int .i64 z) ?_
    refine lx_nil ?_
    intro X17 hX17 hF
    replace h1 := (Ks.lasts l) _ _ _ h1 hX17
    replace h2 := (Ks.lasts m) _ _ _ h2 hX17
    replace h3 := (Ks.lasts k) _ _ _ h3 hX17
    replace hnil := (Ks.lasts []) _ _ _ hnil hX17
    replace hv75 := (Tp.lasts (Kn.lasts (cpK l m)) _) _ _ _ hv75 hX17
    replace hv76 := (Ks.lasts (cpK l m)) _ _ _ hv76 hX17
    replace hv83 := (Tp.lasts (Kn.lasts (cpK l m)) _) _ _ _ hv83 hX17
    replace hv84 := (Ks.lasts (cpK l m)) _ _ _ hv84 hX17
    replace hv87 := (Tp.lasts (Kn.lasts (dly 0)) _) _ _ _ hv87 hX17
    replace hv88 := (Ks.lasts (dly 0)) _ _ _ hv88 hX17
    replace hv94 := (Tp.lasts (Kn.lasts (red l)) _) _ _ _ hv94 hX17
    replace hv95 := (Ks.lasts (red l)) _ _ _ hv95 hX17
    replace hv100 := (Tp.lasts (Kn.lasts (red l)) _) _ _ _ hv100 hX17
    replace hv101 := (Ks.lasts (red l)) _ _ _ hv101 hX17
    replace hv108 := (Tp.lasts (Kn.lasts (dly p)) _) _ _ _ hv108 hX17
    replace hv109 := (Ks.lasts (dly p)) _ _ _ hv109 hX17
    replace hv116 := (Tp.lasts (Kn.lasts (dly q)) _) _ _ _ hv116 hX17
    replace hv117 := (Ks.lasts (dly q)) _ _ _ hv117 hX17
    replace hv122 := (Tp.lasts (Kn.lasts (dly (p + q))) _) _ _ _ hv122 hX17
    replace hv123 := (Ks.lasts (dly (p + q))) _ _ _ hv123 hX17
    replace hv135 := (Tp.lasts (Kn.lasts (dly (p + q))) _) _ _ _ hv135 hX17
    replace hv136 := (Ks.lasts (dly (p + q))) _ _ _ hv136 hX17
    replace hB0 := hB0.bel hX17
    replace hB1 := hB1.bel hX17
    replace hB2 := hB2.bel hX17
    replace hD7 := hD7.bel hX17
    replace hD9 := hD9.bel hX17
    replace hD11 := hD11.bel hX17
    replace hD13 := hD13.bel hX17
    replace hD15 := hD15.bel hX17
    replace hD17 := hD17.bel hX17
    replace hD19 := hD19.bel hX17
    replace hD21 := hD21.bel hX17
    replace hD23 := hD23.bel hX17
    replace hD25 := hD25.bel hX17
    replace hD27 := hD27.bel hX17
    replace hD29 := hD29.bel hX17
    have hb := bel_next hb hX17
    clear hF hX17
    go_upto_region 22 with (refine osn 24 31 229 #[.slice none 0 0] info_kn ?_)
    obtain ⟨Y17, hY9, hD31, hS9⟩ := start1 X17 24 [.slice none 0 0]
    rw [← hY9]
    clear hY9
    have hgs31 := hb.size
    have hlt31x0 := hB0.lt
    have hlt31x1 := hB1.lt
    have hlt31x2 := hB2.lt
    have hlt31x3 := hD7.lt
    have hlt31x4 := hD9.lt
    have hlt31x5 := hD11.lt
    have hlt31x6 := hD13.lt
    have hlt31x7 := hD15.lt
    have hlt31x8 := hD17.lt
    have hlt31x9 := hD19.lt
    have hlt31x10 := hD21.lt
    have hlt31x11 := hD23.lt
    have hlt31x12 := hD25.lt
    have hlt31x13 := hD27.lt
    have hlt31x14 := hD29.lt
    have hB0 := hB0.bel hS9
    have hB1 := hB1.bel hS9
    have hB2 := hB2.bel hS9
    have hD7 := hD7.bel hS9
    have hD9 := hD9.bel hS9
    have hD11 := hD11.bel hS9
    have hD13 := hD13.bel hS9
    have hD15 := hD15.bel hS9
    have hD17 := hD17.bel hS9
    have hD19 := hD19.bel hS9
    have hD21 := hD21.bel hS9
    have hD23 := hD23.bel hS9
    have hD25 := hD25.bel hS9
    have hD27 := hD27.bel hS9
    have hD29 := hD29.bel hS9
    have h1 := (Ks.lasts l) _ _ _ h1 hS9
    have h2 := (Ks.lasts m) _ _ _ h2 hS9
    have h3 := (Ks.lasts k) _ _ _ h3 hS9
    have hnil := (Ks.lasts []) _ _ _ hnil hS9
    have hv75 := (Tp.lasts (Kn.lasts (cpK l m)) _) _ _ _ hv75 hS9
    have hv76 := (Ks.lasts (cpK l m)) _ _ _ hv76 hS9
    have hv83 := (Tp.lasts (Kn.lasts (cpK l m)) _) _ _ _ hv83 hS9
    have hv84 := (Ks.lasts (cpK l m)) _ _ _ hv84 hS9
    have hv87 := (Tp.lasts (Kn.lasts (dly 0)) _) _ _ _ hv87 hS9
    have hv88 := (Ks.lasts (dly 0)) _ _ _ hv88 hS9
    have hv94 := (Tp.lasts (Kn.lasts (red l)) _) _ _ _ hv94 hS9
    have hv95 := (Ks.lasts (red l)) _ _ _ hv95 hS9
    have hv100 := (Tp.lasts (Kn.lasts (red l)) _) _ _ _ hv100 hS9
    have hv101 := (Ks.lasts (red l)) _ _ _ hv101 hS9
    have hv108 := (Tp.lasts (Kn.lasts (dly p)) _) _ _ _ hv108 hS9
    have hv109 := (Ks.lasts (dly p)) _ _ _ hv109 hS9
    have hv116 := (Tp.lasts (Kn.lasts (dly q)) _) _ _ _ hv116 hS9
    have hv117 := (Ks.lasts (dly q)) _ _ _ hv117 hS9
    have hv122 := (Tp.lasts (Kn.lasts (dly (p + q))) _) _ _ _ hv122 hS9
    have hv123 := (Ks.lasts (dly (p + q))) _ _ _ hv123 hS9
    have hv135 := (Tp.lasts (Kn.lasts (dly (p + q))) _) _ _ _ hv135 hS9
    have hv136 := (Ks.lasts (dly (p + q))) _ _ _ hv136 hS9
    have hb := bel_next hb hS9
    clear hS9
    generalize X17.heap.size = g31 at *
    refine jp ?_
    refine jm (.int .i64 z) ?_
    refine jv (.bool true) (exec_nei _ _ _ _ (by rfl) .i64 z 0 (by rfl) (by rfl) true (by rw [decide_eq_false (by omega)]; rfl)) ?_
    refine lx_nil ?_
    intro X18 hX18 hF
    replace h1 := (Ks.lasts l) _ _ _ h1 hX18
    replace h2 := (Ks.lasts m) _ _ _ h2 hX18
    replace h3 := (Ks.lasts k) _ _ _ h3 hX18
    replace hnil := (Ks.lasts []) _ _ _ hnil hX18
    replace hv75 := (Tp.lasts (Kn.lasts (cpK l m)) _) _ _ _ hv75 hX18
    replace hv76 := (Ks.lasts (cpK l m)) _ _ _ hv76 hX18
    replace hv83 := (Tp.lasts (Kn.lasts (cpK l m)) _) _ _ _ hv83 hX18
    replace hv84 := (Ks.lasts (cpK l m)) _ _ _ hv84 hX18
    replace hv87 := (Tp.lasts (Kn.lasts (dly 0)) _) _ _ _ hv87 hX18
    replace hv88 := (Ks.lasts (dly 0)) _ _ _ hv88 hX18
    replace hv94 := (Tp.lasts (Kn.lasts (red l)) _) _ _ _ hv94 hX18
    replace hv95 := (Ks.lasts (red l)) _ _ _ hv95 hX18
    replace hv100 := (Tp.lasts (Kn.lasts (red l)) _) _ _ _ hv100 hX18
    replace hv101 := (Ks.lasts (red l)) _ _ _ hv101 hX18
    replace hv108 := (Tp.lasts (Kn.lasts (dly p)) _) _ _ _ hv108 hX18
    replace hv109 := (Ks.lasts (dly p)) _ _ _ hv109 hX18
    replace hv116 := (Tp.lasts (Kn.lasts (dly q)) _) _ _ _ hv116 hX18
    replace hv117 := (Ks.lasts (dly q)) _ _ _ hv117 hX18
    replace hv122 := (Tp.lasts (Kn.lasts (dly (p + q))) _) _ _ _ hv122 hX18
    replace hv123 := (Ks.lasts (dly (p + q))) _ _ _ hv123 hX18
    replace hv135 := (Tp.lasts (Kn.lasts (dly (p + q))) _) _ _ _ hv135 hX18
    replace hv136 := (Ks.lasts (dly (p + q))) _ _ _ hv136 hX18
    replace hB0 := hB0.bel hX18
    replace hB1 := hB1.bel hX18
    replace hB2 := hB2.bel hX18
    replace hD7 := hD7.bel hX18
    replace hD9 := hD9.bel hX18
    replace hD11 := hD11.bel hX18
    replace hD13 := hD13.bel hX18
    replace hD15 := hD15.bel hX18
    replace hD17 := hD17.bel hX18
    replace hD19 := hD19.bel hX18
    replace hD21 := hD21.bel hX18
    replace hD23 := hD23.bel hX18
    replace hD25 := hD25.bel hX18
    replace hD27 := hD27.bel hX18
    replace hD29 := hD29.bel hX18
    replace hD31 := hD31.bel hX18
    have hb := bel_next hb hX18
    clear hF hX18
    go_upto_region 23 with (fail)
    refine jp ?_
    refine jc (.bool true) (fun X hX hF => sanC X) ?_
    refine jm (.bool true) ?_
    refine lx_nil ?_
    intro X19 hX19 hF
    replace h1 := (Ks.lasts l) _ _ _ h1 hX19
    replace h2 := (Ks.lasts m) _ _ _ h2 hX19
    replace h3 := (Ks.lasts k) _ _ _ h3 hX19
    replace hnil := (Ks.lasts []) _ _ _ hnil hX19
    replace hv75 := (Tp.lasts (Kn.lasts (cpK l m)) _) _ _ _ hv75 hX19
    replace hv76 := (Ks.lasts (cpK l m)) _ _ _ hv76 hX19
    replace hv83 := (Tp.lasts (Kn.lasts (cpK l m)) _) _ _ _ hv83 hX19
    replace hv84 := (Ks.lasts (cpK l m)) _ _ _ hv84 hX19
    replace hv87 := (Tp.lasts (Kn.lasts (dly 0)) _) _ _ _ hv87 hX19
    replace hv88 := (Ks.lasts (dly 0)) _ _ _ hv88 hX19
    replace hv94 := (Tp.lasts (Kn.lasts (red l)) _) _ _ _ hv94 hX19
    replace hv95 := (Ks.lasts (red l)) _ _ _ hv95 hX19
    replace hv100 := (Tp.lasts (Kn.lasts (red l)) _) _ _ _ hv100 hX19
    replace hv101 := (Ks.lasts (red l)) _ _ _ hv101 hX19
    replace hv108 := (Tp.lasts (Kn.lasts (dly p)) _) _ _ _ hv108 hX19
    replace hv109 := (Ks.lasts (dly p)) _ _ _ hv109 hX19
    replace hv116 := (Tp.lasts (Kn.lasts (dly q)) _) _ _ _ hv116 hX19
    replace hv117 := (Ks.lasts (dly q)) _ _ _ hv117 hX19
    replace hv122 := (Tp.lasts (Kn.lasts (dly (p + q))) _) _ _ _ hv122 hX19
    replace hv123 := (Ks.lasts (dly (p + q))) _ _ _ hv123 hX19
    replace hv135 := (Tp.lasts (Kn.lasts (dly (p + q))) _) _ _ _ hv135 hX19
    replace hv136 := (Ks.lasts (dly (p + q))) _ _ _ hv136 hX19
    replace hB0 := hB0.bel hX19
    replace hB1 := hB1.bel hX19
    replace hB2 := hB2.bel hX19
    replace hD7 := hD7.bel hX19
    replace hD9 := hD9.bel hX19
    replace hD11 := hD11.bel hX19
    replace hD13 := hD13.bel hX19
    replace hD15 := hD15.bel hX19
    replace hD17 := hD17.bel hX19
    replace hD19 := hD19.bel hX19
    replace hD21 := hD21.bel hX19
    replace hD23 := hD23.bel hX19
    replace hD25 := hD25.bel hX19
    replace hD27 := hD27.bel hX19
    replace hD29 := hD29.bel hX19
    replace hD31 := hD31.bel hX19
    have hb := bel_next hb hX19
    clear hF hX19
    go_wp2
    go_ret
    exact ⟨rfl, hb⟩
theorem kmoC (u1 u2 u3 : Value) (l m k : List Int) (x y : Nat) (w : World) (h1 : Ks l u1 w) (h2 : Ks m u2 w) (h3 : Ks k u3 w) (hx : x ≤ 255) (hy : y ≤ 255) : Calls Tryd.prog 3 #[.agg #[u1, u2], .agg #[u3], .agg #[.int .u8 (x : Int), .int .u8 (y : Int)]] w fun e w' => e = .returned (.bool true) ∧ Since w w' := by
  rcases ha : fewK l.length with _ | _
  · exact kmo0 u1 u2 u3 l m k x y w h1 h2 h3 hx hy ha
  rcases hb : fewK m.length with _ | _
  · exact kmo1 u1 u2 u3 l m k x y w h1 h2 h3 hx hy ha hb
  rcases hc : fewK k.length with _ | _
  · exact kmo2 u1 u2 u3 l m k x y w h1 h2 h3 hx hy ha hb hc
  by_cases hd : kcE l = 0
  · by_cases he : kcE m = 0
    · by_cases hf : kcE k = 0
      · by_cases hp : cpE l m = 0
        · exact kmo7 u1 u2 u3 l m k x y w h1 h2 h3 hx hy ha hb hc hd he hf hp
        · exact kmo6 u1 u2 u3 l m k x y w h1 h2 h3 hx hy ha hb hc hd he hf hp
      · exact kmo5 u1 u2 u3 l m k x y w h1 h2 h3 hx hy ha hb hc hd he hf
    · exact kmo4 u1 u2 u3 l m k x y w h1 h2 h3 hx hy ha hb hc hd he
  · exact kmo3 u1 u2 u3 l m k x y w h1 h2 h3 hx hy ha hb hc hd
end Go.Proofs.YtcpedbpldgndmaaDoor
