/-
  law 31: KernelsCompose.
-/
import Derived.Test.YtcpedbpldgndmaaDoorKp
import Derived.Test.YtcpedbpldgndmaaDoorS31
set_option linter.unusedSimpArgs false
set_option linter.unusedVariables false
set_option maxRecDepth 100000
set_option maxHeartbeats 1600000
namespace Go.Proofs.YtcpedbpldgndmaaDoor
open Go.RowKit
theorem kcoa (u1 u2 vf : Value) (l m : List Int) (xs : List Tr) (w : World) (h1 : Ks l u1 w) (h2 : Ks m u2 w) (hf : Rl xs vf w) (HA : Hid (fewK l.length = false)) : Calls Tryd.prog 4 #[.agg #[u1, u2], vf] w fun e w' => e = .returned (.bool true) ∧ Since w w' := by
  obtain ⟨sv, s9⟩ : ∃ sv, fewS xs 60 = sv := ⟨_, rfl⟩
  have HS := Lib.hid s9
  clear s9
  obtain ⟨A, n, c, e1, _, _, _⟩ := h1.at
  subst e1
  obtain ⟨A2, n2, c2, e2, _, _, _⟩ := h2.at
  subst e2
  obtain ⟨AF, nf, cf, e3, hlf, hnf1, hrf⟩ := hf.at
  subst e3
  have H1 : Hid (∀ X, Since w X → Ks l (.slice A n c) X) := fun X h => Ks.lasts l _ _ _ h1 h
  have H2 : Hid (∀ X, Since w X → Ks m (.slice A2 n2 c2) X) := fun X h => Ks.lasts m _ _ _ h2 h
  have H3 : Hid (∀ X, Since w X → Rl xs (.slice AF nf cf) X) := fun X h => Rl.lasts xs _ _ _ hf h
  have HRF : Hid (∀ X, Since w X → Rd X 3 (.slice AF nf cf) nf (fl trc xs)) := fun X h => Rd.below hrf h
  have HLF := Lib.hid hlf
  clear hrf hlf
  go_enter Tryd.func4, Tryd.ntmps4
  go_upto_region 1 with (fail)
  obtain ⟨W0, hW0, hB0, hb⟩ := start1 w 26 [.slice A n c, .slice A2 n2 c2]
  rw [← hW0]
  clear hW0
  replace h1 := H1.out _ hb
  replace h2 := H2.out _ hb
  replace hf := H3.out _ hb
  refine jp ?_
  refine jm (.slice AF nf cf) ?_
  refine jc (.bool sv) (fun X hX hF => mo (fwsV _ _ 60 X ((Rl.lasts xs) _ _ _ hf hX)) (by rw [HS.out])) ?_
  refine jm (.bool sv) ?_
  refine jz fun X1 hX1 => ?_
  replace h1 := (Ks.lasts l) _ _ _ h1 hX1
  replace h2 := (Ks.lasts m) _ _ _ h2 hX1
  replace hf := (Rl.lasts xs) _ _ _ hf hX1
  replace hB0 := hB0.bel hX1
  have hb := bel_next hb hX1
  clear hX1
  go_upto_region 2 with (fail)
  refine jp ?_
  refine jn (.pointer (some ⟨w.heap.size, 0, none⟩)) ?_
  refine jg (.agg #[.slice A n c]) (fun X hX hF => exec_inr 24 _ (by rfl) w.heap.size 0 [.slice A n c] (by rfl) Tryd.underlying24 rfl X (hB0.bel hX) (by rfl) info_kn) ?_
  refine jc (.bool false) (fun X hX hF => mo (fewV _ l X ⟨_, rfl, ((Ks.lasts l) _ _ _ h1 hX)⟩) (by rw [HA.out])) ?_
  refine jm (.bool true) ?_
  refine jm (.bool true) ?_
  refine js ?_
  refine js ?_
  refine js ?_
  refine js ?_
  refine jm (.bool true) ?_
  refine jm (.bool true) ?_
  refine js ?_
  refine js ?_
  refine jm (.bool true) ?_
  refine jm (.bool true) ?_
  refine js ?_
  refine js ?_
  refine js ?_
  refine js ?_
  refine jm (.bool true) ?_
  refine jm (.bool true) ?_
  refine js ?_
  refine js ?_
  refine js ?_
  refine js ?_
  refine jm (.bool true) ?_
  refine jz fun X2 hX2 => ?_
  replace h1 := (Ks.lasts l) _ _ _ h1 hX2
  replace h2 := (Ks.lasts m) _ _ _ h2 hX2
  replace hf := (Rl.lasts xs) _ _ _ hf hX2
  replace hB0 := hB0.bel hX2
  have hb := bel_next hb hX2
  clear hX2
  go_upto_region 3 with (fail)
  refine jp ?_
  refine jc (.bool true) (fun X hX hF => sanC X) ?_
  refine jm (.bool true) ?_
  refine jz fun X3 hX3 => ?_
  replace h1 := (Ks.lasts l) _ _ _ h1 hX3
  replace h2 := (Ks.lasts m) _ _ _ h2 hX3
  replace hf := (Rl.lasts xs) _ _ _ hf hX3
  replace hB0 := hB0.bel hX3
  have hb := bel_next hb hX3
  clear hX3
  go_wp2
  go_ret
  exact ⟨rfl, hb⟩
theorem kcob (u1 u2 vf : Value) (l m : List Int) (xs : List Tr) (w : World) (h1 : Ks l u1 w) (h2 : Ks m u2 w) (hf : Rl xs vf w) (HA : Hid (fewK l.length = true)) (HB : Hid (fewK m.length = false)) : Calls Tryd.prog 4 #[.agg #[u1, u2], vf] w fun e w' => e = .returned (.bool true) ∧ Since w w' := by
  obtain ⟨sv, s9⟩ : ∃ sv, fewS xs 60 = sv := ⟨_, rfl⟩
  have HS := Lib.hid s9
  clear s9
  obtain ⟨A, n, c, e1, _, _, _⟩ := h1.at
  subst e1
  obtain ⟨A2, n2, c2, e2, _, _, _⟩ := h2.at
  subst e2
  obtain ⟨AF, nf, cf, e3, hlf, hnf1, hrf⟩ := hf.at
  subst e3
  have H1 : Hid (∀ X, Since w X → Ks l (.slice A n c) X) := fun X h => Ks.lasts l _ _ _ h1 h
  have H2 : Hid (∀ X, Since w X → Ks m (.slice A2 n2 c2) X) := fun X h => Ks.lasts m _ _ _ h2 h
  have H3 : Hid (∀ X, Since w X → Rl xs (.slice AF nf cf) X) := fun X h => Rl.lasts xs _ _ _ hf h
  have HRF : Hid (∀ X, Since w X → Rd X 3 (.slice AF nf cf) nf (fl trc xs)) := fun X h => Rd.below hrf h
  have HLF := Lib.hid hlf
  clear hrf hlf
  go_enter Tryd.func4, Tryd.ntmps4
  go_upto_region 1 with (fail)
  obtain ⟨W0, hW0, hB0, hb⟩ := start1 w 26 [.slice A n c, .slice A2 n2 c2]
  rw [← hW0]
  clear hW0
  replace h1 := H1.out _ hb
  replace h2 := H2.out _ hb
  replace hf := H3.out _ hb
  refine jp ?_
  refine jm (.slice AF nf cf) ?_
  refine jc (.bool sv) (fun X hX hF => mo (fwsV _ _ 60 X ((Rl.lasts xs) _ _ _ hf hX)) (by rw [HS.out])) ?_
  refine jm (.bool sv) ?_
  refine jz fun X1 hX1 => ?_
  replace h1 := (Ks.lasts l) _ _ _ h1 hX1
  replace h2 := (Ks.lasts m) _ _ _ h2 hX1
  replace hf := (Rl.lasts xs) _ _ _ hf hX1
  replace hB0 := hB0.bel hX1
  have hb := bel_next hb hX1
  clear hX1
  go_upto_region 2 with (fail)
  refine jp ?_
  refine jn (.pointer (some ⟨w.heap.size, 0, none⟩)) ?_
  refine jg (.agg #[.slice A n c]) (fun X hX hF => exec_inr 24 _ (by rfl) w.heap.size 0 [.slice A n c] (by rfl) Tryd.underlying24 rfl X (hB0.bel hX) (by rfl) info_kn) ?_
  refine jc (.bool true) (fun X hX hF => mo (fewV _ l X ⟨_, rfl, ((Ks.lasts l) _ _ _ h1 hX)⟩) (by rw [HA.out])) ?_
  refine jm (.bool false) ?_
  refine jm (.bool false) ?_
  refine jn (.pointer (some ⟨w.heap.size, 1, none⟩)) ?_
  refine jg (.agg #[.slice A2 n2 c2]) (fun X hX hF => exec_inr 24 _ (by rfl) w.heap.size 1 [.slice A2 n2 c2] (by rfl) Tryd.underlying24 rfl X (hB0.bel hX) (by rfl) info_kn) ?_
  refine jc (.bool false) (fun X hX hF => mo (fewV _ m X ⟨_, rfl, ((Ks.lasts m) _ _ _ h2 hX)⟩) (by rw [HB.out])) ?_
  refine jm (.bool true) ?_
  refine jm (.bool true) ?_
  refine jm (.bool true) ?_
  refine js ?_
  refine js ?_
  refine jm (.bool true) ?_
  refine jm (.bool true) ?_
  refine js ?_
  refine js ?_
  refine js ?_
  refine js ?_
  refine jm (.bool true) ?_
  refine jm (.bool true) ?_
  refine js ?_
  refine js ?_
  refine js ?_
  refine js ?_
  refine jm (.bool true) ?_
  refine jz fun X2 hX2 => ?_
  replace h1 := (Ks.lasts l) _ _ _ h1 hX2
  replace h2 := (Ks.lasts m) _ _ _ h2 hX2
  replace hf := (Rl.lasts xs) _ _ _ hf hX2
  replace hB0 := hB0.bel hX2
  have hb := bel_next hb hX2
  clear hX2
  go_upto_region 3 with (fail)
  refine jp ?_
  refine jc (.bool true) (fun X hX hF => sanC X) ?_
  refine jm (.bool true) ?_
  refine jz fun X3 hX3 => ?_
  replace h1 := (Ks.lasts l) _ _ _ h1 hX3
  replace h2 := (Ks.lasts m) _ _ _ h2 hX3
  replace hf := (Rl.lasts xs) _ _ _ hf hX3
  replace hB0 := hB0.bel hX3
  have hb := bel_next hb hX3
  clear hX3
  go_wp2
  go_ret
  exact ⟨rfl, hb⟩
theorem kcoc (u1 u2 vf : Value) (l m : List Int) (xs : List Tr) (w : World) (h1 : Ks l u1 w) (h2 : Ks m u2 w) (hf : Rl xs vf w) (HA : Hid (fewK l.length = true)) (HB : Hid (fewK m.length = true)) (HS : Hid (fewS xs 60 = false)) : Calls Tryd.prog 4 #[.agg #[u1, u2], vf] w fun e w' => e = .returned (.bool true) ∧ Since w w' := by

  obtain ⟨A, n, c, e1, _, _, _⟩ := h1.at
  subst e1
  obtain ⟨A2, n2, c2, e2, _, _, _⟩ := h2.at
  subst e2
  obtain ⟨AF, nf, cf, e3, hlf, hnf1, hrf⟩ := hf.at
  subst e3
  have H1 : Hid (∀ X, Since w X → Ks l (.slice A n c) X) := fun X h => Ks.lasts l _ _ _ h1 h
  have H2 : Hid (∀ X, Since w X → Ks m (.slice A2 n2 c2) X) := fun X h => Ks.lasts m _ _ _ h2 h
  have H3 : Hid (∀ X, Since w X → Rl xs (.slice AF nf cf) X) := fun X h => Rl.lasts xs _ _ _ hf h
  have HRF : Hid (∀ X, Since w X → Rd X 3 (.slice AF nf cf) nf (fl trc xs)) := fun X h => Rd.below hrf h
  have HLF := Lib.hid hlf
  clear hrf hlf
  go_enter Tryd.func4, Tryd.ntmps4
  go_upto_region 1 with (fail)
  obtain ⟨W0, hW0, hB0, hb⟩ := start1 w 26 [.slice A n c, .slice A2 n2 c2]
  rw [← hW0]
  clear hW0
  replace h1 := H1.out _ hb
  replace h2 := H2.out _ hb
  replace hf := H3.out _ hb
  refine jp ?_
  refine jm (.slice AF nf cf) ?_
  refine jc (.bool false) (fun X hX hF => mo (fwsV _ _ 60 X ((Rl.lasts xs) _ _ _ hf hX)) (by rw [HS.out])) ?_
  refine jm (.bool false) ?_
  refine jz fun X1 hX1 => ?_
  replace h1 := (Ks.lasts l) _ _ _ h1 hX1
  replace h2 := (Ks.lasts m) _ _ _ h2 hX1
  replace hf := (Rl.lasts xs) _ _ _ hf hX1
  replace hB0 := hB0.bel hX1
  have hb := bel_next hb hX1
  clear hX1
  go_upto_region 2 with (fail)
  refine jp ?_
  refine jn (.pointer (some ⟨w.heap.size, 0, none⟩)) ?_
  refine jg (.agg #[.slice A n c]) (fun X hX hF => exec_inr 24 _ (by rfl) w.heap.size 0 [.slice A n c] (by rfl) Tryd.underlying24 rfl X (hB0.bel hX) (by rfl) info_kn) ?_
  refine jc (.bool true) (fun X hX hF => mo (fewV _ l X ⟨_, rfl, ((Ks.lasts l) _ _ _ h1 hX)⟩) (by rw [HA.out])) ?_
  refine jm (.bool false) ?_
  refine jm (.bool false) ?_
  refine jn (.pointer (some ⟨w.heap.size, 1, none⟩)) ?_
  refine jg (.agg #[.slice A2 n2 c2]) (fun X hX hF => exec_inr 24 _ (by rfl) w.heap.size 1 [.slice A2 n2 c2] (by rfl) Tryd.underlying24 rfl X (hB0.bel hX) (by rfl) info_kn) ?_
  refine jc (.bool true) (fun X hX hF => mo (fewV _ m X ⟨_, rfl, ((Ks.lasts m) _ _ _ h2 hX)⟩) (by rw [HB.out])) ?_
  refine jm (.bool false) ?_
  refine jm (.bool false) ?_
  refine jm (.bool false) ?_
  refine jm (.bool false) ?_
  refine jm (.bool true) ?_
  refine jm (.bool true) ?_
  refine jm (.bool true) ?_
  refine js ?_
  refine js ?_
  refine js ?_
  refine js ?_
  refine jm (.bool true) ?_
  refine jm (.bool true) ?_
  refine js ?_
  refine js ?_
  refine js ?_
  refine js ?_
  refine jm (.bool true) ?_
  refine jz fun X2 hX2 => ?_
  replace h1 := (Ks.lasts l) _ _ _ h1 hX2
  replace h2 := (Ks.lasts m) _ _ _ h2 hX2
  replace hf := (Rl.lasts xs) _ _ _ hf hX2
  replace hB0 := hB0.bel hX2
  have hb := bel_next hb hX2
  clear hX2
  go_upto_region 3 with (fail)
  refine jp ?_
  refine jc (.bool true) (fun X hX hF => sanC X) ?_
  refine jm (.bool true) ?_
  refine jz fun X3 hX3 => ?_
  replace h1 := (Ks.lasts l) _ _ _ h1 hX3
  replace h2 := (Ks.lasts m) _ _ _ h2 hX3
  replace hf := (Rl.lasts xs) _ _ _ hf hX3
  replace hB0 := hB0.bel hX3
  have hb := bel_next hb hX3
  clear hX3
  go_wp2
  go_ret
  exact ⟨rfl, hb⟩
theorem kcod (u1 u2 vf : Value) (l m : List Int) (xs : List Tr) (w : World) (h1 : Ks l u1 w) (h2 : Ks m u2 w) (hf : Rl xs vf w) (HA : Hid (fewK l.length = true)) (HB : Hid (fewK m.length = true)) (HS : Hid (fewS xs 60 = true)) (HC : Hid (kcE l ≠ 0)) : Calls Tryd.prog 4 #[.agg #[u1, u2], vf] w fun e w' => e = .returned (.bool true) ∧ Since w w' := by
  obtain ⟨z, z9⟩ : ∃ z, kcE l = z := ⟨_, rfl⟩
  have HZ := Lib.hid z9
  have hz0 : z ≠ 0 := by rw [← z9]; exact HC.out
  clear z9
  obtain ⟨A, n, c, e1, _, _, _⟩ := h1.at
  subst e1
  obtain ⟨A2, n2, c2, e2, _, _, _⟩ := h2.at
  subst e2
  obtain ⟨AF, nf, cf, e3, hlf, hnf1, hrf⟩ := hf.at
  subst e3
  have H1 : Hid (∀ X, Since w X → Ks l (.slice A n c) X) := fun X h => Ks.lasts l _ _ _ h1 h
  have H2 : Hid (∀ X, Since w X → Ks m (.slice A2 n2 c2) X) := fun X h => Ks.lasts m _ _ _ h2 h
  have H3 : Hid (∀ X, Since w X → Rl xs (.slice AF nf cf) X) := fun X h => Rl.lasts xs _ _ _ hf h
  have HRF : Hid (∀ X, Since w X → Rd X 3 (.slice AF nf cf) nf (fl trc xs)) := fun X h => Rd.below hrf h
  have HLF := Lib.hid hlf
  clear hrf hlf
  go_enter Tryd.func4, Tryd.ntmps4
  go_upto_region 1 with (fail)
  obtain ⟨W0, hW0, hB0, hb⟩ := start1 w 26 [.slice A n c, .slice A2 n2 c2]
  rw [← hW0]
  clear hW0
  replace h1 := H1.out _ hb
  replace h2 := H2.out _ hb
  replace hf := H3.out _ hb
  refine jp ?_
  refine jm (.slice AF nf cf) ?_
  refine jc (.bool true) (fun X hX hF => mo (fwsV _ _ 60 X ((Rl.lasts xs) _ _ _ hf hX)) (by rw [HS.out])) ?_
  refine jm (.bool true) ?_
  refine jz fun X1 hX1 => ?_
  replace h1 := (Ks.lasts l) _ _ _ h1 hX1
  replace h2 := (Ks.lasts m) _ _ _ h2 hX1
  replace hf := (Rl.lasts xs) _ _ _ hf hX1
  replace hB0 := hB0.bel hX1
  have hb := bel_next hb hX1
  clear hX1
  go_upto_region 2 with (fail)
  refine jp ?_
  refine jn (.pointer (some ⟨w.heap.size, 0, none⟩)) ?_
  refine jg (.agg #[.slice A n c]) (fun X hX hF => exec_inr 24 _ (by rfl) w.heap.size 0 [.slice A n c] (by rfl) Tryd.underlying24 rfl X (hB0.bel hX) (by rfl) info_kn) ?_
  refine jc (.bool true) (fun X hX hF => mo (fewV _ l X ⟨_, rfl, ((Ks.lasts l) _ _ _ h1 hX)⟩) (by rw [HA.out])) ?_
  refine jm (.bool false) ?_
  refine jm (.bool false) ?_
  refine jn (.pointer (some ⟨w.heap.size, 1, none⟩)) ?_
  refine jg (.agg #[.slice A2 n2 c2]) (fun X hX hF => exec_inr 24 _ (by rfl) w.heap.size 1 [.slice A2 n2 c2] (by rfl) Tryd.underlying24 rfl X (hB0.bel hX) (by rfl) info_kn) ?_
  refine jc (.bool true) (fun X hX hF => mo (fewV _ m X ⟨_, rfl, ((Ks.lasts m) _ _ _ h2 hX)⟩) (by rw [HB.out])) ?_
  refine jm (.bool false) ?_
  refine jm (.bool false) ?_
  refine jm (.bool false) ?_
  refine jm (.bool true) ?_
  refine jm (.bool false) ?_
  refine jm (.bool false) ?_
  refine jm (.bool false) ?_
  refine jn (.pointer (some ⟨w.heap.size, 0, none⟩)) ?_
  refine jg (.agg #[.slice A n c]) (fun X hX hF => exec_inr 24 _ (by rfl) w.heap.size 0 [.slice A n c] (by rfl) Tryd.underlying24 rfl X (hB0.bel hX) (by rfl) info_kn) ?_
  refine jc (.int .i64 z) (fun X hX hF => kchV _ l X ⟨_, rfl, ((Ks.lasts l) _ _ _ h1 hX)⟩ HZ.out) ?_
  refine jv (.bool true) (exec_nei _ _ _ _ (by rfl) .i64 z 0 (by rfl) (by rfl) true (by rw [decide_eq_false (by omega)]; rfl)) ?_
  refine jm (.bool true) ?_
  refine jm (.bool true) ?_
  refine js ?_
  refine js ?_
  refine js ?_
  refine js ?_
  refine jm (.bool true) ?_
  refine jz fun X2 hX2 => ?_
  replace h1 := (Ks.lasts l) _ _ _ h1 hX2
  replace h2 := (Ks.lasts m) _ _ _ h2 hX2
  replace hf := (Rl.lasts xs) _ _ _ hf hX2
  replace hB0 := hB0.bel hX2
  have hb := bel_next hb hX2
  clear hX2
  go_upto_region 3 with (fail)
  refine jp ?_
  refine jc (.bool true) (fun X hX hF => sanC X) ?_
  refine jm (.bool true) ?_
  refine jz fun X3 hX3 => ?_
  replace h1 := (Ks.lasts l) _ _ _ h1 hX3
  replace h2 := (Ks.lasts m) _ _ _ h2 hX3
  replace hf := (Rl.lasts xs) _ _ _ hf hX3
  replace hB0 := hB0.bel hX3
  have hb := bel_next hb hX3
  clear hX3
  go_wp2
  go_ret
  exact ⟨rfl, hb⟩
theorem kcoe (u1 u2 vf : Value) (l m : List Int) (xs : List Tr) (w : World) (h1 : Ks l u1 w) (h2 : Ks m u2 w) (hf : Rl xs vf w) (HA : Hid (fewK l.length = true)) (HB : Hid (fewK m.length = true)) (HS : Hid (fewS xs 60 = true)) (HC : Hid (kcE l = 0)) (HD : Hid (kcE m ≠ 0)) : Calls Tryd.prog 4 #[.agg #[u1, u2], vf] w fun e w' => e = .returned (.bool true) ∧ Since w w' := by
  obtain ⟨z, z9⟩ : ∃ z, kcE m = z := ⟨_, rfl⟩
  have HZ := Lib.hid z9
  have hz0 : z ≠ 0 := by rw [← z9]; exact HD.out
  clear z9
  obtain ⟨A, n, c, e1, _, _, _⟩ := h1.at
  subst e1
  obtain ⟨A2, n2, c2, e2, _, _, _⟩ := h2.at
  subst e2
  obtain ⟨AF, nf, cf, e3, hlf, hnf1, hrf⟩ := hf.at
  subst e3
  have H1 : Hid (∀ X, Since w X → Ks l (.slice A n c) X) := fun X h => Ks.lasts l _ _ _ h1 h
  have H2 : Hid (∀ X, Since w X → Ks m (.slice A2 n2 c2) X) := fun X h => Ks.lasts m _ _ _ h2 h
  have H3 : Hid (∀ X, Since w X → Rl xs (.slice AF nf cf) X) := fun X h => Rl.lasts xs _ _ _ hf h
  have HRF : Hid (∀ X, Since w X → Rd X 3 (.slice AF nf cf) nf (fl trc xs)) := fun X h => Rd.below hrf h
  have HLF := Lib.hid hlf
  clear hrf hlf
  go_enter Tryd.func4, Tryd.ntmps4
  go_upto_region 1 with (fail)
  obtain ⟨W0, hW0, hB0, hb⟩ := start1 w 26 [.slice A n c, .slice A2 n2 c2]
  rw [← hW0]
  clear hW0
  replace h1 := H1.out _ hb
  replace h2 := H2.out _ hb
  replace hf := H3.out _ hb
  refine jp ?_
  refine jm (.slice AF nf cf) ?_
  refine jc (.bool true) (fun X hX hF => mo (fwsV _ _ 60 X ((Rl.lasts xs) _ _ _ hf hX)) (by rw [HS.out])) ?_
  refine jm (.bool true) ?_
  refine jz fun X1 hX1 => ?_
  replace h1 := (Ks.lasts l) _ _ _ h1 hX1
  replace h2 := (Ks.lasts m) _ _ _ h2 hX1
  replace hf := (Rl.lasts xs) _ _ _ hf hX1
  replace hB0 := hB0.bel hX1
  have hb := bel_next hb hX1
  clear hX1
  go_upto_region 2 with (fail)
  refine jp ?_
  refine jn (.pointer (some ⟨w.heap.size, 0, none⟩)) ?_
  refine jg (.agg #[.slice A n c]) (fun X hX hF => exec_inr 24 _ (by rfl) w.heap.size 0 [.slice A n c] (by rfl) Tryd.underlying24 rfl X (hB0.bel hX) (by rfl) info_kn) ?_
  refine jc (.bool true) (fun X hX hF => mo (fewV _ l X ⟨_, rfl, ((Ks.lasts l) _ _ _ h1 hX)⟩) (by rw [HA.out])) ?_
  refine jm (.bool false) ?_
  refine jm (.bool false) ?_
  refine jn (.pointer (some ⟨w.heap.size, 1, none⟩)) ?_
  refine jg (.agg #[.slice A2 n2 c2]) (fun X hX hF => exec_inr 24 _ (by rfl) w.heap.size 1 [.slice A2 n2 c2] (by rfl) Tryd.underlying24 rfl X (hB0.bel hX) (by rfl) info_kn) ?_
  refine jc (.bool true) (fun X hX hF => mo (fewV _ m X ⟨_, rfl, ((Ks.lasts m) _ _ _ h2 hX)⟩) (by rw [HB.out])) ?_
  refine jm (.bool false) ?_
  refine jm (.bool false) ?_
  refine jm (.bool false) ?_
  refine jm (.bool true) ?_
  refine jm (.bool false) ?_
  refine jm (.bool false) ?_
  refine jm (.bool false) ?_
  refine jn (.pointer (some ⟨w.heap.size, 0, none⟩)) ?_
  refine jg (.agg #[.slice A n c]) (fun X hX hF => exec_inr 24 _ (by rfl) w.heap.size 0 [.slice A n c] (by rfl) Tryd.underlying24 rfl X (hB0.bel hX) (by rfl) info_kn) ?_
  refine jc (.int .i64 0) (fun X hX hF => kchV _ l X ⟨_, rfl, ((Ks.lasts l) _ _ _ h1 hX)⟩ HC.out) ?_
  refine jv (.bool false) (exec_nei _ _ _ _ (by rfl) .i64 0 0 (by rfl) (by rfl) false (by rw [decide_eq_true (by omega)]; rfl)) ?_
  refine jm (.bool false) ?_
  refine jm (.bool false) ?_
  refine jn (.pointer (some ⟨w.heap.size, 1, none⟩)) ?_
  refine jg (.agg #[.slice A2 n2 c2]) (fun X hX hF => exec_inr 24 _ (by rfl) w.heap.size 1 [.slice A2 n2 c2] (by rfl) Tryd.underlying24 rfl X (hB0.bel hX) (by rfl) info_kn) ?_
  refine jc (.int .i64 z) (fun X hX hF => kchV _ m X ⟨_, rfl, ((Ks.lasts m) _ _ _ h2 hX)⟩ HZ.out) ?_
  refine jv (.bool true) (exec_nei _ _ _ _ (by rfl) .i64 z 0 (by rfl) (by rfl) true (by rw [decide_eq_false (by omega)]; rfl)) ?_
  refine jm (.bool true) ?_
  refine jz fun X2 hX2 => ?_
  replace h1 := (Ks.lasts l) _ _ _ h1 hX2
  replace h2 := (Ks.lasts m) _ _ _ h2 hX2
  replace hf := (Rl.lasts xs) _ _ _ hf hX2
  replace hB0 := hB0.bel hX2
  have hb := bel_next hb hX2
  clear hX2
  go_upto_region 3 with (fail)
  refine jp ?_
  refine jc (.bool true) (fun X hX hF => sanC X) ?_
  refine jm (.bool true) ?_
  refine jz fun X3 hX3 => ?_
  replace h1 := (Ks.lasts l) _ _ _ h1 hX3
  replace h2 := (Ks.lasts m) _ _ _ h2 hX3
  replace hf := (Rl.lasts xs) _ _ _ hf hX3
  replace hB0 := hB0.bel hX3
  have hb := bel_next hb hX3
  clear hX3
  go_wp2
  go_ret
  exact ⟨rfl, hb⟩
theorem kcof (u1 u2 vf : Value) (l m : List Int) (xs : List Tr) (w : World) (h1 : Ks l u1 w) (h2 : Ks m u2 w) (hf : Rl xs vf w) (HA : Hid (fewK l.length = true)) (HB : Hid (fewK m.length = true)) (HS : Hid (fewS xs 60 = true)) (HC : Hid (kcE l = 0)) (HD : Hid (kcE m = 0)) (HV : Hid (vds xs = false)) : Calls Tryd.prog 4 #[.agg #[u1, u2], vf] w fun e w' => e = .returned (.bool true) ∧ Since w w' := by

  obtain ⟨A, n, c, e1, _, _, _⟩ := h1.at
  subst e1
  obtain ⟨A2, n2, c2, e2, _, _, _⟩ := h2.at
  subst e2
  obtain ⟨AF, nf, cf, e3, hlf, hnf1, hrf⟩ := hf.at
  subst e3
  have H1 : Hid (∀ X, Since w X → Ks l (.slice A n c) X) := fun X h => Ks.lasts l _ _ _ h1 h
  have H2 : Hid (∀ X, Since w X → Ks m (.slice A2 n2 c2) X) := fun X h => Ks.lasts m _ _ _ h2 h
  have H3 : Hid (∀ X, Since w X → Rl xs (.slice AF nf cf) X) := fun X h => Rl.lasts xs _ _ _ hf h
  have HRF : Hid (∀ X, Since w X → Rd X 3 (.slice AF nf cf) nf (fl trc xs)) := fun X h => Rd.below hrf h
  have HLF := Lib.hid hlf
  clear hrf hlf
  go_enter Tryd.func4, Tryd.ntmps4
  go_upto_region 1 with (fail)
  obtain ⟨W0, hW0, hB0, hb⟩ := start1 w 26 [.slice A n c, .slice A2 n2 c2]
  rw [← hW0]
  clear hW0
  replace h1 := H1.out _ hb
  replace h2 := H2.out _ hb
  replace hf := H3.out _ hb
  refine jp ?_
  refine jm (.slice AF nf cf) ?_
  refine jc (.bool true) (fun X hX hF => mo (fwsV _ _ 60 X ((Rl.lasts xs) _ _ _ hf hX)) (by rw [HS.out])) ?_
  refine jm (.bool true) ?_
  refine jz fun X1 hX1 => ?_
  replace h1 := (Ks.lasts l) _ _ _ h1 hX1
  replace h2 := (Ks.lasts m) _ _ _ h2 hX1
  replace hf := (Rl.lasts xs) _ _ _ hf hX1
  replace hB0 := hB0.bel hX1
  have hb := bel_next hb hX1
  clear hX1
  go_upto_region 2 with (fail)
  refine jp ?_
  refine jn (.pointer (some ⟨w.heap.size, 0, none⟩)) ?_
  refine jg (.agg #[.slice A n c]) (fun X hX hF => exec_inr 24 _ (by rfl) w.heap.size 0 [.slice A n c] (by rfl) Tryd.underlying24 rfl X (hB0.bel hX) (by rfl) info_kn) ?_
  refine jc (.bool true) (fun X hX hF => mo (fewV _ l X ⟨_, rfl, ((Ks.lasts l) _ _ _ h1 hX)⟩) (by rw [HA.out])) ?_
  refine jm (.bool false) ?_
  refine jm (.bool false) ?_
  refine jn (.pointer (some ⟨w.heap.size, 1, none⟩)) ?_
  refine jg (.agg #[.slice A2 n2 c2]) (fun X hX hF => exec_inr 24 _ (by rfl) w.heap.size 1 [.slice A2 n2 c2] (by rfl) Tryd.underlying24 rfl X (hB0.bel hX) (by rfl) info_kn) ?_
  refine jc (.bool true) (fun X hX hF => mo (fewV _ m X ⟨_, rfl, ((Ks.lasts m) _ _ _ h2 hX)⟩) (by rw [HB.out])) ?_
  refine jm (.bool false) ?_
  refine jm (.bool false) ?_
  refine jm (.bool false) ?_
  refine jm (.bool true) ?_
  refine jm (.bool false) ?_
  refine jm (.bool false) ?_
  refine jm (.bool false) ?_
  refine jn (.pointer (some ⟨w.heap.size, 0, none⟩)) ?_
  refine jg (.agg #[.slice A n c]) (fun X hX hF => exec_inr 24 _ (by rfl) w.heap.size 0 [.slice A n c] (by rfl) Tryd.underlying24 rfl X (hB0.bel hX) (by rfl) info_kn) ?_
  refine jc (.int .i64 0) (fun X hX hF => kchV _ l X ⟨_, rfl, ((Ks.lasts l) _ _ _ h1 hX)⟩ HC.out) ?_
  refine jv (.bool false) (exec_nei _ _ _ _ (by rfl) .i64 0 0 (by rfl) (by rfl) false (by rw [decide_eq_true (by omega)]; rfl)) ?_
  refine jm (.bool false) ?_
  refine jm (.bool false) ?_
  refine jn (.pointer (some ⟨w.heap.size, 1, none⟩)) ?_
  refine jg (.agg #[.slice A2 n2 c2]) (fun X hX hF => exec_inr 24 _ (by rfl) w.heap.size 1 [.slice A2 n2 c2] (by rfl) Tryd.underlying24 rfl X (hB0.bel hX) (by rfl) info_kn) ?_
  refine jc (.int .i64 0) (fun X hX hF => kchV _ m X ⟨_, rfl, ((Ks.lasts m) _ _ _ h2 hX)⟩ HD.out) ?_
  refine jv (.bool false) (exec_nei _ _ _ _ (by rfl) .i64 0 0 (by rfl) (by rfl) false (by rw [decide_eq_true (by omega)]; rfl)) ?_
  refine jm (.bool false) ?_
  refine jz fun X2 hX2 => ?_
  replace h1 := (Ks.lasts l) _ _ _ h1 hX2
  replace h2 := (Ks.lasts m) _ _ _ h2 hX2
  replace hf := (Rl.lasts xs) _ _ _ hf hX2
  replace hB0 := hB0.bel hX2
  have hb := bel_next hb hX2
  clear hX2
  go_upto_region 4 with (fail)
  refine jp ?_
  refine jm (.slice AF nf cf) ?_
  refine jv (.int .i64 (nf : Int)) (exec_lenv Tryd.underlying43 _ (by rfl) AF nf cf (by rfl) _ rfl) ?_
  refine jm (.int .i64 0) ?_
  refine jz fun X3 hX3 => ?_
  replace h1 := (Ks.lasts l) _ _ _ h1 hX3
  replace h2 := (Ks.lasts m) _ _ _ h2 hX3
  replace hf := (Rl.lasts xs) _ _ _ hf hX3
  replace hB0 := hB0.bel hX3
  have hb := bel_next hb hX3
  clear hX3
  go_wp2
  go_loopw [47] (fun kv wr => ∃ k : Nat, k ≤ nf ∧ kv = .int .i64 (k : Int) ∧ Hid (∀ j, j < k → vd (xt xs j).1 (xt xs j).2.1 (xt xs j).2.2 = true) ∧ Blk wr w.heap.size 26 [.slice A n c, .slice A2 n2 c2] ∧ Below w.heap.size w wr) (fun kv _ => nf - (intOf kv).toNat)
  case atStart => exact ⟨0, by omega, rfl, (fun j hj => by omega), hB0, hb⟩
  case round =>
    clear hB0 hb
    obtain ⟨k, hk, rfl, HZ, hB0, hb⟩ := hrel
    replace h1 := H1.out _ hb
    replace h2 := H2.out _ hb
    replace hf := H3.out _ hb
    rcases Nat.lt_or_ge k nf with hlt | hlt
    · obtain ⟨b, off, rfl, hbb, hcx⟩ := Rl.xtAt (HRF.out _ hb) HLF.out hlt
      obtain ⟨x, x9⟩ : ∃ x, x = xt xs k := ⟨_, rfl⟩
      have HX := Lib.hid x9
      clear x9
      rw [← HX.out] at hcx
      have hx : tz x.2.1 x.2.2 20 := by rw [HX.out]; exact (fewS_t HS.out).2 k
      go_upto_region 5 with (fail)
      refine jp ?_
      refine jv (.bool true) (exec_lss _ _ _ _ (by rfl) .i64 (k : Int) (nf : Int) (by rfl) (by rfl) true (decide_eq_true (by omega))) ?_
      refine jz fun X1 hX1 => ?_
      replace h1 := (Ks.lasts l) _ _ _ h1 hX1
      replace h2 := (Ks.lasts m) _ _ _ h2 hX1
      replace hf := (Rl.lasts xs) _ _ _ hf hX1
      replace hB0 := hB0.bel hX1
      have hcx := hcx.below hX1 hbb
      replace hbb := Nat.lt_of_lt_of_le hbb (hX1).size
      have hb := bel_next hb hX1
      clear hX1
      go_upto_region 6 with (fail)
      refine jq 2 ?_
      refine jv (.pointer (some ⟨b, off + k * 3, none⟩)) (exec_ixv Tryd.underlying43 info_rat _ _ (by rfl) b (off) nf cf k (by omega) (by rfl) (by rfl) rfl) ?_
      refine jg (.agg #[.bool x.1, st x.2.1, st x.2.2]) (fun X hX hF => exec_ldc 38 _ (by rfl) b (off + k * 3) (by rfl) Tryd.underlying38 rfl [.bool x.1, .string ⟨x.2.1.toArray⟩, .string ⟨x.2.2.toArray⟩] X (Cl.part (hcx.below hX hbb) 0 _ (by rfl)) info_rat) ?_
      refine jz fun X2 hX2 => ?_
      replace h1 := (Ks.lasts l) _ _ _ h1 hX2
      replace h2 := (Ks.lasts m) _ _ _ h2 hX2
      replace hf := (Rl.lasts xs) _ _ _ hf hX2
      replace hB0 := hB0.bel hX2
      have hcx := hcx.below hX2 hbb
      replace hbb := Nat.lt_of_lt_of_le hbb (hX2).size
      have hb := bel_next hb hX2
      clear hX2
      go_upto_region 7 with (refine osn 38 7 50 #[.bool x.1, .string ⟨x.2.1.toArray⟩, .string ⟨x.2.2.toArray⟩] info_rat ?_)
      obtain ⟨Y2, hY9, hD7, hS9⟩ := start1 X2 38 [.bool x.1, .string ⟨x.2.1.toArray⟩, .string ⟨x.2.2.toArray⟩]
      rw [← hY9]
      clear hY9
      have hgs7 := hb.size
      have hlt7x0 := hB0.lt
      have hcx := hcx.below hS9 hbb
      replace hbb := Nat.lt_of_lt_of_le hbb (hS9).size
      have hB0 := hB0.bel hS9
      have h1 := (Ks.lasts l) _ _ _ h1 hS9
      have h2 := (Ks.lasts m) _ _ _ h2 hS9
      have hf := (Rl.lasts xs) _ _ _ hf hS9
      have hb := bel_next hb hS9
      clear hS9
      generalize X2.heap.size = g7 at *
      rcases hvx : vd x.1 x.2.1 x.2.2 with _ | _
      · have HVX := Lib.hid hvx
        refine jp ?_
        refine ja hD7 Tryd.underlying38 (by rfl) info_rat ?_
        refine jc (.bool false) (fun X hX hF => mo (validG x.1 x.2.1 x.2.2 X (hx.mono (by omega))) (by rw [HVX.out])) ?_
        refine jm (.bool true) ?_
        refine jz fun X3 hX3 => ?_
        replace h1 := (Ks.lasts l) _ _ _ h1 hX3
        replace h2 := (Ks.lasts m) _ _ _ h2 hX3
        replace hf := (Rl.lasts xs) _ _ _ hf hX3
        replace hB0 := hB0.bel hX3
        replace hD7 := hD7.bel hX3
        have hb := bel_next hb hX3
        clear hX3
        go_upto_region 8 with (fail)
        refine jp ?_
        refine jc (.bool true) (fun X hX hF => sanC X) ?_
        refine jm (.bool true) ?_
        refine jz fun X4 hX4 => ?_
        replace h1 := (Ks.lasts l) _ _ _ h1 hX4
        replace h2 := (Ks.lasts m) _ _ _ h2 hX4
        replace hf := (Rl.lasts xs) _ _ _ hf hX4
        replace hB0 := hB0.bel hX4
        replace hD7 := hD7.bel hX4
        have hb := bel_next hb hX4
        clear hX4
        go_wp2
        go_ret
        exact ⟨rfl, hb⟩
      · have HVX := Lib.hid hvx
        refine jp ?_
        refine ja hD7 Tryd.underlying38 (by rfl) info_rat ?_
        refine jc (.bool true) (fun X hX hF => mo (validG x.1 x.2.1 x.2.2 X (hx.mono (by omega))) (by rw [HVX.out])) ?_
        refine jm (.bool false) ?_
        refine jz fun X3 hX3 => ?_
        replace h1 := (Ks.lasts l) _ _ _ h1 hX3
        replace h2 := (Ks.lasts m) _ _ _ h2 hX3
        replace hf := (Rl.lasts xs) _ _ _ hf hX3
        replace hB0 := hB0.bel hX3
        replace hD7 := hD7.bel hX3
        have hb := bel_next hb hX3
        clear hX3
        have HZ2 : Hid (∀ j, j < k + 1 → vd (xt xs j).1 (xt xs j).2.1 (xt xs j).2.2 = true) := fun j hj => by
          rcases Nat.lt_or_ge j k with h9 | h9
          · exact HZ.out j h9
          · rw [show j = k by omega, ← HX.out]; exact HVX.out
        go_upto_region 9 with (fail)
        refine jp ?_
        refine jv (.int .i64 ((k + 1 : Nat) : Int)) (exec_add _ _ _ _ (by rfl) (k : Int) 1 ((k + 1 : Nat) : Int) (by rfl) (by rfl) (by omega) (by omega) (by omega)) ?_
        refine jm (.int .i64 ((k + 1 : Nat) : Int)) ?_
        refine jz fun X4 hX4 => ?_
        replace h1 := (Ks.lasts l) _ _ _ h1 hX4
        replace h2 := (Ks.lasts m) _ _ _ h2 hX4
        replace hf := (Rl.lasts xs) _ _ _ hf hX4
        replace hB0 := hB0.bel hX4
        replace hD7 := hD7.bel hX4
        have hb := bel_next hb hX4
        clear hX4
        go_wp2
        go_roundw
        case rel => exact ⟨k + 1, by omega, rfl, HZ2, hB0, hb⟩
        case measure => simp [intOf]; omega
    · obtain rfl : k = nf := by omega
      exfalso
      have h9 := HV.out
      have h8 : vds xs = true := List.all_eq_true.2 fun t ht => by
        obtain ⟨i, hi, rfl⟩ := List.getElem_of_mem ht
        rw [← xt_in hi]
        exact HZ.out i (by rw [← HLF.out]; exact hi)
      rw [h8] at h9
      cases h9
theorem kcog (u1 u2 vf : Value) (l m : List Int) (xs : List Tr) (w : World) (h1 : Ks l u1 w) (h2 : Ks m u2 w) (hf : Rl xs vf w) (HA : Hid (fewK l.length = true)) (HB : Hid (fewK m.length = true)) (HS : Hid (fewS xs 60 = true)) (HC : Hid (kcE l = 0)) (HD : Hid (kcE m = 0)) (HV : Hid (vds xs = true)) (HP : Hid (cpE l m ≠ 0)) : Calls Tryd.prog 4 #[.agg #[u1, u2], vf] w fun e w' => e = .returned (.bool true) ∧ Since w w' := by

  obtain ⟨A, n, c, e1, _, _, _⟩ := h1.at
  subst e1
  obtain ⟨A2, n2, c2, e2, _, _, _⟩ := h2.at
  subst e2
  obtain ⟨AF, nf, cf, e3, hlf, hnf1, hrf⟩ := hf.at
  subst e3
  have H1 : Hid (∀ X, Since w X → Ks l (.slice A n c) X) := fun X h => Ks.lasts l _ _ _ h1 h
  have H2 : Hid (∀ X, Since w X → Ks m (.slice A2 n2 c2) X) := fun X h => Ks.lasts m _ _ _ h2 h
  have H3 : Hid (∀ X, Since w X → Rl xs (.slice AF nf cf) X) := fun X h => Rl.lasts xs _ _ _ hf h
  have HRF : Hid (∀ X, Since w X → Rd X 3 (.slice AF nf cf) nf (fl trc xs)) := fun X h => Rd.below hrf h
  have HLF := Lib.hid hlf
  clear hrf hlf
  go_enter Tryd.func4, Tryd.ntmps4
  go_upto_region 1 with (fail)
  obtain ⟨W0, hW0, hB0, hb⟩ := start1 w 26 [.slice A n c, .slice A2 n2 c2]
  rw [← hW0]
  clear hW0
  replace h1 := H1.out _ hb
  replace h2 := H2.out _ hb
  replace hf := H3.out _ hb
  refine jp ?_
  refine jm (.slice AF nf cf) ?_
  refine jc (.bool true) (fun X hX hF => mo (fwsV _ _ 60 X ((Rl.lasts xs) _ _ _ hf hX)) (by rw [HS.out])) ?_
  refine jm (.bool true) ?_
  refine jz fun X1 hX1 => ?_
  replace h1 := (Ks.lasts l) _ _ _ h1 hX1
  replace h2 := (Ks.lasts m) _ _ _ h2 hX1
  replace hf := (Rl.lasts xs) _ _ _ hf hX1
  replace hB0 := hB0.bel hX1
  have hb := bel_next hb hX1
  clear hX1
  go_upto_region 2 with (fail)
  refine jp ?_
  refine jn (.pointer (some ⟨w.heap.size, 0, none⟩)) ?_
  refine jg (.agg #[.slice A n c]) (fun X hX hF => exec_inr 24 _ (by rfl) w.heap.size 0 [.slice A n c] (by rfl) Tryd.underlying24 rfl X (hB0.bel hX) (by rfl) info_kn) ?_
  refine jc (.bool true) (fun X hX hF => mo (fewV _ l X ⟨_, rfl, ((Ks.lasts l) _ _ _ h1 hX)⟩) (by rw [HA.out])) ?_
  refine jm (.bool false) ?_
  refine jm (.bool false) ?_
  refine jn (.pointer (some ⟨w.heap.size, 1, none⟩)) ?_
  refine jg (.agg #[.slice A2 n2 c2]) (fun X hX hF => exec_inr 24 _ (by rfl) w.heap.size 1 [.slice A2 n2 c2] (by rfl) Tryd.underlying24 rfl X (hB0.bel hX) (by rfl) info_kn) ?_
  refine jc (.bool true) (fun X hX hF => mo (fewV _ m X ⟨_, rfl, ((Ks.lasts m) _ _ _ h2 hX)⟩) (by rw [HB.out])) ?_
  refine jm (.bool false) ?_
  refine jm (.bool false) ?_
  refine jm (.bool false) ?_
  refine jm (.bool true) ?_
  refine jm (.bool false) ?_
  refine jm (.bool false) ?_
  refine jm (.bool false) ?_
  refine jn (.pointer (some ⟨w.heap.size, 0, none⟩)) ?_
  refine jg (.agg #[.slice A n c]) (fun X hX hF => exec_inr 24 _ (by rfl) w.heap.size 0 [.slice A n c] (by rfl) Tryd.underlying24 rfl X (hB0.bel hX) (by rfl) info_kn) ?_
  refine jc (.int .i64 0) (fun X hX hF => kchV _ l X ⟨_, rfl, ((Ks.lasts l) _ _ _ h1 hX)⟩ HC.out) ?_
  refine jv (.bool false) (exec_nei _ _ _ _ (by rfl) .i64 0 0 (by rfl) (by rfl) false (by rw [decide_eq_true (by omega)]; rfl)) ?_
  refine jm (.bool false) ?_
  refine jm (.bool false) ?_
  refine jn (.pointer (some ⟨w.heap.size, 1, none⟩)) ?_
  refine jg (.agg #[.slice A2 n2 c2]) (fun X hX hF => exec_inr 24 _ (by rfl) w.heap.size 1 [.slice A2 n2 c2] (by rfl) Tryd.underlying24 rfl X (hB0.bel hX) (by rfl) info_kn) ?_
  refine jc (.int .i64 0) (fun X hX hF => kchV _ m X ⟨_, rfl, ((Ks.lasts m) _ _ _ h2 hX)⟩ HD.out) ?_
  refine jv (.bool false) (exec_nei _ _ _ _ (by rfl) .i64 0 0 (by rfl) (by rfl) false (by rw [decide_eq_true (by omega)]; rfl)) ?_
  refine jm (.bool false) ?_
  refine jz fun X2 hX2 => ?_
  replace h1 := (Ks.lasts l) _ _ _ h1 hX2
  replace h2 := (Ks.lasts m) _ _ _ h2 hX2
  replace hf := (Rl.lasts xs) _ _ _ hf hX2
  replace hB0 := hB0.bel hX2
  have hb := bel_next hb hX2
  clear hX2
  go_upto_region 4 with (fail)
  refine jp ?_
  refine jm (.slice AF nf cf) ?_
  refine jv (.int .i64 (nf : Int)) (exec_lenv Tryd.underlying43 _ (by rfl) AF nf cf (by rfl) _ rfl) ?_
  refine jm (.int .i64 0) ?_
  refine jz fun X3 hX3 => ?_
  replace h1 := (Ks.lasts l) _ _ _ h1 hX3
  replace h2 := (Ks.lasts m) _ _ _ h2 hX3
  replace hf := (Rl.lasts xs) _ _ _ hf hX3
  replace hB0 := hB0.bel hX3
  have hb := bel_next hb hX3
  clear hX3
  go_wp2
  go_loopw [47] (fun kv wr => ∃ k : Nat, k ≤ nf ∧ kv = .int .i64 (k : Int) ∧ Hid (∀ j, j < k → vd (xt xs j).1 (xt xs j).2.1 (xt xs j).2.2 = true) ∧ Blk wr w.heap.size 26 [.slice A n c, .slice A2 n2 c2] ∧ Below w.heap.size w wr) (fun kv _ => nf - (intOf kv).toNat)
  case atStart => exact ⟨0, by omega, rfl, (fun j hj => by omega), hB0, hb⟩
  case round =>
    clear hB0 hb
    obtain ⟨k, hk, rfl, HZ, hB0, hb⟩ := hrel
    replace h1 := H1.out _ hb
    replace h2 := H2.out _ hb
    replace hf := H3.out _ hb
    rcases Nat.lt_or_ge k nf with hlt | hlt
    · obtain ⟨b, off, rfl, hbb, hcx⟩ := Rl.xtAt (HRF.out _ hb) HLF.out hlt
      obtain ⟨x, x9⟩ : ∃ x, x = xt xs k := ⟨_, rfl⟩
      have HX := Lib.hid x9
      clear x9
      rw [← HX.out] at hcx
      have hx : tz x.2.1 x.2.2 20 := by rw [HX.out]; exact (fewS_t HS.out).2 k
      go_upto_region 5 with (fail)
      refine jp ?_
      refine jv (.bool true) (exec_lss _ _ _ _ (by rfl) .i64 (k : Int) (nf : Int) (by rfl) (by rfl) true (decide_eq_true (by omega))) ?_
      refine jz fun X1 hX1 => ?_
      replace h1 := (Ks.lasts l) _ _ _ h1 hX1
      replace h2 := (Ks.lasts m) _ _ _ h2 hX1
      replace hf := (Rl.lasts xs) _ _ _ hf hX1
      replace hB0 := hB0.bel hX1
      have hcx := hcx.below hX1 hbb
      replace hbb := Nat.lt_of_lt_of_le hbb (hX1).size
      have hb := bel_next hb hX1
      clear hX1
      go_upto_region 6 with (fail)
      refine jq 2 ?_
      refine jv (.pointer (some ⟨b, off + k * 3, none⟩)) (exec_ixv Tryd.underlying43 info_rat _ _ (by rfl) b (off) nf cf k (by omega) (by rfl) (by rfl) rfl) ?_
      refine jg (.agg #[.bool x.1, st x.2.1, st x.2.2]) (fun X hX hF => exec_ldc 38 _ (by rfl) b (off + k * 3) (by rfl) Tryd.underlying38 rfl [.bool x.1, .string ⟨x.2.1.toArray⟩, .string ⟨x.2.2.toArray⟩] X (Cl.part (hcx.below hX hbb) 0 _ (by rfl)) info_rat) ?_
      refine jz fun X2 hX2 => ?_
      replace h1 := (Ks.lasts l) _ _ _ h1 hX2
      replace h2 := (Ks.lasts m) _ _ _ h2 hX2
      replace hf := (Rl.lasts xs) _ _ _ hf hX2
      replace hB0 := hB0.bel hX2
      have hcx := hcx.below hX2 hbb
      replace hbb := Nat.lt_of_lt_of_le hbb (hX2).size
      have hb := bel_next hb hX2
      clear hX2
      go_upto_region 7 with (refine osn 38 7 50 #[.bool x.1, .string ⟨x.2.1.toArray⟩, .string ⟨x.2.2.toArray⟩] info_rat ?_)
      obtain ⟨Y2, hY9, hD7, hS9⟩ := start1 X2 38 [.bool x.1, .string ⟨x.2.1.toArray⟩, .string ⟨x.2.2.toArray⟩]
      rw [← hY9]
      clear hY9
      have hgs7 := hb.size
      have hlt7x0 := hB0.lt
      have hcx := hcx.below hS9 hbb
      replace hbb := Nat.lt_of_lt_of_le hbb (hS9).size
      have hB0 := hB0.bel hS9
      have h1 := (Ks.lasts l) _ _ _ h1 hS9
      have h2 := (Ks.lasts m) _ _ _ h2 hS9
      have hf := (Rl.lasts xs) _ _ _ hf hS9
      have hb := bel_next hb hS9
      clear hS9
      generalize X2.heap.size = g7 at *
      have HVX : Hid (vd x.1 x.2.1 x.2.2 = true) := by
        show _ = _
        rw [HX.out, xt_in (by rw [HLF.out]; exact hlt)]
        exact List.all_eq_true.1 HV.out _ (List.getElem_mem _)
      refine jp ?_
      refine ja hD7 Tryd.underlying38 (by rfl) info_rat ?_
      refine jc (.bool true) (fun X hX hF => mo (validG x.1 x.2.1 x.2.2 X (hx.mono (by omega))) (by rw [HVX.out])) ?_
      refine jm (.bool false) ?_
      refine jz fun X3 hX3 => ?_
      replace h1 := (Ks.lasts l) _ _ _ h1 hX3
      replace h2 := (Ks.lasts m) _ _ _ h2 hX3
      replace hf := (Rl.lasts xs) _ _ _ hf hX3
      replace hB0 := hB0.bel hX3
      replace hD7 := hD7.bel hX3
      have hb := bel_next hb hX3
      clear hX3
      have HZ2 : Hid (∀ j, j < k + 1 → vd (xt xs j).1 (xt xs j).2.1 (xt xs j).2.2 = true) := fun j hj => by
        rcases Nat.lt_or_ge j k with h9 | h9
        · exact HZ.out j h9
        · rw [show j = k by omega, ← HX.out]; exact HVX.out
      go_upto_region 9 with (fail)
      refine jp ?_
      refine jv (.int .i64 ((k + 1 : Nat) : Int)) (exec_add _ _ _ _ (by rfl) (k : Int) 1 ((k + 1 : Nat) : Int) (by rfl) (by rfl) (by omega) (by omega) (by omega)) ?_
      refine jm (.int .i64 ((k + 1 : Nat) : Int)) ?_
      refine jz fun X4 hX4 => ?_
      replace h1 := (Ks.lasts l) _ _ _ h1 hX4
      replace h2 := (Ks.lasts m) _ _ _ h2 hX4
      replace hf := (Rl.lasts xs) _ _ _ hf hX4
      replace hB0 := hB0.bel hX4
      replace hD7 := hD7.bel hX4
      have hb := bel_next hb hX4
      clear hX4
      go_wp2
      go_roundw
      case rel => exact ⟨k + 1, by omega, rfl, HZ2, hB0, hb⟩
      case measure => simp [intOf]; omega
    · obtain rfl : k = nf := by omega
      clear HZ
      obtain ⟨z, z9⟩ : ∃ z, cpE l m = z := ⟨_, rfl⟩
      have HE := Lib.hid z9
      have hz0 : z ≠ 0 := by rw [← z9]; exact HP.out
      clear z9
      have hl : Kok l := kcE_ok.1 HC.out
      have hm : Kok m := kcE_ok.1 HD.out
      have HKL := Lib.hid hl
      have HKM := Lib.hid hm
      clear hl hm
      go_upto_region 5 with (fail)
      refine jp ?_
      refine jv (.bool false) (exec_lss _ _ _ _ (by rfl) .i64 (k : Int) (k : Int) (by rfl) (by rfl) false (decide_eq_false (by omega))) ?_
      refine jz fun X1 hX1 => ?_
      replace h1 := (Ks.lasts l) _ _ _ h1 hX1
      replace h2 := (Ks.lasts m) _ _ _ h2 hX1
      replace hf := (Rl.lasts xs) _ _ _ hf hX1
      replace hB0 := hB0.bel hX1
      have hb := bel_next hb hX1
      clear hX1
      go_upto_region 10 with (fail)
      refine jq 8 ?_
      refine jn (.pointer (some ⟨w.heap.size, 0, none⟩)) ?_
      refine jg (.agg #[.slice A n c]) (fun X hX hF => exec_inr 24 _ (by rfl) w.heap.size 0 [.slice A n c] (by rfl) Tryd.underlying24 rfl X (hB0.bel hX) (by rfl) info_kn) ?_
      refine jn (.pointer (some ⟨w.heap.size, 1, none⟩)) ?_
      refine jg (.agg #[.slice A2 n2 c2]) (fun X hX hF => exec_inr 24 _ (by rfl) w.heap.size 1 [.slice A2 n2 c2] (by rfl) Tryd.underlying24 rfl X (hB0.bel hX) (by rfl) info_kn) ?_
      refine jc (.tuple #[.agg #[.slice none 0 0], .int .i64 z]) (fun X hX hF => cpVE _ _ l m X ⟨_, rfl, ((Ks.lasts l) _ _ _ h1 hX)⟩ ⟨_, rfl, ((Ks.lasts m) _ _ _ h2 hX)⟩ HKL.out HKM.out HE.out hz0) ?_
      refine jm (.tuple #[.agg #[.slice none 0 0], .int .i64 z]) ?_
      refine jm (.agg #[.slice none 0 0]) ?_
      refine jm (.int .i64 z) ?_
      refine jz fun X2 hX2 => ?_
      replace h1 := (Ks.lasts l) _ _ _ h1 hX2
      replace h2 := (Ks.lasts m) _ _ _ h2 hX2
      replace hf := (Rl.lasts xs) _ _ _ hf hX2
      replace hB0 := hB0.bel hX2
      have hb := bel_next hb hX2
      clear hX2
      go_upto_region 11 with (refine osn 24 8 62 #[.slice none 0 0] info_kn ?_)
      obtain ⟨Y2, hY9, hD8, hS9⟩ := start1 X2 24 [.slice none 0 0]
      rw [← hY9]
      clear hY9
      have hgs8 := hb.size
      have hlt8x0 := hB0.lt
      have hB0 := hB0.bel hS9
      have h1 := (Ks.lasts l) _ _ _ h1 hS9
      have h2 := (Ks.lasts m) _ _ _ h2 hS9
      have hf := (Rl.lasts xs) _ _ _ hf hS9
      have hb := bel_next hb hS9
      clear hS9
      generalize X2.heap.size = g8 at *
      go_upto_region 11 with (fail)
      refine jp ?_
      refine jm (.int .i64 z) ?_
      refine jv (.bool true) (exec_nei _ _ _ _ (by rfl) .i64 z 0 (by rfl) (by rfl) true (by rw [decide_eq_false (by omega)]; rfl)) ?_
      refine jz fun X3 hX3 => ?_
      replace h1 := (Ks.lasts l) _ _ _ h1 hX3
      replace h2 := (Ks.lasts m) _ _ _ h2 hX3
      replace hf := (Rl.lasts xs) _ _ _ hf hX3
      replace hB0 := hB0.bel hX3
      replace hD8 := hD8.bel hX3
      have hb := bel_next hb hX3
      clear hX3
      go_upto_region 12 with (fail)
      refine jp ?_
      refine jc (.bool true) (fun X hX hF => sanC X) ?_
      refine jm (.bool true) ?_
      refine jz fun X4 hX4 => ?_
      replace h1 := (Ks.lasts l) _ _ _ h1 hX4
      replace h2 := (Ks.lasts m) _ _ _ h2 hX4
      replace hf := (Rl.lasts xs) _ _ _ hf hX4
      replace hB0 := hB0.bel hX4
      replace hD8 := hD8.bel hX4
      have hb := bel_next hb hX4
      clear hX4
      go_wp2
      go_ret
      exact ⟨rfl, hb⟩
theorem kcoh (u1 u2 vf : Value) (l m : List Int) (xs : List Tr) (w : World) (h1 : Ks l u1 w) (h2 : Ks m u2 w) (hf : Rl xs vf w) (HA : Hid (fewK l.length = true)) (HB : Hid (fewK m.length = true)) (HS : Hid (fewS xs 60 = true)) (HC : Hid (kcE l = 0)) (HD : Hid (kcE m = 0)) (HV : Hid (vds xs = true)) (HP : Hid (cpE l m = 0)) : Calls Tryd.prog 4 #[.agg #[u1, u2], vf] w fun e w' => e = .returned (.bool true) ∧ Since w w' := by

  obtain ⟨A, n, c, e1, _, _, _⟩ := h1.at
  subst e1
  obtain ⟨A2, n2, c2, e2, _, _, _⟩ := h2.at
  subst e2
  obtain ⟨AF, nf, cf, e3, hlf, hnf1, hrf⟩ := hf.at
  subst e3
  have H1 : Hid (∀ X, Since w X → Ks l (.slice A n c) X) := fun X h => Ks.lasts l _ _ _ h1 h
  have H2 : Hid (∀ X, Since w X → Ks m (.slice A2 n2 c2) X) := fun X h => Ks.lasts m _ _ _ h2 h
  have H3 : Hid (∀ X, Since w X → Rl xs (.slice AF nf cf) X) := fun X h => Rl.lasts xs _ _ _ hf h
  have HRF : Hid (∀ X, Since w X → Rd X 3 (.slice AF nf cf) nf (fl trc xs)) := fun X h => Rd.below hrf h
  have HLF := Lib.hid hlf
  clear hrf hlf
  go_enter Tryd.func4, Tryd.ntmps4
  go_upto_region 1 with (fail)
  obtain ⟨W0, hW0, hB0, hb⟩ := start1 w 26 [.slice A n c, .slice A2 n2 c2]
  rw [← hW0]
  clear hW0
  replace h1 := H1.out _ hb
  replace h2 := H2.out _ hb
  replace hf := H3.out _ hb
  refine jp ?_
  refine jm (.slice AF nf cf) ?_
  refine jc (.bool true) (fun X hX hF => mo (fwsV _ _ 60 X ((Rl.lasts xs) _ _ _ hf hX)) (by rw [HS.out])) ?_
  refine jm (.bool true) ?_
  refine jz fun X1 hX1 => ?_
  replace h1 := (Ks.lasts l) _ _ _ h1 hX1
  replace h2 := (Ks.lasts m) _ _ _ h2 hX1
  replace hf := (Rl.lasts xs) _ _ _ hf hX1
  replace hB0 := hB0.bel hX1
  have hb := bel_next hb hX1
  clear hX1
  go_upto_region 2 with (fail)
  refine jp ?_
  refine jn (.pointer (some ⟨w.heap.size, 0, none⟩)) ?_
  refine jg (.agg #[.slice A n c]) (fun X hX hF => exec_inr 24 _ (by rfl) w.heap.size 0 [.slice A n c] (by rfl) Tryd.underlying24 rfl X (hB0.bel hX) (by rfl) info_kn) ?_
  refine jc (.bool true) (fun X hX hF => mo (fewV _ l X ⟨_, rfl, ((Ks.lasts l) _ _ _ h1 hX)⟩) (by rw [HA.out])) ?_
  refine jm (.bool false) ?_
  refine jm (.bool false) ?_
  refine jn (.pointer (some ⟨w.heap.size, 1, none⟩)) ?_
  refine jg (.agg #[.slice A2 n2 c2]) (fun X hX hF => exec_inr 24 _ (by rfl) w.heap.size 1 [.slice A2 n2 c2] (by rfl) Tryd.underlying24 rfl X (hB0.bel hX) (by rfl) info_kn) ?_
  refine jc (.bool true) (fun X hX hF => mo (fewV _ m X ⟨_, rfl, ((Ks.lasts m) _ _ _ h2 hX)⟩) (by rw [HB.out])) ?_
  refine jm (.bool false) ?_
  refine jm (.bool false) ?_
  refine jm (.bool false) ?_
  refine jm (.bool true) ?_
  refine jm (.bool false) ?_
  refine jm (.bool false) ?_
  refine jm (.bool false) ?_
  refine jn (.pointer (some ⟨w.heap.size, 0, none⟩)) ?_
  refine jg (.agg #[.slice A n c]) (fun X hX hF => exec_inr 24 _ (by rfl) w.heap.size 0 [.slice A n c] (by rfl) Tryd.underlying24 rfl X (hB0.bel hX) (by rfl) info_kn) ?_
  refine jc (.int .i64 0) (fun X hX hF => kchV _ l X ⟨_, rfl, ((Ks.lasts l) _ _ _ h1 hX)⟩ HC.out) ?_
  refine jv (.bool false) (exec_nei _ _ _ _ (by rfl) .i64 0 0 (by rfl) (by rfl) false (by rw [decide_eq_true (by omega)]; rfl)) ?_
  refine jm (.bool false) ?_
  refine jm (.bool false) ?_
  refine jn (.pointer (some ⟨w.heap.size, 1, none⟩)) ?_
  refine jg (.agg #[.slice A2 n2 c2]) (fun X hX hF => exec_inr 24 _ (by rfl) w.heap.size 1 [.slice A2 n2 c2] (by rfl) Tryd.underlying24 rfl X (hB0.bel hX) (by rfl) info_kn) ?_
  refine jc (.int .i64 0) (fun X hX hF => kchV _ m X ⟨_, rfl, ((Ks.lasts m) _ _ _ h2 hX)⟩ HD.out) ?_
  refine jv (.bool false) (exec_nei _ _ _ _ (by rfl) .i64 0 0 (by rfl) (by rfl) false (by rw [decide_eq_true (by omega)]; rfl)) ?_
  refine jm (.bool false) ?_
  refine jz fun X2 hX2 => ?_
  replace h1 := (Ks.lasts l) _ _ _ h1 hX2
  replace h2 := (Ks.lasts m) _ _ _ h2 hX2
  replace hf := (Rl.lasts xs) _ _ _ hf hX2
  replace hB0 := hB0.bel hX2
  have hb := bel_next hb hX2
  clear hX2
  go_upto_region 4 with (fail)
  refine jp ?_
  refine jm (.slice AF nf cf) ?_
  refine jv (.int .i64 (nf : Int)) (exec_lenv Tryd.underlying43 _ (by rfl) AF nf cf (by rfl) _ rfl) ?_
  refine jm (.int .i64 0) ?_
  refine jz fun X3 hX3 => ?_
  replace h1 := (Ks.lasts l) _ _ _ h1 hX3
  replace h2 := (Ks.lasts m) _ _ _ h2 hX3
  replace hf := (Rl.lasts xs) _ _ _ hf hX3
  replace hB0 := hB0.bel hX3
  have hb := bel_next hb hX3
  clear hX3
  go_wp2
  go_loopw [47] (fun kv wr => ∃ k : Nat, k ≤ nf ∧ kv = .int .i64 (k : Int) ∧ Hid (∀ j, j < k → vd (xt xs j).1 (xt xs j).2.1 (xt xs j).2.2 = true) ∧ Blk wr w.heap.size 26 [.slice A n c, .slice A2 n2 c2] ∧ Below w.heap.size w wr) (fun kv _ => nf - (intOf kv).toNat)
  case atStart => exact ⟨0, by omega, rfl, (fun j hj => by omega), hB0, hb⟩
  case round =>
    clear hB0 hb
    obtain ⟨k, hk, rfl, HZ, hB0, hb⟩ := hrel
    replace h1 := H1.out _ hb
    replace h2 := H2.out _ hb
    replace hf := H3.out _ hb
    rcases Nat.lt_or_ge k nf with hlt | hlt
    · obtain ⟨b, off, rfl, hbb, hcx⟩ := Rl.xtAt (HRF.out _ hb) HLF.out hlt
      obtain ⟨x, x9⟩ : ∃ x, x = xt xs k := ⟨_, rfl⟩
      have HX := Lib.hid x9
      clear x9
      rw [← HX.out] at hcx
      have hx : tz x.2.1 x.2.2 20 := by rw [HX.out]; exact (fewS_t HS.out).2 k
      go_upto_region 5 with (fail)
      refine jp ?_
      refine jv (.bool true) (exec_lss _ _ _ _ (by rfl) .i64 (k : Int) (nf : Int) (by rfl) (by rfl) true (decide_eq_true (by omega))) ?_
      refine jz fun X1 hX1 => ?_
      replace h1 := (Ks.lasts l) _ _ _ h1 hX1
      replace h2 := (Ks.lasts m) _ _ _ h2 hX1
      replace hf := (Rl.lasts xs) _ _ _ hf hX1
      replace hB0 := hB0.bel hX1
      have hcx := hcx.below hX1 hbb
      replace hbb := Nat.lt_of_lt_of_le hbb (hX1).size
      have hb := bel_next hb hX1
      clear hX1
      go_upto_region 6 with (fail)
      refine jq 2 ?_
      refine jv (.pointer (some ⟨b, off + k * 3, none⟩)) (exec_ixv Tryd.underlying43 info_rat _ _ (by rfl) b (off) nf cf k (by omega) (by rfl) (by rfl) rfl) ?_
      refine jg (.agg #[.bool x.1, st x.2.1, st x.2.2]) (fun X hX hF => exec_ldc 38 _ (by rfl) b (off + k * 3) (by rfl) Tryd.underlying38 rfl [.bool x.1, .string ⟨x.2.1.toArray⟩, .string ⟨x.2.2.toArray⟩] X (Cl.part (hcx.below hX hbb) 0 _ (by rfl)) info_rat) ?_
      refine jz fun X2 hX2 => ?_
      replace h1 := (Ks.lasts l) _ _ _ h1 hX2
      replace h2 := (Ks.lasts m) _ _ _ h2 hX2
      replace hf := (Rl.lasts xs) _ _ _ hf hX2
      replace hB0 := hB0.bel hX2
      have hcx := hcx.below hX2 hbb
      replace hbb := Nat.lt_of_lt_of_le hbb (hX2).size
      have hb := bel_next hb hX2
      clear hX2
      go_upto_region 7 with (refine osn 38 7 50 #[.bool x.1, .string ⟨x.2.1.toArray⟩, .string ⟨x.2.2.toArray⟩] info_rat ?_)
      obtain ⟨Y2, hY9, hD7, hS9⟩ := start1 X2 38 [.bool x.1, .string ⟨x.2.1.toArray⟩, .string ⟨x.2.2.toArray⟩]
      rw [← hY9]
      clear hY9
      have hgs7 := hb.size
      have hlt7x0 := hB0.lt
      have hcx := hcx.below hS9 hbb
      replace hbb := Nat.lt_of_lt_of_le hbb (hS9).size
      have hB0 := hB0.bel hS9
      have h1 := (Ks.lasts l) _ _ _ h1 hS9
      have h2 := (Ks.lasts m) _ _ _ h2 hS9
      have hf := (Rl.lasts xs) _ _ _ hf hS9
      have hb := bel_next hb hS9
      clear hS9
      generalize X2.heap.size = g7 at *
      have HVX : Hid (vd x.1 x.2.1 x.2.2 = true) := by
        show _ = _
        rw [HX.out, xt_in (by rw [HLF.out]; exact hlt)]
        exact List.all_eq_true.1 HV.out _ (List.getElem_mem _)
      refine jp ?_
      refine ja hD7 Tryd.underlying38 (by rfl) info_rat ?_
      refine jc (.bool true) (fun X hX hF => mo (validG x.1 x.2.1 x.2.2 X (hx.mono (by omega))) (by rw [HVX.out])) ?_
      refine jm (.bool false) ?_
      refine jz fun X3 hX3 => ?_
      replace h1 := (Ks.lasts l) _ _ _ h1 hX3
      replace h2 := (Ks.lasts m) _ _ _ h2 hX3
      replace hf := (Rl.lasts xs) _ _ _ hf hX3
      replace hB0 := hB0.bel hX3
      replace hD7 := hD7.bel hX3
      have hb := bel_next hb hX3
      clear hX3
      have HZ2 : Hid (∀ j, j < k + 1 → vd (xt xs j).1 (xt xs j).2.1 (xt xs j).2.2 = true) := fun j hj => by
        rcases Nat.lt_or_ge j k with h9 | h9
        · exact HZ.out j h9
        · rw [show j = k by omega, ← HX.out]; exact HVX.out
      go_upto_region 9 with (fail)
      refine jp ?_
      refine jv (.int .i64 ((k + 1 : Nat) : Int)) (exec_add _ _ _ _ (by rfl) (k : Int) 1 ((k + 1 : Nat) : Int) (by rfl) (by rfl) (by omega) (by omega) (by omega)) ?_
      refine jm (.int .i64 ((k + 1 : Nat) : Int)) ?_
      refine jz fun X4 hX4 => ?_
      replace h1 := (Ks.lasts l) _ _ _ h1 hX4
      replace h2 := (Ks.lasts m) _ _ _ h2 hX4
      replace hf := (Rl.lasts xs) _ _ _ hf hX4
      replace hB0 := hB0.bel hX4
      replace hD7 := hD7.bel hX4
      have hb := bel_next hb hX4
      clear hX4
      go_wp2
      go_roundw
      case rel => exact ⟨k + 1, by omega, rfl, HZ2, hB0, hb⟩
      case measure => simp [intOf]; omega
    · obtain rfl : k = nf := by omega
      clear HZ
      have hl : Kok l := kcE_ok.1 HC.out
      have hm : Kok m := kcE_ok.1 HD.out
      have HKL := Lib.hid hl
      have HKM := Lib.hid hm
      clear hl hm
      have HYS : Hid (∀ k, szR (yq (xs.map trq) k) 20) := few_sz HS.out HV.out
      have hl30 := few_len HKL.out HA.out
      have hm30 := few_len HKM.out HB.out
      have hy60 : xs.length ≤ 60 := (fewS_t HS.out).1
      have hc60 := cpK_len HKL.out HKM.out
      obtain ⟨ys, y9⟩ : ∃ ys, xs.map trq = ys := ⟨_, rfl⟩
      rw [y9] at HYS
      have hy9 : ys.length ≤ 60 := by rw [← y9, List.length_map]; exact hy60
      have hrq : Rq ys (.slice AF k cf) wr := by
        show Rl (ys.map tr) _ _
        rw [← y9, vds_tr HV.out]
        exact hf
      clear hf y9 hy60
      have hr9 := rtl_len2 l ys
      have HR1 : Hid (∀ k, szR (yq (rtl l ys) k) 1051) := fun k => (rtl_sz HKL.out HYS.out k).mono (by omega)
      go_upto_region 5 with (fail)
      refine jp ?_
      refine jv (.bool false) (exec_lss _ _ _ _ (by rfl) .i64 (k : Int) (k : Int) (by rfl) (by rfl) false (decide_eq_false (by omega))) ?_
      refine jz fun X1 hX1 => ?_
      replace h1 := (Ks.lasts l) _ _ _ h1 hX1
      replace h2 := (Ks.lasts m) _ _ _ h2 hX1
      replace hrq := (Rq.lasts ys) _ _ _ hrq hX1
      replace hB0 := hB0.bel hX1
      have hb := bel_next hb hX1
      clear hX1
      go_upto_region 10 with (fail)
      refine lx_plain_to 8 [none, none, none, none, some (Tp (Kn (cpK l m)) 0), none, some (Kn (cpK l m))] (lasts_none (lasts_none (lasts_none (lasts_none (lasts_some (Tp.lasts (Kn.lasts (cpK l m)) _) (lasts_none (lasts_some (Kn.lasts (cpK l m)) (lasts_nil)))))))) ?_
      simp only [its, List.take, List.drop, Nat.zero_add, Nat.reduceAdd]
      refine jn (.pointer (some ⟨w.heap.size, 0, none⟩)) ?_
      refine jg (.agg #[.slice A n c]) (fun X hX hF => exec_inr 24 _ (by rfl) w.heap.size 0 [.slice A n c] (by rfl) Tryd.underlying24 rfl X (hB0.bel hX) (by rfl) info_kn) ?_
      refine jn (.pointer (some ⟨w.heap.size, 1, none⟩)) ?_
      refine jg (.agg #[.slice A2 n2 c2]) (fun X hX hF => exec_inr 24 _ (by rfl) w.heap.size 1 [.slice A2 n2 c2] (by rfl) Tryd.underlying24 rfl X (hB0.bel hX) (by rfl) info_kn) ?_
      refine jk (fun X hX hF => cpV _ _ l m X ⟨_, rfl, ((Ks.lasts l) _ _ _ h1 hX)⟩ ⟨_, rfl, ((Ks.lasts m) _ _ _ h2 hX)⟩ HKL.out HKM.out HP.out) ?_
      intro v61
      refine jm (v61) ?_
      refine lx_new (by rfl) (fun X hX hF => by obtain ⟨u9, h9, h8⟩ := (hF _ _ List.mem_cons_self rfl); subst h9; exact ⟨u9, X, rfl, h8, Below.refl _ _⟩) ?_
      intro v62
      simp only [pX]
      refine jg (.int .i64 0) (fun X hX hF => by obtain ⟨u9, h9, _⟩ := (hF _ _ (List.mem_cons_of_mem _ List.mem_cons_self) rfl); subst h9; rfl) ?_
      refine lx_nil ?_
      intro X2 hX2 hF
      replace h1 := (Ks.lasts l) _ _ _ h1 hX2
      replace h2 := (Ks.lasts m) _ _ _ h2 hX2
      replace hrq := (Rq.lasts ys) _ _ _ hrq hX2
      have hv61 := hF _ _ (List.mem_cons_of_mem _ List.mem_cons_self)
      have hv62 := hF _ _ List.mem_cons_self
      replace hB0 := hB0.bel hX2
      have hb := bel_next hb hX2
      clear hF hX2
      obtain ⟨u62, e62, A62, c62, f62, q62⟩ := hv62
      subst f62
      subst e62
      have hv62 : Ks (cpK l m) (.slice A62 ((cpK l m)).length c62) X2 := ⟨_, _, rfl, q62⟩
      clear q62
      go_upto_region 11 with (refine osn 24 8 62 #[.slice A62 ((cpK l m)).length c62] info_kn ?_)
      obtain ⟨Y2, hY9, hD8, hS9⟩ := start1 X2 24 [.slice A62 ((cpK l m)).length c62]
      rw [← hY9]
      clear hY9
      have hgs8 := hb.size
      have hlt8x0 := hB0.lt
      replace hB0 := hB0.bel hS9
      replace h1 := (Ks.lasts l) _ _ _ h1 hS9
      replace h2 := (Ks.lasts m) _ _ _ h2 hS9
      replace hrq := (Rq.lasts ys) _ _ _ hrq hS9
      replace hv61 := (Tp.lasts (Kn.lasts (cpK l m)) _) _ _ _ hv61 hS9
      replace hv62 := (Ks.lasts (cpK l m)) _ _ _ hv62 hS9
      have hb := bel_next hb hS9
      clear hS9
      generalize X2.heap.size = g8 at *
      go_upto_region 11 with (fail)
      refine jp ?_
      refine jm (.int .i64 0) ?_
      refine jv (.bool false) (exec_nei _ _ _ _ (by rfl) .i64 0 0 (by rfl) (by rfl) false (by rw [decide_eq_true (by omega)]; rfl)) ?_
      refine jz fun X3 hX3 => ?_
      replace h1 := (Ks.lasts l) _ _ _ h1 hX3
      replace h2 := (Ks.lasts m) _ _ _ h2 hX3
      replace hrq := (Rq.lasts ys) _ _ _ hrq hX3
      replace hv61 := (Tp.lasts (Kn.lasts (cpK l m)) _) _ _ _ hv61 hX3
      replace hv62 := (Ks.lasts (cpK l m)) _ _ _ hv62 hX3
      replace hB0 := hB0.bel hX3
      replace hD8 := hD8.bel hX3
      have hb := bel_next hb hX3
      clear hX3
      go_upto_region 13 with (fail)
      refine lx_plain [none, none, none, some (Tp (Rq (rtl l ys)) 0), none, some (Rq (rtl l ys))] (lasts_none (lasts_none (lasts_none (lasts_some (Tp.lasts (Rq.lasts (rtl l ys)) _) (lasts_none (lasts_some (Rq.lasts (rtl l ys)) (lasts_nil))))))) ?_
      simp only [iX, Nat.reduceAdd]
      refine jn (.pointer (some ⟨w.heap.size, 0, none⟩)) ?_
      refine jg (.agg #[.slice A n c]) (fun X hX hF => exec_inr 24 _ (by rfl) w.heap.size 0 [.slice A n c] (by rfl) Tryd.underlying24 rfl X (hB0.bel hX) (by rfl) info_kn) ?_
      refine jm (.slice AF k cf) ?_
      refine jk (fun X hX hF => rteV _ _ l ys X ⟨_, rfl, ((Ks.lasts l) _ _ _ h1 hX)⟩ ((Rq.lasts ys) _ _ _ hrq hX) HKL.out (by omega) (by omega) 20 (by omega) HYS.out) ?_
      intro v71
      refine jm (v71) ?_
      refine lx_new (by rfl) (fun X hX hF => by obtain ⟨u9, h9, h8⟩ := (hF _ _ List.mem_cons_self rfl); subst h9; exact ⟨u9, X, rfl, h8, Below.refl _ _⟩) ?_
      intro v72
      simp only [pX]
      refine jg (.int .i64 0) (fun X hX hF => by obtain ⟨u9, h9, _⟩ := (hF _ _ (List.mem_cons_of_mem _ List.mem_cons_self) rfl); subst h9; rfl) ?_
      refine jm (v72) ?_
      refine jm (.int .i64 0) ?_
      refine lx_nil ?_
      intro X4 hX4 hF
      replace h1 := (Ks.lasts l) _ _ _ h1 hX4
      replace h2 := (Ks.lasts m) _ _ _ h2 hX4
      replace hrq := (Rq.lasts ys) _ _ _ hrq hX4
      replace hv61 := (Tp.lasts (Kn.lasts (cpK l m)) _) _ _ _ hv61 hX4
      replace hv62 := (Ks.lasts (cpK l m)) _ _ _ hv62 hX4
      have hv71 := hF _ _ (List.mem_cons_of_mem _ List.mem_cons_self)
      have hv72 := hF _ _ List.mem_cons_self
      replace hB0 := hB0.bel hX4
      replace hD8 := hD8.bel hX4
      have hb := bel_next hb hX4
      clear hF hX4
      go_upto_region 14 with (fail)
      refine lx_plain [none, none, none, some (Tp (Rq (rtl m (rtl l ys))) 0), none, some (Rq (rtl m (rtl l ys)))] (lasts_none (lasts_none (lasts_none (lasts_some (Tp.lasts (Rq.lasts (rtl m (rtl l ys))) _) (lasts_none (lasts_some (Rq.lasts (rtl m (rtl l ys))) (lasts_nil))))))) ?_
      simp only [iX, Nat.reduceAdd]
      refine jn (.pointer (some ⟨w.heap.size, 1, none⟩)) ?_
      refine jg (.agg #[.slice A2 n2 c2]) (fun X hX hF => exec_inr 24 _ (by rfl) w.heap.size 1 [.slice A2 n2 c2] (by rfl) Tryd.underlying24 rfl X (hB0.bel hX) (by rfl) info_kn) ?_
      refine jm (v72) ?_
      refine jk (fun X hX hF => rteV _ _ m (rtl l ys) X ⟨_, rfl, ((Ks.lasts m) _ _ _ h2 hX)⟩ ((Rq.lasts (rtl l ys)) _ _ _ hv72 hX) HKM.out (by omega) (by omega) 1051 (by omega) HR1.out) ?_
      intro v78
      refine jm (v78) ?_
      refine lx_new (by rfl) (fun X hX hF => by obtain ⟨u9, h9, h8⟩ := (hF _ _ List.mem_cons_self rfl); subst h9; exact ⟨u9, X, rfl, h8, Below.refl _ _⟩) ?_
      intro v79
      simp only [pX]
      refine jg (.int .i64 0) (fun X hX hF => by obtain ⟨u9, h9, _⟩ := (hF _ _ (List.mem_cons_of_mem _ List.mem_cons_self) rfl); subst h9; rfl) ?_
      refine jm (v79) ?_
      refine jm (.int .i64 0) ?_
      refine lx_nil ?_
      intro X5 hX5 hF
      replace h1 := (Ks.lasts l) _ _ _ h1 hX5
      replace h2 := (Ks.lasts m) _ _ _ h2 hX5
      replace hrq := (Rq.lasts ys) _ _ _ hrq hX5
      replace hv61 := (Tp.lasts (Kn.lasts (cpK l m)) _) _ _ _ hv61 hX5
      replace hv62 := (Ks.lasts (cpK l m)) _ _ _ hv62 hX5
      replace hv71 := (Tp.lasts (Rq.lasts (rtl l ys)) _) _ _ _ hv71 hX5
      replace hv72 := (Rq.lasts (rtl l ys)) _ _ _ hv72 hX5
      have hv78 := hF _ _ (List.mem_cons_of_mem _ List.mem_cons_self)
      have hv79 := hF _ _ List.mem_cons_self
      replace hB0 := hB0.bel hX5
      replace hD8 := hD8.bel hX5
      have hb := bel_next hb hX5
      clear hF hX5
      go_upto_region 15 with (fail)
      refine lx_plain [none, none, some (Tp (Rq (rtl (cpK l m) ys)) 0), none, some (Rq (rtl (cpK l m) ys))] (lasts_none (lasts_none (lasts_some (Tp.lasts (Rq.lasts (rtl (cpK l m) ys)) _) (lasts_none (lasts_some (Rq.lasts (rtl (cpK l m) ys)) (lasts_nil)))))) ?_
      simp only [iX, Nat.reduceAdd]
      refine ja hD8 Tryd.underlying24 (by rfl) info_kn ?_
      refine jm (.slice AF k cf) ?_
      refine jk (fun X hX hF => rteV _ _ (cpK l m) ys X ⟨_, rfl, ((Ks.lasts (cpK l m)) _ _ _ hv62 hX)⟩ ((Rq.lasts ys) _ _ _ hrq hX) (cpK_ok HKL.out HKM.out HP.out) (by omega) (by omega) 20 (by omega) HYS.out) ?_
      intro v84
      refine jm (v84) ?_
      refine lx_new (by rfl) (fun X hX hF => by obtain ⟨u9, h9, h8⟩ := (hF _ _ List.mem_cons_self rfl); subst h9; exact ⟨u9, X, rfl, h8, Below.refl _ _⟩) ?_
      intro v85
      simp only [pX]
      refine jg (.int .i64 0) (fun X hX hF => by obtain ⟨u9, h9, _⟩ := (hF _ _ (List.mem_cons_of_mem _ List.mem_cons_self) rfl); subst h9; rfl) ?_
      refine jm (v85) ?_
      refine jm (.int .i64 0) ?_
      refine lx_nil ?_
      intro X6 hX6 hF
      replace h1 := (Ks.lasts l) _ _ _ h1 hX6
      replace h2 := (Ks.lasts m) _ _ _ h2 hX6
      replace hrq := (Rq.lasts ys) _ _ _ hrq hX6
      replace hv61 := (Tp.lasts (Kn.lasts (cpK l m)) _) _ _ _ hv61 hX6
      replace hv62 := (Ks.lasts (cpK l m)) _ _ _ hv62 hX6
      replace hv71 := (Tp.lasts (Rq.lasts (rtl l ys)) _) _ _ _ hv71 hX6
      replace hv72 := (Rq.lasts (rtl l ys)) _ _ _ hv72 hX6
      replace hv78 := (Tp.lasts (Rq.lasts (rtl m (rtl l ys))) _) _ _ _ hv78 hX6
      replace hv79 := (Rq.lasts (rtl m (rtl l ys))) _ _ _ hv79 hX6
      have hv84 := hF _ _ (List.mem_cons_of_mem _ List.mem_cons_self)
      have hv85 := hF _ _ List.mem_cons_self
      replace hB0 := hB0.bel hX6
      replace hD8 := hD8.bel hX6
      have hb := bel_next hb hX6
      clear hF hX6
      go_upto_region 16 with (fail)
      refine lx_plain [none, none, none, none, none, none, none, none, none, none, none, none, none, none, none, some (Rq (trim (rtl m (rtl l ys)))), none, some (Rq (trim (rtl (cpK l m) ys)))] (lasts_none (lasts_none (lasts_none (lasts_none (lasts_none (lasts_none (lasts_none (lasts_none (lasts_none (lasts_none (lasts_none (lasts_none (lasts_none (lasts_none (lasts_none (lasts_some (Rq.lasts (trim (rtl m (rtl l ys)))) (lasts_none (lasts_some (Rq.lasts (trim (rtl (cpK l m) ys))) (lasts_nil))))))))))))))))))) ?_
      simp only [iX, Nat.reduceAdd]
      refine jc (.bool true) (fun X hX hF => sanC X) ?_
      refine jm (.bool true) ?_
      refine jm (.int .i64 0) ?_
      refine jv (.bool true) (exec_eqi _ _ _ _ (by rfl) .i64 0 0 (by rfl) (by rfl) true (decide_eq_true (by omega))) ?_
      refine jm (.bool true) ?_
      refine jm (.bool true) ?_
      refine jm (.int .i64 0) ?_
      refine jv (.bool true) (exec_eqi _ _ _ _ (by rfl) .i64 0 0 (by rfl) (by rfl) true (decide_eq_true (by omega))) ?_
      refine jm (.bool true) ?_
      refine jm (.bool true) ?_
      refine jm (.int .i64 0) ?_
      refine jv (.bool true) (exec_eqi _ _ _ _ (by rfl) .i64 0 0 (by rfl) (by rfl) true (decide_eq_true (by omega))) ?_
      refine jm (.bool true) ?_
      refine jm (.bool true) ?_
      refine jm (v79) ?_
      refine jk (fun X hX hF => trmC _ _ X ((Rq.lasts (rtl m (rtl l ys))) _ _ _ hv79 hX)) ?_
      intro v102
      refine jm (v85) ?_
      refine jk (fun X hX hF => trmC _ _ X ((Rq.lasts (rtl (cpK l m) ys)) _ _ _ hv85 hX)) ?_
      intro v104
      refine jc (.bool true) (fun X hX hF => sfC _ _ _ X (hF _ _ (List.mem_cons_of_mem _ List.mem_cons_self) rfl) (by have h9 := (hF _ _ List.mem_cons_self rfl); rw [← (show trim (rtl m (rtl l ys)) = trim (rtl (cpK l m) ys) from trim_eq (rtl_cpK HKL.out HKM.out HP.out ys))] at h9; exact h9)) ?_
      refine jm (.bool true) ?_
      refine jm (.bool true) ?_
      refine lx_nil ?_
      intro X7 hX7 hF
      replace h1 := (Ks.lasts l) _ _ _ h1 hX7
      replace h2 := (Ks.lasts m) _ _ _ h2 hX7
      replace hrq := (Rq.lasts ys) _ _ _ hrq hX7
      replace hv61 := (Tp.lasts (Kn.lasts (cpK l m)) _) _ _ _ hv61 hX7
      replace hv62 := (Ks.lasts (cpK l m)) _ _ _ hv62 hX7
      replace hv71 := (Tp.lasts (Rq.lasts (rtl l ys)) _) _ _ _ hv71 hX7
      replace hv72 := (Rq.lasts (rtl l ys)) _ _ _ hv72 hX7
      replace hv78 := (Tp.lasts (Rq.lasts (rtl m (rtl l ys))) _) _ _ _ hv78 hX7
      replace hv79 := (Rq.lasts (rtl m (rtl l ys))) _ _ _ hv79 hX7
      replace hv84 := (Tp.lasts (Rq.lasts (rtl (cpK l m) ys)) _) _ _ _ hv84 hX7
      replace hv85 := (Rq.lasts (rtl (cpK l m) ys)) _ _ _ hv85 hX7
      have hv102 := hF _ _ (List.mem_cons_of_mem _ List.mem_cons_self)
      have hv104 := hF _ _ List.mem_cons_self
      replace hB0 := hB0.bel hX7
      replace hD8 := hD8.bel hX7
      have hb := bel_next hb hX7
      clear hF hX7
      go_wp2
      go_ret
      exact ⟨rfl, hb⟩
theorem kcoC (u1 u2 vf : Value) (l m : List Int) (xs : List Tr) (w : World) (h1 : Ks l u1 w) (h2 : Ks m u2 w) (hf : Rl xs vf w) : Calls Tryd.prog 4 #[.agg #[u1, u2], vf] w fun e w' => e = .returned (.bool true) ∧ Since w w' := by
  rcases ha : fewK l.length with _ | _
  · exact kcoa u1 u2 vf l m xs w h1 h2 hf ha
  rcases hb : fewK m.length with _ | _
  · exact kcob u1 u2 vf l m xs w h1 h2 hf ha hb
  rcases hs : fewS xs 60 with _ | _
  · exact kcoc u1 u2 vf l m xs w h1 h2 hf ha hb hs
  by_cases hc : kcE l = 0
  · by_cases hd : kcE m = 0
    · rcases hv : vds xs with _ | _
      · exact kcof u1 u2 vf l m xs w h1 h2 hf ha hb hs hc hd hv
      · by_cases hp : cpE l m = 0
        · exact kcoh u1 u2 vf l m xs w h1 h2 hf ha hb hs hc hd hv hp
        · exact kcog u1 u2 vf l m xs w h1 h2 hf ha hb hs hc hd hv hp
    · exact kcoe u1 u2 vf l m xs w h1 h2 hf ha hb hs hc hd
  · exact kcod u1 u2 vf l m xs w h1 h2 hf ha hb hs hc
end Go.Proofs.YtcpedbpldgndmaaDoor
