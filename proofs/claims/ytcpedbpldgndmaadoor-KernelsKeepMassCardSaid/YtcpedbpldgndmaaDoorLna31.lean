/-
  law 31: KernelsKeepMass, early answers.
-/
import Derived.Test.YtcpedbpldgndmaaDoorKr
import Derived.Test.YtcpedbpldgndmaaDoorS31
set_option linter.unusedSimpArgs false
set_option linter.unusedVariables false
set_option maxRecDepth 100000
set_option maxHeartbeats 1600000
namespace Go.Proofs.YtcpedbpldgndmaaDoor
open Go.RowKit
theorem rqIn {w : World} {A : Option Addr} {n c : Nat} {l : List Rat} (h : Rq l (.slice A n c) w) (hl : l.length = n) {k : Nat} (hk : k < n) : ∃ b off, A = some ⟨b, off, none⟩ ∧ b < w.heap.size ∧ Cl w b (off + k * 3) (rc (yq l k)) := by
  have h9 : Rd w 3 (.slice A n c) (l.map tr).length (fl trc (l.map tr)) := h
  rw [List.length_map, hl] at h9
  exact rqAt h9 hl hk
theorem rq_own {X : World} {base k : Nat} {v : Value} {l : List Rat} (h : X.ownsRow base 38 3 v k (fl rc l)) (hk : l.length = k) : Rq l v X := by
  have h1 : fl trc (l.map tr) = fl rc l := by
    unfold fl
    rw [List.map_map]
    rfl
  show Rd X 3 v (l.map tr).length (fl trc (l.map tr))
  rw [h1, List.length_map, hk]
  exact Rd.of_own h
theorem kkm0 (u1 vf vg : Value) (l : List Int) (xs zs : List Tr) (w : World) (h1 : Ks l u1 w) (hf : Rl xs vf w) (hg : Rl zs vg w) (HA : Hid (fewK l.length = false)) : Calls Tryd.prog 5 #[.agg #[u1], vf, vg] w fun e w' => e = .returned (.bool true) ∧ Since w w' := by
  obtain ⟨s1, s9⟩ : ∃ s, fewS xs 60 = s := ⟨_, rfl⟩
  have HS := Lib.hid s9
  clear s9
  obtain ⟨s2, s9⟩ : ∃ s, fewS zs 60 = s := ⟨_, rfl⟩
  have HT := Lib.hid s9
  clear s9
  obtain ⟨A, n, c, e1, _, _, _⟩ := h1.at
  subst e1
  obtain ⟨AF, nf, cf, e3, hlf, hnf1, hrf⟩ := hf.at
  subst e3
  obtain ⟨AG, ng, cg, e4, hlg, hng1, hrg⟩ := hg.at
  subst e4
  have H1 : Hid (∀ X, Since w X → Ks l (.slice A n c) X) := fun X h => Ks.lasts l _ _ _ h1 h
  have H3 : Hid (∀ X, Since w X → Rl xs (.slice AF nf cf) X) := fun X h => Rl.lasts xs _ _ _ hf h
  have H4 : Hid (∀ X, Since w X → Rl zs (.slice AG ng cg) X) := fun X h => Rl.lasts zs _ _ _ hg h
  have HRF : Hid (Rd w 3 (.slice AF nf cf) nf (fl trc xs)) := hrf
  have HRG : Hid (Rd w 3 (.slice AG ng cg) ng (fl trc zs)) := hrg
  have HLF := Lib.hid hlf
  have HLG := Lib.hid hlg
  clear hrf hrg hlf hlg
  go_enter Tryd.func5, Tryd.ntmps5
  go_upto_region 1 with (fail)
  obtain ⟨W0, hW0, hB0, hb⟩ := start1 w 24 [.slice A n c]
  rw [← hW0]
  clear hW0
  replace h1 := H1.out _ hb
  replace hf := H3.out _ hb
  replace hg := H4.out _ hb
  refine jp ?_
  refine jm (.slice AF nf cf) ?_
  refine jc (.bool s1) (fun X hX hF => mo (fwsV _ _ 60 X ((Rl.lasts xs) _ _ _ hf hX)) (by rw [HS.out])) ?_
  refine jm (.bool s1) ?_
  refine jz fun X1 hX1 => ?_
  replace h1 := (Ks.lasts l) _ _ _ h1 hX1
  replace hf := (Rl.lasts xs) _ _ _ hf hX1
  replace hg := (Rl.lasts zs) _ _ _ hg hX1
  replace hB0 := hB0.bel hX1
  have hb := bel_next hb hX1
  clear hX1
  go_upto_region 2 with (fail)
  refine jp ?_
  refine jm (.slice AG ng cg) ?_
  refine jc (.bool s2) (fun X hX hF => mo (fwsV _ _ 60 X ((Rl.lasts zs) _ _ _ hg hX)) (by rw [HT.out])) ?_
  refine jm (.bool s2) ?_
  refine jz fun X2 hX2 => ?_
  replace h1 := (Ks.lasts l) _ _ _ h1 hX2
  replace hf := (Rl.lasts xs) _ _ _ hf hX2
  replace hg := (Rl.lasts zs) _ _ _ hg hX2
  replace hB0 := hB0.bel hX2
  have hb := bel_next hb hX2
  clear hX2
  go_upto_region 3 with (fail)
  refine jp ?_
  refine ja hB0 Tryd.underlying24 (by rfl) info_kn ?_
  refine jc (.bool false) (fun X hX hF => mo (fewV _ l X ⟨_, rfl, ((Ks.lasts l) _ _ _ h1 hX)⟩) (by rw [HA.out])) ?_
  refine jm (.bool true) ?_
  refine jm (.bool true) ?_
  refine js ?_
  refine js ?_
  refine jm (.bool true) ?_
  refine jm (.bool true) ?_
  refine js ?_
  refine js ?_
  refine jm (.bool true) ?_
  refine jm (.bool true) ?_
  refine js ?_
  refine js ?_
  refine js ?_
  refine jm (.bool true) ?_
  refine jz fun X3 hX3 => ?_
  replace h1 := (Ks.lasts l) _ _ _ h1 hX3
  replace hf := (Rl.lasts xs) _ _ _ hf hX3
  replace hg := (Rl.lasts zs) _ _ _ hg hX3
  replace hB0 := hB0.bel hX3
  have hb := bel_next hb hX3
  clear hX3
  go_upto_region 4 with (fail)
  refine jp ?_
  refine jc (.bool true) (fun X hX hF => sanC X) ?_
  refine jm (.bool true) ?_
  refine jz fun X4 hX4 => ?_
  replace h1 := (Ks.lasts l) _ _ _ h1 hX4
  replace hf := (Rl.lasts xs) _ _ _ hf hX4
  replace hg := (Rl.lasts zs) _ _ _ hg hX4
  replace hB0 := hB0.bel hX4
  have hb := bel_next hb hX4
  clear hX4
  go_wp2
  go_ret
  exact ⟨rfl, hb⟩
theorem kkm1 (u1 vf vg : Value) (l : List Int) (xs zs : List Tr) (w : World) (h1 : Ks l u1 w) (hf : Rl xs vf w) (hg : Rl zs vg w) (HA : Hid (fewK l.length = true)) (HS : Hid (fewS xs 60 = false)) : Calls Tryd.prog 5 #[.agg #[u1], vf, vg] w fun e w' => e = .returned (.bool true) ∧ Since w w' := by
  obtain ⟨s2, s9⟩ : ∃ s, fewS zs 60 = s := ⟨_, rfl⟩
  have HT := Lib.hid s9
  clear s9
  obtain ⟨A, n, c, e1, _, _, _⟩ := h1.at
  subst e1
  obtain ⟨AF, nf, cf, e3, hlf, hnf1, hrf⟩ := hf.at
  subst e3
  obtain ⟨AG, ng, cg, e4, hlg, hng1, hrg⟩ := hg.at
  subst e4
  have H1 : Hid (∀ X, Since w X → Ks l (.slice A n c) X) := fun X h => Ks.lasts l _ _ _ h1 h
  have H3 : Hid (∀ X, Since w X → Rl xs (.slice AF nf cf) X) := fun X h => Rl.lasts xs _ _ _ hf h
  have H4 : Hid (∀ X, Since w X → Rl zs (.slice AG ng cg) X) := fun X h => Rl.lasts zs _ _ _ hg h
  have HRF : Hid (Rd w 3 (.slice AF nf cf) nf (fl trc xs)) := hrf
  have HRG : Hid (Rd w 3 (.slice AG ng cg) ng (fl trc zs)) := hrg
  have HLF := Lib.hid hlf
  have HLG := Lib.hid hlg
  clear hrf hrg hlf hlg
  go_enter Tryd.func5, Tryd.ntmps5
  go_upto_region 1 with (fail)
  obtain ⟨W0, hW0, hB0, hb⟩ := start1 w 24 [.slice A n c]
  rw [← hW0]
  clear hW0
  replace h1 := H1.out _ hb
  replace hf := H3.out _ hb
  replace hg := H4.out _ hb
  refine jp ?_
  refine jm (.slice AF nf cf) ?_
  refine jc (.bool false) (fun X hX hF => mo (fwsV _ _ 60 X ((Rl.lasts xs) _ _ _ hf hX)) (by rw [HS.out])) ?_
  refine jm (.bool false) ?_
  refine jz fun X1 hX1 => ?_
  replace h1 := (Ks.lasts l) _ _ _ h1 hX1
  replace hf := (Rl.lasts xs) _ _ _ hf hX1
  replace hg := (Rl.lasts zs) _ _ _ hg hX1
  replace hB0 := hB0.bel hX1
  have hb := bel_next hb hX1
  clear hX1
  go_upto_region 2 with (fail)
  refine jp ?_
  refine jm (.slice AG ng cg) ?_
  refine jc (.bool s2) (fun X hX hF => mo (fwsV _ _ 60 X ((Rl.lasts zs) _ _ _ hg hX)) (by rw [HT.out])) ?_
  refine jm (.bool s2) ?_
  refine jz fun X2 hX2 => ?_
  replace h1 := (Ks.lasts l) _ _ _ h1 hX2
  replace hf := (Rl.lasts xs) _ _ _ hf hX2
  replace hg := (Rl.lasts zs) _ _ _ hg hX2
  replace hB0 := hB0.bel hX2
  have hb := bel_next hb hX2
  clear hX2
  go_upto_region 3 with (fail)
  refine jp ?_
  refine ja hB0 Tryd.underlying24 (by rfl) info_kn ?_
  refine jc (.bool true) (fun X hX hF => mo (fewV _ l X ⟨_, rfl, ((Ks.lasts l) _ _ _ h1 hX)⟩) (by rw [HA.out])) ?_
  refine jm (.bool false) ?_
  refine jm (.bool false) ?_
  refine jm (.bool false) ?_
  refine jm (.bool true) ?_
  refine jm (.bool true) ?_
  refine jm (.bool true) ?_
  refine js ?_
  refine js ?_
  refine jm (.bool true) ?_
  refine jm (.bool true) ?_
  refine js ?_
  refine js ?_
  refine js ?_
  refine jm (.bool true) ?_
  refine jz fun X3 hX3 => ?_
  replace h1 := (Ks.lasts l) _ _ _ h1 hX3
  replace hf := (Rl.lasts xs) _ _ _ hf hX3
  replace hg := (Rl.lasts zs) _ _ _ hg hX3
  replace hB0 := hB0.bel hX3
  have hb := bel_next hb hX3
  clear hX3
  go_upto_region 4 with (fail)
  refine jp ?_
  refine jc (.bool true) (fun X hX hF => sanC X) ?_
  refine jm (.bool true) ?_
  refine jz fun X4 hX4 => ?_
  replace h1 := (Ks.lasts l) _ _ _ h1 hX4
  replace hf := (Rl.lasts xs) _ _ _ hf hX4
  replace hg := (Rl.lasts zs) _ _ _ hg hX4
  replace hB0 := hB0.bel hX4
  have hb := bel_next hb hX4
  clear hX4
  go_wp2
  go_ret
  exact ⟨rfl, hb⟩
theorem kkm2 (u1 vf vg : Value) (l : List Int) (xs zs : List Tr) (w : World) (h1 : Ks l u1 w) (hf : Rl xs vf w) (hg : Rl zs vg w) (HA : Hid (fewK l.length = true)) (HS : Hid (fewS xs 60 = true)) (HT : Hid (fewS zs 60 = false)) : Calls Tryd.prog 5 #[.agg #[u1], vf, vg] w fun e w' => e = .returned (.bool true) ∧ Since w w' := by
  obtain ⟨A, n, c, e1, _, _, _⟩ := h1.at
  subst e1
  obtain ⟨AF, nf, cf, e3, hlf, hnf1, hrf⟩ := hf.at
  subst e3
  obtain ⟨AG, ng, cg, e4, hlg, hng1, hrg⟩ := hg.at
  subst e4
  have H1 : Hid (∀ X, Since w X → Ks l (.slice A n c) X) := fun X h => Ks.lasts l _ _ _ h1 h
  have H3 : Hid (∀ X, Since w X → Rl xs (.slice AF nf cf) X) := fun X h => Rl.lasts xs _ _ _ hf h
  have H4 : Hid (∀ X, Since w X → Rl zs (.slice AG ng cg) X) := fun X h => Rl.lasts zs _ _ _ hg h
  have HRF : Hid (Rd w 3 (.slice AF nf cf) nf (fl trc xs)) := hrf
  have HRG : Hid (Rd w 3 (.slice AG ng cg) ng (fl trc zs)) := hrg
  have HLF := Lib.hid hlf
  have HLG := Lib.hid hlg
  clear hrf hrg hlf hlg
  go_enter Tryd.func5, Tryd.ntmps5
  go_upto_region 1 with (fail)
  obtain ⟨W0, hW0, hB0, hb⟩ := start1 w 24 [.slice A n c]
  rw [← hW0]
  clear hW0
  replace h1 := H1.out _ hb
  replace hf := H3.out _ hb
  replace hg := H4.out _ hb
  refine jp ?_
  refine jm (.slice AF nf cf) ?_
  refine jc (.bool true) (fun X hX hF => mo (fwsV _ _ 60 X ((Rl.lasts xs) _ _ _ hf hX)) (by rw [HS.out])) ?_
  refine jm (.bool true) ?_
  refine jz fun X1 hX1 => ?_
  replace h1 := (Ks.lasts l) _ _ _ h1 hX1
  replace hf := (Rl.lasts xs) _ _ _ hf hX1
  replace hg := (Rl.lasts zs) _ _ _ hg hX1
  replace hB0 := hB0.bel hX1
  have hb := bel_next hb hX1
  clear hX1
  go_upto_region 2 with (fail)
  refine jp ?_
  refine jm (.slice AG ng cg) ?_
  refine jc (.bool false) (fun X hX hF => mo (fwsV _ _ 60 X ((Rl.lasts zs) _ _ _ hg hX)) (by rw [HT.out])) ?_
  refine jm (.bool false) ?_
  refine jz fun X2 hX2 => ?_
  replace h1 := (Ks.lasts l) _ _ _ h1 hX2
  replace hf := (Rl.lasts xs) _ _ _ hf hX2
  replace hg := (Rl.lasts zs) _ _ _ hg hX2
  replace hB0 := hB0.bel hX2
  have hb := bel_next hb hX2
  clear hX2
  go_upto_region 3 with (fail)
  refine jp ?_
  refine ja hB0 Tryd.underlying24 (by rfl) info_kn ?_
  refine jc (.bool true) (fun X hX hF => mo (fewV _ l X ⟨_, rfl, ((Ks.lasts l) _ _ _ h1 hX)⟩) (by rw [HA.out])) ?_
  refine jm (.bool false) ?_
  refine jm (.bool false) ?_
  refine jm (.bool true) ?_
  refine jm (.bool false) ?_
  refine jm (.bool false) ?_
  refine jm (.bool false) ?_
  refine jm (.bool false) ?_
  refine jm (.bool true) ?_
  refine jm (.bool true) ?_
  refine jm (.bool true) ?_
  refine js ?_
  refine js ?_
  refine js ?_
  refine jm (.bool true) ?_
  refine jz fun X3 hX3 => ?_
  replace h1 := (Ks.lasts l) _ _ _ h1 hX3
  replace hf := (Rl.lasts xs) _ _ _ hf hX3
  replace hg := (Rl.lasts zs) _ _ _ hg hX3
  replace hB0 := hB0.bel hX3
  have hb := bel_next hb hX3
  clear hX3
  go_upto_region 4 with (fail)
  refine jp ?_
  refine jc (.bool true) (fun X hX hF => sanC X) ?_
  refine jm (.bool true) ?_
  refine jz fun X4 hX4 => ?_
  replace h1 := (Ks.lasts l) _ _ _ h1 hX4
  replace hf := (Rl.lasts xs) _ _ _ hf hX4
  replace hg := (Rl.lasts zs) _ _ _ hg hX4
  replace hB0 := hB0.bel hX4
  have hb := bel_next hb hX4
  clear hX4
  go_wp2
  go_ret
  exact ⟨rfl, hb⟩
theorem kkm3 (u1 vf vg : Value) (l : List Int) (xs zs : List Tr) (w : World) (h1 : Ks l u1 w) (hf : Rl xs vf w) (hg : Rl zs vg w) (HA : Hid (fewK l.length = true)) (HS : Hid (fewS xs 60 = true)) (HT : Hid (fewS zs 60 = true)) (HC : Hid (kcE l ≠ 0)) : Calls Tryd.prog 5 #[.agg #[u1], vf, vg] w fun e w' => e = .returned (.bool true) ∧ Since w w' := by
  obtain ⟨z, z9⟩ : ∃ z, kcE l = z := ⟨_, rfl⟩
  have HZ := Lib.hid z9
  have hz0 : z ≠ 0 := by rw [← z9]; exact HC.out
  clear z9
  obtain ⟨A, n, c, e1, _, _, _⟩ := h1.at
  subst e1
  obtain ⟨AF, nf, cf, e3, hlf, hnf1, hrf⟩ := hf.at
  subst e3
  obtain ⟨AG, ng, cg, e4, hlg, hng1, hrg⟩ := hg.at
  subst e4
  have H1 : Hid (∀ X, Since w X → Ks l (.slice A n c) X) := fun X h => Ks.lasts l _ _ _ h1 h
  have H3 : Hid (∀ X, Since w X → Rl xs (.slice AF nf cf) X) := fun X h => Rl.lasts xs _ _ _ hf h
  have H4 : Hid (∀ X, Since w X → Rl zs (.slice AG ng cg) X) := fun X h => Rl.lasts zs _ _ _ hg h
  have HRF : Hid (Rd w 3 (.slice AF nf cf) nf (fl trc xs)) := hrf
  have HRG : Hid (Rd w 3 (.slice AG ng cg) ng (fl trc zs)) := hrg
  have HLF := Lib.hid hlf
  have HLG := Lib.hid hlg
  clear hrf hrg hlf hlg
  go_enter Tryd.func5, Tryd.ntmps5
  go_upto_region 1 with (fail)
  obtain ⟨W0, hW0, hB0, hb⟩ := start1 w 24 [.slice A n c]
  rw [← hW0]
  clear hW0
  replace h1 := H1.out _ hb
  replace hf := H3.out _ hb
  replace hg := H4.out _ hb
  refine jp ?_
  refine jm (.slice AF nf cf) ?_
  refine jc (.bool true) (fun X hX hF => mo (fwsV _ _ 60 X ((Rl.lasts xs) _ _ _ hf hX)) (by rw [HS.out])) ?_
  refine jm (.bool true) ?_
  refine jz fun X1 hX1 => ?_
  replace h1 := (Ks.lasts l) _ _ _ h1 hX1
  replace hf := (Rl.lasts xs) _ _ _ hf hX1
  replace hg := (Rl.lasts zs) _ _ _ hg hX1
  replace hB0 := hB0.bel hX1
  have hb := bel_next hb hX1
  clear hX1
  go_upto_region 2 with (fail)
  refine jp ?_
  refine jm (.slice AG ng cg) ?_
  refine jc (.bool true) (fun X hX hF => mo (fwsV _ _ 60 X ((Rl.lasts zs) _ _ _ hg hX)) (by rw [HT.out])) ?_
  refine jm (.bool true) ?_
  refine jz fun X2 hX2 => ?_
  replace h1 := (Ks.lasts l) _ _ _ h1 hX2
  replace hf := (Rl.lasts xs) _ _ _ hf hX2
  replace hg := (Rl.lasts zs) _ _ _ hg hX2
  replace hB0 := hB0.bel hX2
  have hb := bel_next hb hX2
  clear hX2
  go_upto_region 3 with (fail)
  refine jp ?_
  refine ja hB0 Tryd.underlying24 (by rfl) info_kn ?_
  refine jc (.bool true) (fun X hX hF => mo (fewV _ l X ⟨_, rfl, ((Ks.lasts l) _ _ _ h1 hX)⟩) (by rw [HA.out])) ?_
  refine jm (.bool false) ?_
  refine jm (.bool false) ?_
  refine jm (.bool true) ?_
  refine jm (.bool false) ?_
  refine jm (.bool false) ?_
  refine jm (.bool false) ?_
  refine jm (.bool true) ?_
  refine jm (.bool false) ?_
  refine jm (.bool false) ?_
  refine jm (.bool false) ?_
  refine ja hB0 Tryd.underlying24 (by rfl) info_kn ?_
  refine jc (.int .i64 z) (fun X hX hF => kchV _ l X ⟨_, rfl, ((Ks.lasts l) _ _ _ h1 hX)⟩ HZ.out) ?_
  refine jv (.bool true) (exec_nei _ _ _ _ (by rfl) .i64 z 0 (by rfl) (by rfl) true (by rw [decide_eq_false (by omega)]; rfl)) ?_
  refine jm (.bool true) ?_
  refine jz fun X3 hX3 => ?_
  replace h1 := (Ks.lasts l) _ _ _ h1 hX3
  replace hf := (Rl.lasts xs) _ _ _ hf hX3
  replace hg := (Rl.lasts zs) _ _ _ hg hX3
  replace hB0 := hB0.bel hX3
  have hb := bel_next hb hX3
  clear hX3
  go_upto_region 4 with (fail)
  refine jp ?_
  refine jc (.bool true) (fun X hX hF => sanC X) ?_
  refine jm (.bool true) ?_
  refine jz fun X4 hX4 => ?_
  replace h1 := (Ks.lasts l) _ _ _ h1 hX4
  replace hf := (Rl.lasts xs) _ _ _ hf hX4
  replace hg := (Rl.lasts zs) _ _ _ hg hX4
  replace hB0 := hB0.bel hX4
  have hb := bel_next hb hX4
  clear hX4
  go_wp2
  go_ret
  exact ⟨rfl, hb⟩
theorem kkm4 (u1 vf vg : Value) (l : List Int) (xs zs : List Tr) (w : World) (h1 : Ks l u1 w) (hf : Rl xs vf w) (hg : Rl zs vg w) (HA : Hid (fewK l.length = true)) (HS : Hid (fewS xs 60 = true)) (HT : Hid (fewS zs 60 = true)) (HC : Hid (kcE l = 0)) (HV : Hid (vds xs = false)) : Calls Tryd.prog 5 #[.agg #[u1], vf, vg] w fun e w' => e = .returned (.bool true) ∧ Since w w' := by
  have HKL : Hid (Kok l) := kcE_ok.1 HC.out
  have hl30 := few_len HKL.out HA.out
  have hxs60 : xs.length ≤ 60 := (fewS_t HS.out).1
  have hzs60 : zs.length ≤ 60 := (fewS_t HT.out).1
  obtain ⟨A, n, c, e1, _, _, _⟩ := h1.at
  subst e1
  obtain ⟨AF, nf, cf, e3, hlf, hnf1, hrf⟩ := hf.at
  subst e3
  obtain ⟨AG, ng, cg, e4, hlg, hng1, hrg⟩ := hg.at
  subst e4
  have H1 : Hid (∀ X, Since w X → Ks l (.slice A n c) X) := fun X h => Ks.lasts l _ _ _ h1 h
  have H3 : Hid (∀ X, Since w X → Rl xs (.slice AF nf cf) X) := fun X h => Rl.lasts xs _ _ _ hf h
  have H4 : Hid (∀ X, Since w X → Rl zs (.slice AG ng cg) X) := fun X h => Rl.lasts zs _ _ _ hg h
  have HRF : Hid (Rd w 3 (.slice AF nf cf) nf (fl trc xs)) := hrf
  have HRG : Hid (Rd w 3 (.slice AG ng cg) ng (fl trc zs)) := hrg
  have HLF := Lib.hid hlf
  have HLG := Lib.hid hlg
  clear hrf hrg hlf hlg
  go_enter Tryd.func5, Tryd.ntmps5
  go_upto_region 1 with (fail)
  obtain ⟨W0, hW0, hB0, hb⟩ := start1 w 24 [.slice A n c]
  rw [← hW0]
  clear hW0
  replace h1 := H1.out _ hb
  replace hf := H3.out _ hb
  replace hg := H4.out _ hb
  refine jp ?_
  refine jm (.slice AF nf cf) ?_
  refine jc (.bool true) (fun X hX hF => mo (fwsV _ _ 60 X ((Rl.lasts xs) _ _ _ hf hX)) (by rw [HS.out])) ?_
  refine jm (.bool true) ?_
  refine jz fun X1 hX1 => ?_
  replace h1 := (Ks.lasts l) _ _ _ h1 hX1
  replace hf := (Rl.lasts xs) _ _ _ hf hX1
  replace hg := (Rl.lasts zs) _ _ _ hg hX1
  replace hB0 := hB0.bel hX1
  have hb := bel_next hb hX1
  clear hX1
  go_upto_region 2 with (fail)
  refine jp ?_
  refine jm (.slice AG ng cg) ?_
  refine jc (.bool true) (fun X hX hF => mo (fwsV _ _ 60 X ((Rl.lasts zs) _ _ _ hg hX)) (by rw [HT.out])) ?_
  refine jm (.bool true) ?_
  refine jz fun X2 hX2 => ?_
  replace h1 := (Ks.lasts l) _ _ _ h1 hX2
  replace hf := (Rl.lasts xs) _ _ _ hf hX2
  replace hg := (Rl.lasts zs) _ _ _ hg hX2
  replace hB0 := hB0.bel hX2
  have hb := bel_next hb hX2
  clear hX2
  go_upto_region 3 with (fail)
  refine jp ?_
  refine ja hB0 Tryd.underlying24 (by rfl) info_kn ?_
  refine jc (.bool true) (fun X hX hF => mo (fewV _ l X ⟨_, rfl, ((Ks.lasts l) _ _ _ h1 hX)⟩) (by rw [HA.out])) ?_
  refine jm (.bool false) ?_
  refine jm (.bool false) ?_
  refine jm (.bool true) ?_
  refine jm (.bool false) ?_
  refine jm (.bool false) ?_
  refine jm (.bool false) ?_
  refine jm (.bool true) ?_
  refine jm (.bool false) ?_
  refine jm (.bool false) ?_
  refine jm (.bool false) ?_
  refine ja hB0 Tryd.underlying24 (by rfl) info_kn ?_
  refine jc (.int .i64 0) (fun X hX hF => kchV _ l X ⟨_, rfl, ((Ks.lasts l) _ _ _ h1 hX)⟩ HC.out) ?_
  refine jv (.bool false) (exec_nei _ _ _ _ (by rfl) .i64 0 0 (by rfl) (by rfl) false (by rw [decide_eq_true (by omega)]; rfl)) ?_
  refine jm (.bool false) ?_
  refine jz fun X3 hX3 => ?_
  replace h1 := (Ks.lasts l) _ _ _ h1 hX3
  replace hf := (Rl.lasts xs) _ _ _ hf hX3
  replace hg := (Rl.lasts zs) _ _ _ hg hX3
  replace hB0 := hB0.bel hX3
  have hb := bel_next hb hX3
  clear hX3
  go_upto_region 5 with (fail)
  refine jp ?_
  refine ja hB0 Tryd.underlying24 (by rfl) info_kn ?_
  refine jm (.slice AF nf cf) ?_
  refine jc (.tuple #[.slice none 0 0, .int .i64 1]) (fun X hX hF => rteVI _ _ l xs X ⟨_, rfl, ((Ks.lasts l) _ _ _ h1 hX)⟩ ((Rl.lasts xs) _ _ _ hf hX) HKL.out (by omega) (fun k _ => ((fewS_t HS.out).2 k).mono (by decide)) HV.out) ?_
  refine jm (.tuple #[.slice none 0 0, .int .i64 1]) ?_
  refine jm (.slice none 0 0) ?_
  refine jm (.int .i64 1) ?_
  refine jm (.slice none 0 0) ?_
  refine jm (.int .i64 1) ?_
  refine jz fun X4 hX4 => ?_
  replace h1 := (Ks.lasts l) _ _ _ h1 hX4
  replace hf := (Rl.lasts xs) _ _ _ hf hX4
  replace hg := (Rl.lasts zs) _ _ _ hg hX4
  replace hB0 := hB0.bel hX4
  have hb := bel_next hb hX4
  clear hX4
  go_upto_region 6 with (fail)
  refine jp ?_
  refine jm (.bool false) ?_
  refine jz fun X5 hX5 => ?_
  replace h1 := (Ks.lasts l) _ _ _ h1 hX5
  replace hf := (Rl.lasts xs) _ _ _ hf hX5
  replace hg := (Rl.lasts zs) _ _ _ hg hX5
  replace hB0 := hB0.bel hX5
  have hb := bel_next hb hX5
  clear hX5
  go_upto_region 7 with (fail)
  refine jp ?_
  refine jm (.slice AF nf cf) ?_
  refine jv (.int .i64 (nf : Int)) (exec_lenv Tryd.underlying43 _ (by rfl) AF nf cf (by rfl) _ rfl) ?_
  refine jm (.int .i64 0) ?_
  refine jz fun X6 hX6 => ?_
  replace h1 := (Ks.lasts l) _ _ _ h1 hX6
  replace hf := (Rl.lasts xs) _ _ _ hf hX6
  replace hg := (Rl.lasts zs) _ _ _ hg hX6
  replace hB0 := hB0.bel hX6
  have hb := bel_next hb hX6
  clear hX6
  go_wp2
  go_loopw [11, 58] (fun bv kv wr => ∃ (k : Nat) (nb : Bool), k ≤ nf ∧ bv = .bool nb ∧ kv = .int .i64 (k : Int) ∧ Hid (∀ j, j < k → vd (xt xs j).1 (xt xs j).2.1 (xt xs j).2.2 = true) ∧ Hid (nb = false → ∀ j, j < k → (xt xs j).1 = false) ∧ Blk wr w.heap.size 24 [.slice A n c] ∧ Below w.heap.size w wr) (fun _ kv _ => nf - (intOf kv).toNat)
  case atStart => exact ⟨0, false, by omega, rfl, rfl, (fun j hj => by omega), (fun _ j hj => by omega), hB0, hb⟩
  case round =>
    clear hB0 hb
    obtain ⟨k, nb, hk, rfl, rfl, HZ, HN, hB0, hb⟩ := hrel
    replace h1 := H1.out _ hb
    replace hg := H4.out _ hb
    rcases Nat.lt_or_ge k nf with hlt | hlt
    · obtain ⟨b, off, rfl, hbb, hcx⟩ := Rl.xtAt HRF.out HLF.out hlt
      have hcx := hcx.below hb hbb
      replace hbb := Nat.lt_of_lt_of_le hbb hb.size
      obtain ⟨x, x9⟩ : ∃ x, x = xt xs k := ⟨_, rfl⟩
      have HX := Lib.hid x9
      clear x9
      rw [← HX.out] at hcx
      have hx : tz x.2.1 x.2.2 20 := by rw [HX.out]; exact (fewS_t HS.out).2 k
      go_upto_region 8 with (fail)
      refine jp ?_
      refine jv (.bool true) (exec_lss _ _ _ _ (by rfl) .i64 (k : Int) (nf : Int) (by rfl) (by rfl) true (decide_eq_true (by omega))) ?_
      refine jz fun X1 hX1 => ?_
      replace h1 := (Ks.lasts l) _ _ _ h1 hX1
      replace hg := (Rl.lasts zs) _ _ _ hg hX1
      replace hB0 := hB0.bel hX1
      have hcx := hcx.below hX1 hbb
      replace hbb := Nat.lt_of_lt_of_le hbb (hX1).size
      have hb := bel_next hb hX1
      clear hX1
      go_upto_region 9 with (fail)
      refine jq 2 ?_
      refine jv (.pointer (some ⟨b, off + k * 3, none⟩)) (exec_ixv Tryd.underlying43 info_rat _ _ (by rfl) b (off) nf cf k (by omega) (by rfl) (by rfl) rfl) ?_
      refine jg (.agg #[.bool x.1, st x.2.1, st x.2.2]) (fun X hX hF => exec_ldc 38 _ (by rfl) b (off + k * 3) (by rfl) Tryd.underlying38 rfl [.bool x.1, .string ⟨x.2.1.toArray⟩, .string ⟨x.2.2.toArray⟩] X (Cl.part (hcx.below hX hbb) 0 _ (by rfl)) info_rat) ?_
      refine jz fun X2 hX2 => ?_
      replace h1 := (Ks.lasts l) _ _ _ h1 hX2
      replace hg := (Rl.lasts zs) _ _ _ hg hX2
      replace hB0 := hB0.bel hX2
      have hcx := hcx.below hX2 hbb
      replace hbb := Nat.lt_of_lt_of_le hbb (hX2).size
      have hb := bel_next hb hX2
      clear hX2
      go_upto_region 10 with (refine osn 38 13 61 #[.bool x.1, .string ⟨x.2.1.toArray⟩, .string ⟨x.2.2.toArray⟩] info_rat ?_)
      obtain ⟨Y2, hY9, hD13, hS9⟩ := start1 X2 38 [.bool x.1, .string ⟨x.2.1.toArray⟩, .string ⟨x.2.2.toArray⟩]
      rw [← hY9]
      clear hY9
      have hgs13 := hb.size
      have hlt13x0 := hB0.lt
      have hcx := hcx.below hS9 hbb
      replace hbb := Nat.lt_of_lt_of_le hbb (hS9).size
      have hB0 := hB0.bel hS9
      have h1 := (Ks.lasts l) _ _ _ h1 hS9
      have hg := (Rl.lasts zs) _ _ _ hg hS9
      have hb := bel_next hb hS9
      clear hS9
      generalize X2.heap.size = g13 at *
      rcases hvx : vd x.1 x.2.1 x.2.2 with _ | _
      · have HVX := Lib.hid hvx
        refine jp ?_
        refine ja hD13 Tryd.underlying38 (by rfl) info_rat ?_
        refine jc (.bool false) (fun X hX hF => mo (validG x.1 x.2.1 x.2.2 X (hx.mono (by omega))) (by rw [HVX.out])) ?_
        refine jm (.bool true) ?_
        refine jz fun X3 hX3 => ?_
        replace h1 := (Ks.lasts l) _ _ _ h1 hX3
        replace hg := (Rl.lasts zs) _ _ _ hg hX3
        replace hB0 := hB0.bel hX3
        replace hD13 := hD13.bel hX3
        have hb := bel_next hb hX3
        clear hX3
        go_upto_region 11 with (fail)
        refine jp ?_
        refine jc (.bool true) (fun X hX hF => sanC X) ?_
        refine jm (.bool true) ?_
        refine jm (.int .i64 1) ?_
        refine jv (.bool true) (exec_eqi _ _ _ _ (by rfl) .i64 1 1 (by rfl) (by rfl) true (decide_eq_true (by omega))) ?_
        refine jm (.bool true) ?_
        refine jm (.bool true) ?_
        refine jz fun X4 hX4 => ?_
        replace h1 := (Ks.lasts l) _ _ _ h1 hX4
        replace hg := (Rl.lasts zs) _ _ _ hg hX4
        replace hB0 := hB0.bel hX4
        replace hD13 := hD13.bel hX4
        have hb := bel_next hb hX4
        clear hX4
        go_wp2
        go_ret
        exact ⟨rfl, hb⟩
      · have HVX := Lib.hid hvx
        refine jp ?_
        refine ja hD13 Tryd.underlying38 (by rfl) info_rat ?_
        refine jc (.bool true) (fun X hX hF => mo (validG x.1 x.2.1 x.2.2 X (hx.mono (by omega))) (by rw [HVX.out])) ?_
        refine jm (.bool false) ?_
        refine jz fun X3 hX3 => ?_
        replace h1 := (Ks.lasts l) _ _ _ h1 hX3
        replace hg := (Rl.lasts zs) _ _ _ hg hX3
        replace hB0 := hB0.bel hX3
        replace hD13 := hD13.bel hX3
        have hb := bel_next hb hX3
        clear hX3
        have HZ2 : Hid (∀ j, j < k + 1 → vd (xt xs j).1 (xt xs j).2.1 (xt xs j).2.2 = true) := fun j hj => by
          rcases Nat.lt_or_ge j k with h9 | h9
          · exact HZ.out j h9
          · rw [show j = k by omega, ← HX.out]; exact HVX.out
        cases nb
        · have HN2 : Hid (x.1 = false → ∀ j, j < k + 1 → (xt xs j).1 = false) := fun h8 j hj => by
            rcases Nat.lt_or_ge j k with h9 | h9
            · exact HN.out rfl j h9
            · rw [show j = k by omega, ← HX.out]; exact h8
          go_upto_region 12 with (fail)
          refine jp ?_
          refine jm (.bool false) ?_
          refine jm (.bool false) ?_
          refine jn (.pointer (some ⟨g13, 0, none⟩)) ?_
          refine jf (.bool x.1) hD13 0 load_bool ?_
          refine jm (.bool x.1) ?_
          refine jm (.bool x.1) ?_
          refine jz fun X4 hX4 => ?_
          replace h1 := (Ks.lasts l) _ _ _ h1 hX4
          replace hg := (Rl.lasts zs) _ _ _ hg hX4
          replace hB0 := hB0.bel hX4
          replace hD13 := hD13.bel hX4
          have hb := bel_next hb hX4
          clear hX4
          go_upto_region 13 with (fail)
          refine jp ?_
          refine jv (.int .i64 ((k + 1 : Nat) : Int)) (exec_add _ _ _ _ (by rfl) (k : Int) 1 ((k + 1 : Nat) : Int) (by rfl) (by rfl) (by omega) (by omega) (by omega)) ?_
          refine jm (.int .i64 ((k + 1 : Nat) : Int)) ?_
          refine jz fun X5 hX5 => ?_
          replace h1 := (Ks.lasts l) _ _ _ h1 hX5
          replace hg := (Rl.lasts zs) _ _ _ hg hX5
          replace hB0 := hB0.bel hX5
          replace hD13 := hD13.bel hX5
          have hb := bel_next hb hX5
          clear hX5
          go_wp2
          go_roundw
          case rel => exact ⟨k + 1, x.1, by omega, rfl, rfl, HZ2, HN2, hB0, hb⟩
          case measure => simp [intOf]; omega
        · have HN2 : Hid (true = false → ∀ j, j < k + 1 → (xt xs j).1 = false) := fun h8 => by cases h8
          go_upto_region 12 with (fail)
          refine jp ?_
          refine jm (.bool true) ?_
          refine jm (.bool true) ?_
          refine js ?_
          refine js ?_
          refine jm (.bool true) ?_
          refine jm (.bool true) ?_
          refine jz fun X4 hX4 => ?_
          replace h1 := (Ks.lasts l) _ _ _ h1 hX4
          replace hg := (Rl.lasts zs) _ _ _ hg hX4
          replace hB0 := hB0.bel hX4
          replace hD13 := hD13.bel hX4
          have hb := bel_next hb hX4
          clear hX4
          go_upto_region 13 with (fail)
          refine jp ?_
          refine jv (.int .i64 ((k + 1 : Nat) : Int)) (exec_add _ _ _ _ (by rfl) (k : Int) 1 ((k + 1 : Nat) : Int) (by rfl) (by rfl) (by omega) (by omega) (by omega)) ?_
          refine jm (.int .i64 ((k + 1 : Nat) : Int)) ?_
          refine jz fun X5 hX5 => ?_
          replace h1 := (Ks.lasts l) _ _ _ h1 hX5
          replace hg := (Rl.lasts zs) _ _ _ hg hX5
          replace hB0 := hB0.bel hX5
          replace hD13 := hD13.bel hX5
          have hb := bel_next hb hX5
          clear hX5
          go_wp2
          go_roundw
          case rel => exact ⟨k + 1, true, by omega, rfl, rfl, HZ2, HN2, hB0, hb⟩
          case measure => simp [intOf]; omega
    · obtain rfl : nf = k := by omega
      exfalso
      have h9 := HV.out
      have h8 : vds xs = true := List.all_eq_true.2 fun t ht => by
        obtain ⟨i, hi, rfl⟩ := List.getElem_of_mem ht
        rw [← xt_in hi]
        exact HZ.out i (by rw [← HLF.out]; exact hi)
      rw [h8] at h9
      cases h9
end Go.Proofs.YtcpedbpldgndmaaDoor
