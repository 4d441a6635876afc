/-
  law 31: sanity.
-/
import Derived.Test.YtcpedbpldgndmaaDoorKy
import Derived.Test.YtcpedbpldgndmaaDoorLlz
set_option linter.unusedSimpArgs false
set_option linter.unusedVariables false
set_option maxRecDepth 100000
set_option maxHeartbeats 1600000
namespace Go.Proofs.YtcpedbpldgndmaaDoor
open Go.RowKit
def eA : List Int := [1, 2, 1]
def eB : List Int := [2, 4, 2, 0]
def eC : List Int := [3, 0, 1]
def eM : List Int := [1, 4, 6, 4, 1]
def eD : List Int := [0, 0, 1]
def eL : List Int := [0, 0, 1, 2, 1]
def eQ : List Int := [3, 6, 4, 2, 1]
def eZ : List Int := [0, 0]
def eI : List Rat := [ri 4, ri 8]
def eO : List Rat := [ri 1, ri 4, ri 5, ri 2]
def eP : List Wp := [(8, 9, 1), (9, 11, 3), (11, 12, 1)]
theorem okA : Kok eA := kcE_ok.1 (by decide)
theorem okB : Kok eB := kcE_ok.1 (by decide)
theorem okC : Kok eC := kcE_ok.1 (by decide)
theorem okD : Kok eD := kcE_ok.1 (by decide)
theorem okQ : Kok eQ := kcE_ok.1 (by decide)
theorem ofK (v : Value) (l : List Int) (w : World) (h : Ks l v w) : Calls Tryd.prog 28 #[v] w fun e w' => e = .returned (.agg #[v]) ∧ Since w w' := by
  obtain ⟨A, c, hv, _⟩ := h
  exact ofV v A _ c w hv
theorem sz_ri2 : ∀ k, szR (yq eI k) 7 := fun k => by
  rcases k with _ | _ | k
  · exact szR_int (n := 4) (by decide)
  · exact szR_int (n := 8) (by decide)
  · rw [yq_out (by show 2 ≤ _; omega)]
    exact szR_zero.mono (by omega)
theorem sanC (w : World) : Calls Tryd.prog 9 #[] w fun e w' => e = .returned (.bool true) ∧ Since w w' := by
  go_enter Tryd.func9, Tryd.ntmps9
  have hb : Below w.heap.size w w := Below.refl _ _
  go_upto_region 1 with (fail)
  refine lx_plain_to 2 [some (Ks eA)] (lasts_some (Ks.lasts _) (lasts_nil)) ?_
  simp only [its, List.take, List.drop, Nat.zero_add, Nat.reduceAdd]
  refine lx_new (by rfl) (fun X hX hF => Ks.mk eA 3 rfl (by decide) (by unfold execOp eA; go_simp)) ?_
  intro v28
  simp only [pX]
  refine jc (.agg #[v28]) (fun X hX hF => ofK _ eA X (hF _ _ List.mem_cons_self rfl)) ?_
  refine lx_nil ?_
  intro X1 hX1 hF
  have hv28 := hF _ _ List.mem_cons_self
  have hb := bel_next hb hX1
  clear hF hX1
  obtain ⟨A28, c28, f28, q28⟩ := hv28
  subst f28
  have hv28 : Ks eA (.slice A28 (eA).length c28) X1 := ⟨_, _, rfl, q28⟩
  clear q28
  go_upto_region 2 with (refine osn 24 1 29 #[.slice A28 (eA).length c28] info_kn ?_)
  obtain ⟨Y1, hY9, hD1, hS9⟩ := start1 X1 24 [.slice A28 (eA).length c28]
  rw [← hY9]
  clear hY9
  have hgs1 := hb.size
  replace hv28 := (Ks.lasts eA) _ _ _ hv28 hS9
  have hb := bel_next hb hS9
  clear hS9
  generalize X1.heap.size = g1 at *
  refine jp ?_
  refine ja hD1 Tryd.underlying24 (by rfl) info_kn ?_
  refine jc (.tuple #[.int .i64 4, .int .i64 0]) (fun X hX hF => mo (ttlV _ eA X ⟨_, rfl, ((Ks.lasts eA) _ _ _ hv28 hX)⟩ okA) (by rw [(show tot eA = 4 by decide)])) ?_
  refine jm (.tuple #[.int .i64 4, .int .i64 0]) ?_
  refine jm (.int .i64 4) ?_
  refine jm (.int .i64 0) ?_
  refine jm (.int .i64 4) ?_
  refine jm (.int .i64 0) ?_
  refine jz fun X2 hX2 => ?_
  replace hv28 := (Ks.lasts eA) _ _ _ hv28 hX2
  replace hD1 := hD1.bel hX2
  have hb := bel_next hb hX2
  clear hX2
  go_upto_region 3 with (fail)
  refine jq 5 ?_
  refine ja hD1 Tryd.underlying24 (by rfl) info_kn ?_
  refine jc (.tuple #[rt (rN (mean eA)) (rP (mean eA)) (rD (mean eA)), .int .i64 0]) (fun X hX hF => meaV _ eA X ⟨_, rfl, ((Ks.lasts eA) _ _ _ hv28 hX)⟩ okA) ?_
  refine jm (.tuple #[rt (rN (mean eA)) (rP (mean eA)) (rD (mean eA)), .int .i64 0]) ?_
  refine jm (rt (rN (mean eA)) (rP (mean eA)) (rD (mean eA))) ?_
  refine jm (.int .i64 0) ?_
  refine jz fun X3 hX3 => ?_
  replace hv28 := (Ks.lasts eA) _ _ _ hv28 hX3
  replace hD1 := hD1.bel hX3
  have hb := bel_next hb hX3
  clear hX3
  go_upto_region 4 with (refine osn 38 4 38 #[.bool (rN (mean eA)), .string ⟨(rP (mean eA)).toArray⟩, .string ⟨(rD (mean eA)).toArray⟩] info_rat ?_)
  obtain ⟨Y3, hY9, hD4, hS9⟩ := start1 X3 38 [.bool (rN (mean eA)), .string ⟨(rP (mean eA)).toArray⟩, .string ⟨(rD (mean eA)).toArray⟩]
  rw [← hY9]
  clear hY9
  have hgs4 := hb.size
  have hlt4x0 := hD1.lt
  have hD1 := hD1.bel hS9
  have hv28 := (Ks.lasts eA) _ _ _ hv28 hS9
  have hb := bel_next hb hS9
  clear hS9
  generalize X3.heap.size = g4 at *
  refine lx_plain_to 6 [some (Ks eB), none, some (Tp (Kn eA) 0), none, some (Kn eA)] (lasts_some (Ks.lasts _) (lasts_none (lasts_some (Tp.lasts (Kn.lasts eA) _) (lasts_none (lasts_some (Kn.lasts eA) (lasts_nil)))))) ?_
  simp only [its, List.take, List.drop, Nat.zero_add, Nat.reduceAdd]
  refine lx_new (by rfl) (fun X hX hF => Ks.mk eB 4 rfl (by decide) (by unfold execOp eB; go_simp)) ?_
  intro v41
  simp only [pX]
  refine jc (.agg #[v41]) (fun X hX hF => ofK _ eB X (hF _ _ List.mem_cons_self rfl)) ?_
  refine jk (fun X hX hF => (rduV _ eB X ⟨_, rfl, (hF _ _ List.mem_cons_self rfl)⟩ okB).mono fun e X' ⟨v9, h1, h2, h3⟩ => ⟨v9, h1, by rw [(show red eB = eA by decide)] at h2; exact h2, h3⟩) ?_
  intro v43
  refine jm (v43) ?_
  refine lx_new (by rfl) (fun X hX hF => by obtain ⟨u9, h9, h8⟩ := (hF _ _ List.mem_cons_self rfl); subst h9; exact ⟨u9, X, rfl, h8, Below.refl _ _⟩) ?_
  intro v44
  simp only [pX]
  refine jg (.int .i64 0) (fun X hX hF => by obtain ⟨u9, h9, _⟩ := (hF _ _ (List.mem_cons_of_mem _ List.mem_cons_self) rfl); subst h9; rfl) ?_
  refine lx_nil ?_
  intro X4 hX4 hF
  replace hv28 := (Ks.lasts eA) _ _ _ hv28 hX4
  have hv41 := hF _ _ (List.mem_cons_of_mem _ (List.mem_cons_of_mem _ List.mem_cons_self))
  have hv43 := hF _ _ (List.mem_cons_of_mem _ List.mem_cons_self)
  have hv44 := hF _ _ List.mem_cons_self
  replace hD1 := hD1.bel hX4
  replace hD4 := hD4.bel hX4
  have hb := bel_next hb hX4
  clear hF hX4
  obtain ⟨u44, e44, A44, c44, f44, q44⟩ := hv44
  subst f44
  subst e44
  have hv44 : Ks eA (.slice A44 (eA).length c44) X4 := ⟨_, _, rfl, q44⟩
  clear q44
  go_upto_region 5 with (refine osn 24 6 44 #[.slice A44 (eA).length c44] info_kn ?_)
  obtain ⟨Y4, hY9, hD6, hS9⟩ := start1 X4 24 [.slice A44 (eA).length c44]
  rw [← hY9]
  clear hY9
  have hgs6 := hb.size
  have hlt6x0 := hD1.lt
  have hlt6x1 := hD4.lt
  replace hD1 := hD1.bel hS9
  replace hD4 := hD4.bel hS9
  replace hv28 := (Ks.lasts eA) _ _ _ hv28 hS9
  replace hv41 := (Ks.lasts _) _ _ _ hv41 hS9
  replace hv43 := (Tp.lasts (Kn.lasts eA) _) _ _ _ hv43 hS9
  replace hv44 := (Ks.lasts eA) _ _ _ hv44 hS9
  have hb := bel_next hb hS9
  clear hS9
  generalize X4.heap.size = g6 at *
  refine lx_plain_to 6 [none, none, some (Tp (Kn eM) 0), none, some (Kn eM)] (lasts_none (lasts_none (lasts_some (Tp.lasts (Kn.lasts eM) _) (lasts_none (lasts_some (Kn.lasts eM) (lasts_nil)))))) ?_
  simp only [its, List.take, List.drop, Nat.zero_add, Nat.reduceAdd]
  refine ja hD1 Tryd.underlying24 (by rfl) info_kn ?_
  refine ja hD1 Tryd.underlying24 (by rfl) info_kn ?_
  refine jk (fun X hX hF => (cpV _ _ eA eA X ⟨_, rfl, ((Ks.lasts eA) _ _ _ hv28 hX)⟩ ⟨_, rfl, ((Ks.lasts eA) _ _ _ hv28 hX)⟩ okA okA (by decide)).mono fun e X' ⟨v9, h1, h2, h3⟩ => ⟨v9, h1, by rw [(show cpK eA eA = eM by decide)] at h2; exact h2, h3⟩) ?_
  intro v49
  refine jm (v49) ?_
  refine lx_new (by rfl) (fun X hX hF => by obtain ⟨u9, h9, h8⟩ := (hF _ _ List.mem_cons_self rfl); subst h9; exact ⟨u9, X, rfl, h8, Below.refl _ _⟩) ?_
  intro v50
  simp only [pX]
  refine jg (.int .i64 0) (fun X hX hF => by obtain ⟨u9, h9, _⟩ := (hF _ _ (List.mem_cons_of_mem _ List.mem_cons_self) rfl); subst h9; rfl) ?_
  refine lx_nil ?_
  intro X5 hX5 hF
  replace hv28 := (Ks.lasts eA) _ _ _ hv28 hX5
  replace hv41 := (Ks.lasts _) _ _ _ hv41 hX5
  replace hv43 := (Tp.lasts (Kn.lasts eA) _) _ _ _ hv43 hX5
  replace hv44 := (Ks.lasts eA) _ _ _ hv44 hX5
  have hv49 := hF _ _ (List.mem_cons_of_mem _ List.mem_cons_self)
  have hv50 := hF _ _ List.mem_cons_self
  replace hD1 := hD1.bel hX5
  replace hD4 := hD4.bel hX5
  replace hD6 := hD6.bel hX5
  have hb := bel_next hb hX5
  clear hF hX5
  obtain ⟨u50, e50, A50, c50, f50, q50⟩ := hv50
  subst f50
  subst e50
  have hv50 : Ks eM (.slice A50 (eM).length c50) X5 := ⟨_, _, rfl, q50⟩
  clear q50
  go_upto_region 6 with (refine osn 24 8 50 #[.slice A50 (eM).length c50] info_kn ?_)
  obtain ⟨Y5, hY9, hD8, hS9⟩ := start1 X5 24 [.slice A50 (eM).length c50]
  rw [← hY9]
  clear hY9
  have hgs8 := hb.size
  have hlt8x0 := hD1.lt
  have hlt8x1 := hD4.lt
  have hlt8x2 := hD6.lt
  replace hD1 := hD1.bel hS9
  replace hD4 := hD4.bel hS9
  replace hD6 := hD6.bel hS9
  replace hv28 := (Ks.lasts eA) _ _ _ hv28 hS9
  replace hv41 := (Ks.lasts _) _ _ _ hv41 hS9
  replace hv43 := (Tp.lasts (Kn.lasts eA) _) _ _ _ hv43 hS9
  replace hv44 := (Ks.lasts eA) _ _ _ hv44 hS9
  replace hv49 := (Tp.lasts (Kn.lasts eM) _) _ _ _ hv49 hS9
  replace hv50 := (Ks.lasts eM) _ _ _ hv50 hS9
  have hb := bel_next hb hS9
  clear hS9
  generalize X5.heap.size = g8 at *
  refine lx_plain_to 4 [some (Tp (Kn eD) 0), none, some (Kn eD)] (lasts_some (Tp.lasts (Kn.lasts eD) _) (lasts_none (lasts_some (Kn.lasts eD) (lasts_nil)))) ?_
  simp only [its, List.take, List.drop, Nat.zero_add, Nat.reduceAdd]
  refine jk (fun X hX hF => (dlyV 2 X (by decide)).mono fun e X' ⟨v9, h1, h2, h3⟩ => ⟨v9, h1, by rw [(show dly 2 = eD by decide)] at h2; exact h2, h3⟩) ?_
  intro v53
  refine jm (v53) ?_
  refine lx_new (by rfl) (fun X hX hF => by obtain ⟨u9, h9, h8⟩ := (hF _ _ List.mem_cons_self rfl); subst h9; exact ⟨u9, X, rfl, h8, Below.refl _ _⟩) ?_
  intro v54
  simp only [pX]
  refine jg (.int .i64 0) (fun X hX hF => by obtain ⟨u9, h9, _⟩ := (hF _ _ (List.mem_cons_of_mem _ List.mem_cons_self) rfl); subst h9; rfl) ?_
  refine lx_nil ?_
  intro X6 hX6 hF
  replace hv28 := (Ks.lasts eA) _ _ _ hv28 hX6
  replace hv41 := (Ks.lasts _) _ _ _ hv41 hX6
  replace hv43 := (Tp.lasts (Kn.lasts eA) _) _ _ _ hv43 hX6
  replace hv44 := (Ks.lasts eA) _ _ _ hv44 hX6
  replace hv49 := (Tp.lasts (Kn.lasts eM) _) _ _ _ hv49 hX6
  replace hv50 := (Ks.lasts eM) _ _ _ hv50 hX6
  have hv53 := hF _ _ (List.mem_cons_of_mem _ List.mem_cons_self)
  have hv54 := hF _ _ List.mem_cons_self
  replace hD1 := hD1.bel hX6
  replace hD4 := hD4.bel hX6
  replace hD6 := hD6.bel hX6
  replace hD8 := hD8.bel hX6
  have hb := bel_next hb hX6
  clear hF hX6
  obtain ⟨u54, e54, A54, c54, f54, q54⟩ := hv54
  subst f54
  subst e54
  have hv54 : Ks eD (.slice A54 (eD).length c54) X6 := ⟨_, _, rfl, q54⟩
  clear q54
  go_upto_region 7 with (refine osn 24 10 54 #[.slice A54 (eD).length c54] info_kn ?_)
  obtain ⟨Y6, hY9, hD10, hS9⟩ := start1 X6 24 [.slice A54 (eD).length c54]
  rw [← hY9]
  clear hY9
  have hgs10 := hb.size
  have hlt10x0 := hD1.lt
  have hlt10x1 := hD4.lt
  have hlt10x2 := hD6.lt
  have hlt10x3 := hD8.lt
  replace hD1 := hD1.bel hS9
  replace hD4 := hD4.bel hS9
  replace hD6 := hD6.bel hS9
  replace hD8 := hD8.bel hS9
  replace hv28 := (Ks.lasts eA) _ _ _ hv28 hS9
  replace hv41 := (Ks.lasts _) _ _ _ hv41 hS9
  replace hv43 := (Tp.lasts (Kn.lasts eA) _) _ _ _ hv43 hS9
  replace hv44 := (Ks.lasts eA) _ _ _ hv44 hS9
  replace hv49 := (Tp.lasts (Kn.lasts eM) _) _ _ _ hv49 hS9
  replace hv50 := (Ks.lasts eM) _ _ _ hv50 hS9
  replace hv53 := (Tp.lasts (Kn.lasts eD) _) _ _ _ hv53 hS9
  replace hv54 := (Ks.lasts eD) _ _ _ hv54 hS9
  have hb := bel_next hb hS9
  clear hS9
  generalize X6.heap.size = g10 at *
  refine lx_plain_to 6 [none, none, some (Tp (Kn eL) 0), none, some (Kn eL)] (lasts_none (lasts_none (lasts_some (Tp.lasts (Kn.lasts eL) _) (lasts_none (lasts_some (Kn.lasts eL) (lasts_nil)))))) ?_
  simp only [its, List.take, List.drop, Nat.zero_add, Nat.reduceAdd]
  refine ja hD1 Tryd.underlying24 (by rfl) info_kn ?_
  refine ja hD10 Tryd.underlying24 (by rfl) info_kn ?_
  refine jk (fun X hX hF => (cpV _ _ eA eD X ⟨_, rfl, ((Ks.lasts eA) _ _ _ hv28 hX)⟩ ⟨_, rfl, ((Ks.lasts eD) _ _ _ hv54 hX)⟩ okA okD (by decide)).mono fun e X' ⟨v9, h1, h2, h3⟩ => ⟨v9, h1, by rw [(show cpK eA eD = eL by decide)] at h2; exact h2, h3⟩) ?_
  intro v59
  refine jm (v59) ?_
  refine lx_new (by rfl) (fun X hX hF => by obtain ⟨u9, h9, h8⟩ := (hF _ _ List.mem_cons_self rfl); subst h9; exact ⟨u9, X, rfl, h8, Below.refl _ _⟩) ?_
  intro v60
  simp only [pX]
  refine jg (.int .i64 0) (fun X hX hF => by obtain ⟨u9, h9, _⟩ := (hF _ _ (List.mem_cons_of_mem _ List.mem_cons_self) rfl); subst h9; rfl) ?_
  refine lx_nil ?_
  intro X7 hX7 hF
  replace hv28 := (Ks.lasts eA) _ _ _ hv28 hX7
  replace hv41 := (Ks.lasts _) _ _ _ hv41 hX7
  replace hv43 := (Tp.lasts (Kn.lasts eA) _) _ _ _ hv43 hX7
  replace hv44 := (Ks.lasts eA) _ _ _ hv44 hX7
  replace hv49 := (Tp.lasts (Kn.lasts eM) _) _ _ _ hv49 hX7
  replace hv50 := (Ks.lasts eM) _ _ _ hv50 hX7
  replace hv53 := (Tp.lasts (Kn.lasts eD) _) _ _ _ hv53 hX7
  replace hv54 := (Ks.lasts eD) _ _ _ hv54 hX7
  have hv59 := hF _ _ (List.mem_cons_of_mem _ List.mem_cons_self)
  have hv60 := hF _ _ List.mem_cons_self
  replace hD1 := hD1.bel hX7
  replace hD4 := hD4.bel hX7
  replace hD6 := hD6.bel hX7
  replace hD8 := hD8.bel hX7
  replace hD10 := hD10.bel hX7
  have hb := bel_next hb hX7
  clear hF hX7
  obtain ⟨u60, e60, A60, c60, f60, q60⟩ := hv60
  subst f60
  subst e60
  have hv60 : Ks eL (.slice A60 (eL).length c60) X7 := ⟨_, _, rfl, q60⟩
  clear q60
  go_upto_region 8 with (refine osn 24 12 60 #[.slice A60 (eL).length c60] info_kn ?_)
  obtain ⟨Y7, hY9, hD12, hS9⟩ := start1 X7 24 [.slice A60 (eL).length c60]
  rw [← hY9]
  clear hY9
  have hgs12 := hb.size
  have hlt12x0 := hD1.lt
  have hlt12x1 := hD4.lt
  have hlt12x2 := hD6.lt
  have hlt12x3 := hD8.lt
  have hlt12x4 := hD10.lt
  replace hD1 := hD1.bel hS9
  replace hD4 := hD4.bel hS9
  replace hD6 := hD6.bel hS9
  replace hD8 := hD8.bel hS9
  replace hD10 := hD10.bel hS9
  replace hv28 := (Ks.lasts eA) _ _ _ hv28 hS9
  replace hv41 := (Ks.lasts _) _ _ _ hv41 hS9
  replace hv43 := (Tp.lasts (Kn.lasts eA) _) _ _ _ hv43 hS9
  replace hv44 := (Ks.lasts eA) _ _ _ hv44 hS9
  replace hv49 := (Tp.lasts (Kn.lasts eM) _) _ _ _ hv49 hS9
  replace hv50 := (Ks.lasts eM) _ _ _ hv50 hS9
  replace hv53 := (Tp.lasts (Kn.lasts eD) _) _ _ _ hv53 hS9
  replace hv54 := (Ks.lasts eD) _ _ _ hv54 hS9
  replace hv59 := (Tp.lasts (Kn.lasts eL) _) _ _ _ hv59 hS9
  replace hv60 := (Ks.lasts eL) _ _ _ hv60 hS9
  have hb := bel_next hb hS9
  clear hS9
  generalize X7.heap.size = g12 at *
  refine lx_region [none, none, none, some (Rq eI), some (Tp (Rq eO) 0), none, some (Rq eO)] (by kernel_rfl) (by kernel_rfl) (lasts_none (lasts_none (lasts_none (lasts_some (Rq.lasts _) (lasts_some (Tp.lasts (Rq.lasts eO) _) (lasts_none (lasts_some (Rq.lasts eO) (lasts_nil)))))))) ?_
  simp only [iX, Nat.reduceAdd]
  refine ja hD1 Tryd.underlying24 (by rfl) info_kn ?_
  refine jc (rt (rN (ri 4)) (rP (ri 4)) (rD (ri 4))) (fun X hX hF => rintQ (4) X (by decide)) ?_
  refine jc (rt (rN (ri 8)) (rP (ri 8)) (rD (ri 8))) (fun X hX hF => rintQ (8) X (by decide)) ?_
  refine lx_new (by rfl) (fun X hX hF => Rq.mk eI 2 rfl (by decide) (by unfold execOp; go_simp; rfl)) ?_
  intro v66
  simp only [pX]
  refine jk (fun X hX hF => (rteV _ _ eA eI X ⟨_, rfl, ((Ks.lasts eA) _ _ _ hv28 hX)⟩ (hF _ _ List.mem_cons_self rfl) okA (by decide) (by decide) 7 (by omega) sz_ri2).mono fun e X' ⟨v9, h1, h2, h3⟩ => ⟨v9, h1, by rw [(show rtl eA eI = eO by decide +kernel)] at h2; exact h2, h3⟩) ?_
  intro v67
  refine jm (v67) ?_
  refine lx_new (by rfl) (fun X hX hF => by obtain ⟨u9, h9, h8⟩ := (hF _ _ List.mem_cons_self rfl); subst h9; exact ⟨u9, X, rfl, h8, Below.refl _ _⟩) ?_
  intro v68
  simp only [pX]
  refine jg (.int .i64 0) (fun X hX hF => by obtain ⟨u9, h9, _⟩ := (hF _ _ (List.mem_cons_of_mem _ List.mem_cons_self) rfl); subst h9; rfl) ?_
  refine jm (v68) ?_
  refine jm (.int .i64 0) ?_
  refine lx_nil ?_
  intro X8 hX8 hF
  replace hv28 := (Ks.lasts eA) _ _ _ hv28 hX8
  replace hv41 := (Ks.lasts _) _ _ _ hv41 hX8
  replace hv43 := (Tp.lasts (Kn.lasts eA) _) _ _ _ hv43 hX8
  replace hv44 := (Ks.lasts eA) _ _ _ hv44 hX8
  replace hv49 := (Tp.lasts (Kn.lasts eM) _) _ _ _ hv49 hX8
  replace hv50 := (Ks.lasts eM) _ _ _ hv50 hX8
  replace hv53 := (Tp.lasts (Kn.lasts eD) _) _ _ _ hv53 hX8
  replace hv54 := (Ks.lasts eD) _ _ _ hv54 hX8
  replace hv59 := (Tp.lasts (Kn.lasts eL) _) _ _ _ hv59 hX8
  replace hv60 := (Ks.lasts eL) _ _ _ hv60 hX8
  have hv66 := hF _ _ (List.mem_cons_of_mem _ (List.mem_cons_of_mem _ List.mem_cons_self))
  have hv67 := hF _ _ (List.mem_cons_of_mem _ List.mem_cons_self)
  have hv68 := hF _ _ List.mem_cons_self
  replace hD1 := hD1.bel hX8
  replace hD4 := hD4.bel hX8
  replace hD6 := hD6.bel hX8
  replace hD8 := hD8.bel hX8
  replace hD10 := hD10.bel hX8
  replace hD12 := hD12.bel hX8
  have hb := bel_next hb hX8
  clear hF hX8
  go_upto_region 9 with (fail)
  refine lx_plain [none, none, some (Tp (Pl eP (tot eA)) 0), none, some (Pl eP (tot eA))] (lasts_none (lasts_none (lasts_some (Tp.lasts (Pl.lasts eP (tot eA)) _) (lasts_none (lasts_some (Pl.lasts eP (tot eA)) (lasts_nil)))))) ?_
  simp only [iX, Nat.reduceAdd]
  refine ja hD1 Tryd.underlying24 (by rfl) info_kn ?_
  refine jn (.agg #[.int .i64 10, .int .i64 12]) ?_
  refine jk (fun X hX hF => (arvV _ eA 10 12 X ⟨_, rfl, ((Ks.lasts eA) _ _ _ hv28 hX)⟩ okA (by decide) (by decide)).mono fun e X' ⟨v9, h1, h2, h3⟩ => ⟨v9, h1, by rw [(show (aR eA 10 12 (aN eA 10 12)).1 = eP by decide)] at h2; exact h2, h3⟩) ?_
  intro v73
  refine jm (v73) ?_
  refine lx_new (by rfl) (fun X hX hF => by obtain ⟨u9, h9, h8⟩ := (hF _ _ List.mem_cons_self rfl); subst h9; exact ⟨u9, X, rfl, h8, Below.refl _ _⟩) ?_
  intro v74
  simp only [pX]
  refine jg (.int .i64 0) (fun X hX hF => by obtain ⟨u9, h9, _⟩ := (hF _ _ (List.mem_cons_of_mem _ List.mem_cons_self) rfl); subst h9; rfl) ?_
  refine jm (v74) ?_
  refine jm (.int .i64 0) ?_
  refine lx_nil ?_
  intro X9 hX9 hF
  replace hv28 := (Ks.lasts eA) _ _ _ hv28 hX9
  replace hv41 := (Ks.lasts _) _ _ _ hv41 hX9
  replace hv43 := (Tp.lasts (Kn.lasts eA) _) _ _ _ hv43 hX9
  replace hv44 := (Ks.lasts eA) _ _ _ hv44 hX9
  replace hv49 := (Tp.lasts (Kn.lasts eM) _) _ _ _ hv49 hX9
  replace hv50 := (Ks.lasts eM) _ _ _ hv50 hX9
  replace hv53 := (Tp.lasts (Kn.lasts eD) _) _ _ _ hv53 hX9
  replace hv54 := (Ks.lasts eD) _ _ _ hv54 hX9
  replace hv59 := (Tp.lasts (Kn.lasts eL) _) _ _ _ hv59 hX9
  replace hv60 := (Ks.lasts eL) _ _ _ hv60 hX9
  replace hv66 := (Rq.lasts _) _ _ _ hv66 hX9
  replace hv67 := (Tp.lasts (Rq.lasts eO) _) _ _ _ hv67 hX9
  replace hv68 := (Rq.lasts eO) _ _ _ hv68 hX9
  have hv73 := hF _ _ (List.mem_cons_of_mem _ List.mem_cons_self)
  have hv74 := hF _ _ List.mem_cons_self
  replace hD1 := hD1.bel hX9
  replace hD4 := hD4.bel hX9
  replace hD6 := hD6.bel hX9
  replace hD8 := hD8.bel hX9
  replace hD10 := hD10.bel hX9
  replace hD12 := hD12.bel hX9
  have hb := bel_next hb hX9
  clear hF hX9
  go_upto_region 10 with (fail)
  refine lx_plain_to 6 [some (Ks eC)] (lasts_some (Ks.lasts _) (lasts_nil)) ?_
  simp only [its, List.take, List.drop, Nat.zero_add, Nat.reduceAdd]
  refine lx_new (by rfl) (fun X hX hF => Ks.mk eC 3 rfl (by decide) (by unfold execOp eC; go_simp)) ?_
  intro v77
  simp only [pX]
  refine jc (.agg #[v77]) (fun X hX hF => ofK _ eC X (hF _ _ List.mem_cons_self rfl)) ?_
  refine jc (.tuple #[rt (rN (mean eC)) (rP (mean eC)) (rD (mean eC)), .int .i64 0]) (fun X hX hF => meaV _ eC X ⟨_, rfl, (hF _ _ List.mem_cons_self rfl)⟩ okC) ?_
  refine jm (.tuple #[rt (rN (mean eC)) (rP (mean eC)) (rD (mean eC)), .int .i64 0]) ?_
  refine jm (rt (rN (mean eC)) (rP (mean eC)) (rD (mean eC))) ?_
  refine jm (.int .i64 0) ?_
  refine lx_nil ?_
  intro X10 hX10 hF
  replace hv28 := (Ks.lasts eA) _ _ _ hv28 hX10
  replace hv41 := (Ks.lasts _) _ _ _ hv41 hX10
  replace hv43 := (Tp.lasts (Kn.lasts eA) _) _ _ _ hv43 hX10
  replace hv44 := (Ks.lasts eA) _ _ _ hv44 hX10
  replace hv49 := (Tp.lasts (Kn.lasts eM) _) _ _ _ hv49 hX10
  replace hv50 := (Ks.lasts eM) _ _ _ hv50 hX10
  replace hv53 := (Tp.lasts (Kn.lasts eD) _) _ _ _ hv53 hX10
  replace hv54 := (Ks.lasts eD) _ _ _ hv54 hX10
  replace hv59 := (Tp.lasts (Kn.lasts eL) _) _ _ _ hv59 hX10
  replace hv60 := (Ks.lasts eL) _ _ _ hv60 hX10
  replace hv66 := (Rq.lasts _) _ _ _ hv66 hX10
  replace hv67 := (Tp.lasts (Rq.lasts eO) _) _ _ _ hv67 hX10
  replace hv68 := (Rq.lasts eO) _ _ _ hv68 hX10
  replace hv73 := (Tp.lasts (Pl.lasts eP (tot eA)) _) _ _ _ hv73 hX10
  replace hv74 := (Pl.lasts eP (tot eA)) _ _ _ hv74 hX10
  have hv77 := hF _ _ List.mem_cons_self
  replace hD1 := hD1.bel hX10
  replace hD4 := hD4.bel hX10
  replace hD6 := hD6.bel hX10
  replace hD8 := hD8.bel hX10
  replace hD10 := hD10.bel hX10
  replace hD12 := hD12.bel hX10
  have hb := bel_next hb hX10
  clear hF hX10
  go_upto_region 11 with (refine osn 38 18 80 #[.bool (rN (mean eC)), .string ⟨(rP (mean eC)).toArray⟩, .string ⟨(rD (mean eC)).toArray⟩] info_rat ?_)
  obtain ⟨Y10, hY9, hD18, hS9⟩ := start1 X10 38 [.bool (rN (mean eC)), .string ⟨(rP (mean eC)).toArray⟩, .string ⟨(rD (mean eC)).toArray⟩]
  rw [← hY9]
  clear hY9
  have hgs18 := hb.size
  have hlt18x0 := hD1.lt
  have hlt18x1 := hD4.lt
  have hlt18x2 := hD6.lt
  have hlt18x3 := hD8.lt
  have hlt18x4 := hD10.lt
  have hlt18x5 := hD12.lt
  have hD1 := hD1.bel hS9
  have hD4 := hD4.bel hS9
  have hD6 := hD6.bel hS9
  have hD8 := hD8.bel hS9
  have hD10 := hD10.bel hS9
  have hD12 := hD12.bel hS9
  have hv28 := (Ks.lasts eA) _ _ _ hv28 hS9
  have hv41 := (Ks.lasts _) _ _ _ hv41 hS9
  have hv43 := (Tp.lasts (Kn.lasts eA) _) _ _ _ hv43 hS9
  have hv44 := (Ks.lasts eA) _ _ _ hv44 hS9
  have hv49 := (Tp.lasts (Kn.lasts eM) _) _ _ _ hv49 hS9
  have hv50 := (Ks.lasts eM) _ _ _ hv50 hS9
  have hv53 := (Tp.lasts (Kn.lasts eD) _) _ _ _ hv53 hS9
  have hv54 := (Ks.lasts eD) _ _ _ hv54 hS9
  have hv59 := (Tp.lasts (Kn.lasts eL) _) _ _ _ hv59 hS9
  have hv60 := (Ks.lasts eL) _ _ _ hv60 hS9
  have hv66 := (Rq.lasts _) _ _ _ hv66 hS9
  have hv67 := (Tp.lasts (Rq.lasts eO) _) _ _ _ hv67 hS9
  have hv68 := (Rq.lasts eO) _ _ _ hv68 hS9
  have hv73 := (Tp.lasts (Pl.lasts eP (tot eA)) _) _ _ _ hv73 hS9
  have hv74 := (Pl.lasts eP (tot eA)) _ _ _ hv74 hS9
  have hv77 := (Ks.lasts _) _ _ _ hv77 hS9
  have hb := bel_next hb hS9
  clear hS9
  generalize X10.heap.size = g18 at *
  have hlt20x0 := hD1.lt
  have hlt20x1 := hD4.lt
  have hlt20x2 := hD6.lt
  have hlt20x3 := hD8.lt
  have hlt20x4 := hD10.lt
  have hlt20x5 := hD12.lt
  have hlt20x6 := hD18.lt
  refine lx_lazy 2 6 [some (Ks eC), none, none, some (Tp (Kn eQ) 0), none, some (Kn eQ), none, some (Av 24 [.slice none 0 0] Y10.heap.size)] (by kernel_rfl) (by kernel_rfl) (by kernel_rfl) (by rintro ⟨_, _, h9, _⟩; cases h9) (by rintro ch a w ⟨_, h9, _⟩; cases h9) rfl (lasts_some (Ks.lasts _) (lasts_none (lasts_none (lasts_some (Tp.lasts (Kn.lasts eQ) _) (lasts_none (lasts_some (Kn.lasts eQ) (lasts_none (lasts_some (Av.lasts _ _ _) (lasts_nil))))))))) ?_
  simp only [its, List.length_cons, List.length_nil, Nat.zero_add, Nat.reduceAdd, Nat.reduceSub, List.take_succ_cons, List.take_zero, List.drop_succ_cons, List.drop_zero]
  refine lx_new (by rfl) (fun X hX hF => Ks.mk eC 3 rfl (by decide) (by unfold execOp eC; go_simp)) ?_
  intro v83
  simp only [pX]
  refine jc (.agg #[v83]) (fun X hX hF => ofK _ eC X (hF _ _ List.mem_cons_self rfl)) ?_
  refine ja hD1 Tryd.underlying24 (by rfl) info_kn ?_
  refine jk (fun X hX hF => (cpV _ _ eC eA X ⟨_, rfl, (hF _ _ List.mem_cons_self rfl)⟩ ⟨_, rfl, ((Ks.lasts eA) _ _ _ hv28 hX)⟩ okC okA (by decide)).mono fun e X' ⟨v9, h1, h2, h3⟩ => ⟨v9, h1, by rw [(show cpK eC eA = eQ by decide)] at h2; exact h2, h3⟩) ?_
  intro v86
  refine jm (v86) ?_
  refine lx_new (by rfl) (fun X hX hF => by obtain ⟨u9, h9, h8⟩ := (hF _ _ List.mem_cons_self rfl); subst h9; exact ⟨u9, X, rfl, h8, Below.refl _ _⟩) ?_
  intro v87
  simp only [pX]
  refine jg (.int .i64 0) (fun X hX hF => by obtain ⟨u9, h9, _⟩ := (hF _ _ (List.mem_cons_of_mem _ List.mem_cons_self) rfl); subst h9; rfl) ?_
  refine lx_new (by rfl) (fun X hX hF => Av.mk 24 [.slice none 0 0] Y10.heap.size hX.size (by unfold execOp; go_simp)) ?_
  intro v20
  simp only [pX]
  refine lx_nil ?_
  intro X11 hX11 hF
  replace hv28 := (Ks.lasts eA) _ _ _ hv28 hX11
  replace hv41 := (Ks.lasts _) _ _ _ hv41 hX11
  replace hv43 := (Tp.lasts (Kn.lasts eA) _) _ _ _ hv43 hX11
  replace hv44 := (Ks.lasts eA) _ _ _ hv44 hX11
  replace hv49 := (Tp.lasts (Kn.lasts eM) _) _ _ _ hv49 hX11
  replace hv50 := (Ks.lasts eM) _ _ _ hv50 hX11
  replace hv53 := (Tp.lasts (Kn.lasts eD) _) _ _ _ hv53 hX11
  replace hv54 := (Ks.lasts eD) _ _ _ hv54 hX11
  replace hv59 := (Tp.lasts (Kn.lasts eL) _) _ _ _ hv59 hX11
  replace hv60 := (Ks.lasts eL) _ _ _ hv60 hX11
  replace hv66 := (Rq.lasts _) _ _ _ hv66 hX11
  replace hv67 := (Tp.lasts (Rq.lasts eO) _) _ _ _ hv67 hX11
  replace hv68 := (Rq.lasts eO) _ _ _ hv68 hX11
  replace hv73 := (Tp.lasts (Pl.lasts eP (tot eA)) _) _ _ _ hv73 hX11
  replace hv74 := (Pl.lasts eP (tot eA)) _ _ _ hv74 hX11
  replace hv77 := (Ks.lasts _) _ _ _ hv77 hX11
  have hv83 := hF _ _ (List.mem_cons_of_mem _ (List.mem_cons_of_mem _ (List.mem_cons_of_mem _ List.mem_cons_self)))
  have hv86 := hF _ _ (List.mem_cons_of_mem _ (List.mem_cons_of_mem _ List.mem_cons_self))
  have hv87 := hF _ _ (List.mem_cons_of_mem _ List.mem_cons_self)
  have hv20 := hF _ _ List.mem_cons_self
  replace hD1 := hD1.bel hX11
  replace hD4 := hD4.bel hX11
  replace hD6 := hD6.bel hX11
  replace hD8 := hD8.bel hX11
  replace hD10 := hD10.bel hX11
  replace hD12 := hD12.bel hX11
  replace hD18 := hD18.bel hX11
  have hb := bel_next hb hX11
  clear hF hX11
  obtain ⟨g20, rfl, hge20, hD20⟩ := hv20
  obtain ⟨u87, e87, A87, c87, f87, q87⟩ := hv87
  subst f87
  subst e87
  have hv87 : Ks eQ (.slice A87 (eQ).length c87) X11 := ⟨_, _, rfl, q87⟩
  clear q87
  have hgw20 := hb.size
  refine op_store_blkg rfl 24 (.tmp 20) (.tmp 87) rfl g20 24 _ hD20 rfl [.slice A87 (eQ).length c87] rfl (by rfl) (by intro u hu; simp only [List.mem_cons, List.not_mem_nil, or_false] at hu; rcases hu with rfl <;> rfl) info_kn ?_
  intro w20s hR9 hG9
  have hb := bel_grown hG9 hb hb.size (by omega)
  replace hD1 := blk_grown hG9 hD1 (by omega)
  replace hD4 := blk_grown hG9 hD4 (by omega)
  replace hD6 := blk_grown hG9 hD6 (by omega)
  replace hD8 := blk_grown hG9 hD8 (by omega)
  replace hD10 := blk_grown hG9 hD10 (by omega)
  replace hD12 := blk_grown hG9 hD12 (by omega)
  replace hD18 := blk_grown hG9 hD18 (by omega)
  replace hv28 := Ks.grown hG9 hv28 hD20
  replace hv41 := Ks.grown hG9 hv41 hD20
  clear hv43
  replace hv44 := Ks.grown hG9 hv44 hD20
  clear hv49
  replace hv50 := Ks.grown hG9 hv50 hD20
  clear hv53
  replace hv54 := Ks.grown hG9 hv54 hD20
  clear hv59
  replace hv60 := Ks.grown hG9 hv60 hD20
  replace hv66 := Rq.grown hG9 hv66 hD20
  clear hv67
  replace hv68 := Rq.grown hG9 hv68 hD20
  clear hv73
  replace hv74 := Pl.grown hG9 hv74 hD20
  replace hv77 := Ks.grown hG9 hv77 hD20
  replace hv83 := Ks.grown hG9 hv83 hD20
  clear hv86
  replace hv87 := Ks.grown hG9 hv87 hD20
  have hD20 := hR9
  clear hG9 hR9
  go_upto_region 12 with (fail)
  refine jq 5 ?_
  refine ja hD20 Tryd.underlying24 (by rfl) info_kn ?_
  refine jc (.tuple #[rt (rN (mean eQ)) (rP (mean eQ)) (rD (mean eQ)), .int .i64 0]) (fun X hX hF => meaV _ eQ X ⟨_, rfl, ((Ks.lasts eQ) _ _ _ hv87 hX)⟩ okQ) ?_
  refine jm (.tuple #[rt (rN (mean eQ)) (rP (mean eQ)) (rD (mean eQ)), .int .i64 0]) ?_
  refine jm (rt (rN (mean eQ)) (rP (mean eQ)) (rD (mean eQ))) ?_
  refine jm (.int .i64 0) ?_
  refine jz fun X12 hX12 => ?_
  replace hv28 := (Ks.lasts eA) _ _ _ hv28 hX12
  replace hv41 := (Ks.lasts _) _ _ _ hv41 hX12
  replace hv44 := (Ks.lasts eA) _ _ _ hv44 hX12
  replace hv50 := (Ks.lasts eM) _ _ _ hv50 hX12
  replace hv54 := (Ks.lasts eD) _ _ _ hv54 hX12
  replace hv60 := (Ks.lasts eL) _ _ _ hv60 hX12
  replace hv66 := (Rq.lasts _) _ _ _ hv66 hX12
  replace hv68 := (Rq.lasts eO) _ _ _ hv68 hX12
  replace hv74 := (Pl.lasts eP (tot eA)) _ _ _ hv74 hX12
  replace hv77 := (Ks.lasts _) _ _ _ hv77 hX12
  replace hv83 := (Ks.lasts _) _ _ _ hv83 hX12
  replace hv87 := (Ks.lasts eQ) _ _ _ hv87 hX12
  replace hD1 := hD1.bel hX12
  replace hD4 := hD4.bel hX12
  replace hD6 := hD6.bel hX12
  replace hD8 := hD8.bel hX12
  replace hD10 := hD10.bel hX12
  replace hD12 := hD12.bel hX12
  replace hD18 := hD18.bel hX12
  replace hD20 := hD20.bel hX12
  have hb := bel_next hb hX12
  clear hX12
  go_upto_region 13 with (refine osn 38 22 92 #[.bool (rN (mean eQ)), .string ⟨(rP (mean eQ)).toArray⟩, .string ⟨(rD (mean eQ)).toArray⟩] info_rat ?_)
  obtain ⟨Y12, hY9, hD22, hS9⟩ := start1 X12 38 [.bool (rN (mean eQ)), .string ⟨(rP (mean eQ)).toArray⟩, .string ⟨(rD (mean eQ)).toArray⟩]
  rw [← hY9]
  clear hY9
  have hgs22 := hb.size
  have hlt22x0 := hD1.lt
  have hlt22x1 := hD4.lt
  have hlt22x2 := hD6.lt
  have hlt22x3 := hD8.lt
  have hlt22x4 := hD10.lt
  have hlt22x5 := hD12.lt
  have hlt22x6 := hD18.lt
  have hlt22x7 := hD20.lt
  have hD1 := hD1.bel hS9
  have hD4 := hD4.bel hS9
  have hD6 := hD6.bel hS9
  have hD8 := hD8.bel hS9
  have hD10 := hD10.bel hS9
  have hD12 := hD12.bel hS9
  have hD18 := hD18.bel hS9
  have hD20 := hD20.bel hS9
  have hv28 := (Ks.lasts eA) _ _ _ hv28 hS9
  have hv41 := (Ks.lasts _) _ _ _ hv41 hS9
  have hv44 := (Ks.lasts eA) _ _ _ hv44 hS9
  have hv50 := (Ks.lasts eM) _ _ _ hv50 hS9
  have hv54 := (Ks.lasts eD) _ _ _ hv54 hS9
  have hv60 := (Ks.lasts eL) _ _ _ hv60 hS9
  have hv66 := (Rq.lasts _) _ _ _ hv66 hS9
  have hv68 := (Rq.lasts eO) _ _ _ hv68 hS9
  have hv74 := (Pl.lasts eP (tot eA)) _ _ _ hv74 hS9
  have hv77 := (Ks.lasts _) _ _ _ hv77 hS9
  have hv83 := (Ks.lasts _) _ _ _ hv83 hS9
  have hv87 := (Ks.lasts eQ) _ _ _ hv87 hS9
  have hb := bel_next hb hS9
  clear hS9
  generalize X12.heap.size = g22 at *
  refine jp ?_
  refine jm (.int .i64 0) ?_
  refine jv (.bool true) (exec_eqi _ _ _ _ (by rfl) .i64 0 0 (by rfl) (by rfl) true (decide_eq_true (by omega))) ?_
  refine jm (.bool true) ?_
  refine jm (.int .i64 0) ?_
  refine jv (.bool true) (exec_eqi _ _ _ _ (by rfl) .i64 0 0 (by rfl) (by rfl) true (decide_eq_true (by omega))) ?_
  refine jm (.bool true) ?_
  refine jm (.bool true) ?_
  refine jm (.int .i64 0) ?_
  refine jv (.bool true) (exec_eqi _ _ _ _ (by rfl) .i64 0 0 (by rfl) (by rfl) true (decide_eq_true (by omega))) ?_
  refine jm (.bool true) ?_
  refine jm (.bool true) ?_
  refine jm (.int .i64 0) ?_
  refine jv (.bool true) (exec_eqi _ _ _ _ (by rfl) .i64 0 0 (by rfl) (by rfl) true (decide_eq_true (by omega))) ?_
  refine jm (.bool true) ?_
  refine jm (.bool true) ?_
  refine jm (.int .i64 0) ?_
  refine jv (.bool true) (exec_eqi _ _ _ _ (by rfl) .i64 0 0 (by rfl) (by rfl) true (decide_eq_true (by omega))) ?_
  refine jm (.bool true) ?_
  refine jm (.bool true) ?_
  refine jm (.int .i64 0) ?_
  refine jv (.bool true) (exec_eqi _ _ _ _ (by rfl) .i64 0 0 (by rfl) (by rfl) true (decide_eq_true (by omega))) ?_
  refine jm (.bool true) ?_
  refine jm (.bool true) ?_
  refine jm (.int .i64 0) ?_
  refine jv (.bool true) (exec_eqi _ _ _ _ (by rfl) .i64 0 0 (by rfl) (by rfl) true (decide_eq_true (by omega))) ?_
  refine jm (.bool true) ?_
  refine jm (.bool true) ?_
  refine jm (.int .i64 0) ?_
  refine jv (.bool true) (exec_eqi _ _ _ _ (by rfl) .i64 0 0 (by rfl) (by rfl) true (decide_eq_true (by omega))) ?_
  refine jm (.bool true) ?_
  refine jm (.bool true) ?_
  refine jm (.int .i64 0) ?_
  refine jv (.bool true) (exec_eqi _ _ _ _ (by rfl) .i64 0 0 (by rfl) (by rfl) true (decide_eq_true (by omega))) ?_
  refine jm (.bool true) ?_
  refine jm (.bool true) ?_
  refine jm (.int .i64 0) ?_
  refine jv (.bool true) (exec_eqi _ _ _ _ (by rfl) .i64 0 0 (by rfl) (by rfl) true (decide_eq_true (by omega))) ?_
  refine jm (.bool true) ?_
  refine jm (.bool true) ?_
  refine jm (.int .i64 0) ?_
  refine jv (.bool true) (exec_eqi _ _ _ _ (by rfl) .i64 0 0 (by rfl) (by rfl) true (decide_eq_true (by omega))) ?_
  refine jm (.bool true) ?_
  refine jm (.bool true) ?_
  refine jz fun X13 hX13 => ?_
  replace hv28 := (Ks.lasts eA) _ _ _ hv28 hX13
  replace hv41 := (Ks.lasts _) _ _ _ hv41 hX13
  replace hv44 := (Ks.lasts eA) _ _ _ hv44 hX13
  replace hv50 := (Ks.lasts eM) _ _ _ hv50 hX13
  replace hv54 := (Ks.lasts eD) _ _ _ hv54 hX13
  replace hv60 := (Ks.lasts eL) _ _ _ hv60 hX13
  replace hv66 := (Rq.lasts _) _ _ _ hv66 hX13
  replace hv68 := (Rq.lasts eO) _ _ _ hv68 hX13
  replace hv74 := (Pl.lasts eP (tot eA)) _ _ _ hv74 hX13
  replace hv77 := (Ks.lasts _) _ _ _ hv77 hX13
  replace hv83 := (Ks.lasts _) _ _ _ hv83 hX13
  replace hv87 := (Ks.lasts eQ) _ _ _ hv87 hX13
  replace hD1 := hD1.bel hX13
  replace hD4 := hD4.bel hX13
  replace hD6 := hD6.bel hX13
  replace hD8 := hD8.bel hX13
  replace hD10 := hD10.bel hX13
  replace hD12 := hD12.bel hX13
  replace hD18 := hD18.bel hX13
  replace hD20 := hD20.bel hX13
  replace hD22 := hD22.bel hX13
  have hb := bel_next hb hX13
  clear hX13
  go_upto_region 14 with (fail)
  refine lx_region [none, none, none, none, none, none, none, none, none, none, none, none, none, none, some (Ks eM), none, none, none, none, none, some (Ks eL)] (by kernel_rfl) (by kernel_rfl) (lasts_none (lasts_none (lasts_none (lasts_none (lasts_none (lasts_none (lasts_none (lasts_none (lasts_none (lasts_none (lasts_none (lasts_none (lasts_none (lasts_none (lasts_some (Ks.lasts _) (lasts_none (lasts_none (lasts_none (lasts_none (lasts_none (lasts_some (Ks.lasts _) (lasts_nil)))))))))))))))))))))) ?_
  simp only [iX, Nat.reduceAdd]
  refine jm (.int .i64 4) ?_
  refine jv (.bool true) (exec_eqi _ _ _ _ (by rfl) .i64 4 4 (by rfl) (by rfl) true (decide_eq_true (by omega))) ?_
  refine jm (.bool true) ?_
  refine ja hD4 Tryd.underlying38 (by rfl) info_rat ?_
  refine jc (rt (rN (ri 1)) (rP (ri 1)) (rD (ri 1))) (fun X hX hF => rintQ (1) X (by decide)) ?_
  refine jv (.bool true) (exec_eqr _ _ (by rfl) (rN (mean eA)) (rP (mean eA)) (rD (mean eA)) (rN (ri 1)) (rP (ri 1)) (rD (ri 1)) (by rfl) (by rfl) true (rb_eqt (show mean eA = ri 1 by decide +kernel))) ?_
  refine jm (.bool true) ?_
  refine jm (.bool true) ?_
  refine ja hD6 Tryd.underlying24 (by rfl) info_kn ?_
  refine ja hD1 Tryd.underlying24 (by rfl) info_kn ?_
  refine jc (.bool true) (fun X hX hF => smV _ _ eA X ⟨_, rfl, ((Ks.lasts eA) _ _ _ hv44 hX)⟩ ⟨_, rfl, ((Ks.lasts eA) _ _ _ hv28 hX)⟩) ?_
  refine jm (.bool true) ?_
  refine jm (.bool true) ?_
  refine ja hD8 Tryd.underlying24 (by rfl) info_kn ?_
  refine lx_new (by rfl) (fun X hX hF => Ks.mk eM 5 rfl (by decide) (by unfold execOp eM; go_simp)) ?_
  intro v150
  simp only [pX]
  refine jc (.agg #[v150]) (fun X hX hF => ofK _ eM X (hF _ _ List.mem_cons_self rfl)) ?_
  refine jc (.bool true) (fun X hX hF => smV _ _ eM X ⟨_, rfl, ((Ks.lasts eM) _ _ _ hv50 hX)⟩ ⟨_, rfl, (hF _ _ List.mem_cons_self rfl)⟩) ?_
  refine jm (.bool true) ?_
  refine jm (.bool true) ?_
  refine ja hD12 Tryd.underlying24 (by rfl) info_kn ?_
  refine lx_new (by rfl) (fun X hX hF => Ks.mk eL 5 rfl (by decide) (by unfold execOp eL; go_simp)) ?_
  intro v156
  simp only [pX]
  refine jc (.agg #[v156]) (fun X hX hF => ofK _ eL X (hF _ _ List.mem_cons_self rfl)) ?_
  refine jc (.bool true) (fun X hX hF => smV _ _ eL X ⟨_, rfl, ((Ks.lasts eL) _ _ _ hv60 hX)⟩ ⟨_, rfl, (hF _ _ List.mem_cons_self rfl)⟩) ?_
  refine jm (.bool true) ?_
  refine jm (.bool true) ?_
  refine ja hD18 Tryd.underlying38 (by rfl) info_rat ?_
  refine jc (rt (rN (rk 1 2)) (rP (rk 1 2)) (rD (rk 1 2))) (fun X hX hF => quoC 1 2 X (by decide) (by decide) (by decide)) ?_
  refine jv (.bool true) (exec_eqr _ _ (by rfl) (rN (mean eC)) (rP (mean eC)) (rD (mean eC)) (rN (rk 1 2)) (rP (rk 1 2)) (rD (rk 1 2)) (by rfl) (by rfl) true (rb_eqt (show mean eC = rk 1 2 by decide +kernel))) ?_
  refine jm (.bool true) ?_
  refine jm (.bool true) ?_
  refine ja hD22 Tryd.underlying38 (by rfl) info_rat ?_
  refine jc (rt (rN (rk 3 2)) (rP (rk 3 2)) (rD (rk 3 2))) (fun X hX hF => quoC 3 2 X (by decide) (by decide) (by decide)) ?_
  refine jv (.bool true) (exec_eqr _ _ (by rfl) (rN (mean eQ)) (rP (mean eQ)) (rD (mean eQ)) (rN (rk 3 2)) (rP (rk 3 2)) (rD (rk 3 2)) (by rfl) (by rfl) true (rb_eqt (show mean eQ = rk 3 2 by decide +kernel))) ?_
  refine jm (.bool true) ?_
  refine jm (.bool true) ?_
  refine lx_nil ?_
  intro X14 hX14 hF
  replace hv28 := (Ks.lasts eA) _ _ _ hv28 hX14
  replace hv41 := (Ks.lasts _) _ _ _ hv41 hX14
  replace hv44 := (Ks.lasts eA) _ _ _ hv44 hX14
  replace hv50 := (Ks.lasts eM) _ _ _ hv50 hX14
  replace hv54 := (Ks.lasts eD) _ _ _ hv54 hX14
  replace hv60 := (Ks.lasts eL) _ _ _ hv60 hX14
  replace hv66 := (Rq.lasts _) _ _ _ hv66 hX14
  replace hv68 := (Rq.lasts eO) _ _ _ hv68 hX14
  replace hv74 := (Pl.lasts eP (tot eA)) _ _ _ hv74 hX14
  replace hv77 := (Ks.lasts _) _ _ _ hv77 hX14
  replace hv83 := (Ks.lasts _) _ _ _ hv83 hX14
  replace hv87 := (Ks.lasts eQ) _ _ _ hv87 hX14
  have hv150 := hF _ _ (List.mem_cons_of_mem _ List.mem_cons_self)
  have hv156 := hF _ _ List.mem_cons_self
  replace hD1 := hD1.bel hX14
  replace hD4 := hD4.bel hX14
  replace hD6 := hD6.bel hX14
  replace hD8 := hD8.bel hX14
  replace hD10 := hD10.bel hX14
  replace hD12 := hD12.bel hX14
  replace hD18 := hD18.bel hX14
  replace hD20 := hD20.bel hX14
  replace hD22 := hD22.bel hX14
  have hb := bel_next hb hX14
  clear hF hX14
  go_upto_region 15 with (fail)
  refine lx_plain [none, none, none, none, none, some (Rq eO)] (lasts_none (lasts_none (lasts_none (lasts_none (lasts_none (lasts_some (Rq.lasts _) (lasts_nil))))))) ?_
  simp only [iX, Nat.reduceAdd]
  refine jm (v68) ?_
  refine jc (rt (rN (ri 1)) (rP (ri 1)) (rD (ri 1))) (fun X hX hF => rintQ (1) X (by decide)) ?_
  refine jc (rt (rN (ri 4)) (rP (ri 4)) (rD (ri 4))) (fun X hX hF => rintQ (4) X (by decide)) ?_
  refine jc (rt (rN (ri 5)) (rP (ri 5)) (rD (ri 5))) (fun X hX hF => rintQ (5) X (by decide)) ?_
  refine jc (rt (rN (ri 2)) (rP (ri 2)) (rD (ri 2))) (fun X hX hF => rintQ (2) X (by decide)) ?_
  refine lx_new (by rfl) (fun X hX hF => Rq.mk eO 4 rfl (by decide) (by unfold execOp; go_simp; rfl)) ?_
  intro v175
  simp only [pX]
  refine jc (.bool true) (fun X hX hF => sfC _ _ _ X ((Rq.lasts eO) _ _ _ hv68 hX) (hF _ _ List.mem_cons_self rfl)) ?_
  refine jm (.bool true) ?_
  refine lx_nil ?_
  intro X15 hX15 hF
  replace hv28 := (Ks.lasts eA) _ _ _ hv28 hX15
  replace hv41 := (Ks.lasts _) _ _ _ hv41 hX15
  replace hv44 := (Ks.lasts eA) _ _ _ hv44 hX15
  replace hv50 := (Ks.lasts eM) _ _ _ hv50 hX15
  replace hv54 := (Ks.lasts eD) _ _ _ hv54 hX15
  replace hv60 := (Ks.lasts eL) _ _ _ hv60 hX15
  replace hv66 := (Rq.lasts _) _ _ _ hv66 hX15
  replace hv68 := (Rq.lasts eO) _ _ _ hv68 hX15
  replace hv74 := (Pl.lasts eP (tot eA)) _ _ _ hv74 hX15
  replace hv77 := (Ks.lasts _) _ _ _ hv77 hX15
  replace hv83 := (Ks.lasts _) _ _ _ hv83 hX15
  replace hv87 := (Ks.lasts eQ) _ _ _ hv87 hX15
  replace hv150 := (Ks.lasts _) _ _ _ hv150 hX15
  replace hv156 := (Ks.lasts _) _ _ _ hv156 hX15
  have hv175 := hF _ _ List.mem_cons_self
  replace hD1 := hD1.bel hX15
  replace hD4 := hD4.bel hX15
  replace hD6 := hD6.bel hX15
  replace hD8 := hD8.bel hX15
  replace hD10 := hD10.bel hX15
  replace hD12 := hD12.bel hX15
  replace hD18 := hD18.bel hX15
  replace hD20 := hD20.bel hX15
  replace hD22 := hD22.bel hX15
  have hb := bel_next hb hX15
  clear hF hX15
  go_upto_region 16 with (fail)
  refine lx_plain [none, none, none, none, none, none, some (Pl eP (tot eA))] (lasts_none (lasts_none (lasts_none (lasts_none (lasts_none (lasts_none (lasts_some (Pl.lasts _ _) (lasts_nil)))))))) ?_
  simp only [iX, Nat.reduceAdd]
  refine jc (rt (rN (rk 1 4)) (rP (rk 1 4)) (rD (rk 1 4))) (fun X hX hF => quoC 1 4 X (by decide) (by decide) (by decide)) ?_
  refine jn (.agg #[.int .i64 8, .int .i64 9, .bool (rN (rk 1 4)), st (rP (rk 1 4)), st (rD (rk 1 4))]) ?_
  refine jc (rt (rN (rk 3 4)) (rP (rk 3 4)) (rD (rk 3 4))) (fun X hX hF => quoC 3 4 X (by decide) (by decide) (by decide)) ?_
  refine jn (.agg #[.int .i64 9, .int .i64 11, .bool (rN (rk 3 4)), st (rP (rk 3 4)), st (rD (rk 3 4))]) ?_
  refine jc (rt (rN (rk 1 4)) (rP (rk 1 4)) (rD (rk 1 4))) (fun X hX hF => quoC 1 4 X (by decide) (by decide) (by decide)) ?_
  refine jn (.agg #[.int .i64 11, .int .i64 12, .bool (rN (rk 1 4)), st (rP (rk 1 4)), st (rD (rk 1 4))]) ?_
  refine lx_new (by rfl) (fun X hX hF => Pl.mk eP (tot eA) 3 rfl (by decide) (by unfold execOp; go_simp; rfl)) ?_
  intro v183
  simp only [pX]
  refine jm (v183) ?_
  refine lx_nil ?_
  intro X16 hX16 hF
  replace hv28 := (Ks.lasts eA) _ _ _ hv28 hX16
  replace hv41 := (Ks.lasts _) _ _ _ hv41 hX16
  replace hv44 := (Ks.lasts eA) _ _ _ hv44 hX16
  replace hv50 := (Ks.lasts eM) _ _ _ hv50 hX16
  replace hv54 := (Ks.lasts eD) _ _ _ hv54 hX16
  replace hv60 := (Ks.lasts eL) _ _ _ hv60 hX16
  replace hv66 := (Rq.lasts _) _ _ _ hv66 hX16
  replace hv68 := (Rq.lasts eO) _ _ _ hv68 hX16
  replace hv74 := (Pl.lasts eP (tot eA)) _ _ _ hv74 hX16
  replace hv77 := (Ks.lasts _) _ _ _ hv77 hX16
  replace hv83 := (Ks.lasts _) _ _ _ hv83 hX16
  replace hv87 := (Ks.lasts eQ) _ _ _ hv87 hX16
  replace hv150 := (Ks.lasts _) _ _ _ hv150 hX16
  replace hv156 := (Ks.lasts _) _ _ _ hv156 hX16
  replace hv175 := (Rq.lasts _) _ _ _ hv175 hX16
  have hv183 := hF _ _ List.mem_cons_self
  replace hD1 := hD1.bel hX16
  replace hD4 := hD4.bel hX16
  replace hD6 := hD6.bel hX16
  replace hD8 := hD8.bel hX16
  replace hD10 := hD10.bel hX16
  replace hD12 := hD12.bel hX16
  replace hD18 := hD18.bel hX16
  replace hD20 := hD20.bel hX16
  replace hD22 := hD22.bel hX16
  have hb := bel_next hb hX16
  clear hF hX16
  go_upto_region 17 with (fail)
  refine lx_plain [none, none, none, none, none, none, none, none, none, none, none, none, none, none, none, none, none, none, some (Ks eZ)] (lasts_none (lasts_none (lasts_none (lasts_none (lasts_none (lasts_none (lasts_none (lasts_none (lasts_none (lasts_none (lasts_none (lasts_none (lasts_none (lasts_none (lasts_none (lasts_none (lasts_none (lasts_none (lasts_some (Ks.lasts _) (lasts_nil)))))))))))))))))))) ?_
  simp only [iX, Nat.reduceAdd]
  refine jm (.bool true) ?_
  refine jm (.bool true) ?_
  refine jm (.bool true) ?_
  refine jm (.bool true) ?_
  refine jm (.bool true) ?_
  refine jm (.bool true) ?_
  refine jm (.bool true) ?_
  refine jm (.bool true) ?_
  refine jm (v74) ?_
  refine jm (v183) ?_
  refine jc (.bool true) (fun X hX hF => spC _ _ _ _ X ((Pl.lasts eP (tot eA)) _ _ _ hv74 hX) ((Pl.lasts _ _) _ _ _ hv183 hX)) ?_
  refine jm (.bool true) ?_
  refine jm (.bool true) ?_
  refine ja hD1 Tryd.underlying24 (by rfl) info_kn ?_
  refine jc (.int .i64 0) (fun X hX hF => kchV _ eA X ⟨_, rfl, ((Ks.lasts eA) _ _ _ hv28 hX)⟩ (by decide)) ?_
  refine jv (.bool true) (exec_eqi _ _ _ _ (by rfl) .i64 0 0 (by rfl) (by rfl) true (decide_eq_true (by omega))) ?_
  refine jm (.bool true) ?_
  refine jm (.bool true) ?_
  refine lx_new (by rfl) (fun X hX hF => Ks.mk eZ 2 rfl (by decide) (by unfold execOp eZ; go_simp)) ?_
  intro v202
  simp only [pX]
  refine jc (.agg #[v202]) (fun X hX hF => ofK _ eZ X (hF _ _ List.mem_cons_self rfl)) ?_
  refine jc (.int .i64 1) (fun X hX hF => kchV _ eZ X ⟨_, rfl, (hF _ _ List.mem_cons_self rfl)⟩ (by decide)) ?_
  refine jv (.bool true) (exec_eqi _ _ _ _ (by rfl) .i64 1 1 (by rfl) (by rfl) true (decide_eq_true (by omega))) ?_
  refine jm (.bool true) ?_
  refine jm (.bool true) ?_
  refine lx_nil ?_
  intro X17 hX17 hF
  replace hv28 := (Ks.lasts eA) _ _ _ hv28 hX17
  replace hv41 := (Ks.lasts _) _ _ _ hv41 hX17
  replace hv44 := (Ks.lasts eA) _ _ _ hv44 hX17
  replace hv50 := (Ks.lasts eM) _ _ _ hv50 hX17
  replace hv54 := (Ks.lasts eD) _ _ _ hv54 hX17
  replace hv60 := (Ks.lasts eL) _ _ _ hv60 hX17
  replace hv66 := (Rq.lasts _) _ _ _ hv66 hX17
  replace hv68 := (Rq.lasts eO) _ _ _ hv68 hX17
  replace hv74 := (Pl.lasts eP (tot eA)) _ _ _ hv74 hX17
  replace hv77 := (Ks.lasts _) _ _ _ hv77 hX17
  replace hv83 := (Ks.lasts _) _ _ _ hv83 hX17
  replace hv87 := (Ks.lasts eQ) _ _ _ hv87 hX17
  replace hv150 := (Ks.lasts _) _ _ _ hv150 hX17
  replace hv156 := (Ks.lasts _) _ _ _ hv156 hX17
  replace hv175 := (Rq.lasts _) _ _ _ hv175 hX17
  replace hv183 := (Pl.lasts _ _) _ _ _ hv183 hX17
  have hv202 := hF _ _ List.mem_cons_self
  replace hD1 := hD1.bel hX17
  replace hD4 := hD4.bel hX17
  replace hD6 := hD6.bel hX17
  replace hD8 := hD8.bel hX17
  replace hD10 := hD10.bel hX17
  replace hD12 := hD12.bel hX17
  replace hD18 := hD18.bel hX17
  replace hD20 := hD20.bel hX17
  replace hD22 := hD22.bel hX17
  have hb := bel_next hb hX17
  clear hF hX17
  go_wp2
  go_ret
  exact ⟨rfl, hb⟩
end Go.Proofs.YtcpedbpldgndmaaDoor
