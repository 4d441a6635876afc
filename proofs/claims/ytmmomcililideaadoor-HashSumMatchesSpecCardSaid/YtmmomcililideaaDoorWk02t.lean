/-
  What every law of this chapter checks first.
-/
import Derived.Test.YtmmomcililideaaDoorWk02s
import Derived.Lib.SlBytesConst
set_option linter.unusedSimpArgs false
set_option linter.unusedVariables false
namespace Go.Proofs.YtmmomcililideaaDoor
open Go.RowKit

theorem op_load_aggG {P : Program} {w : World} {ops : Array Oper} {rest : List Oper} {o : Oper} {a : Act} {Q : Exit → Act → World → Prop} (hw : Region.wanted o (yielded ops a.tmps) = true) (ty : TypeId) (x : Operand) (ho : o.op = .load ty x) (b off : Nat) (hx : a.eval x = .pointer (some ⟨b, off, none⟩)) (d : TypeDesc) (hu : P.underlying ty = some d)
    (hd : (match d with | .struct _ | .array _ _ => true | _ => false) = true) (xs : List Value) (hc : Cl w b off xs) (hi : (P.info? ty).map (·.size) = some xs.length)
    (h : wpList P ops Q rest (a.put o.dst (.agg xs.toArray)) w) : wpList P ops Q (o :: rest) a w := by
  refine wpList_step fun K hK => ?_
  rw [if_pos hw]
  unfold Oper.wp execOp
  simp only [ho, hx, Instr.loadAt, Instr.sureAddr, Sem.run_bind, Sem.run_pure, Result.andThen_ok, run_loadVar_cl ty d b off xs hc hu hd hi]
  exact hK _ _ h
theorem op_valG {P : Program} {w : World} {ops : Array Oper} {rest : List Oper} {o : Oper} {a : Act} {Q : Exit → Act → World → Prop} (hw : Region.wanted o (yielded ops a.tmps) = true) (v : Value) (hq : (execOp a.eval o).run P w = .ok (.value v) w)
    (h : wpList P ops Q rest (a.put o.dst v) w) : wpList P ops Q (o :: rest) a w := by
  refine wpList_step fun K hK => ?_
  rw [if_pos hw]
  unfold Oper.wp
  rw [hq]
  exact hK _ _ h
theorem expI_len (seed : List UInt8) {n : Int} (h1 : 1 ≤ n) (h2 : n ≤ 1048576) : (expI seed n).length = n.toNat := by
  unfold expI expL
  rw [if_neg (by omega), List.length_take, exs_len]
  omega
theorem expI_none (seed : List UInt8) {n : Int} (h : n < 1 ∨ 1048576 < n) : expI seed n = [] := by unfold expI; rw [if_pos h]
theorem eqm32 : Tryd.prog.eqGuardType Tryd.prog.depth 24 = false := by kernel_rfl
theorem eqm16 : Tryd.prog.eqGuardType Tryd.prog.depth 41 = false := by kernel_rfl
theorem eql32 (W : World) (x y : List UInt8) (hx : x.length = 32) (hy : y.length = 32) : (binOp .eql 24 (.agg (x.map B8).toArray) (.agg (y.map B8).toArray)).run Tryd.prog W = .ok (.bool (x == y)) W :=
  run_eql_arr W 24 5 32 Tryd.underlying24 Tryd.underlying5 size_u8 x y hx hy
theorem eql16 (W : World) (x y : List UInt8) (hx : x.length = 16) (hy : y.length = 16) : (binOp .eql 41 (.agg (x.map B8).toArray) (.agg (y.map B8).toArray)).run Tryd.prog W = .ok (.bool (x == y)) W :=
  run_eql_arr W 41 5 16 Tryd.underlying41 Tryd.underlying5 size_u8 x y hx hy

theorem rd_mark {w : World} {t : TypeId} {n : Nat} {cs : Array Value} {fr : Nat × Nat} {xs : List Value} (h : cs = xs.toArray) (hn : xs.length = n) (hm : n ≤ maxLen) :
    Rd (w.alloc (.cells cs t fr)) 1 (.slice (some ⟨w.heap.size, 0, none⟩) n n) n xs := by
  subst h
  refine ⟨by omega, some ⟨w.heap.size, 0, none⟩, n, rfl, Nat.le_refl _, hm, (fun h => by cases h), fun _ => ⟨w.heap.size, 0, rfl, by simp, fun j u hj => ?_⟩⟩
  rw [Nat.zero_add, World.cell?_alloc_mark]
  simpa using hj

theorem san1 : (hexL (sha [97, 98, 99]) == [98, 97, 55, 56, 49, 54, 98, 102, 56, 102, 48, 49, 99, 102, 101, 97, 52, 49, 52, 49, 52, 48, 100, 101, 53, 100, 97, 101, 50, 50, 50, 51, 98, 48, 48, 51, 54, 49, 97, 51, 57, 54, 49, 55, 55, 97, 57, 99, 98, 52, 49, 48, 102, 102, 54, 49, 102, 50, 48, 48, 49, 53, 97, 100]) = true := by kernel_rfl
theorem san2 : (hexL ((sha (inp 1 [])).take 16) == [52, 98, 102, 53, 49, 50, 50, 102, 51, 52, 52, 53, 53, 52, 99, 53, 51, 98, 100, 101, 50, 101, 98, 98, 56, 99, 100, 50, 98, 55, 101, 51]) = true := by kernel_rfl
theorem san3 : (hexL (hmac [74, 101, 102, 101] [119, 104, 97, 116, 32, 100, 111, 32, 121, 97, 32, 119, 97, 110, 116, 32, 102, 111, 114, 32, 110, 111, 116, 104, 105, 110, 103, 63]) == [53, 98, 100, 99, 99, 49, 52, 54, 98, 102, 54, 48, 55, 53, 52, 101, 54, 97, 48, 52, 50, 52, 50, 54, 48, 56, 57, 53, 55, 53, 99, 55, 53, 97, 48, 48, 51, 102, 48, 56, 57, 100, 50, 55, 51, 57, 56, 51, 57, 100, 101, 99, 53, 56, 98, 57, 54, 52, 101, 99, 51, 56, 52, 51]) = true := by kernel_rfl

set_option maxRecDepth 100000 in
set_option maxHeartbeats 3200000 in
theorem sanityC (w : World) (hK : KK w) :
    Calls Tryd.prog 12 #[] w fun e w' => e = .returned (.bool true) ∧ Below w.heap.size w w' := by
  have hz := zero16
  have hz2 := zero32
  have hKK : ∀ X, Below w.heap.size w X → KK X := fun X h => hK.below h hK.1
  have HKK := Lib.hid hKK
  clear hKK
  have q1 := san1
  have q2 := san2
  have q3 := san3
  have l1 := sha_len [97, 98, 99]
  have l3 := hmac_len [74, 101, 102, 101] [119, 104, 97, 116, 32, 100, 111, 32, 121, 97, 32, 119, 97, 110, 116, 32, 102, 111, 114, 32, 110, 111, 116, 104, 105, 110, 103, 63]
  have l2 : ((sha (inp 1 [])).take 16).length = 16 := by rw [List.length_take, sha_len]; rfl
  obtain ⟨H1, h1⟩ : ∃ h, h = sha [97, 98, 99] := ⟨_, rfl⟩
  obtain ⟨H2, h2⟩ : ∃ h, h = (sha (inp 1 [])).take 16 := ⟨_, rfl⟩
  obtain ⟨H3, h3⟩ : ∃ h, h = hmac [74, 101, 102, 101] [119, 104, 97, 116, 32, 100, 111, 32, 121, 97, 32, 119, 97, 110, 116, 32, 102, 111, 114, 32, 110, 111, 116, 104, 105, 110, 103, 63] := ⟨_, rfl⟩
  rw [← h1] at q1 l1
  rw [← h2] at q2 l2
  rw [← h3] at q3 l3
  have E1 : Hid (∀ _ : Unit, sha [97, 98, 99] = H1) := fun _ => h1.symm
  have E2 : Hid (∀ _ : Unit, (sha (inp 1 [])).take 16 = H2) := fun _ => h2.symm
  have E3 : Hid (∀ _ : Unit, hmac [74, 101, 102, 101] [119, 104, 97, 116, 32, 100, 111, 32, 121, 97, 32, 119, 97, 110, 116, 32, 102, 111, 114, 32, 110, 111, 116, 104, 105, 110, 103, 63] = H3) := fun _ => h3.symm
  have N1 := Lib.hid l1
  have N2 := Lib.hid l2
  have N3 := Lib.hid l3
  have Q1 := Lib.hid q1
  have Q2 := Lib.hid q2
  have Q3 := Lib.hid q3
  clear h1 h2 h3 l1 l2 l3 q1 q2 q3
  have kc := fun (w : World) (C : Array Value) (n c : Nat) => Lib.run_convert_bytes_const (P := Tryd.prog) w 22 5 C n c Tryd.underlying22 Tryd.underlying5
  go_enter Tryd.func12, Tryd.ntmps12
  go_wp2_with fail
  refine (hashC _ 3 _ [97, 98, 99] _ (rd_mark rfl rfl (by unfold maxLen; omega)) (by omega) (HKK.out _ (bel_alloc (Below.refl _ _) _))).mono ?_
  rintro e w1 ⟨rfl, hb1⟩
  rw [E1.out ()]
  have b1 := bel_next (bel_alloc (Below.refl w.heap.size w) _) hb1
  clear hb1
  go_wp2_with ((with_reducible show wpList _ _ _ (⟨none, .store 24 _ _, _, _, _, _⟩ :: _) _ _); refine op_store_new w1 _ _ rfl 24 (.tmp 1) (.tmp 7) rfl rfl (H1.map B8).toArray rfl (by simp [N1.out, o32_len]) (by simpa using B8s_one H1) (by simp [N1.out, size_o32]) ?_)
  have B1 : Blk (w1.alloc (.cells (H1.map B8).toArray 24)) w1.heap.size 24 (H1.map B8) := Blk.new rfl
  have c1 := bel_alloc b1 (.cells (H1.map B8).toArray 24)
  generalize w1.alloc (.cells (H1.map B8).toArray 24) = W1 at B1 c1 ⊢
  generalize w1.heap.size = g1 at B1 ⊢
  refine (beginC _).mono ?_
  rintro e w2 ⟨v2, rfl, hI2, hb2⟩
  have B1 := B1.bel hb2
  have c2 := bel_next c1 hb2
  clear hb2
  go_wp2_with fail
  refine (addC [] [97] v2 _ hI2 (by simp) (HKK.out _ c2)).mono ?_
  rintro e w3 ⟨v3, rfl, hI3, hb3⟩
  have B1 := B1.bel hb3
  have c3 := bel_next c2 hb3
  clear hb3 hI2
  go_wp2_with fail
  refine (addC ([] ++ [97]) [98, 99] v3 _ hI3 (by simp) (HKK.out _ c3)).mono ?_
  rintro e w4 ⟨v4, rfl, hI4, hb4⟩
  have hI4' : IsStr [97, 98, 99] v4 := hI4
  have B1 := B1.bel hb4
  have c4 := bel_next c3 hb4
  clear hb4 hI3 hI4
  go_wp2_with fail
  refine (sumC [97, 98, 99] v4 _ hI4' (by simp) (HKK.out _ c4)).mono ?_
  rintro e w5 ⟨rfl, hb5⟩
  rw [E1.out ()]
  have B1 := B1.bel hb5
  have c5 := bel_next c4 hb5
  clear hb5 hI4'
  go_wp2_with ((with_reducible show wpList _ _ _ (⟨none, .store 24 _ _, _, _, _, _⟩ :: _) _ _); refine op_store_new w5 _ _ rfl 24 (.tmp 2) (.tmp 11) rfl rfl (H1.map B8).toArray rfl (by simp [N1.out, o32_len]) (by simpa using B8s_one H1) (by simp [N1.out, size_o32]) ?_)
  have B2 : Blk (w5.alloc (.cells (H1.map B8).toArray 24)) w5.heap.size 24 (H1.map B8) := Blk.new rfl
  have B1 := B1.alloc (.cells (H1.map B8).toArray 24)
  have c5 := bel_alloc c5 (.cells (H1.map B8).toArray 24)
  generalize w5.alloc (.cells (H1.map B8).toArray 24) = W5 at B1 B2 c5 ⊢
  generalize w5.heap.size = g2 at B2 ⊢
  refine (ofC 1 _ _ _ [] _ (Rd.nil_ _ _) (by omega) (by simp) (HKK.out _ c5)).mono ?_
  rintro e w6 ⟨rfl, hb6⟩
  rw [E2.out ()]
  have B1 := B1.bel hb6
  have B2 := B2.bel hb6
  have c6 := bel_next c5 hb6
  clear hb6
  go_wp2_with ((with_reducible show wpList _ _ _ (⟨none, .store 41 _ _, _, _, _, _⟩ :: _) _ _); refine op_store_new w6 _ _ rfl 41 (.tmp 3) (.tmp 12) rfl rfl (H2.map B8).toArray rfl (by simp [N2.out, z16_len]) (by simpa using B8s_one H2) (by simp [N2.out, size_dg]) ?_)
  have B3 : Blk (w6.alloc (.cells (H2.map B8).toArray 41)) w6.heap.size 41 (H2.map B8) := Blk.new rfl
  have B1 := B1.alloc (.cells (H2.map B8).toArray 41)
  have B2 := B2.alloc (.cells (H2.map B8).toArray 41)
  have c6 := bel_alloc c6 (.cells (H2.map B8).toArray 41)
  generalize w6.alloc (.cells (H2.map B8).toArray 41) = W6 at B1 B2 B3 c6 ⊢
  generalize w6.heap.size = g3 at B3 ⊢
  refine (hmacC [74, 101, 102, 101] [119, 104, 97, 116, 32, 100, 111, 32, 121, 97, 32, 119, 97, 110, 116, 32, 102, 111, 114, 32, 110, 111, 116, 104, 105, 110, 103, 63] _ (by simp) (by simp) (HKK.out _ c6)).mono ?_
  rintro e w7 ⟨rfl, hb7⟩
  rw [E3.out ()]
  have B1 := B1.bel hb7
  have B2 := B2.bel hb7
  have B3 := B3.bel hb7
  have c7 := bel_next c6 hb7
  clear hb7
  go_wp2_with (first
    | ((with_reducible show wpList _ _ _ (⟨none, .store 24 _ _, _, _, _, _⟩ :: _) _ _); refine op_store_new w7 _ _ rfl 24 (.tmp 4) (.tmp 13) rfl rfl (H3.map B8).toArray rfl (by simp [N3.out, o32_len]) (by simpa using B8s_one H3) (by simp [N3.out, size_o32]) ?_)
    | ((with_reducible show wpList _ _ _ (⟨some 14, _, _, _, _, _⟩ :: _) _ _); refine op_load_agg rfl 24 (.tmp 1) rfl g1 0 rfl _ Tryd.underlying24 rfl (H1.map B8) (B1.alloc _).cl (by rw [List.length_map, N1.out]; exact size_o32) ?_))
  have B4 : Blk (w7.alloc (.cells (H3.map B8).toArray 24)) w7.heap.size 24 (H3.map B8) := Blk.new rfl
  have B1 := B1.alloc (.cells (H3.map B8).toArray 24)
  have B2 := B2.alloc (.cells (H3.map B8).toArray 24)
  have B3 := B3.alloc (.cells (H3.map B8).toArray 24)
  have c7 := bel_alloc c7 (.cells (H3.map B8).toArray 24)
  generalize w7.alloc (.cells (H3.map B8).toArray 24) = W7 at B1 B2 B3 B4 c7 ⊢
  generalize w7.heap.size = g4 at B4 ⊢
  refine (b32C H1 _ N1.out).mono ?_
  rintro e w8 ⟨rfl, hb8⟩
  have B1 := B1.bel hb8
  have B2 := B2.bel hb8
  have B3 := B3.bel hb8
  have B4 := B4.bel hb8
  have c8 := bel_next c7 hb8
  clear hb8
  go_wp2_with fail
  refine (hexC H1 _ (by rw [N1.out]; omega)).mono ?_
  rintro e w9 ⟨rfl, hb9⟩
  have B1 := B1.bel hb9
  have B2 := B2.bel hb9
  have B3 := B3.bel hb9
  have B4 := B4.bel hb9
  have c9 := bel_next c8 hb9
  clear hb9
  have q1 := Q1.out
  have hee : (H1 == H1) = true := beq_self_eq_true _
  go_wp2_with (first
    | ((with_reducible show wpList _ _ _ (⟨some 19, _, _, _, _, _⟩ :: _) _ _); refine op_load_aggG (by rfl) 24 (.tmp 1) rfl g1 0 rfl _ Tryd.underlying24 rfl (H1.map B8) B1.cl (by rw [List.length_map, N1.out]; exact size_o32) ?_)
    | ((with_reducible show wpList _ _ _ (⟨some 20, _, _, _, _, _⟩ :: _) _ _); refine op_load_aggG (by rfl) 24 (.tmp 2) rfl g2 0 rfl _ Tryd.underlying24 rfl (H1.map B8) B2.cl (by rw [List.length_map, N1.out]; exact size_o32) ?_)
    | ((with_reducible show wpList _ _ _ (⟨some 21, _, _, _, _, _⟩ :: _) _ _); refine op_valG (by rfl) (.bool true) (exec_cmp_agg .eql 24 _ (.tmp 19) (.tmp 20) rfl (H1.map B8).toArray (H1.map B8).toArray rfl rfl eqm32 _ _ ((eql32 _ H1 H1 N1.out N1.out).trans (by rw [hee]))) ?_)
    | ((with_reducible show wpList _ _ _ (⟨some 24, _, _, _, _, _⟩ :: _) _ _); refine op_load_aggG (by rfl) 41 (.tmp 3) rfl g3 0 rfl _ Tryd.underlying41 rfl (H2.map B8) B3.cl (by rw [List.length_map, N2.out]; exact size_dg) ?_))
  refine (textC H2 _ N2.out).mono ?_
  rintro e w10 ⟨rfl, hb10⟩
  have B4 := B4.bel hb10
  have c10 := bel_next c9 hb10
  clear hb10 B1 B2 B3 hee q1
  go_wp2_with fail
  refine (hexC H2 _ (by rw [N2.out]; omega)).mono ?_
  rintro e w11 ⟨rfl, hb11⟩
  have B4 := B4.bel hb11
  have c11 := bel_next c10 hb11
  clear hb11
  have q2 := Q2.out
  go_wp2_with ((with_reducible show wpList _ _ _ (⟨some 30, _, _, _, _, _⟩ :: _) _ _); refine op_load_aggG (by rfl) 24 (.tmp 4) rfl g4 0 rfl _ Tryd.underlying24 rfl (H3.map B8) B4.cl (by rw [List.length_map, N3.out]; exact size_o32) ?_)
  refine (b32C H3 _ N3.out).mono ?_
  rintro e w12 ⟨rfl, hb12⟩
  have c12 := bel_next c11 hb12
  clear hb12 B4 q2
  go_wp2_with fail
  refine (hexC H3 _ (by rw [N3.out]; omega)).mono ?_
  rintro e w13 ⟨rfl, hb13⟩
  have c13 := bel_next c12 hb13
  clear hb13
  have q3 := Q3.out
  go_wp2_with fail
  refine (expandC [97] 33 _ (by simp) (HKK.out _ c13)).mono ?_
  rintro e w14 ⟨rfl, hb14⟩
  have c14 := bel_next c13 hb14
  clear hb14 q3
  have hl := expI_len [97] (n := 33) (by omega) (by omega)
  have hl' : (expI [97] 33).length = 33 := hl
  clear hl
  go_wp2_with fail
  refine (expandC [97] 0 _ (by simp) (HKK.out _ c14)).mono ?_
  rintro e w15 ⟨rfl, hb15⟩
  have c15 := bel_next c14 hb15
  rw [expI_none [97] (n := 0) (by omega)]
  clear hb15
  go_wp2
  go_ret
  exact ⟨rfl, c15⟩
end Go.Proofs.YtmmomcililideaaDoor
