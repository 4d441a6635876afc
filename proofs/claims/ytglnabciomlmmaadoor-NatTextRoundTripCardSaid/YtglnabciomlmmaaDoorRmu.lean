/-
  The reference: Mul.
-/
import Derived.Test.YtglnabciomlmmaaDoorRsu
namespace Go.Proofs.YtglnabciomlmmaaDoor
open Go.RowKit

theorem lvN_set {l : List Nat} {j : Nat} (hj : j < l.length) (d : Nat) : lvN 256 (l.set j d) + 256 ^ j * l.getD j 0 = lvN 256 l + 256 ^ j * d := by
  have h1 : l = l.take j ++ l[j] :: l.drop (j + 1) := by
    conv => lhs; rw [← List.take_append_drop j l, List.drop_eq_getElem_cons hj]
  have h2 : l.set j d = l.take j ++ d :: l.drop (j + 1) := by
    rw [List.set_eq_take_append_cons_drop, if_pos hj]
  have h3 : (l.take j).length = j := by rw [List.length_take]; omega
  have h4 : l.getD j 0 = l[j] := by simp [List.getD, hj]
  have e1 : lvN 256 (l.set j d) = lvN 256 (l.take j) + 256 ^ j * (d + 256 * lvN 256 (l.drop (j + 1))) := by rw [h2, lvN_append, h3]; rfl
  have e2 : lvN 256 l = lvN 256 (l.take j) + 256 ^ j * (l[j] + 256 * lvN 256 (l.drop (j + 1))) := by conv => lhs; rw [h1, lvN_append, h3]
                                                                                                     rfl
  rw [e1, e2, h4, Nat.mul_add, Nat.mul_add]
  omega
theorem mul_step {O : List Nat} {a b : List UInt8} {i k c n T : Nat} (hj : i + k < O.length) (h : lvN 256 O + 256 ^ (i + k) * c = T + 256 ^ i * dgt a i * lo b k) (hn : n = O.getD (i + k) 0 + dgt a i * dgt b k + c) :
    lvN 256 (O.set (i + k) (n % 256)) + 256 ^ (i + (k + 1)) * (n / 256) = T + 256 ^ i * dgt a i * lo b (k + 1) := by
  have h1 := lvN_set hj (n % 256)
  rw [lo_succ, Nat.mul_add]
  have h2 : 256 ^ i * dgt a i * (256 ^ k * dgt b k) = 256 ^ (i + k) * (dgt a i * dgt b k) := by rw [Nat.pow_add, Nat.mul_assoc, Nat.mul_assoc, Nat.mul_left_comm (dgt a i)]
  have h3 : 256 ^ (i + (k + 1)) * (n / 256) = 256 ^ (i + k) * (256 * (n / 256)) := by rw [← Nat.add_assoc, Nat.pow_succ, Nat.mul_assoc]
  have h4 : 256 ^ (i + k) * (n % 256) + 256 ^ (i + k) * (256 * (n / 256)) = 256 ^ (i + k) * O.getD (i + k) 0 + 256 ^ (i + k) * (dgt a i * dgt b k) + 256 ^ (i + k) * c := by
    rw [← Nat.mul_add, Nat.mod_add_div, hn, Nat.mul_add, Nat.mul_add]
  rw [h2, h3]
  omega
theorem mul_end {O : List Nat} {a b : List UInt8} {i c : Nat} (hi : i < a.length) (h : lvN 256 O + 256 ^ (i + (b.length + 1)) * c = lo a i * val b + 256 ^ i * dgt a i * lo b (b.length + 1)) : lvN 256 O = lo a (i + 1) * val b := by
  rw [lo_all (a := b) (by omega)] at h
  have h1 : lo a i * val b + 256 ^ i * dgt a i * val b = lo a (i + 1) * val b := by rw [lo_succ, Nat.add_mul]
  rw [h1] at h
  have h2 : lo a (i + 1) < 256 ^ (i + 1) := by rw [lo_mod]; exact Nat.mod_lt _ (Nat.pow_pos (by omega))
  have h3 := Nat.mul_lt_mul'' h2 (val_lt b)
  rw [← Nat.pow_add, show i + 1 + b.length = i + (b.length + 1) by omega] at h3
  rcases Nat.eq_zero_or_pos c with hc | hc
  · rw [hc, Nat.mul_zero] at h
    exact h
  · have := Nat.mul_le_mul_left (256 ^ (i + (b.length + 1))) hc
    omega
theorem digits_set {O : List Nat} (h : ∀ d ∈ O, d < 256) {n : Nat} (hn : n < 256) (j : Nat) : ∀ d ∈ O.set j n, d < 256 := by
  intro d hd
  rcases List.mem_or_eq_of_mem_set hd with h1 | h1
  · exact h d h1
  · rw [h1]; exact hn
theorem getD_lt {O : List Nat} (h : ∀ d ∈ O, d < 256) (j : Nat) : O.getD j 0 < 256 := by
  rcases Nat.lt_or_ge j O.length with h1 | h1
  · have : O.getD j 0 = O[j] := by simp [List.getD, h1]
    rw [this]
    exact h _ (List.getElem_mem h1)
  · simp [List.getD, List.getElem?_eq_none h1]
theorem zeros_lt (n : Nat) : ∀ d ∈ List.replicate n 0, d < 256 := fun d hd => by rw [List.eq_of_mem_replicate hd]; omega
theorem Blk.ni {w : World} {g : Nat} {t : TypeId} {l : List Nat} (h : Blk w g t (l.map Ni)) {j : Nat} (hj : j < l.length) : w.cell? ⟨g, j, none⟩ = some (.int .i64 (l.getD j 0 : Int)) := by
  have := h.cell (j := j) (u := Ni l[j]) (by simp [hj])
  rw [this]
  simp [Ni, List.getD, hj]
theorem Blk.isI {w : World} {g n : Nat} {t : TypeId} {l : List Nat} (h : Blk w g t (l.map Ni)) (hn : l.length = n) (hm : n ≤ maxLen) : Is l (.slice (some ⟨g, 0, none⟩) n n) w := by
  subst hn
  exact ⟨_, _, rfl, Rd.of_cl h.cl h.lt (by rw [List.length_map]) (Nat.le_refl _) hm⟩
/-- 'make([]int, n)'. -/
def MadeI (n B : Nat) (v : Value) (X : World) : Prop := ∃ g, v = .slice (some ⟨g, 0, none⟩) n n ∧ B ≤ g ∧ Blk X g 3 ((List.replicate n 0).map Ni)
theorem MadeI.lasts (n B : Nat) : Lasts (MadeI n B) := by
  rintro v X Y ⟨g, h1, h2, h3⟩ hS
  exact ⟨g, h1, h2, h3.bel hS⟩
theorem exec_makeI {f : Operand → Value} {o : Oper} (x y : Operand) (ho : o.op = .makeSlice 58 x y) (n B : Nat) {z : Int} (hx : f x = .int .i64 z) (hy : f y = .int .i64 z) (hz : z = (n : Int)) (hn : n ≤ 1073741824) (X : World) (hB : B ≤ X.heap.size) :
    ∃ v X', (execOp f o).run Tryd.prog X = .ok (.value v) X' ∧ MadeI n B v X' ∧ Since X X' := by
  subst hz
  obtain ⟨i, hi, hz0, hsz, hby⟩ := info_parts info_int
  have hr := run_make (P := Tryd.prog) X 58 3 i (.int .i64 0) Tryd.underlying58 hi hz0 .i64 .i64 n n (by omega) (by omega) (by rw [hby]; omega) (by omega)
  simp only [Int.toNat_natCast, hsz, Nat.mul_one] at hr
  refine ⟨_, X.alloc (.cells (madeCells (Value.int IntKind.i64 0).cells n) 3), ?_, ⟨X.heap.size, rfl, hB, ?_⟩, (Below.refl X.heap.size X).alloc (Nat.le_refl _) _⟩
  · unfold execOp
    simp only [ho, hx, hy, Sem.run_bind, hr, Result.andThen_ok, Sem.run_pure]
  · refine Blk.new ?_
    apply Array.ext
    · simp [size_madeCells, Value.cells]
    · intro j h1 h2
      simp [madeCells, Value.cells, Ni, Nat.mod_one]
theorem lvN_zero (n : Nat) : lvN 256 (List.replicate n 0) = 0 := lvN_zeros 256 n
set_option maxRecDepth 100000 in
set_option maxHeartbeats 1600000 in
theorem rmulC (a b : List UInt8) (w : World) (ha : a.length ≤ 4194304) (hb0 : b.length ≤ 4194304) : Calls Tryd.prog 23 #[.string ⟨a.toArray⟩, .string ⟨b.toArray⟩] w fun e w' => e = .returned (.string ⟨(be (val a * val b)).toArray⟩) ∧ Since w w' := by
  obtain ⟨N, hN⟩ : ∃ N, N = a.length + b.length + 1 := ⟨_, rfl⟩
  have hN1 : N ≤ a.length + b.length + 1 := by omega
  have hN2 : a.length + b.length + 1 ≤ N := by omega
  clear hN
  go_enter Tryd.func23, Tryd.ntmps23
  go_upto_region 1 with (fail)
  refine lx_plain [none, none, none, none, none, none, some (MadeI N w.heap.size)] (lasts_none (lasts_none (lasts_none (lasts_none (lasts_none (lasts_none (lasts_some (MadeI.lasts _ _) (lasts_nil)))))))) ?_
  simp only [its, Nat.zero_add, Nat.reduceAdd]
  refine lx_val (by rfl) (.string ⟨a.toArray⟩) (fun X hX hF => by rfl) ?_
  simp only [Act.put, List.setIfInBounds_toArray, List.set_cons_succ, List.set_cons_zero]
  refine lx_val (by rfl) (.int .i64 (a.length : Int)) (fun X hX hF => exec_lens Tryd.underlying9 _ (by rfl) a (by rfl) _ rfl X) ?_
  simp only [Act.put, List.setIfInBounds_toArray, List.set_cons_succ, List.set_cons_zero]
  refine lx_val (by rfl) (.string ⟨b.toArray⟩) (fun X hX hF => by rfl) ?_
  simp only [Act.put, List.setIfInBounds_toArray, List.set_cons_succ, List.set_cons_zero]
  refine lx_val (by rfl) (.int .i64 (b.length : Int)) (fun X hX hF => exec_lens Tryd.underlying9 _ (by rfl) b (by rfl) _ rfl X) ?_
  simp only [Act.put, List.setIfInBounds_toArray, List.set_cons_succ, List.set_cons_zero]
  refine lx_val (by rfl) (.int .i64 ((a.length : Int) + (b.length : Int))) (fun X hX hF => exec_add _ _ _ _ (by rfl) (a.length : Int) (b.length : Int) ((a.length : Int) + (b.length : Int)) (by rfl) (by rfl) (by omega) (by omega) (by omega) X) ?_
  simp only [Act.put, List.setIfInBounds_toArray, List.set_cons_succ, List.set_cons_zero]
  refine lx_val (by rfl) (.int .i64 (N : Int)) (fun X hX hF => exec_add _ _ _ _ (by rfl) ((a.length : Int) + (b.length : Int)) 1 (N : Int) (by rfl) (by rfl) (by omega) (by omega) (by omega) X) ?_
  simp only [Act.put, List.setIfInBounds_toArray, List.set_cons_succ, List.set_cons_zero]
  refine lx_new (by rfl) (fun X hX hF => exec_makeI _ _ (by rfl) N w.heap.size (by rfl) (by rfl) rfl (by omega) X hX.size) ?_
  intro v16
  simp only [Act.put, List.setIfInBounds_toArray, List.set_cons_succ, List.set_cons_zero]
  refine lx_val (by rfl) (v16) (fun X hX hF => by rfl) ?_
  simp only [Act.put, List.setIfInBounds_toArray, List.set_cons_succ, List.set_cons_zero]
  refine lx_nil ?_
  intro X1 hX1 hF
  have hv16 := hF _ _ List.mem_cons_self
  have hb : Below w.heap.size w X1 := hX1
  clear hF hX1
  obtain ⟨g, rfl, hg, hB0⟩ := hv16
  go_wp2
  go_loopw [6] (fun iv wr => ∃ (i : Nat) (O : List Nat), i ≤ a.length ∧ iv = .int .i64 (i : Int) ∧ O.length = N ∧ (∀ d ∈ O, d < 256) ∧ lvN 256 O = lo a i * val b ∧ Blk wr g 3 (O.map Ni) ∧ Below w.heap.size w wr) (fun iv _ => a.length - (intOf iv).toNat)
  case atStart => exact ⟨0, List.replicate N 0, by omega, rfl, List.length_replicate, zeros_lt N, by rw [lvN_zero, lo_zero, Nat.zero_mul], hB0, hb⟩
  case round =>
    clear hB0 hb
    obtain ⟨i, O, hi, rfl, hO, hdg, hst, hB, hb⟩ := hrel
    have HO := Lib.hid hO
    have HDG := Lib.hid hdg
    have HST := Lib.hid hst
    clear hO hdg hst
    rcases Nat.lt_or_ge i a.length with hlt | hlt
    · have HLT : Hid (i < a.length) := hlt
      go_upto_region 3 with (fail)
      refine lx_plain [] (lasts_nil) ?_
      simp only [its, Nat.zero_add, Nat.reduceAdd]
      refine lx_val (by rfl) (.int .i64 (i : Int)) (fun X hX hF => by rfl) ?_
      simp only [Act.put, List.setIfInBounds_toArray, List.set_cons_succ, List.set_cons_zero]
      refine lx_val (by rfl) (.string ⟨a.toArray⟩) (fun X hX hF => by rfl) ?_
      simp only [Act.put, List.setIfInBounds_toArray, List.set_cons_succ, List.set_cons_zero]
      refine lx_val (by rfl) (.int .i64 (a.length : Int)) (fun X hX hF => exec_lens Tryd.underlying9 _ (by rfl) a (by rfl) _ rfl X) ?_
      simp only [Act.put, List.setIfInBounds_toArray, List.set_cons_succ, List.set_cons_zero]
      refine lx_val (by rfl) (.bool true) (fun X hX hF => exec_lss _ _ _ _ (by rfl) .i64 (i : Int) (a.length : Int) (by rfl) (by rfl) true (decide_eq_true (by omega)) X) ?_
      simp only [Act.put, List.setIfInBounds_toArray, List.set_cons_succ, List.set_cons_zero]
      refine lx_nil ?_
      intro X1 hX1 hF
      have hB := hB.bel hX1
      have hb := bel_next hb hX1
      clear hF hX1
      go_wp2
      go_loopw [7, 8] (fun cv kv wq => ∃ (k c : Nat) (O : List Nat), k ≤ b.length + 1 ∧ kv = .int .i64 (k : Int) ∧ c < 256 ∧ cv = .int .i64 (c : Int) ∧ O.length = N ∧ (∀ d ∈ O, d < 256) ∧ lvN 256 O + 256 ^ (i + k) * c = lo a i * val b + 256 ^ i * dgt a i * lo b k ∧ Blk wq g 3 (O.map Ni) ∧ Below w.heap.size w wq) (fun _ kv _ => b.length + 1 - (intOf kv).toNat)
      case atStart => exact ⟨0, 0, O, by omega, rfl, by omega, rfl, HO.out, HDG.out, by rw [HST.out, lo_zero, Nat.mul_zero, Nat.mul_zero], hB, hb⟩
      case round =>
        clear hB hb HO HDG HST
        obtain ⟨k, c, P, hk, rfl, hc, rfl, hP, hdg, hst, hB, hb⟩ := hrel
        have HP := Lib.hid hP
        have HDG := Lib.hid hdg
        have HST := Lib.hid hst
        clear hP hdg hst
        rcases Nat.lt_or_ge b.length k with hkl | hkl
        · obtain rfl : k = b.length + 1 := by omega
          have HE := Lib.hid (mul_end HLT.out HST.out)
          go_upto_region 7 with (fail)
          refine lx_plain [] (lasts_nil) ?_
          simp only [its, Nat.zero_add, Nat.reduceAdd]
          refine lx_val (by rfl) (.int .i64 ((b.length + 1 : Nat) : Int)) (fun X hX hF => by rfl) ?_
          simp only [Act.put, List.setIfInBounds_toArray, List.set_cons_succ, List.set_cons_zero]
          refine lx_val (by rfl) (.string ⟨b.toArray⟩) (fun X hX hF => by rfl) ?_
          simp only [Act.put, List.setIfInBounds_toArray, List.set_cons_succ, List.set_cons_zero]
          refine lx_val (by rfl) (.int .i64 (b.length : Int)) (fun X hX hF => exec_lens Tryd.underlying9 _ (by rfl) b (by rfl) _ rfl X) ?_
          simp only [Act.put, List.setIfInBounds_toArray, List.set_cons_succ, List.set_cons_zero]
          refine lx_val (by rfl) (.bool false) (fun X hX hF => exec_leq _ _ _ _ (by rfl) .i64 ((b.length + 1 : Nat) : Int) (b.length : Int) (by rfl) (by rfl) false (decide_eq_false (by omega)) X) ?_
          simp only [Act.put, List.setIfInBounds_toArray, List.set_cons_succ, List.set_cons_zero]
          refine lx_nil ?_
          intro X1 hX1 hF
          have hB := hB.bel hX1
          have hb := bel_next hb hX1
          clear hF hX1
          go_upto_region 4 with (fail)
          refine lx_plain [] (lasts_nil) ?_
          simp only [its, Nat.zero_add, Nat.reduceAdd]
          refine lx_val (by rfl) (.int .i64 (i : Int)) (fun X hX hF => by rfl) ?_
          simp only [Act.put, List.setIfInBounds_toArray, List.set_cons_succ, List.set_cons_zero]
          refine lx_val (by rfl) (.int .i64 ((i + 1 : Nat) : Int)) (fun X hX hF => exec_add _ _ _ _ (by rfl) (i : Int) 1 ((i + 1 : Nat) : Int) (by rfl) (by rfl) (by omega) (by omega) (by omega) X) ?_
          simp only [Act.put, List.setIfInBounds_toArray, List.set_cons_succ, List.set_cons_zero]
          refine lx_val (by rfl) (.int .i64 ((i + 1 : Nat) : Int)) (fun X hX hF => by rfl) ?_
          simp only [Act.put, List.setIfInBounds_toArray, List.set_cons_succ, List.set_cons_zero]
          refine lx_nil ?_
          intro X2 hX2 hF
          have hB := hB.bel hX2
          have hb := bel_next hb hX2
          clear hF hX2
          go_wp2
          go_roundw
          case rel => exact ⟨i + 1, P, by omega, rfl, HP.out, HDG.out, HE.out, hB, hb⟩
          case measure => simp [intOf] <;> omega
        · have ga := dgt_lt a i
          have gb := dgt_lt b k
          have gO := getD_lt HDG.out (i + k)
          have hjP : i + k < P.length := by rw [HP.out]; omega
          have hq : P.getD (i + k) 0 + dgt a i * dgt b k + c ≤ 255 + 255 * 255 + 255 := by
            have := Nat.mul_le_mul (show dgt a i ≤ 255 by omega) (show dgt b k ≤ 255 by omega)
            omega
          obtain ⟨n, hn⟩ : ∃ n, n = P.getD (i + k) 0 + dgt a i * dgt b k + c := ⟨_, rfl⟩
          have HST2 := Lib.hid (mul_step hjP HST.out hn)
          have HDG2 : Hid (∀ d ∈ P.set (i + k) (n % 256), d < 256) := digits_set HDG.out (by omega) _
          have hcell := hB.ni hjP
          obtain ⟨x, hx⟩ : ∃ x, x = P.getD (i + k) 0 := ⟨_, rfl⟩
          obtain ⟨y, hy⟩ : ∃ y, y = dgt a i * dgt b k := ⟨_, rfl⟩
          rw [← hx] at hcell hn
          rw [← hy] at hn
          have HY : Hid ((dgt a i : Int) * (dgt b k : Int) = (y : Int)) := by show _ = _; rw [hy]; exact (Int.natCast_mul _ _).symm
          have hn1 : n ≤ x + y + c := by omega
          have hn2 : x + y + c ≤ n := by omega
          have hnb : n ≤ 65535 := by rw [hn, hx, hy]; omega
          have HJ := Lib.hid hjP
          have hik : i + k < N := by rw [← HP.out]; exact hjP
          clear hn hx hy gO hjP
          have hcl : ∀ X, Blk X g 3 (P.map Ni) → X.cell? ⟨g, i + k, none⟩ = some (.int .i64 (x : Int)) := fun X hX => by
            have h9 := hX.ni HJ.out
            have h8 := hB.ni HJ.out
            rw [h9, ← h8]
            exact hcell
          have HCL := Lib.hid hcl
          clear hcl hcell
          go_upto_region 7 with (fail)
          refine lx_plain [] (lasts_nil) ?_
          simp only [its, Nat.zero_add, Nat.reduceAdd]
          refine lx_val (by rfl) (.int .i64 (k : Int)) (fun X hX hF => by rfl) ?_
          simp only [Act.put, List.setIfInBounds_toArray, List.set_cons_succ, List.set_cons_zero]
          refine lx_val (by rfl) (.string ⟨b.toArray⟩) (fun X hX hF => by rfl) ?_
          simp only [Act.put, List.setIfInBounds_toArray, List.set_cons_succ, List.set_cons_zero]
          refine lx_val (by rfl) (.int .i64 (b.length : Int)) (fun X hX hF => exec_lens Tryd.underlying9 _ (by rfl) b (by rfl) _ rfl X) ?_
          simp only [Act.put, List.setIfInBounds_toArray, List.set_cons_succ, List.set_cons_zero]
          refine lx_val (by rfl) (.bool true) (fun X hX hF => exec_leq _ _ _ _ (by rfl) .i64 (k : Int) (b.length : Int) (by rfl) (by rfl) true (decide_eq_true (by omega)) X) ?_
          simp only [Act.put, List.setIfInBounds_toArray, List.set_cons_succ, List.set_cons_zero]
          refine lx_nil ?_
          intro X1 hX1 hF
          have hB := hB.bel hX1
          have hb := bel_next hb hX1
          clear hF hX1
          go_upto_region 9 with (fail)
          refine lx_region [] (by kernel_rfl) (by kernel_rfl) (lasts_nil) ?_
          simp only [its, Nat.zero_add, Nat.reduceAdd]
          refine lx_val (by rfl) (.slice (some ⟨g, 0, none⟩) N N) (fun X hX hF => by rfl) ?_
          simp only [Act.put, List.setIfInBounds_toArray, List.set_cons_succ, List.set_cons_zero]
          refine lx_val (by rfl) (.int .i64 (i : Int)) (fun X hX hF => by rfl) ?_
          simp only [Act.put, List.setIfInBounds_toArray, List.set_cons_succ, List.set_cons_zero]
          refine lx_val (by rfl) (.int .i64 (k : Int)) (fun X hX hF => by rfl) ?_
          simp only [Act.put, List.setIfInBounds_toArray, List.set_cons_succ, List.set_cons_zero]
          refine lx_val (by rfl) (.int .i64 ((i + k : Nat) : Int)) (fun X hX hF => exec_add _ _ _ _ (by rfl) (i : Int) (k : Int) ((i + k : Nat) : Int) (by rfl) (by rfl) (by omega) (by omega) (by omega) X) ?_
          simp only [Act.put, List.setIfInBounds_toArray, List.set_cons_succ, List.set_cons_zero]
          refine lx_val (by rfl) (.pointer (some ⟨g, (i + k), none⟩)) (fun X hX hF => exec_ix0 Tryd.underlying58 size_int _ _ (by rfl) g N N (i + k) (by omega) (by rfl) (by rfl) (by omega) X) ?_
          simp only [Act.put, List.setIfInBounds_toArray, List.set_cons_succ, List.set_cons_zero]
          refine lx_val (by rfl) (.int .i64 (x : Int)) (fun X hX hF => exec_ld 3 _ (by rfl) g ((i + k)) (by rfl) _ X (HCL.out X (hB.bel hX)) (fun X u h => load_int g ((i + k)) X u h)) ?_
          simp only [Act.put, List.setIfInBounds_toArray, List.set_cons_succ, List.set_cons_zero]
          refine lx_val (by rfl) (.string ⟨a.toArray⟩) (fun X hX hF => by rfl) ?_
          simp only [Act.put, List.setIfInBounds_toArray, List.set_cons_succ, List.set_cons_zero]
          refine lx_val (by rfl) (.int .i64 (i : Int)) (fun X hX hF => by rfl) ?_
          simp only [Act.put, List.setIfInBounds_toArray, List.set_cons_succ, List.set_cons_zero]
          refine lx_call (by rfl) 39 _ _ (by rfl) (.int .i64 (dgt a i : Int)) [.string ⟨a.toArray⟩, .int .i64 (i : Int)] (by rfl) (by kernel_rfl) (fun _ => by go_simp) (fun X hX hF => rdigitC a i X (by omega)) ?_
          simp only [Act.put, List.setIfInBounds_toArray, List.set_cons_succ, List.set_cons_zero]
          refine lx_val (by rfl) (.string ⟨b.toArray⟩) (fun X hX hF => by rfl) ?_
          simp only [Act.put, List.setIfInBounds_toArray, List.set_cons_succ, List.set_cons_zero]
          refine lx_val (by rfl) (.int .i64 (k : Int)) (fun X hX hF => by rfl) ?_
          simp only [Act.put, List.setIfInBounds_toArray, List.set_cons_succ, List.set_cons_zero]
          refine lx_call (by rfl) 39 _ _ (by rfl) (.int .i64 (dgt b k : Int)) [.string ⟨b.toArray⟩, .int .i64 (k : Int)] (by rfl) (by kernel_rfl) (fun _ => by go_simp) (fun X hX hF => rdigitC b k X (by omega)) ?_
          simp only [Act.put, List.setIfInBounds_toArray, List.set_cons_succ, List.set_cons_zero]
          refine lx_val (by rfl) (.int .i64 (y : Int)) (fun X hX hF => exec_mul _ _ _ _ (by rfl) (dgt a i : Int) (dgt b k : Int) (y : Int) (by rfl) (by rfl) HY.out (by omega) (by omega) X) ?_
          simp only [Act.put, List.setIfInBounds_toArray, List.set_cons_succ, List.set_cons_zero]
          refine lx_val (by rfl) (.int .i64 ((x + y : Nat) : Int)) (fun X hX hF => exec_add _ _ _ _ (by rfl) (x : Int) (y : Int) ((x + y : Nat) : Int) (by rfl) (by rfl) (by omega) (by omega) (by omega) X) ?_
          simp only [Act.put, List.setIfInBounds_toArray, List.set_cons_succ, List.set_cons_zero]
          refine lx_val (by rfl) (.int .i64 (c : Int)) (fun X hX hF => by rfl) ?_
          simp only [Act.put, List.setIfInBounds_toArray, List.set_cons_succ, List.set_cons_zero]
          refine lx_val (by rfl) (.int .i64 (n : Int)) (fun X hX hF => exec_add _ _ _ _ (by rfl) ((x + y : Nat) : Int) (c : Int) (n : Int) (by rfl) (by rfl) (by omega) (by omega) (by omega) X) ?_
          simp only [Act.put, List.setIfInBounds_toArray, List.set_cons_succ, List.set_cons_zero]
          refine lx_val (by rfl) (.int .i64 (n : Int)) (fun X hX hF => by rfl) ?_
          simp only [Act.put, List.setIfInBounds_toArray, List.set_cons_succ, List.set_cons_zero]
          refine lx_nil ?_
          intro X2 hX2 hF
          have hB := hB.bel hX2
          have hb := bel_next hb hX2
          clear hF hX2
          go_upto_region 10 with (fail)
          refine lx_plain_to 7 [] (lasts_nil) ?_
          simp only [its, List.take, List.drop, Nat.zero_add, Nat.reduceAdd]
          refine lx_val (by rfl) (.slice (some ⟨g, 0, none⟩) N N) (fun X hX hF => by rfl) ?_
          simp only [Act.put, List.setIfInBounds_toArray, List.set_cons_succ, List.set_cons_zero]
          refine lx_val (by rfl) (.int .i64 (i : Int)) (fun X hX hF => by rfl) ?_
          simp only [Act.put, List.setIfInBounds_toArray, List.set_cons_succ, List.set_cons_zero]
          refine lx_val (by rfl) (.int .i64 (k : Int)) (fun X hX hF => by rfl) ?_
          simp only [Act.put, List.setIfInBounds_toArray, List.set_cons_succ, List.set_cons_zero]
          refine lx_val (by rfl) (.int .i64 ((i + k : Nat) : Int)) (fun X hX hF => exec_add _ _ _ _ (by rfl) (i : Int) (k : Int) ((i + k : Nat) : Int) (by rfl) (by rfl) (by omega) (by omega) (by omega) X) ?_
          simp only [Act.put, List.setIfInBounds_toArray, List.set_cons_succ, List.set_cons_zero]
          refine lx_val (by rfl) (.int .i64 (n : Int)) (fun X hX hF => by rfl) ?_
          simp only [Act.put, List.setIfInBounds_toArray, List.set_cons_succ, List.set_cons_zero]
          refine lx_val (by rfl) (.int .i64 ((n : Int) % 256)) (fun X hX hF => exec_rem _ _ _ _ (by rfl) .i64 (n : Int) 256 ((n : Int) % 256) (by rfl) (by rfl) (by omega) (by omega) rfl X) ?_
          simp only [Act.put, List.setIfInBounds_toArray, List.set_cons_succ, List.set_cons_zero]
          refine lx_val (by rfl) (.pointer (some ⟨g, (i + k), none⟩)) (fun X hX hF => exec_ix0 Tryd.underlying58 size_int _ _ (by rfl) g N N (i + k) (by omega) (by rfl) (by rfl) (by omega) X) ?_
          simp only [Act.put, List.setIfInBounds_toArray, List.set_cons_succ, List.set_cons_zero]
          refine lx_nil ?_
          intro X3 hX3 hF
          have hB := hB.bel hX3
          have hb := bel_next hb hX3
          clear hF hX3
          have q1 := HCL.out _ hB
          have q2 := hB.free (i + k)
          have hB9 := hB.set (i + k) (Ni (n % 256))
          rw [← List.map_set, show Ni (n % 256) = .int .i64 ((n : Int) % 256) from int_eq (by omega)] at hB9
          have hb9 : Below w.heap.size w (X3.setCell ⟨g, i + k, none⟩ (.int .i64 ((n : Int) % 256))) := hb.setCell (by simp; omega) _
          go_upto_region 11 with (fail)
          clear hB hb q1 q2
          generalize X3.setCell ⟨g, i + k, none⟩ (.int .i64 ((n : Int) % 256)) = Y4 at hB9 hb9 ⊢
          have hb := hb9
          have hB := hB9
          clear hb9 hB9
          refine lx_plain [] (lasts_nil) ?_
          simp only [its, Nat.zero_add, Nat.reduceAdd]
          refine lx_val (by rfl) (.int .i64 (n : Int)) (fun X hX hF => by rfl) ?_
          simp only [Act.put, List.setIfInBounds_toArray, List.set_cons_succ, List.set_cons_zero]
          refine lx_val (by rfl) (.int .i64 ((n / 256 : Nat) : Int)) (fun X hX hF => exec_quo _ _ _ _ (by rfl) .i64 (n : Int) 256 ((n / 256 : Nat) : Int) (by rfl) (by rfl) (by omega) (by omega) (by omega) (IntWalk.i64_in _ (by omega)) X) ?_
          simp only [Act.put, List.setIfInBounds_toArray, List.set_cons_succ, List.set_cons_zero]
          refine lx_val (by rfl) (.int .i64 ((n / 256 : Nat) : Int)) (fun X hX hF => by rfl) ?_
          simp only [Act.put, List.setIfInBounds_toArray, List.set_cons_succ, List.set_cons_zero]
          refine lx_nil ?_
          intro X4 hX4 hF
          have hB := hB.bel hX4
          have hb := bel_next hb hX4
          clear hF hX4
          go_upto_region 8 with (fail)
          refine lx_plain [] (lasts_nil) ?_
          simp only [its, Nat.zero_add, Nat.reduceAdd]
          refine lx_val (by rfl) (.int .i64 (k : Int)) (fun X hX hF => by rfl) ?_
          simp only [Act.put, List.setIfInBounds_toArray, List.set_cons_succ, List.set_cons_zero]
          refine lx_val (by rfl) (.int .i64 ((k + 1 : Nat) : Int)) (fun X hX hF => exec_add _ _ _ _ (by rfl) (k : Int) 1 ((k + 1 : Nat) : Int) (by rfl) (by rfl) (by omega) (by omega) (by omega) X) ?_
          simp only [Act.put, List.setIfInBounds_toArray, List.set_cons_succ, List.set_cons_zero]
          refine lx_val (by rfl) (.int .i64 ((k + 1 : Nat) : Int)) (fun X hX hF => by rfl) ?_
          simp only [Act.put, List.setIfInBounds_toArray, List.set_cons_succ, List.set_cons_zero]
          refine lx_nil ?_
          intro X5 hX5 hF
          have hB := hB.bel hX5
          have hb := bel_next hb hX5
          clear hF hX5
          go_wp2
          go_roundw
          case rel => exact ⟨k + 1, n / 256, P.set (i + k) (n % 256), by omega, rfl, by omega, rfl, by rw [List.length_set]; exact HP.out, HDG2.out, HST2.out, hB, hb⟩
          case measure => simp [intOf]; omega
    · obtain rfl : i = a.length := by omega
      have HE : Hid (lvN 256 O = val a * val b) := by show _ = _; rw [HST.out, lo_all (Nat.le_refl _)]
      have hOl : O.length ≤ N := by rw [HO.out]; exact Nat.le_refl _
      go_upto_region 3 with (fail)
      refine lx_plain [] (lasts_nil) ?_
      simp only [its, Nat.zero_add, Nat.reduceAdd]
      refine lx_val (by rfl) (.int .i64 (a.length : Int)) (fun X hX hF => by rfl) ?_
      simp only [Act.put, List.setIfInBounds_toArray, List.set_cons_succ, List.set_cons_zero]
      refine lx_val (by rfl) (.string ⟨a.toArray⟩) (fun X hX hF => by rfl) ?_
      simp only [Act.put, List.setIfInBounds_toArray, List.set_cons_succ, List.set_cons_zero]
      refine lx_val (by rfl) (.int .i64 (a.length : Int)) (fun X hX hF => exec_lens Tryd.underlying9 _ (by rfl) a (by rfl) _ rfl X) ?_
      simp only [Act.put, List.setIfInBounds_toArray, List.set_cons_succ, List.set_cons_zero]
      refine lx_val (by rfl) (.bool false) (fun X hX hF => exec_lss _ _ _ _ (by rfl) .i64 (a.length : Int) (a.length : Int) (by rfl) (by rfl) false (decide_eq_false (by omega)) X) ?_
      simp only [Act.put, List.setIfInBounds_toArray, List.set_cons_succ, List.set_cons_zero]
      refine lx_nil ?_
      intro X1 hX1 hF
      have hB := hB.bel hX1
      have hb := bel_next hb hX1
      clear hF hX1
      go_upto_region 12 with (fail)
      refine lx_plain [] (lasts_nil) ?_
      simp only [its, Nat.zero_add, Nat.reduceAdd]
      refine lx_val (by rfl) (.slice (some ⟨g, 0, none⟩) N N) (fun X hX hF => by rfl) ?_
      simp only [Act.put, List.setIfInBounds_toArray, List.set_cons_succ, List.set_cons_zero]
      refine lx_call (by rfl) 40 _ _ (by rfl) (.string ⟨(be (lvN 256 O)).toArray⟩) [.slice (some ⟨g, 0, none⟩) N N] (by rfl) (by kernel_rfl) (fun _ => by go_simp) (fun X hX hF => rnumberC _ O X ((hB.bel hX).isI HO.out (by unfold maxLen; omega)) HDG.out (by omega)) ?_
      simp only [Act.put, List.setIfInBounds_toArray, List.set_cons_succ, List.set_cons_zero]
      refine lx_val (by rfl) (.string ⟨(be (lvN 256 O)).toArray⟩) (fun X hX hF => by rfl) ?_
      simp only [Act.put, List.setIfInBounds_toArray, List.set_cons_succ, List.set_cons_zero]
      refine lx_nil ?_
      intro X2 hX2 hF
      have hB := hB.bel hX2
      have hb := bel_next hb hX2
      clear hF hX2
      rw [HE.out]
      go_wp2
      go_ret
      exact ⟨rfl, hb⟩

end Go.Proofs.YtglnabciomlmmaaDoor
