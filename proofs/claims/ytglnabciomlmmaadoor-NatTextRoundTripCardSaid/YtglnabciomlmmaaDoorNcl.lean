/-
  Clean: a number's canonical string.
-/
import Derived.Test.YtglnabciomlmmaaDoorNsm
namespace Go.Proofs.YtglnabciomlmmaaDoor
open Go.RowKit

theorem mk_from (l : List UInt8) (k : Nat) : (⟨l.toArray⟩ : ByteArray).extract k l.length = ⟨(l.drop k).toArray⟩ := by
  rw [mk_mid, List.take_of_length_le (by rw [List.length_drop]; omega)]
/-- 's[k:]' of a string. -/
theorem exec_from {P : Program} {f : Operand → Value} {o : Oper} (t : TypeId) (hu : P.underlying t = some .string) (x lo : Operand) (ho : o.op = .slice t x (some lo) none none) (l : List UInt8) (k : Nat) (hx : f x = .string ⟨l.toArray⟩) {z : Int} (hlo : f lo = .int .i64 z) (hz : z = (k : Int)) (hk : k ≤ l.length) (w : World) :
    (execOp f o).run P w = .ok (.value (.string ⟨(l.drop k).toArray⟩)) w := by
  have h := mk_from l k
  subst hz
  have h2 : (⟨l.toArray⟩ : ByteArray).size = l.length := by simp [ByteArray.size]
  unfold execOp
  simp only [ho, hx, hlo, Option.map]
  go_simp
theorem dropZ_cons (b : UInt8) (r : List UInt8) : (b :: r).dropWhile (· == 0) = if b.toNat = 0 then r.dropWhile (· == 0) else b :: r := by
  by_cases h : b = 0
  · subst h; rfl
  · have h2 : ¬ b.toNat = 0 := fun h' => h (UInt8.toNat_inj.1 h')
    rw [if_neg h2, List.dropWhile_cons_of_neg (by simpa using h)]

set_option maxRecDepth 100000 in
set_option maxHeartbeats 1600000 in
theorem trimByteC (l : List UInt8) (w : World) :
    Calls Tryd.prog 53 #[.string ⟨l.toArray⟩, .int .u8 0] w fun e w' => e = .returned (.string ⟨(l.dropWhile (· == 0)).toArray⟩) ∧ w = w' := by
  go_enter Tryd.func53, Tryd.ntmps53
  go_wp2
  go_loop [0] (fun v => ∃ m : List UInt8, v = .string ⟨m.toArray⟩ ∧ m.dropWhile (· == 0) = l.dropWhile (· == 0)) (fun v => match v with | .string s => s.size | _ => 0)
  case atStart => exact ⟨l, rfl, rfl⟩
  case round =>
    obtain ⟨m, rfl, hd⟩ := hrel
    have HD := Lib.hid hd
    clear hd
    cases m with
    | nil =>
      go_upto_region 1 with (fail)
      refine lx_plain_eq ?_
      simp only [its, Nat.zero_add, Nat.reduceAdd]
      refine lx_vale (by rfl) (.string ⟨([] : List UInt8).toArray⟩) (by rfl) ?_
      simp only [Act.put, List.setIfInBounds_toArray, List.set_cons_succ, List.set_cons_zero]
      refine lx_vale (by rfl) (.int .i64 (([] : List UInt8).length : Int)) (exec_lens Tryd.underlying9 _ (by rfl) ([] : List UInt8) (by rfl) _ rfl _) ?_
      simp only [Act.put, List.setIfInBounds_toArray, List.set_cons_succ, List.set_cons_zero]
      refine lx_vale (by rfl) (.bool false) (exec_gtr _ _ _ _ (by rfl) .i64 (([] : List UInt8).length : Int) 0 (by rfl) (by rfl) false (by simp) _) ?_
      simp only [Act.put, List.setIfInBounds_toArray, List.set_cons_succ, List.set_cons_zero]
      refine lx_vale (by rfl) (.bool false) (by rfl) ?_
      simp only [Act.put, List.setIfInBounds_toArray, List.set_cons_succ, List.set_cons_zero]
      refine lx_skip (by rfl) ?_
      simp only [Act.put, List.setIfInBounds_toArray, List.set_cons_succ, List.set_cons_zero]
      refine lx_skip (by rfl) ?_
      simp only [Act.put, List.setIfInBounds_toArray, List.set_cons_succ, List.set_cons_zero]
      refine lx_skip (by rfl) ?_
      simp only [Act.put, List.setIfInBounds_toArray, List.set_cons_succ, List.set_cons_zero]
      refine lx_skip (by rfl) ?_
      simp only [Act.put, List.setIfInBounds_toArray, List.set_cons_succ, List.set_cons_zero]
      refine lx_vale (by rfl) (.bool false) (by rfl) ?_
      simp only [Act.put, List.setIfInBounds_toArray, List.set_cons_succ, List.set_cons_zero]
      refine lx_nil ?_
      rintro _ rfl _
      go_wp2
      go_ret
      exact ⟨by rw [← HD.out]; rfl, rfl⟩
    | cons b r =>
      have HC := Lib.hid (dropZ_cons b r)
      by_cases hb : b.toNat = 0
      · go_upto_region 1 with (fail)
        refine lx_plain_eq ?_
        simp only [its, Nat.zero_add, Nat.reduceAdd]
        refine lx_vale (by rfl) (.string ⟨(b :: r).toArray⟩) (by rfl) ?_
        simp only [Act.put, List.setIfInBounds_toArray, List.set_cons_succ, List.set_cons_zero]
        refine lx_vale (by rfl) (.int .i64 ((b :: r).length : Int)) (exec_lens Tryd.underlying9 _ (by rfl) (b :: r) (by rfl) _ rfl _) ?_
        simp only [Act.put, List.setIfInBounds_toArray, List.set_cons_succ, List.set_cons_zero]
        refine lx_vale (by rfl) (.bool true) (exec_gtr _ _ _ _ (by rfl) .i64 ((b :: r).length : Int) 0 (by rfl) (by rfl) true (decide_eq_true (by rw [List.length_cons]; omega)) _) ?_
        simp only [Act.put, List.setIfInBounds_toArray, List.set_cons_succ, List.set_cons_zero]
        refine lx_vale (by rfl) (.bool true) (by rfl) ?_
        simp only [Act.put, List.setIfInBounds_toArray, List.set_cons_succ, List.set_cons_zero]
        refine lx_vale (by rfl) (.string ⟨(b :: r).toArray⟩) (by rfl) ?_
        simp only [Act.put, List.setIfInBounds_toArray, List.set_cons_succ, List.set_cons_zero]
        refine lx_vale (by rfl) (.int .u8 (b.toNat : Int)) (exec_chr _ Tryd.underlying9 _ _ (by rfl) (b :: r) 0 (by rfl) (by rfl) rfl (by rw [List.length_cons]; omega) _) ?_
        simp only [Act.put, List.setIfInBounds_toArray, List.set_cons_succ, List.set_cons_zero]
        refine lx_vale (by rfl) (.int .u8 0) (by rfl) ?_
        simp only [Act.put, List.setIfInBounds_toArray, List.set_cons_succ, List.set_cons_zero]
        refine lx_vale (by rfl) (.bool true) (exec_eqi _ _ _ _ (by rfl) .u8 (b.toNat : Int) 0 (by rfl) (by rfl) true (decide_eq_true (by omega)) _) ?_
        simp only [Act.put, List.setIfInBounds_toArray, List.set_cons_succ, List.set_cons_zero]
        refine lx_vale (by rfl) (.bool true) (by rfl) ?_
        simp only [Act.put, List.setIfInBounds_toArray, List.set_cons_succ, List.set_cons_zero]
        refine lx_nil ?_
        rintro _ rfl _
        go_upto_region 2 with (fail)
        refine lx_plain_eq ?_
        simp only [its, Nat.zero_add, Nat.reduceAdd]
        refine lx_vale (by rfl) (.string ⟨(b :: r).toArray⟩) (by rfl) ?_
        simp only [Act.put, List.setIfInBounds_toArray, List.set_cons_succ, List.set_cons_zero]
        refine lx_vale (by rfl) (.string ⟨r.toArray⟩) (exec_from _ Tryd.underlying9 _ _ (by rfl) (b :: r) 1 (by rfl) (by rfl) rfl (by rw [List.length_cons]; omega) _) ?_
        simp only [Act.put, List.setIfInBounds_toArray, List.set_cons_succ, List.set_cons_zero]
        refine lx_vale (by rfl) (.string ⟨r.toArray⟩) (by rfl) ?_
        simp only [Act.put, List.setIfInBounds_toArray, List.set_cons_succ, List.set_cons_zero]
        refine lx_nil ?_
        rintro _ rfl _
        have HR : Hid (r.dropWhile (· == 0) = l.dropWhile (· == 0)) := by
          show _ = _
          rw [← HD.out, HC.out, if_pos hb]
        clear hb
        go_wp2
        go_round
        case rel => exact ⟨r, rfl, HR.out⟩
        case measure => simp [ByteArray.size]
      · go_upto_region 1 with (fail)
        refine lx_plain_eq ?_
        simp only [its, Nat.zero_add, Nat.reduceAdd]
        refine lx_vale (by rfl) (.string ⟨(b :: r).toArray⟩) (by rfl) ?_
        simp only [Act.put, List.setIfInBounds_toArray, List.set_cons_succ, List.set_cons_zero]
        refine lx_vale (by rfl) (.int .i64 ((b :: r).length : Int)) (exec_lens Tryd.underlying9 _ (by rfl) (b :: r) (by rfl) _ rfl _) ?_
        simp only [Act.put, List.setIfInBounds_toArray, List.set_cons_succ, List.set_cons_zero]
        refine lx_vale (by rfl) (.bool true) (exec_gtr _ _ _ _ (by rfl) .i64 ((b :: r).length : Int) 0 (by rfl) (by rfl) true (decide_eq_true (by rw [List.length_cons]; omega)) _) ?_
        simp only [Act.put, List.setIfInBounds_toArray, List.set_cons_succ, List.set_cons_zero]
        refine lx_vale (by rfl) (.bool true) (by rfl) ?_
        simp only [Act.put, List.setIfInBounds_toArray, List.set_cons_succ, List.set_cons_zero]
        refine lx_vale (by rfl) (.string ⟨(b :: r).toArray⟩) (by rfl) ?_
        simp only [Act.put, List.setIfInBounds_toArray, List.set_cons_succ, List.set_cons_zero]
        refine lx_vale (by rfl) (.int .u8 (b.toNat : Int)) (exec_chr _ Tryd.underlying9 _ _ (by rfl) (b :: r) 0 (by rfl) (by rfl) rfl (by rw [List.length_cons]; omega) _) ?_
        simp only [Act.put, List.setIfInBounds_toArray, List.set_cons_succ, List.set_cons_zero]
        refine lx_vale (by rfl) (.int .u8 0) (by rfl) ?_
        simp only [Act.put, List.setIfInBounds_toArray, List.set_cons_succ, List.set_cons_zero]
        refine lx_vale (by rfl) (.bool false) (exec_eqi _ _ _ _ (by rfl) .u8 (b.toNat : Int) 0 (by rfl) (by rfl) false (decide_eq_false (by omega)) _) ?_
        simp only [Act.put, List.setIfInBounds_toArray, List.set_cons_succ, List.set_cons_zero]
        refine lx_vale (by rfl) (.bool false) (by rfl) ?_
        simp only [Act.put, List.setIfInBounds_toArray, List.set_cons_succ, List.set_cons_zero]
        refine lx_nil ?_
        rintro _ rfl _
        have HR : Hid (b :: r = l.dropWhile (· == 0)) := by
          show _ = _
          rw [← HD.out, HC.out, if_neg hb]
        clear hb
        go_wp2
        go_ret
        exact ⟨by rw [← HR.out]; rfl, rfl⟩

set_option maxRecDepth 100000 in
set_option maxHeartbeats 1600000 in
theorem trimLeftC (l : List UInt8) (w : World) :
    Calls Tryd.prog 41 #[.string ⟨l.toArray⟩, .string ⟨#[0]⟩] w fun e w' => e = .returned (.string ⟨(l.dropWhile (· == 0)).toArray⟩) ∧ w = w' := by
  cases l with
  | nil =>
    go_enter Tryd.func41, Tryd.ntmps41
    go_upto_region 1 with (fail)
    refine lx_plain_eq ?_
    simp only [its, Nat.zero_add, Nat.reduceAdd]
    refine lx_vale (by rfl) (.string ⟨([] : List UInt8).toArray⟩) (by rfl) ?_
    simp only [Act.put, List.setIfInBounds_toArray, List.set_cons_succ, List.set_cons_zero]
    refine lx_vale (by rfl) (.bool true) ((fun X => (exec_eqs _ _ _ _ (by rfl) _ [] (by rfl) (by rfl) X).trans (by rfl)) _) ?_
    simp only [Act.put, List.setIfInBounds_toArray, List.set_cons_succ, List.set_cons_zero]
    refine lx_vale (by rfl) (.bool true) (by rfl) ?_
    simp only [Act.put, List.setIfInBounds_toArray, List.set_cons_succ, List.set_cons_zero]
    refine lx_skip (by rfl) ?_
    simp only [Act.put, List.setIfInBounds_toArray, List.set_cons_succ, List.set_cons_zero]
    refine lx_skip (by rfl) ?_
    simp only [Act.put, List.setIfInBounds_toArray, List.set_cons_succ, List.set_cons_zero]
    refine lx_vale (by rfl) (.bool true) (by rfl) ?_
    simp only [Act.put, List.setIfInBounds_toArray, List.set_cons_succ, List.set_cons_zero]
    refine lx_nil ?_
    rintro _ rfl _
    go_wp2
    go_ret
    exact ⟨rfl, rfl⟩
  | cons b r =>
    go_enter Tryd.func41, Tryd.ntmps41
    go_upto_region 1 with (fail)
    refine lx_plain_eq ?_
    simp only [its, Nat.zero_add, Nat.reduceAdd]
    refine lx_vale (by rfl) (.string ⟨(b :: r).toArray⟩) (by rfl) ?_
    simp only [Act.put, List.setIfInBounds_toArray, List.set_cons_succ, List.set_cons_zero]
    refine lx_vale (by rfl) (.bool false) ((fun X => (exec_eqs _ _ _ _ (by rfl) (b :: r) [] (by rfl) (by rfl) X).trans (by rfl)) _) ?_
    simp only [Act.put, List.setIfInBounds_toArray, List.set_cons_succ, List.set_cons_zero]
    refine lx_vale (by rfl) (.bool false) (by rfl) ?_
    simp only [Act.put, List.setIfInBounds_toArray, List.set_cons_succ, List.set_cons_zero]
    refine lx_vale (by rfl) (.string ⟨([0] : List UInt8).toArray⟩) (by rfl) ?_
    simp only [Act.put, List.setIfInBounds_toArray, List.set_cons_succ, List.set_cons_zero]
    refine lx_vale (by rfl) (.bool false) ((fun X => (exec_eqs _ _ _ _ (by rfl) [0] [] (by rfl) (by rfl) X).trans (by rfl)) _) ?_
    simp only [Act.put, List.setIfInBounds_toArray, List.set_cons_succ, List.set_cons_zero]
    refine lx_vale (by rfl) (.bool false) (by rfl) ?_
    simp only [Act.put, List.setIfInBounds_toArray, List.set_cons_succ, List.set_cons_zero]
    refine lx_nil ?_
    rintro _ rfl _
    go_upto_region 3 with (fail)
    refine lx_plain_eq ?_
    simp only [its, Nat.zero_add, Nat.reduceAdd]
    refine lx_vale (by rfl) (.string ⟨([0] : List UInt8).toArray⟩) (by rfl) ?_
    simp only [Act.put, List.setIfInBounds_toArray, List.set_cons_succ, List.set_cons_zero]
    refine lx_vale (by rfl) (.int .i64 (([0] : List UInt8).length : Int)) (exec_lens Tryd.underlying9 _ (by rfl) ([0] : List UInt8) (by rfl) _ rfl _) ?_
    simp only [Act.put, List.setIfInBounds_toArray, List.set_cons_succ, List.set_cons_zero]
    refine lx_vale (by rfl) (.bool true) (exec_eqi _ _ _ _ (by rfl) .i64 (([0] : List UInt8).length : Int) 1 (by rfl) (by rfl) true (by decide) _) ?_
    simp only [Act.put, List.setIfInBounds_toArray, List.set_cons_succ, List.set_cons_zero]
    refine lx_vale (by rfl) (.bool true) (by rfl) ?_
    simp only [Act.put, List.setIfInBounds_toArray, List.set_cons_succ, List.set_cons_zero]
    refine lx_vale (by rfl) (.string ⟨([0] : List UInt8).toArray⟩) (by rfl) ?_
    simp only [Act.put, List.setIfInBounds_toArray, List.set_cons_succ, List.set_cons_zero]
    refine lx_vale (by rfl) (.int .u8 0) (exec_chr _ Tryd.underlying9 _ _ (by rfl) [0] 0 (by rfl) (by rfl) rfl (by decide) _) ?_
    simp only [Act.put, List.setIfInBounds_toArray, List.set_cons_succ, List.set_cons_zero]
    refine lx_vale (by rfl) (.bool true) (exec_lss _ _ _ _ (by rfl) .u8 0 128 (by rfl) (by rfl) true (by decide) _) ?_
    simp only [Act.put, List.setIfInBounds_toArray, List.set_cons_succ, List.set_cons_zero]
    refine lx_vale (by rfl) (.bool true) (by rfl) ?_
    simp only [Act.put, List.setIfInBounds_toArray, List.set_cons_succ, List.set_cons_zero]
    refine lx_nil ?_
    rintro _ rfl _
    go_upto_region 4 with (fail)
    refine lx_plain_eq_to 3 ?_
    simp only [its, List.take, List.drop, Nat.zero_add, Nat.reduceAdd]
    refine lx_vale (by rfl) (.string ⟨(b :: r).toArray⟩) (by rfl) ?_
    simp only [Act.put, List.setIfInBounds_toArray, List.set_cons_succ, List.set_cons_zero]
    refine lx_vale (by rfl) (.string ⟨([0] : List UInt8).toArray⟩) (by rfl) ?_
    simp only [Act.put, List.setIfInBounds_toArray, List.set_cons_succ, List.set_cons_zero]
    refine lx_vale (by rfl) (.int .u8 0) (exec_chr _ Tryd.underlying9 _ _ (by rfl) [0] 0 (by rfl) (by rfl) rfl (by decide) _) ?_
    simp only [Act.put, List.setIfInBounds_toArray, List.set_cons_succ, List.set_cons_zero]
    refine lx_nil ?_
    rintro _ rfl _
    go_wp2_with fail
    refine (trimByteC (b :: r) _).mono ?_
    rintro e w1 ⟨rfl, rfl⟩
    go_wp2
    go_ret
    exact ⟨rfl, rfl⟩
theorem cleanC (l : List UInt8) (w : World) :
    Calls Tryd.prog 16 #[.string ⟨l.toArray⟩] w fun e w' => e = .returned (.string ⟨(be (val l)).toArray⟩) ∧ w = w' := by
  have H := Lib.hid (be_strip l)
  go_enter Tryd.func16, Tryd.ntmps16
  go_wp2_with fail
  refine (trimLeftC l _).mono ?_
  rintro e w1 ⟨rfl, rfl⟩
  go_wp2
  go_ret
  exact ⟨by rw [H.out]; rfl, rfl⟩
end Go.Proofs.YtglnabciomlmmaaDoor
