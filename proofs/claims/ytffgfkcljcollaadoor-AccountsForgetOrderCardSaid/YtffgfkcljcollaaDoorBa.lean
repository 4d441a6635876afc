/-
  account: the array of sums.
-/
import Derived.Test.YtffgfkcljcollaaDoorAf
set_option linter.unusedSimpArgs false
set_option linter.unusedVariables false
set_option maxRecDepth 100000
set_option maxHeartbeats 1600000
namespace Go.Proofs.YtffgfkcljcollaaDoor
open Go.RowKit
theorem rc_zero : rc 0 = [.bool false, .string ⟨#[]⟩, .string ⟨#[]⟩] := by
 have h1 : rN 0 = false := by decide +kernel
 have h2 : rP 0 = [] := by decide +kernel
 have h3 : rD 0 = [] := by decide +kernel
 unfold rc trc tr
 rw [h1, h2, h3]
theorem zero100' : Tryd.zeroCells69 = (List.replicate 100 [Value.bool false, .string ⟨#[]⟩, .string ⟨#[]⟩]).flatten.toArray := by kernel_rfl
theorem zero100 : Tryd.zeroCells69 = (fl rc (List.replicate 100 0)).toArray := by
 have h : fl rc (List.replicate 100 0) = (List.replicate 100 [Value.bool false, .string ⟨#[]⟩, .string ⟨#[]⟩]).flatten := by
  unfold fl
  rw [List.map_replicate, rc_zero]
 rw [h];exact zero100'
theorem exec_ixa {f : Operand → Value} {o : Oper} (x i : Operand) (ho : o.op = .indexAddr 69 x i) (g k : Nat) (hk : k < 100) (hx : f x = .pointer (some ⟨g, 0, none⟩)) {z : Int} (hi : f i = .int .i64 z) (hz : z = (k : Int)) (w : World) : (execOp f o).run Tryd.prog w = .ok (.value (.pointer (some ⟨g, 0 + k * 3, none⟩))) w := by
 subst hz
 unfold execOp
 simp only [ho, hx, hi]
 go_simp
 intro h9;exact absurd h9 (by omega)
theorem blk_rcT {T : TypeId} {l : List Rat} {g k : Nat} {X : World} (h : Blk X g T (fl rc l)) (hk : k < l.length) : Cl X g (0 + k * 3) (rc (yq l k)) := by
 have h1 := fl_elt (g := rc) (m := 3) (l := l) (fun x _ => rc_len x) (List.drop_eq_getElem_cons hk);rw [← yq_in hk] at h1;exact Cl.part h.cl (k * 3) _ (by rw [rc_len]; exact h1)
theorem op_store_rcT {T : TypeId} {w : World} {ops : Array Oper} {rest : List Oper} {o : Oper} {a : Act} {Q : Exit → Act → World → Prop} (hgd : o.guard = none) (p x : Operand) (ho : o.op = .store 30 p x) (g : Nat) (l : List Rat) (hB : Blk w g T (fl rc l)) (k : Nat) (hk : k < l.length)
  (hp : a.eval p = .pointer (some ⟨g, 0 + k * 3, none⟩)) (y : Rat) (hx : a.eval x = rbv y)
  (h : ∀ w', Blk w' g T (fl rc (l.set k y)) → w.grownBy w' (some g) → wpList Tryd.prog ops Q rest (a.put o.dst undef) w') : wpList Tryd.prog ops Q (o :: rest) a w := by
 refine op_store_at hgd 30 p x ho g T (fl rc l) hB (k * 3) (by rw [hp, Nat.zero_add]) (rc y) hx (by rw [rcs_len, rc_len]; omega) (by
  intro u hu;simp only [rc, trc, List.mem_cons, List.not_mem_nil, or_false] at hu
  rcases hu with rfl | rfl | rfl <;> rfl) (by rw [rc_len]; exact info_rat) fun w' h2 h3 _ => h w' ?_ h3
 have h4 := fl_setR rc_len hk y;rw [rc_len] at h2
 rwa [h4] at h2
theorem info_arr : (Tryd.prog.info? 69).map (·.size) = some 300 := by kernel_rfl
end Go.Proofs.YtffgfkcljcollaaDoor
