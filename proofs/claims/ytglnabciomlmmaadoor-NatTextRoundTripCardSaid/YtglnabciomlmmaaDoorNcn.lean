/-
  Clone, clear, copy.
-/
import Derived.Test.YtglnabciomlmmaaDoorNap
import Derived.Laws.CopyOwn
import Derived.WalkSpells
import Derived.Lib.SliceRun
import Derived.Test.YtglnabciomlmmaaDoorPl04e
namespace Go.Proofs.YtglnabciomlmmaaDoor
open Go.RowKit

set_option maxRecDepth 100000 in
set_option maxHeartbeats 1600000 in
theorem cloneC (A : Option Addr) (n c : Nat) (l : List UInt32) (w : World) (hr : Rd w 1 (.slice A n c) n (l.map W32)) (hn : n ≤ 33554432) :
    Calls Tryd.prog 52 #[.slice A n c] w fun e w' => ∃ A' c', e = .returned (.slice A' n c') ∧ w'.ownsRow w.heap.size 63 1 (.slice A' n c') n (l.map W32) ∧ Below w.heap.size w w' := by
  cases A with
  | none =>
    have hq : c = 0 := by
      obtain ⟨_, A', c', hv, _, _, hz, _⟩ := hr
      injection hv with h1 _ h3
      rw [h3]
      exact hz h1.symm
    have hn0 : n = 0 := by have := hr.cap; omega
    subst hq hn0
    have hl0 : l = [] := List.eq_nil_of_length_eq_zero hr.n_dg
    subst hl0
    have he := Lib.run_eql_slice_nil (P := Tryd.prog) (w := w) 51 63 none 0 0 0 0 Tryd.underlying51
    go_enter Tryd.func52, Tryd.ntmps52
    go_wp2
    go_ret
    exact ⟨none, 0, rfl, own_nil _ _ _, Below.refl _ _⟩
  | some ad =>
    have he := Lib.run_eql_slice_nil (P := Tryd.prog) (w := w) 51 63 (some ad) n c 0 0 Tryd.underlying51
    have ho0 : (w.alloc (.cells #[] 63)).ownsRow w.heap.size 63 1 (.slice (some ⟨w.heap.size, 0, none⟩) 0 0) 0 [] :=
      ⟨rfl, .inr ⟨w.heap.size, 0, #[], rfl, Nat.le_refl _, heap_alloc_new w _, Nat.le_refl _, by unfold maxLen; omega, rfl, rfl⟩⟩
    have hr0 := hr.alloc (.cells #[] 63)
    have hb0 := (Below.refl w.heap.size w).alloc (Nat.le_refl _) (.cells #[] 63)
    go_enter Tryd.func52, Tryd.ntmps52
    go_wp2_with (at_builtin; refine append_rd rfl (.tmp 5) (.tmp 6) 51 rfl w.heap.size 63 _ 1 4 Tryd.underlying51 info_u32 rfl (by decide) _ _ _ rfl ho0 _ _ _ rfl hr0 (W32s_one _) (by omega) (by unfold maxLen; omega) hb0.size ?_; intro v4 w4 hown4 hg4 hb4)
    rw [List.nil_append, Nat.zero_add] at hown4
    obtain ⟨A4, c4, rfl, _, _⟩ := (Rd.of_own hown4).form
    have HO := Lib.hid hown4
    clear hown4
    go_wp2
    go_ret
    exact ⟨A4, c4, rfl, HO.out, hb0.trans hb4⟩

/-- A stretch of a block that reads as digits. -/
theorem Blk.mid {w : World} {g : Nat} {t : TypeId} {l : List UInt32} {tl : List Value} (h : Blk w g t (l.map W32 ++ tl)) {j k c : Nat} (hj : j + k ≤ l.length) (hk : k ≤ c) (hc : c ≤ maxLen) : Rd w 1 (.slice (some ⟨g, j, none⟩) k c) k (((l.drop j).take k).map W32) := by
  refine ⟨by rw [List.length_map, List.length_take, List.length_drop]; omega, _, c, rfl, hk, hc, (fun h => by cases h), fun _ => ⟨g, j, rfl, h.lt, fun i u hi => ?_⟩⟩
  rw [List.getElem?_map, List.getElem?_take] at hi
  split at hi
  · rw [List.getElem?_drop] at hi
    refine h.cell ?_
    have hil : j + i < l.length := by omega
    rw [List.getElem?_append_left (by rw [List.length_map]; exact hil), List.getElem?_map]
    exact hi
  · cases hi
theorem Blk.digit2 {w : World} {g : Nat} {t : TypeId} {l : List UInt32} {tl : List Value} (h : Blk w g t (l.map W32 ++ tl)) {j : Nat} (hj : j < l.length) : w.cell? ⟨g, j, none⟩ = some (.int .u32 ((l.getD j 0).toNat : Int)) := by
  have := h.cell (j := j) (u := W32 l[j]) (by rw [List.getElem?_append_left (by rw [List.length_map]; exact hj)]; simp [hj])
  rw [this]
  simp [W32, List.getD, hj]
/-- 'clear' of a stretch of a block. -/
theorem op_clear {w : World} {ops : Array Oper} {rest : List Oper} {o : Oper} {a : Act} {Q : Exit → Act → World → Prop} (hgd : o.guard = none) (x : Operand) (ho : o.op = .call { callee := .builtin .clear, args := #[x], argTypes := #[51] })
    (g off n c : Nat) (hn : 0 < n) (t : TypeId) (xs : List Value) (hB : Blk w g t xs) (hx : a.eval x = .slice (some ⟨g, off, none⟩) n c) (hfit : off + n ≤ xs.length)
    (h : ∀ w', Blk w' g t (xs.take off ++ List.replicate n (Value.int .u32 0) ++ xs.drop (off + n)) → w.grownBy w' (some g) → wpList Tryd.prog ops Q rest (a.put o.dst (.tuple #[])) w') :
    wpList Tryd.prog ops Q (o :: rest) a w := by
  refine wpList_plain hgd fun K hK => ?_
  have h1 : ∀ v ∈ List.replicate n (Value.int .u32 0), v.oneCell' = true := fun v hv => by rw [List.eq_of_mem_replicate hv]; rfl
  have hst := run_storeCells_at Tryd.prog g off t (List.replicate n (Value.int .u32 0)) 0 xs.toArray w hB (by rw [List.length_replicate]; simpa using hfit) h1
  simp only [Nat.add_zero, List.length_replicate] at hst
  have hzc : (Builtin.zeroCells (Value.int .u32 0).cells n).toList = List.replicate n (Value.int .u32 0) := by
    simp [Builtin.zeroCells, Value.cells]
    apply List.ext_getElem
    · simp
    · intro i h1 h2
      simp [Nat.mod_one]
  have hv : ∀ w, (zeroValue 63).run Tryd.prog w = .ok (.int .u32 0) w := fun _ => by kernel_rfl
  have hr : (Builtin.clear_ #[51] o.type #[.slice (some ⟨g, off, none⟩) n c]).run Tryd.prog w = .ok (.tuple #[]) (w.setRow g (xs.take off ++ List.replicate n (Value.int .u32 0) ++ xs.drop (off + n)).toArray) := by
    obtain ⟨m, rfl⟩ : ∃ m, n = m + 1 := ⟨n - 1, by omega⟩
    simp [Builtin.clear_, run_underlying Tryd.underlying51, hv]
    rw [hzc, hst]
    simp [Result.andThen]
  have h2 := setRow_heap w g xs.toArray (xs.take off ++ List.replicate n (Value.int .u32 0) ++ xs.drop (off + n)).toArray t (0, 0) hB
  have h3 := setRow_grown w g (xs.take off ++ List.replicate n (Value.int .u32 0) ++ xs.drop (off + n)).toArray
  unfold Oper.wp
  rw [show execOp a.eval o = builtin .clear #[51] o.type _ (#[x].map a.eval) from exec_bi ho, BigFrame.builtin_clear]
  simp only [List.map_toArray, List.map_cons, List.map_nil, hx, Sem.run_bind, hr, Result.andThen_ok, Sem.run_pure, Oper.upon]
  exact hK _ _ (h _ h2 h3)

end Go.Proofs.YtglnabciomlmmaaDoor
