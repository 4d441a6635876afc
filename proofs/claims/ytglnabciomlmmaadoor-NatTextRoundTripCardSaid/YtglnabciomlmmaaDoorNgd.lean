/-
  Gcd.
-/
import Derived.Test.YtglnabciomlmmaaDoorNgc
import Derived.Laws.EntriesVeiled
namespace Go.Proofs.YtglnabciomlmmaaDoor
open Go.RowKit

set_option maxRecDepth 100000 in
set_option maxHeartbeats 1600000 in
theorem ngcdC (a b : List UInt8) (w : World) (ha : a.length ≤ 4194304) (hb0 : b.length ≤ 4194304) :
    Calls Tryd.prog 24 #[.string ⟨a.toArray⟩, .string ⟨b.toArray⟩] w fun e w' => e = .returned (.string ⟨(be (Nat.gcd (val a) (val b))).toArray⟩) ∧ Below w.heap.size w w' := by
  have la := ld_val a
  have lb := ld_val b
  have lg : (ld (Nat.gcd (val a) (val b))).length ≤ 4194304 := by
    rcases Nat.eq_zero_or_pos (val b) with h | h
    · rw [h, Nat.gcd_zero_right]; omega
    · exact Nat.le_trans (ld_le (Nat.gcd_le_right _ h)) (by omega)
  go_enter Tryd.func24, Tryd.ntmps24
  go_upto_region 3 with (fail)
  have hc : (w.alloc (.cells #[(.func (.func 44) #[] #[.pointer (some ⟨w.heap.size, 0, none⟩)])] 62)).cell? ⟨w.heap.size, 0, none⟩ = some (.func (.func 44) #[] #[.pointer (some ⟨w.heap.size, 0, none⟩)]) := (Blk.new (w := w) (t := 62) (xs := [(.func (.func 44) #[] #[.pointer (some ⟨w.heap.size, 0, none⟩)])]) rfl).cell (j := 0) (u := (.func (.func 44) #[] #[.pointer (some ⟨w.heap.size, 0, none⟩)])) rfl
  have hg : w.heap.size < (w.alloc (.cells #[(.func (.func 44) #[] #[.pointer (some ⟨w.heap.size, 0, none⟩)])] 62)).heap.size := by simp
  have b1 : Below w.heap.size w (w.alloc (.cells #[(.func (.func 44) #[] #[.pointer (some ⟨w.heap.size, 0, none⟩)])] 62)) := (Below.refl _ _).alloc (Nat.le_refl _) _
  generalize w.alloc (.cells #[(.func (.func 44) #[] #[.pointer (some ⟨w.heap.size, 0, none⟩)])] 62) = w1 at hc hg b1 ⊢
  refine lx_region [none, none, some (Lm (val a)), none, some (Lm (val b)), some (Lm (Nat.gcd (val a) (val b)))] (by kernel_rfl) (by kernel_rfl) (lasts_none (lasts_none (lasts_some (Dg.lasts _) (lasts_none (lasts_some (Dg.lasts _) (lasts_some (Dg.lasts _) (lasts_nil))))))) ?_
  simp only [its, Nat.zero_add, Nat.reduceAdd]
  refine lx_val (by rfl) ((.func (.func 44) #[] #[.pointer (some ⟨w.heap.size, 0, none⟩)])) (fun X hX hF => exec_ld 62 _ (by rfl) w.heap.size 0 (by rfl) _ X ((Below.cell hX (p := ⟨w.heap.size, 0, none⟩) hg).trans hc) (fun X u h => load_f w.heap.size 0 X u h)) ?_
  simp only [Act.put, List.setIfInBounds_toArray, List.set_cons_succ, List.set_cons_zero]
  refine lx_val (by rfl) (.string ⟨a.toArray⟩) (fun X hX hF => by rfl) ?_
  simp only [Act.put, List.setIfInBounds_toArray, List.set_cons_succ, List.set_cons_zero]
  refine lx_make (by rfl) 34 _ _ (by rfl) [.string ⟨a.toArray⟩] (by rfl) (fun _ => by go_simp) (fun X hX hF => loadC a X (by omega)) ?_
  intro v9
  simp only [Act.put, List.setIfInBounds_toArray, List.set_cons_succ, List.set_cons_zero]
  refine lx_val (by rfl) (.string ⟨b.toArray⟩) (fun X hX hF => by rfl) ?_
  simp only [Act.put, List.setIfInBounds_toArray, List.set_cons_succ, List.set_cons_zero]
  refine lx_make (by rfl) 34 _ _ (by rfl) [.string ⟨b.toArray⟩] (by rfl) (fun _ => by go_simp) (fun X hX hF => loadC b X (by omega)) ?_
  intro v11
  simp only [Act.put, List.setIfInBounds_toArray, List.set_cons_succ, List.set_cons_zero]
  refine lx_makef (by rfl) _ _ _ (by rfl) 44 [.pointer (some ⟨w.heap.size, 0, none⟩)] (by rfl) [v9, v11] (by rfl) (fun _ => by go_simp) (fun X hX hF => euclidC w.heap.size _ v9 v11 _ X (hF _ _ (List.mem_cons_of_mem _ List.mem_cons_self) rfl) (hF _ _ List.mem_cons_self rfl) (by omega) (by omega) (Nat.lt_of_lt_of_le hg hX.size) ((Below.cell hX (p := ⟨w.heap.size, 0, none⟩) hg).trans hc)) ?_
  intro v12
  simp only [Act.put, List.setIfInBounds_toArray, List.set_cons_succ, List.set_cons_zero]
  refine lx_call (by rfl) 37 _ _ (by rfl) (.string ⟨(be (Nat.gcd (val a) (val b))).toArray⟩) [v12] (by rfl) (by kernel_rfl) (fun _ => by go_simp) (fun X hX hF => textL v12 _ X (hF _ _ List.mem_cons_self rfl) (by omega)) ?_
  simp only [Act.put, List.setIfInBounds_toArray, List.set_cons_succ, List.set_cons_zero]
  refine lx_val (by rfl) (.string ⟨(be (Nat.gcd (val a) (val b))).toArray⟩) (fun X hX hF => by rfl) ?_
  simp only [Act.put, List.setIfInBounds_toArray, List.set_cons_succ, List.set_cons_zero]
  refine lx_nil ?_
  intro X1 hX1 hF
  have hv9 := hF _ _ (List.mem_cons_of_mem _ (List.mem_cons_of_mem _ List.mem_cons_self))
  have hv11 := hF _ _ (List.mem_cons_of_mem _ List.mem_cons_self)
  have hv12 := hF _ _ List.mem_cons_self
  have hb : Below w1.heap.size w1 X1 := hX1
  clear hF hX1
  go_wp2
  go_ret
  exact ⟨rfl, b1.trans (hb.mono b1.size)⟩

end Go.Proofs.YtglnabciomlmmaaDoor
