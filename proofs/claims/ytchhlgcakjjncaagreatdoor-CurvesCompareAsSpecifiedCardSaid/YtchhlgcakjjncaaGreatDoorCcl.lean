/-
  curve: Clone of points.
-/
import Derived.WalkSpells
import Derived.Lib.SliceRun
import Derived.Test.YtchhlgcakjjncaaGreatDoorCw
import Derived.Test.YtchhlgcakjjncaaGreatDoorME
set_option linter.unusedSimpArgs false
set_option linter.unusedVariables false
set_option maxRecDepth 100000
set_option maxHeartbeats 1600000
namespace Go.Proofs.YtchhlgcakjjncaaGreatDoor
open Go.RowKit
theorem info_ptz : (Tryz.prog.info? 110).map (fun i => (i.zero, i.size, i.bytes)) = some (some (.agg #[.int .i64 0, .bool false, .string ⟨#[]⟩, .string ⟨#[]⟩]), 4, 48) := by kernel_rfl
theorem ptc_one (l : List Pt) : ∀ u ∈ fl ptc l, u.oneCell' = true := by
  intro u hu
  unfold fl at hu
  rw [List.mem_flatten] at hu
  obtain ⟨xs, h1, h2⟩ := hu
  rw [List.mem_map] at h1
  obtain ⟨x, _, rfl⟩ := h1
  unfold ptc at h2
  simp only [List.mem_cons, List.not_mem_nil, or_false] at h2
  rcases h2 with rfl | rfl | rfl | rfl <;> rfl
theorem Blk.of_ownP {w : World} {base n c m : Nat} {A : Option Addr} {e : TypeId} {xs : List Value} (h : w.ownsRow base e m (.slice A n c) n xs) (hn : 0 < n) :
    ∃ g tl, A = some ⟨g, 0, none⟩ ∧ base ≤ g ∧ c ≤ maxLen ∧ n ≤ c ∧ Blk w g e (xs ++ tl) := by
  obtain ⟨hl, hr⟩ := h
  rcases hr with ⟨h1, h2⟩ | ⟨g, cap, cur, hv, hb, hg, hnc, hm, hs, ht⟩
  · injection h1 with _ h3 _
    omega
  · injection hv with h1 h2 h3
    subst h1 h3
    refine ⟨g, cur.toList.drop (n * m), rfl, hb, hm, hnc, ?_⟩
    unfold Blk
    rw [hg, ← ht, List.take_append_drop]
theorem clonePC (b off n c : Nat) (l : List Pt) (w : World) (hr : Rd w 4 (.slice (some ⟨b, off, none⟩) n c) n (fl ptc l)) (hn0 : 0 < n) (hn : n ≤ 16) :
    Calls Tryz.prog 90 #[.slice (some ⟨b, off, none⟩) n c] w fun e w' => ∃ g c' tl, e = .returned (.slice (some ⟨g, 0, none⟩) n c') ∧ w.heap.size ≤ g ∧ n ≤ c' ∧ c' ≤ maxLen ∧ Blk w' g 110 (fl ptc l ++ tl) ∧ Below w.heap.size w w' := by
  have he := Lib.run_eql_slice_nil (P := Tryz.prog) (w := w) 46 110 (some ⟨b, off, none⟩) n c 0 0 Tryz.underlying46
  have ho0 : (w.alloc (.cells #[] 110)).ownsRow w.heap.size 110 4 (.slice (some ⟨w.heap.size, 0, none⟩) 0 0) 0 [] :=
    ⟨rfl, .inr ⟨w.heap.size, 0, #[], rfl, Nat.le_refl _, heap_alloc_new w _, Nat.le_refl _, by unfold maxLen; omega, rfl, rfl⟩⟩
  have hr0 := hr.alloc (.cells #[] 110)
  have hb0 := (Below.refl w.heap.size w).alloc (Nat.le_refl _) (.cells #[] 110)
  go_enter Tryz.func90, Tryz.ntmps90
  go_wp2_with (at_builtin; refine append_rd rfl (.tmp 5) (.tmp 6) 46 rfl w.heap.size 110 _ 4 48 Tryz.underlying46 info_ptz rfl (by decide) _ _ _ rfl ho0 _ _ _ rfl hr0 (ptc_one l) (by omega) (by unfold maxLen; omega) hb0.size ?_; intro v4 w4 hown4 hg4 hb4)
  rw [List.nil_append, Nat.zero_add] at hown4
  obtain ⟨A4, c4, rfl, _, _⟩ := (Rd.of_own hown4).form
  obtain ⟨g, tl, rfl, h1, h2, h3, h4⟩ := Blk.of_ownP hown4 hn0
  have HB := Lib.hid h4
  clear hown4 h4
  go_wp2
  go_ret
  exact ⟨g, c4, tl, rfl, h1, h3, h2, HB.out, hb0.trans hb4⟩
end Go.Proofs.YtchhlgcakjjncaaGreatDoor
