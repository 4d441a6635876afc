/-
  A region in the order of the text with one append to a row of the call's own.
-/
import Derived.Test.YtcpedbpldgndmaaGreatDoorLa
set_option linter.unusedSimpArgs false
set_option linter.unusedVariables false
set_option maxRecDepth 100000
set_option maxHeartbeats 1600000
namespace Go.Proofs.YtcpedbpldgndmaaGreatDoor
open Go.RowKit
theorem la_plain {P : Program} {w : World} {a : Act} {id : Nat} {L : List Oper} {Q' : Exit → Act → World → Prop} (A : Ar) (ap : Nat) (ss : List (SpecG Bool)) (hst : ∀ S, some S ∈ ss → ∀ v X Y, S v X → Ga A X Y → S v Y)
  (h : CertA P L.toArray A ap w (wpList P L.toArray Q' []) (fun _ _ => true) (itg 0 L ss) [] a) : (Code.region id L.toArray false).wp P Q' a w :=
 certg_plain (g0 := false) ss (Ga.since (X := (w, false)) (Below.refl w.heap.size w)) (fun _ _ => rfl) (fun _ _ h h' => h.trans h') hst h.out
/-- The first n operations; the walk goes on with what is left. -/
theorem la_plain_to {P : Program} {w : World} {a : Act} {id : Nat} {L : List Oper} {Q' : Exit → Act → World → Prop} (n : Nat) (A : Ar) (ap : Nat) (ss : List (SpecG Bool)) (hst : ∀ S, some S ∈ ss → ∀ v X Y, S v X → Ga A X Y → S v Y)
  (h : CertA P L.toArray A ap w (wpList P L.toArray Q' (L.drop n)) (fun _ _ => true) (itg 0 (L.take n) ss) [] a) : (Code.region id L.toArray false).wp P Q' a w := by
 refine wp_region_lit ?_
 have hq := certg_list (N := fun k σ => k = ap → σ = false) (tail := L.drop n) (fun _ _ h h' => Ga.trans h h') (itg 0 (L.take n) ss) [] a (w, false) (fun it hit S hS => by
  rcases ((itg_mem 0 (L.take n) ss).2.1 it hit).2.2 with h' | h'
  ·rw [hS] at h'
   cases h'
  ·rw [hS] at h'
   exact hst S h') (fun p F hp => by cases hp) (Ga.since (X := (w, false)) (Below.refl w.heap.size w)) (fun it _ _ => rfl) (itg_mem 0 (L.take n) ss).1 h.out
 rw [itg_ops, List.take_append_drop] at hq;exact hq
theorem own_blkK {X Y : World} {base m n : Nat} {e : TypeId} {v : Value} {xs : List Value} (h : X.ownsRow base e m v n xs) (hk : ∀ g t zs, v.ownBlock = some g → Blk X g t zs → Blk Y g t zs) : Y.ownsRow base e m v n xs := by
 obtain ⟨hl, hr⟩ := h;refine ⟨hl, hr.imp id ?_⟩
 rintro ⟨g, cap, cur, rfl, hb, hg, rest⟩
 have h9 : Blk X g e cur.toList := by
  show X.heap[g]? = some (.cells cur.toList.toArray e (0, 0))
  rw [Array.toArray_toList];exact hg
 have h8 := hk g e _ rfl h9;refine ⟨g, cap, cur, rfl, hb, ?_, rest⟩;have h7 : Y.heap[g]? = some (.cells cur.toList.toArray e (0, 0)) := h8;rw [Array.toArray_toList] at h7;exact h7
end Go.Proofs.YtcpedbpldgndmaaGreatDoor
