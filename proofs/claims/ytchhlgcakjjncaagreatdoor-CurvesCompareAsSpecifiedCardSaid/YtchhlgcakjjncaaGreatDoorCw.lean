/-
  Layer 13: words.
-/
import Derived.Test.YtchhlgcakjjncaaGreatDoorPl13
import Derived.Test.YtchhlgcakjjncaaGreatDoorRk
set_option linter.unusedSimpArgs false
set_option linter.unusedVariables false
set_option maxRecDepth 100000
set_option maxHeartbeats 1600000
namespace Go.Proofs.YtchhlgcakjjncaaGreatDoor
open Go.RowKit
theorem info_pt : (Tryz.prog.info? 110).map (·.size) = some 4 := by kernel_rfl
theorem info_cv : (Tryz.prog.info? 48).map (·.size) = some 1 := by kernel_rfl
theorem load_pts (b k : Nat) (X : World) (v : Value) (h : X.cell? ⟨b, k, none⟩ = some v) : (loadVar 46 ⟨b, k, none⟩).run Tryz.prog X = .ok v X := by
  go_simp
theorem Cl.part {w : World} {b off : Nat} {cs : List Value} (h : Cl w b off cs) (d : Nat) (xs : List Value) (hs : (cs.drop d).take xs.length = xs) : Cl w b (off + d) xs := fun j u hj => by
  have hl : j < xs.length := (List.getElem?_eq_some_iff.1 hj).1
  rw [← hs, List.getElem?_take_of_lt hl, List.getElem?_drop] at hj
  rw [Nat.add_assoc]
  exact h (d + j) u hj
/-- A point as it lies: its stage, its flow's parts. -/
abbrev Pt := Int × Tr
def ptc (p : Pt) : List Value := [.int .i64 p.1, .bool p.2.1, .string ⟨p.2.2.1.toArray⟩, .string ⟨p.2.2.2.toArray⟩]
theorem ptc_len (p : Pt) : (ptc p).length = 4 := rfl
def kp (p : Pt) : Kn := (p.1, trq p.2)
instance : Inhabited Pt := ⟨(0, false, [], [])⟩
/-- The point at a place. -/
def pt (l : List Pt) (k : Nat) : Pt := l.getD k default
theorem pt_of {l : List Pt} {k : Nat} {x : Pt} (h : l.drop k = x :: l.drop (k + 1)) : pt l k = x := by
  unfold pt
  have h1 : l[k]? = some x := by
    have := congrArg (·[0]?) h
    simpa [List.getElem?_drop] using this
  rw [List.getD_eq_getElem?_getD, h1]
  rfl
theorem Rd.ptAt {w : World} {A : Option Addr} {n c : Nat} {l : List Pt} (h : Rd w 4 (.slice A n c) n (fl ptc l)) (hl : l.length = n) {k : Nat} (hk : k < n) : ∃ b off, A = some ⟨b, off, none⟩ ∧ b < w.heap.size ∧ Cl w b (off + k * 4) (ptc (pt l k)) := by
  obtain ⟨b, off, x, hA, hb, hc, _, hd⟩ := h.atF (m := 4) (fun x _ => ptc_len x) (by omega) (k := k) (by omega)
  exact ⟨b, off, hA, hb, by rw [pt_of hd.out]; exact hc⟩
/-- The flows' parts have at most so many bytes. -/
def fewP (l : List Pt) (m : Nat) : Prop := ∀ k, k < l.length → tz (pt l k).2.2.1 (pt l k).2.2.2 m
def posB (t : Tr) : Bool := vd t.1 t.2.1 t.2.2 && !t.1
/-- The error of a point. -/
def pe (l : List Pt) (k : Nat) : Int :=
  if (pt l k).1 < -1000 ∨ 2000 < (pt l k).1 then 3 else if posB (pt l k).2 = false then 1
  else if 0 < k ∧ ((pt l k).1 ≤ (pt l (k - 1)).1 ∨ cmpR (trq (pt l k).2) (trq (pt l (k - 1)).2) < 0) then 1 else 0
/-- The first error of a curve. -/
def ckF (l : List Pt) : Nat → Int
  | 0 => 0
  | k + 1 => if ckF l k = 0 then pe l k else ckF l k
def ck (l : List Pt) : Int := if l.length < 1 ∨ 16 < l.length then 2 else ckF l l.length
theorem ckF_ok {l : List Pt} : ∀ {k : Nat}, (∀ j, j < k → pe l j = 0) → ckF l k = 0
  | 0, _ => rfl
  | k + 1, h => by
    unfold ckF
    rw [if_pos (ckF_ok fun j hj => h j (by omega))]
    exact h k (by omega)
theorem ckF_bad {l : List Pt} {j : Nat} (hj : ckF l j ≠ 0) : ∀ {k : Nat}, j ≤ k → ckF l k = ckF l j
  | 0, h => by rw [show j = 0 by omega]
  | k + 1, h => by
    rcases Nat.lt_or_ge j (k + 1) with h1 | h1
    · have ih := ckF_bad (l := l) hj (k := k) (by omega)
      show (if ckF l k = 0 then pe l k else ckF l k) = ckF l j
      rw [if_neg (by rw [ih]; exact hj), ih]
    · have h2 : j = k + 1 := by omega
      subst h2
      rfl
theorem ck_bad {l : List Pt} {k : Nat} {e : Int} (h1 : 1 ≤ l.length) (h2 : l.length ≤ 16) (h0 : ∀ j, j < k → pe l j = 0) (he : pe l k = e) (hne : e ≠ 0) (hk : k < l.length) : ck l = e := by
  unfold ck
  rw [if_neg (by omega)]
  have h3 : ckF l (k + 1) = e := by
    unfold ckF
    rw [if_pos (ckF_ok h0)]
    exact he
  rw [ckF_bad (j := k + 1) (by rw [h3]; exact hne) (by omega), h3]
theorem ck_ok {l : List Pt} (h1 : 1 ≤ l.length) (h2 : l.length ≤ 16) (h0 : ∀ j, j < l.length → pe l j = 0) : ck l = 0 := by
  unfold ck
  rw [if_neg (by omega)]
  exact ckF_ok h0
end Go.Proofs.YtchhlgcakjjncaaGreatDoor
