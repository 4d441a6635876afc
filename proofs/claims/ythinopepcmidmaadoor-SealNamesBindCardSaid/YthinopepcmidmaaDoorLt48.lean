/-
  Law 48: words for what is told.
-/
import Derived.Test.YthinopepcmidmaaDoorSt48
set_option linter.unusedSimpArgs false
set_option linter.unusedVariables false
set_option maxRecDepth 100000
set_option maxHeartbeats 1600000
namespace Go.Proofs.YthinopepcmidmaaDoor
open Go.RowKit

theorem Rd.preM {w : World} {m n c k : Nat} {A : Option Addr} {xs : List Value} (h : Rd w m (.slice A n c) n xs) (hk : k ≤ n) : Rd w m (.slice A k c) k (xs.take (k * m)) := by
  obtain ⟨hl, A', c', e, h1, h2, h3, h4⟩ := h
  injection e with e1 e2 e3
  subst e1 e3
  refine ⟨by rw [List.length_take, hl]; exact Nat.min_eq_left (Nat.mul_le_mul_right m hk), A, c, rfl, by omega, h2, h3, fun hk0 => ?_⟩
  obtain ⟨b, off, hA, hb, hx⟩ := h4 (by omega)
  refine ⟨b, off, hA, hb, fun j u hj => hx j u ?_⟩
  have hlt := (List.getElem?_eq_some_iff.1 hj).1
  rw [List.length_take] at hlt
  rwa [List.getElem?_take_of_lt (by omega)] at hj
theorem fl_take {log : List Sl} (hok : ∀ s ∈ log, SlOk s) : ∀ (k : Nat), (fl slc log).take (k * 37) = fl slc (log.take k) := by
  induction log with
  | nil => intro k; simp [fl]
  | cons x t ih =>
    intro k
    cases k with
    | zero => simp [fl]
    | succ k =>
      have hx := (hok x (List.mem_cons_self ..)).len
      have ih := ih (fun s hs => hok s (List.mem_cons_of_mem _ hs)) k
      have e1 : fl slc (x :: t) = slc x ++ fl slc t := by simp [fl]
      have e2 : fl slc ((x :: t).take (k + 1)) = slc x ++ fl slc (t.take k) := by simp [fl]
      rw [e1, e2, show (k + 1) * 37 = (slc x).length + k * 37 from by rw [hx]; omega, List.take_length_add_append, ih]
theorem slv_of {log : List Sl} {A : Option Addr} {n c : Nat} {X : World} (hl : log.length = n) (h : Rd X 37 (.slice A n c) n (fl slc log)) : Slv log (.slice A n c) X := by
  subst hl
  exact ⟨_, _, rfl, h⟩
theorem slv_pre {log : List Sl} {A : Option Addr} {n c : Nat} {X : World} (hok : ∀ s ∈ log, SlOk s) (hl : log.length = n) (h : Rd X 37 (.slice A n c) n (fl slc log)) {k : Nat} (hk : k ≤ n) : Slv (log.take k) (.slice A k c) X := by
  have hlen : (log.take k).length = k := by rw [List.length_take]; omega
  refine slv_of hlen ?_
  have h9 := h.preM hk
  rwa [fl_take hok] at h9
theorem all_take {log : List Sl} (hok : ∀ s ∈ log, SlOk s) (k : Nat) : ∀ s ∈ log.take k, SlOk s := fun s hs => hok s (List.mem_of_mem_take hs)
theorem rck_pos {r : List (List UInt8)} (h : rckE r = 0) : 1 ≤ r.length := by
  unfold rckE at h
  split at h
  · cases h
  · omega
end Go.Proofs.YthinopepcmidmaaDoor
