/-
  Messages and inputs tell their parts.
-/
import Derived.Test.YtmmomcililideaaDoorLaw01
import Derived.Test.YtmmomcililideaaDoorWk02m
set_option linter.unusedSimpArgs false
set_option linter.unusedVariables false
namespace Go.Proofs.YtmmomcililideaaDoor

theorem encI_split {a b : Int} {x y : List UInt8} (ha : -9223372036854775808 ≤ a) (ha' : a ≤ 9223372036854775807) (hb : -9223372036854775808 ≤ b) (hb' : b ≤ 9223372036854775807) (h : encI a ++ x = encI b ++ y) : a = b ∧ x = y := by
  have h1 := decI_enc ha ha' x
  have h2 := decI_enc hb hb' y
  rw [h, h2] at h1
  injection h1 with h1
  injection h1 with h3 h4
  obtain rfl := h3
  exact ⟨rfl, List.append_cancel_left h⟩
theorem encS_split {a b x y : List UInt8} (ha : a.length ≤ 400) (hb : b.length ≤ 400) (h : encS a ++ x = encS b ++ y) : a = b ∧ x = y := by
  unfold encS at h
  rw [List.append_assoc, List.append_assoc] at h
  obtain ⟨h1, h2⟩ := encI_split (by omega) (by omega) (by omega) (by omega) h
  exact List.append_inj h2 (by omega)
theorem msg_nil : msg [] = [] := rfl
theorem msg_cons (s : List UInt8) (ss : List (List UInt8)) : msg (s :: ss) = encS s ++ msg ss := rfl
theorem encS_pos (s : List UInt8) : 0 < (encS s).length := by
  have := encI_length s.length
  unfold encS
  rw [List.length_append]
  omega
theorem msg_inj : ∀ {a b : List (List UInt8)}, (∀ s ∈ a, s.length ≤ 400) → (∀ s ∈ b, s.length ≤ 400) → msg a = msg b → a = b
  | [], [], _, _, _ => rfl
  | [], s :: b, _, _, h => by
    rw [msg_nil, msg_cons] at h
    have := congrArg List.length h
    have hp := encS_pos s
    simp only [List.length_append, List.length_nil] at this
    omega
  | s :: a, [], _, _, h => by
    rw [msg_nil, msg_cons] at h
    have := congrArg List.length h
    have hp := encS_pos s
    simp only [List.length_append, List.length_nil] at this
    omega
  | s :: a, t :: b, ha, hb, h => by
    rw [msg_cons, msg_cons] at h
    obtain ⟨h1, h2⟩ := encS_split (ha s List.mem_cons_self) (hb t List.mem_cons_self) h
    rw [h1, msg_inj (fun x hx => ha x (List.mem_cons_of_mem _ hx)) (fun x hx => hb x (List.mem_cons_of_mem _ hx)) h2]
theorem msg_same {a b : List (List UInt8)} (ha : ∀ s ∈ a, s.length ≤ 400) (hb : ∀ s ∈ b, s.length ≤ 400) : (msg a == msg b) = sameL a b := by
  unfold sameL
  rw [Bool.eq_iff_iff]
  simp only [beq_iff_eq]
  exact ⟨msg_inj ha hb, fun h => by rw [h]⟩
theorem tagB_inj {m n : Int} (h1 : 0 ≤ m) (h2 : m ≤ 255) (h3 : 0 ≤ n) (h4 : n ≤ 255) (h : tagB m = tagB n) : m = n := by
  unfold tagB at h
  have := congrArg UInt8.toNat h
  simp only [UInt8.toNat_ofNat'] at this
  omega
theorem inp_same {m n : Int} {a b : List (List UInt8)} (h1 : 0 ≤ m) (h2 : m ≤ 255) (h3 : 0 ≤ n) (h4 : n ≤ 255) (ha : ∀ s ∈ a, s.length ≤ 400) (hb : ∀ s ∈ b, s.length ≤ 400) : (inp m a = inp n b) ↔ (m = n ∧ sameL a b = true) := by
  unfold inp sameL
  constructor
  · intro h
    injection h with h5 h6
    exact ⟨tagB_inj h1 h2 h3 h4 h5, by rw [msg_inj ha hb h6]; exact beq_self_eq_true _⟩
  · rintro ⟨rfl, h⟩
    rw [beq_iff_eq] at h
    rw [h]
end Go.Proofs.YtmmomcililideaaDoor
