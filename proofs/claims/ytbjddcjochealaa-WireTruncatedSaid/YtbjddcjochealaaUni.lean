/-
  What the decoding functions hand back, told without a case: value, number of bytes, error.
-/
import Derived.Test.YtbjddcjochealaaWk01k
import Derived.Test.YtbjddcjochealaaAp
import Derived.Test.YtbjddcjochealaaLaw01
namespace Go.Proofs.Ytbjddcjochealaa
open Go.RowKit

def ru {α : Type} : Except Int (α × Nat) → Nat | .error _ => 0 | .ok (_, u) => u
def re {α : Type} : Except Int (α × Nat) → Int | .error e => e | .ok _ => 0
def rv {α : Type} (d : α) : Except Int (α × Nat) → α | .error _ => d | .ok (x, _) => x

theorem outI_rv (r : Except Int (Int × Nat)) : outI r = .tuple #[.int .i64 (rv 0 r), .int .i64 (ru r : Int), .int .i64 (re r)] := by cases r <;> rfl
theorem outS_rv (r : Except Int (List UInt8 × Nat)) : outS r = .tuple #[.string ⟨(rv [] r).toArray⟩, .int .i64 (ru r : Int), .int .i64 (re r)] := by cases r <;> rfl

theorem GotL.rv {α : Type} {w w' : World} {ty m : Nat} {cs : List α → List Value} {e : Ending} {r : Except Int (List α × Nat)} (h : GotL w w' ty m cs e r) (h0 : cs [] = []) :
    ∃ A c, e = .returned (.tuple #[.slice A (rv [] r).length c, .int .i64 (ru r : Int), .int .i64 (re r)]) ∧ Rd w' m (.slice A (Proofs.Ytbjddcjochealaa.rv [] r).length c) (Proofs.Ytbjddcjochealaa.rv [] r).length (cs (Proofs.Ytbjddcjochealaa.rv [] r)) ∧ Below w.heap.size w w' := by
  cases r with
  | error er =>
    obtain ⟨rfl, hb⟩ := h
    exact ⟨none, 0, rfl, by simp only [Proofs.Ytbjddcjochealaa.rv]; rw [h0]; exact Rd.nil_ w' m, hb⟩
  | ok p =>
    obtain ⟨l, pl⟩ := p
    obtain ⟨v, rfl, hown, hb⟩ := h
    have hR := Rd.of_own hown
    obtain ⟨A, c, rfl, _, _⟩ := hR.form
    exact ⟨A, c, rfl, hR, hb⟩

section
variable (w : World) (A : Option Addr) (n c : Nat) (bs : List UInt8) (hr : Rd w 1 (.slice A n c) n (bs.map B8)) (hl : n ≤ 4294967296)
include hr hl
theorem uInt : Calls Try.prog 24 #[.slice A n c] w fun e w' => e = .returned (.tuple #[.int .i64 (rv 0 (decI bs)), .int .i64 (ru (decI bs) : Int), .int .i64 (re (decI bs))]) ∧ w = w' := by
  rw [← outI_rv]; exact wGetInt' w A n c bs hr (by omega)
theorem uIntR : Calls Try.prog 25 #[.slice A n c] w fun e w' => e = .returned (.tuple #[.int .i64 (rv 0 (decI bs)), .int .i64 (ru (decI bs) : Int), .int .i64 (re (decI bs))]) ∧ w = w' := by
  rw [← outI_rv]; exact rGetInt' w A n c bs hr (by omega)
theorem uStr : Calls Try.prog 26 #[.slice A n c] w fun e w' => e = .returned (.tuple #[.string ⟨(rv [] (getS bs)).toArray⟩, .int .i64 (ru (getS bs) : Int), .int .i64 (re (getS bs))]) ∧ w = w' := by
  rw [← outS_rv]; exact wGetBytes' w A n c bs hr (by omega)
theorem uStrR : Calls Try.prog 27 #[.slice A n c] w fun e w' => e = .returned (.tuple #[.string ⟨(rv [] (getS bs)).toArray⟩, .int .i64 (ru (getS bs) : Int), .int .i64 (re (getS bs))]) ∧ w = w' := by
  rw [← outS_rv]; exact rGetBytes' w A n c bs hr (by omega)
end

section
variable (w : World) (A : Option Addr) (n c : Nat) (bs : List UInt8) (hr : Rd w 1 (.slice A n c) n (bs.map B8)) (hl : n ≤ 4294967296)
include hr hl
theorem uInts : Calls Try.prog 28 #[.slice A n c] w fun e w' => ∃ A' c', e = .returned (.tuple #[.slice A' (rv [] (getL decI 1 bs)).length c', .int .i64 (ru (getL decI 1 bs) : Int), .int .i64 (re (getL decI 1 bs))]) ∧
    Rd w' 1 (.slice A' (rv [] (getL decI 1 bs)).length c') (rv [] (getL decI 1 bs)).length ((rv [] (getL decI 1 bs)).map (Value.int .i64)) ∧ Below w.heap.size w w' := by
  obtain rfl := hr.n_eq
  exact (wGetInts w A c bs hr hl).mono fun e w' h => h.rv rfl
theorem uIntsR : Calls Try.prog 29 #[.slice A n c] w fun e w' => ∃ A' c', e = .returned (.tuple #[.slice A' (rv [] (getL decI 1 bs)).length c', .int .i64 (ru (getL decI 1 bs) : Int), .int .i64 (re (getL decI 1 bs))]) ∧
    Rd w' 1 (.slice A' (rv [] (getL decI 1 bs)).length c') (rv [] (getL decI 1 bs)).length ((rv [] (getL decI 1 bs)).map (Value.int .i64)) ∧ Below w.heap.size w w' := by
  obtain rfl := hr.n_eq
  exact (rGetInts w A c bs hr hl).mono fun e w' h => h.rv rfl
theorem uStrs : Calls Try.prog 31 #[.slice A n c] w fun e w' => ∃ A' c', e = .returned (.tuple #[.slice A' (rv [] (getL getS 1 bs)).length c', .int .i64 (ru (getL getS 1 bs) : Int), .int .i64 (re (getL getS 1 bs))]) ∧
    Rd w' 1 (.slice A' (rv [] (getL getS 1 bs)).length c') (rv [] (getL getS 1 bs)).length ((rv [] (getL getS 1 bs)).map tx) ∧ Below w.heap.size w w' := by
  obtain rfl := hr.n_eq
  exact (wGetStrings w A c bs hr hl).mono fun e w' h => h.rv rfl
theorem uStrsR : Calls Try.prog 32 #[.slice A n c] w fun e w' => ∃ A' c', e = .returned (.tuple #[.slice A' (rv [] (getL getS 1 bs)).length c', .int .i64 (ru (getL getS 1 bs) : Int), .int .i64 (re (getL getS 1 bs))]) ∧
    Rd w' 1 (.slice A' (rv [] (getL getS 1 bs)).length c') (rv [] (getL getS 1 bs)).length ((rv [] (getL getS 1 bs)).map tx) ∧ Below w.heap.size w w' := by
  obtain rfl := hr.n_eq
  exact (rGetStrings w A c bs hr hl).mono fun e w' h => h.rv rfl
theorem uDgs : Calls Try.prog 34 #[.slice A n c] w fun e w' => ∃ A' c', e = .returned (.tuple #[.slice A' (rv [] (getL oneD 16 bs)).length c', .int .i64 (ru (getL oneD 16 bs) : Int), .int .i64 (re (getL oneD 16 bs))]) ∧
    Rd w' 16 (.slice A' (rv [] (getL oneD 16 bs)).length c') (rv [] (getL oneD 16 bs)).length (fl cd (rv [] (getL oneD 16 bs))) ∧ Below w.heap.size w w' := by
  obtain rfl := hr.n_eq
  exact (wGetDigests w A c bs hr hl).mono fun e w' h => h.rv rfl
theorem uDgsR : Calls Try.prog 35 #[.slice A n c] w fun e w' => ∃ A' c', e = .returned (.tuple #[.slice A' (rv [] (getL oneD 16 bs)).length c', .int .i64 (ru (getL oneD 16 bs) : Int), .int .i64 (re (getL oneD 16 bs))]) ∧
    Rd w' 16 (.slice A' (rv [] (getL oneD 16 bs)).length c') (rv [] (getL oneD 16 bs)).length (fl cd (rv [] (getL oneD 16 bs))) ∧ Below w.heap.size w w' := by
  obtain rfl := hr.n_eq
  exact (rGetDigests w A c bs hr hl).mono fun e w' h => h.rv rfl
end

theorem codecD : Codec id oneD 16 (fun d => d.length = 16) := by
  refine ⟨fun x tail h => ?_, fun x h => by simp [h], fun x i h hi => ?_, fun b x u h => ?_⟩
  · rw [oneD_ok (by simp; omega)]
    simp only [id]
    rw [List.take_append_of_le_length (by omega), List.take_of_length_le (by omega), h]
  · unfold oneD
    simp only [id] at hi ⊢
    rw [if_pos (by simp; omega)]
  · unfold oneD at h
    split at h
    · cases h
    · simp at h
      obtain ⟨rfl, rfl⟩ := h
      exact ⟨rfl, by omega⟩

/-- What is decoded is what was written: told of the value and the number of bytes. -/
theorem can_I {bs : List UInt8} (h : re (decI bs) = 0) : ru (decI bs) ≤ bs.length ∧ encI (rv 0 (decI bs)) = bs.take (ru (decI bs)) := by
  cases hd : decI bs with
  | error e => have := decI_err hd; rw [hd] at h; simp [re] at h; omega
  | ok p => obtain ⟨n, u⟩ := p; exact ⟨(decI_ok hd).2.1, (decI_take hd).symm⟩
theorem can_S {bs : List UInt8} (h : re (getS bs) = 0) : ru (getS bs) ≤ bs.length ∧ encS (rv [] (getS bs)) = bs.take (ru (getS bs)) := by
  cases hd : getS bs with
  | error e => have := getS_err hd; rw [hd] at h; simp [re] at h; omega
  | ok p => obtain ⟨n, u⟩ := p; exact ⟨(getS_take hd).2, (getS_take hd).1.symm⟩
theorem getN_err {α : Type} {one : List UInt8 → Except Int (α × Nat)} (h1 : ∀ b e, one b = .error e → e ≠ 0) : ∀ (n : Nat) (b : List UInt8) (e : Int), getN one n b = .error e → e ≠ 0
  | 0, b, e, h => by simp [getN] at h
  | n + 1, b, e, h => by
    simp only [getN] at h
    split at h
    · rename_i ho
      simp at h
      subst h
      exact h1 _ _ ho
    · rename_i x v ho
      cases hg : getN one n (b.drop v) with
      | error e' => rw [hg] at h; simp [preN] at h; subst h; exact getN_err h1 n _ _ hg
      | ok p => rw [hg] at h; simp [preN] at h
theorem getL_err {α : Type} {one : List UInt8 → Except Int (α × Nat)} (h1 : ∀ b e, one b = .error e → e ≠ 0) {m : Nat} {b : List UInt8} {e : Int} (h : getL one m b = .error e) : e ≠ 0 := by
  unfold getL at h
  split at h
  · rename_i hl
    simp at h
    subst h
    have := lenI_err hl
    omega
  · split at h
    · rename_i hg
      simp at h
      subst h
      exact getN_err h1 _ _ _ hg
    · cases h
theorem can_L {α : Type} {f : α → List UInt8} {one : List UInt8 → Except Int (α × Nat)} {least : Nat} {ok : α → Prop} (hc : Codec f one least ok) (h1 : ∀ b e, one b = .error e → e ≠ 0) {bs : List UInt8} (h : re (getL one least bs) = 0) :
    ru (getL one least bs) ≤ bs.length ∧ encL f (rv [] (getL one least bs)) = bs.take (ru (getL one least bs)) := by
  cases hd : getL one least bs with
  | error e => have := getL_err h1 hd; rw [hd] at h; simp [re] at h; omega
  | ok p => obtain ⟨n, u⟩ := p; exact ⟨(getL_take hc hd).2, (getL_take hc hd).1.symm⟩
theorem oneD_err (b : List UInt8) (e : Int) (h : oneD b = .error e) : e ≠ 0 := by
  unfold oneD at h
  split at h
  · simp at h; omega
  · cases h
theorem rv_I_range (bs : List UInt8) : -9223372036854775808 ≤ rv 0 (decI bs) ∧ rv 0 (decI bs) ≤ 9223372036854775807 := by
  cases hd : decI bs with
  | error e => simp [rv]
  | ok p => obtain ⟨n, u⟩ := p; have := decI_ok hd; simp only [rv]; omega

set_option maxRecDepth 100000 in
theorem consumedC (w : World) (A A' : Option Addr) (n n' c c' : Nat) (bs x : List UInt8) (u : Nat) (e : Int) (hr : Rd w 1 (.slice A n c) n (bs.map B8)) (hx : Rd w 1 (.slice A' n' c') n' (x.map B8)) (hl : n ≤ 4294967296)
    (hu : u ≤ 4294967296) (h : e = 0 → u ≤ bs.length ∧ x = bs.take u) :
    Calls Try.prog 37 #[.slice A n c, .slice A' n' c', .int .i64 (u : Int), .int .i64 e] w fun e w' => e = .returned (.bool true) ∧ w = w' := by
  obtain rfl := hr.n_eq
  have hcap := hr.cap.1
  by_cases he : e = 0
  · obtain ⟨h1, h2⟩ := h he
    subst he
    have hcut : Rd w 1 (.slice A u c) u ((bs.take u).map B8) := by rw [List.map_take]; exact hr.pre h1
    have HX := Lib.hid h2
    clear h h2
    have hq : (x == bs.take u) = true := by rw [HX.out]; simp
    by_cases hu0 : 0 < u
    · go_enter Try.func37, Try.ntmps37
      go_wp2_with (go_at_call 13; refine (sameB _ _ _ _ _ _ _ x (bs.take u) hx hcut).mono ?_; rw [hq]; rintro e w1 ⟨rfl, rfl⟩)
      go_ret
      exact ⟨rfl, rfl⟩
    · obtain rfl : u = 0 := by omega
      go_enter Try.func37, Try.ntmps37
      go_wp2_with (go_at_call 13; refine (sameB _ _ _ _ _ _ _ x (bs.take 0) hx hcut).mono ?_; rw [hq]; rintro e w1 ⟨rfl, rfl⟩)
      go_ret
      exact ⟨rfl, rfl⟩
  · have he1 : (e != 0) = true := by simpa using he
    clear h he
    go_enter Try.func37, Try.ntmps37
    go_wp2_with fail
    go_ret
    exact ⟨rfl, rfl⟩
end Go.Proofs.Ytbjddcjochealaa
