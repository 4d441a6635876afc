/-
  Arguments as they come in, opened to lists.
-/
import Derived.Test.YtmmomcililideaaDoorAg
import Derived.ProofKit
import Derived.OpenShut
import Derived.ShutString
import Derived.SliceStrings
import Derived.Deep.Slices
import Derived.JoinedCond
import Derived.SizedLaws
set_option linter.unusedSimpArgs false
set_option linter.unusedVariables false
namespace Go.Proofs.YtmmomcililideaaDoor
open Go.ChangeShapes Go.WideShapes Go.ChangeAt Go.RowKit

theorem Rd.of_addr {w : World} {m n c : Nat} {a : Addr} {xs : List Value} (hl : xs.length = n * m) (hm : 0 < m) (hc : n ≤ c) (hmx : c ≤ maxLen) (h : ∀ j u, xs[j]? = some u → w.cell? (a.add j) = some u) : Rd w m (.slice (some a) n c) n xs := by
  refine ⟨hl, some a, c, rfl, hc, hmx, (fun h => by cases h), fun hn => ?_⟩
  have hpos : 0 < xs.length := by rw [hl]; exact Nat.mul_pos hn hm
  have h0 := h 0 _ (List.getElem?_eq_getElem hpos)
  obtain ⟨b, off, spot⟩ := a
  have hs : spot = none := by simpa [Addr.add] using World.cell?_spot h0
  subst hs
  have hb := World.block_lt_of_cell? w _ h0
  refine ⟨b, off, rfl, by simpa [Addr.add] using hb, fun j u hj => ?_⟩
  have := h j u hj
  have e : (⟨b, off, none⟩ : Addr).add j = ⟨b, off + j, none⟩ := by unfold Addr.add; split <;> simp_all
  rwa [e] at this

section
variable {H : Type} {enc : TypeId × Value → H} {P : Program} {w : World} {t e : TypeId} {a : Option Addr} {len cap : Nat} {d : DataW H} {p : List MemPlace}

theorem ints_rd {k : IntKind} (ht : P.underlying t = some (.slice e)) (he : P.underlying e = some (.int k)) (hc : P.cellsOf e = 1)
    (h : DataW.Trod enc P w 0 (fun _ => true) true t (.slice a len cap) d p) : ∃ zs : List Int, zs.length = len ∧ Rd w 1 (.slice a len cap) len (zs.map (Value.int k)) ∧ ∀ n ∈ zs, (Lit.int k n).wf = true := by
  obtain ⟨fuel, hf⟩ := h
  rcases open_ints ht he hc hf with ⟨hcs, _⟩ | ⟨x, l, c, zs, hcs, _, hl, hm, hz, _, hcell, hwz⟩
  · simp [Value.cells] at hcs
    obtain ⟨rfl, rfl, rfl⟩ := hcs
    exact ⟨[], rfl, Rd.nil_ w 1, by simp⟩
  · simp [Value.cells] at hcs
    obtain ⟨rfl, rfl, rfl⟩ := hcs
    have hz' : zs.length = cap := by simpa using hz
    refine ⟨zs.take len, by simp; omega, Rd.of_addr (by simp; omega) (by omega) hl hm (fun j u hj => ?_), fun n hn => hwz n (List.mem_of_mem_take hn)⟩
    rw [List.map_take, List.getElem?_take] at hj
    split at hj
    · have hjl : j < zs.length := by omega
      rw [hcell j hjl]
      simp [List.getElem?_eq_getElem hjl] at hj
      simp [List.getD, List.getElem?_eq_getElem hjl, hj]
    · cases hj

theorem bytes_rd (ht : P.underlying t = some (.slice e)) (he : P.underlying e = some (.int .u8)) (hc : P.cellsOf e = 1)
    (h : DataW.Trod enc P w 0 (fun _ => true) true t (.slice a len cap) d p) : ∃ bs : List UInt8, bs.length = len ∧ Rd w 1 (.slice a len cap) len (bs.map B8) := by
  obtain ⟨zs, hl, hr, hw⟩ := ints_rd ht he hc h
  refine ⟨zs.map fun n => UInt8.ofNat n.toNat, by simpa using hl, ?_⟩
  have e1 : (zs.map fun n => UInt8.ofNat n.toNat).map B8 = zs.map (Value.int .u8) := by
    rw [List.map_map]
    refine List.map_congr_left fun n hn => ?_
    have := hw n hn
    simp [Lit.wf, IntKind.min, IntKind.max, IntKind.signed, IntKind.bits] at this
    simp only [Function.comp, B8, UInt8.toNat_ofNat']
    congr 1
    omega
  rw [e1]
  exact hr

theorem i64s_rd (ht : P.underlying t = some (.slice e)) (he : P.underlying e = some (.int .i64)) (hc : P.cellsOf e = 1)
    (h : DataW.Trod enc P w 0 (fun _ => true) true t (.slice a len cap) d p) : ∃ zs : List Int, zs.length = len ∧ Rd w 1 (.slice a len cap) len (zs.map (Value.int .i64)) ∧ ∀ x ∈ zs, -9223372036854775808 ≤ x ∧ x ≤ 9223372036854775807 := by
  obtain ⟨zs, hl, hr, hw⟩ := ints_rd ht he hc h
  refine ⟨zs, hl, hr, fun n hn => ?_⟩
  have := bounds_i64 (hw n hn)
  omega

theorem strs_rd (ht : P.underlying t = some (.slice e)) (he : P.underlying e = some .string) (hc : P.cellsOf e = 1)
    (h : DataW.Trod enc P w 0 (fun _ => true) true t (.slice a len cap) d p) : ∃ ss : List (List UInt8), ss.length = len ∧ Rd w 1 (.slice a len cap) len (ss.map tx) := by
  obtain ⟨fuel, hf⟩ := h
  rcases open_strings ht he hc hf with ⟨hcs, _⟩ | ⟨x, l, c, ss, hcs, _, hl, hm, hz, _, hcell, hwz⟩
  · simp [Value.cells] at hcs
    obtain ⟨rfl, rfl, rfl⟩ := hcs
    exact ⟨[], rfl, Rd.nil_ w 1⟩
  · simp [Value.cells] at hcs
    obtain ⟨rfl, rfl, rfl⟩ := hcs
    have hz' : ss.length = cap := by simpa using hz
    refine ⟨(ss.take len).map fun s => s.data.toList, by simp; omega, Rd.of_addr (by simp; omega) (by omega) hl hm (fun j u hj => ?_)⟩
    rw [List.map_map, List.map_take, List.getElem?_take] at hj
    split at hj
    · have hjl : j < ss.length := by omega
      rw [hcell j hjl]
      simp [List.getElem?_eq_getElem hjl, tx] at hj
      simp [List.getD, List.getElem?_eq_getElem hjl, ← hj]
    · cases hj

/-- The form's own reach, of a slice's length. -/
theorem slice_reach {ts : List TypeId} {ds : List (DataW H)} (hsz : (DataW.weightsEach P ts ds).all (· ≤ reachBytes) = true) {j B : Nat} (hj : ts[j]? = some t) (hd : ds[j]? = some d) (ht : P.underlying t = some (.slice e)) (hB : P.bytesOf e = B)
    (h : DataW.Trod enc P w 0 (fun _ => true) true t (.slice a len cap) d p) : len * B ≤ 140737488351232 := by
  obtain ⟨fuel, hf⟩ := h
  rcases Go.Deep.open_slice ht hf with ⟨hcs, _⟩ | ⟨x, l, c, m, n, D, Pl, hcs, _, hl, hm, hmm, hx, _⟩
  · simp [Value.cells] at hcs
    obtain ⟨rfl, rfl, rfl⟩ := hcs
    omega
  · simp [Value.cells] at hcs
    obtain ⟨rfl, rfl, rfl⟩ := hcs
    simp only [Prod.mk.injEq] at hx
    obtain ⟨rfl, _⟩ := hx
    have := sized_slice hsz hj hd ht
    rw [hB] at this
    simp only [List.length_map, List.length_range, reachBytes] at this
    have h2 : len * B ≤ (len + (m - len)) * B := Nat.mul_le_mul_right _ (by omega)
    omega

theorem weightsAll_mem {P : Program} {e : TypeId} {n : Nat} : ∀ {l : List (DataW H)} {d : DataW H}, d ∈ l → n ∈ d.weights P e → n ∈ DataW.weightsAll P e l
  | x :: l, d, h, hn => by
    simp only [DataW.weightsAll, List.mem_append]
    rcases List.mem_cons.1 h with rfl | h
    · exact .inl hn
    · exact .inr (weightsAll_mem h hn)
  | [], _, h, _ => by cases h

/-- A list of strings, with the reach of each. -/
theorem strs_rdz {ts : List TypeId} {ds : List (DataW H)} (hsz : (DataW.weightsEach P ts ds).all (· ≤ reachBytes) = true) {j : Nat} (hj : ts[j]? = some t) (hd : ds[j]? = some d) (ht : P.underlying t = some (.slice e)) (he : P.underlying e = some .string) (hc : P.cellsOf e = 1)
    (h : DataW.Trod enc P w 0 (fun _ => true) true t (.slice a len cap) d p) : ∃ ss : List (List UInt8), ss.length = len ∧ Rd w 1 (.slice a len cap) len (ss.map tx) ∧ ∀ s ∈ ss, s.length ≤ 140737488351232 := by
  obtain ⟨fuel, hf⟩ := h
  rcases open_strings ht he hc hf with ⟨hcs, _⟩ | ⟨x, l, c, ss, hcs, _, hl, hm, hz, hx, hcell, hwz⟩
  · simp [Value.cells] at hcs
    obtain ⟨rfl, rfl, rfl⟩ := hcs
    exact ⟨[], rfl, Rd.nil_ w 1, by simp⟩
  · simp [Value.cells] at hcs
    obtain ⟨rfl, rfl, rfl⟩ := hcs
    have hz' : ss.length = cap := by simpa using hz
    refine ⟨(ss.take len).map fun s => s.data.toList, by simp; omega, Rd.of_addr (by simp; omega) (by omega) hl hm (fun j u hj => ?_), fun s hs => ?_⟩
    · rw [List.map_map, List.map_take, List.getElem?_take] at hj
      split at hj
      · have hjl : j < ss.length := by omega
        rw [hcell j hjl]
        simp [List.getElem?_eq_getElem hjl, tx] at hj
        simp [List.getD, List.getElem?_eq_getElem hjl, ← hj]
      · cases hj
    · obtain ⟨b, hb, rfl⟩ := List.mem_map.1 hs
      simp only [Prod.mk.injEq] at hx
      obtain ⟨rfl, _⟩ := hx
      have hmem : (b.data.toList).length ∈ DataW.weights P t (DataW.slice (H := H) (strs (ss.take len)) (strs (ss.drop len))) := by
        simp only [DataW.weights, ht, List.mem_cons, List.mem_append]
        refine .inr (.inl (weightsAll_mem (d := .lit (.string b.data.toList)) ?_ (by simp [DataW.weights])))
        simp only [strs]
        exact List.mem_map.2 ⟨b, hb, rfl⟩
      have := List.all_eq_true.1 hsz _ (DataW.weights_mem_each hj hd _ hmem)
      exact of_decide_eq_true this

/-- An array of bytes as it reads. -/
theorem arr_bytes {n fuel : Nat} {held : Bool} {spare : Nat → Bool} {base : Nat} {cs : List Value} {x : DataW H × List MemPlace} (ht : P.underlying t = some (.array n e)) (he : P.underlying e = some (.int .u8)) (hc : P.cellsOf e = 1) (hn : P.cellsOf t = n)
    (h : DataW.trod enc P w base spare held fuel t cs = some x) : ∃ bs : List UInt8, bs.length = n ∧ cs = bs.map B8 := by
  obtain ⟨xs, m, _, _, hl, hxs, hx⟩ := DataW.trod_array ht h
  rw [hn] at hl
  have key : ∀ i, i < n → ∃ b : UInt8, cs[i]? = some (B8 b) := by
    intro i hi
    have h1 := hx i hi
    rw [hc, List.getElem?_eq_getElem (by omega), Nat.mul_one] at h1
    obtain ⟨k, hk, _, hw⟩ := DataW.trod_int he h1
    have hw := bounds_u8 hw
    refine ⟨UInt8.ofNat k.toNat, ?_⟩
    have hd : cs.drop i = cs[i]'(by omega) :: cs.drop (i + 1) := List.drop_eq_getElem_cons (by omega)
    rw [hd] at hk
    simp only [List.take_succ_cons, List.take_zero, List.cons.injEq, and_true] at hk
    rw [List.getElem?_eq_getElem (by omega), hk]
    simp only [B8, UInt8.toNat_ofNat']
    congr 2
    omega
  obtain ⟨f, hf⟩ := Go.Deep.choose_lt (α := UInt8) key
  refine ⟨(List.range n).map f, by simp, ?_⟩
  apply List.ext_getElem?
  intro i
  by_cases hi : i < n
  · rw [hf i hi]
    simp [hi]
  · rw [List.getElem?_eq_none (by omega), List.getElem?_eq_none (by simp; omega)]

theorem fl_get {α : Type} {g : α → List Value} {m : Nat} : ∀ {l : List α}, (∀ x ∈ l, (g x).length = m) → ∀ {j : Nat} {u : Value}, (fl g l)[j]? = some u → ∃ i r x, i < l.length ∧ l[i]? = some x ∧ r < m ∧ j = i * m + r ∧ (g x)[r]? = some u
  | [], _, j, u, h => by simp [fl] at h
  | x :: l, hm, j, u, h => by
    have hx := hm x (by simp)
    have e : fl g (x :: l) = g x ++ fl g l := by simp [fl]
    rw [e] at h
    by_cases hj : j < m
    · rw [List.getElem?_append_left (by omega)] at h
      exact ⟨0, j, x, by simp, rfl, hj, by omega, h⟩
    · rw [List.getElem?_append_right (by omega)] at h
      obtain ⟨i, r, y, hi, hy, hr, hj2, hu⟩ := fl_get (fun y hy => hm y (by simp [hy])) h
      exact ⟨i + 1, r, y, by simp; omega, by simpa using hy, hr, by rw [Nat.add_mul, Nat.one_mul]; omega, hu⟩

/-- A list of arrays of bytes. -/
theorem dgs_rd {ea : TypeId} {m : Nat} (ht : P.underlying t = some (.slice e)) (he : P.underlying e = some (.array m ea)) (hea : P.underlying ea = some (.int .u8)) (hc : P.cellsOf ea = 1) (hm : P.cellsOf e = m) (hm0 : 0 < m)
    (h : DataW.Trod enc P w 0 (fun _ => true) true t (.slice a len cap) d p) : ∃ ss : List (List UInt8), ss.length = len ∧ Rd w m (.slice a len cap) len (fl (fun d => d.map B8) ss) ∧ ∀ s ∈ ss, s.length = m := by
  obtain ⟨fuel, hf⟩ := h
  rcases Go.Deep.open_slice ht hf with ⟨hcs, _⟩ | ⟨x, l, c, k, n, D, Pl, hcs, _, hl, hmx, hk, hx, hel⟩
  · simp [Value.cells] at hcs
    obtain ⟨rfl, rfl, rfl⟩ := hcs
    exact ⟨[], rfl, Rd.nil_ w m, by simp⟩
  · simp [Value.cells] at hcs
    obtain ⟨rfl, rfl, rfl⟩ := hcs
    have hlk : len ≤ k := by rw [hk]; split <;> omega
    have key : ∀ i, i < len → ∃ bs : List UInt8, bs.length = m ∧ ∀ r u, (bs.map B8)[r]? = some u → w.cell? (x.add (i * m + r)) = some u := by
      intro i hi
      obtain ⟨cs', h1, h2⟩ := hel i (by omega)
      obtain ⟨bs, hb1, rfl⟩ := arr_bytes he hea hc hm h2
      refine ⟨bs, hb1, fun r u hu => ?_⟩
      rw [hm] at h1
      obtain ⟨_, _, h3⟩ := World.cells?_some h1
      have h4 : r < m := by have := (List.getElem?_eq_some_iff.1 hu).1; simpa [hb1] using this
      have := h3 r h4
      rw [Go.Deep.add_add, hu] at this
      exact this
    obtain ⟨f, hf'⟩ := Go.Deep.choose_lt (α := List UInt8) key
    have hall : ∀ s ∈ (List.range len).map f, s.length = m := by
      intro s hs
      obtain ⟨i, hi, rfl⟩ := List.mem_map.1 hs
      exact (hf' i (List.mem_range.1 hi)).1
    have hcd : ∀ s ∈ (List.range len).map f, (s.map B8).length = m := fun s hs => by simpa using hall s hs
    refine ⟨(List.range len).map f, by simp, Rd.of_addr (by rw [fl_len hcd]; simp) hm0 hl hmx (fun j u hj => ?_), hall⟩
    obtain ⟨i, r, y, hi, hy, hr, rfl, hu⟩ := fl_get hcd hj
    simp at hi
    simp [hi] at hy
    subst hy
    exact (hf' i hi).2 r u hu
end

/-- A string as it comes in. -/
theorem str_list (s : ByteArray) : ∃ l : List UInt8, s = ⟨l.toArray⟩ ∧ l.length = s.size := ⟨s.data.toList, by cases s; rfl, by rw [Array.length_toList]; rfl⟩
end Go.Proofs.YtmmomcililideaaDoor
