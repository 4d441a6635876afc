/-
  Words of this seat's own texts: a slice that reads as a list ('Rd'), what a call has made ('Mk'), small laws on both.
-/
import Derived.WalkKit
import Derived.Lib.AppendStr
import Derived.Lib.Hide
import Derived.Deep.AppendLies
import Derived.Deep.Draws
import Derived.Laws.OwnMore
import Derived.Laws.AppendOwnNone
import Derived.Handy
import Derived.Laws.BytesString
import Derived.Laws.BytesArg
set_option linter.unusedSimpArgs false
set_option linter.unusedVariables false
namespace Go.Proofs.YtmmomcililideaaDoor
open Go.RowKit

/-- The slice value v has n elements of 'size' cells each, which read as xs; it lies below the heap's end. -/
def Rd (w : World) (size : Nat) (v : Value) (n : Nat) (xs : List Value) : Prop :=
  xs.length = n * size ∧ ∃ A c, v = .slice A n c ∧ n ≤ c ∧ c ≤ maxLen ∧ (A = none → c = 0) ∧ (0 < n → ∃ b off, A = some ⟨b, off, none⟩ ∧ b < w.heap.size ∧ ∀ j u, xs[j]? = some u → w.cell? ⟨b, off + j, none⟩ = some u)

theorem Rd.keep {w w' : World} {size n : Nat} {v : Value} {xs : List Value} (h : Rd w size v n xs) (hs : w.heap.size ≤ w'.heap.size)
    (hk : ∀ p : Addr, p.block < w.heap.size → w'.cell? p = w.cell? p) : Rd w' size v n xs := by
  obtain ⟨hl, A, c, hv, hc, hm, hz, hr⟩ := h
  refine ⟨hl, A, c, hv, hc, hm, hz, fun hn => ?_⟩
  obtain ⟨b, off, hA, hb, hx⟩ := hr hn
  exact ⟨b, off, hA, Nat.lt_of_lt_of_le hb hs, fun j u hj => (hk _ hb).trans (hx j u hj)⟩

theorem Rd.below {w w' : World} {size n : Nat} {v : Value} {xs : List Value} (h : Rd w size v n xs) (hb : Below w.heap.size w w') : Rd w' size v n xs :=
  h.keep hb.size fun _ hp => hb.cell hp

theorem Rd.below' {B : Nat} {w w' : World} {size n : Nat} {v : Value} {xs : List Value} (h : Rd w size v n xs) (hB : w.heap.size ≤ B) (hb : Below B w w') : Rd w' size v n xs :=
  h.below (hb.mono hB)

theorem Rd.nil_ (w : World) (size : Nat) : Rd w size (.slice none 0 0) 0 [] := ⟨by simp, none, 0, rfl, Nat.le_refl _, by unfold maxLen; omega, fun _ => rfl, fun h => absurd h (by omega)⟩

theorem Rd.alloc {w : World} {size n : Nat} {v : Value} {xs : List Value} (h : Rd w size v n xs) (o : Obj) : Rd (w.alloc o) size v n xs :=
  h.keep (by simp) fun p hp => World.cell?_alloc_lt w o p hp

theorem Rd.drew {w : World} {size n : Nat} {v : Value} {xs : List Value} (h : Rd w size v n xs) : Rd w.drew size v n xs := h

theorem Rd.len {w : World} {size n : Nat} {v : Value} {xs : List Value} (h : Rd w size v n xs) : xs.length = n * size := h.1

theorem add_zero_spot (g j : Nat) : (⟨g, 0, none⟩ : Addr).add j = ⟨g, 0 + j, none⟩ := by
  unfold Addr.add
  split <;> simp_all

theorem Rd.of_own {w : World} {base size n : Nat} {e : TypeId} {v : Value} {xs : List Value} (h : w.ownsRow base e size v n xs) : Rd w size v n xs := by
  obtain ⟨hl, hr⟩ := h
  rcases hr with ⟨rfl, rfl⟩ | ⟨g, cap, cur, rfl, hb, hg, hn, hm, hs, ht⟩
  · have : xs = [] := List.eq_nil_of_length_eq_zero (by simpa using hl)
    subst this
    exact Rd.nil_ w size
  · have ho : w.ownsRow base e size (.slice (some ⟨g, 0, none⟩) n cap) n xs := ⟨hl, .inr ⟨g, cap, cur, rfl, hb, hg, hn, hm, hs, ht⟩⟩
    refine ⟨hl, some ⟨g, 0, none⟩, cap, rfl, hn, hm, (fun h => by cases h), fun _ => ⟨g, 0, rfl, (Array.getElem?_eq_some_iff.1 hg).1, fun j u hj => ?_⟩⟩
    rw [← add_zero_spot]
    exact ho.cells (g := g) rfl j u hj

/-- What a slice's cells are at an index. -/
theorem Rd.cellAt {w : World} {size n : Nat} {A : Option Addr} {c : Nat} {xs : List Value} (h : Rd w size (.slice A n c) n xs) (hn : 0 < n) :
    ∃ b off, A = some ⟨b, off, none⟩ ∧ b < w.heap.size ∧ ∀ j u, xs[j]? = some u → w.cell? ⟨b, off + j, none⟩ = some u := by
  obtain ⟨_, A', c', hv, _, _, _, hr⟩ := h
  injection hv with h1 h2 h3
  subst h1
  exact hr hn

theorem Rd.form {w : World} {size n : Nat} {v : Value} {xs : List Value} (h : Rd w size v n xs) : ∃ A c, v = .slice A n c ∧ n ≤ c ∧ c ≤ maxLen := by
  obtain ⟨_, A, c, hv, hc, hm, _, _⟩ := h
  exact ⟨A, c, hv, hc, hm⟩

/-- What a call has made: the slice value v owns xs in a block of its own, and nothing that was there has turned. -/
def Mk (w w' : World) (e : TypeId) (size : Nat) (v : Value) (n : Nat) (xs : List Value) : Prop :=
  w'.ownsRow w.heap.size e size v n xs ∧ Below w.heap.size w w'

theorem ownsRow_mono {w : World} {base base' size n : Nat} {e : TypeId} {v : Value} {xs : List Value} (h : w.ownsRow base e size v n xs) (hb : base' ≤ base) : w.ownsRow base' e size v n xs := by
  obtain ⟨hl, hr⟩ := h
  refine ⟨hl, ?_⟩
  rcases hr with hn | ⟨g, cap, cur, hv, hg, rest⟩
  · exact .inl hn
  · exact .inr ⟨g, cap, cur, hv, Nat.le_trans hb hg, rest⟩

/-- 'append(s, x)' of one element of one cell. -/
theorem append_one {P : Program} {w : World} {ops : Array Oper} {rest : List Oper} {o : Oper} {a : Act} {Q : Exit → Act → World → Prop} (u : Value) (tb : TypeId) (hgd : o.guard = none) (s x : Operand) (t : TypeId)
    (ho : o.op = .call { callee := .builtin .append, args := #[s, x], argTypes := #[t, t] })
    (base : Nat) (e : TypeId) (z : Value) (bytes : Nat) (ht : P.underlying t = some (.slice e)) (hi : (P.info? e).map (fun i => (i.zero, i.size, i.bytes)) = some (some z, 1, bytes))
    (hz1 : z.cells.size = 1) (v : Value) (n : Nat) (xs : List Value) (hs : a.eval s = v) (hown : w.ownsRow base e 1 v n xs)
    (hx : a.eval x = .slice (some ⟨w.heap.size, 0, none⟩) 1 1) (h1 : u.oneCell' = true)
    (hbytes : (n + 1) * bytes ≤ 140737488355328) (h63 : n + 1 ≤ maxLen) (hbase : base ≤ w.heap.size)
    (h : ∀ v' w', w'.ownsRow base e 1 v' (n + 1) (xs ++ [u]) → (w.alloc (.cells #[u] tb)).grownBy w' v.ownBlock → Below base w w' → wpList P ops Q rest (a.put o.dst v') w') :
    wpList P ops Q (o :: rest) a (w.alloc (.cells #[u] tb)) := by
  obtain ⟨i, hi', hz0, hsz, hby⟩ := info_parts hi
  refine wpList_append_own _ hgd s x t ho base e i z 1 bytes ht hi' hz0 hsz hby hz1 (by decide) v n xs hs (hown.alloc _) ⟨w.heap.size, 0, none⟩ 1 1 [u] hx rfl ?_ ?_ h63 hbytes (by simp; omega) ?_
  · intro j u' hj
    match j, hj with
    | 0, hj =>
      simp at hj
      subst hj
      simp [Addr.add]
  · intro u' hu
    simp at hu
    subst hu
    exact h1
  · intro v' w' h2 h3 _
    refine h v' w' h2 h3 (((Below.refl base w).alloc hbase _).grown h3 (by simp; omega) ?_)
    intro k hk
    exact (hown.lt k hk).1

/-- 'append(s, x...)', x a slice that reads as news. -/
theorem append_rd {P : Program} {w : World} {ops : Array Oper} {rest : List Oper} {o : Oper} {a : Act} {Q : Exit → Act → World → Prop} (hgd : o.guard = none) (s x : Operand) (t : TypeId)
    (ho : o.op = .call { callee := .builtin .append, args := #[s, x], argTypes := #[t, t] })
    (base : Nat) (e : TypeId) (z : Value) (size bytes : Nat) (ht : P.underlying t = some (.slice e)) (hi : (P.info? e).map (fun i => (i.zero, i.size, i.bytes)) = some (some z, size, bytes))
    (hz1 : z.cells.size = size) (hsz0 : 0 < size) (v : Value) (n : Nat) (xs : List Value) (hs : a.eval s = v) (hown : w.ownsRow base e size v n xs)
    (vx : Value) (m : Nat) (news : List Value) (hx : a.eval x = vx) (hr : Rd w size vx m news) (h1 : ∀ u ∈ news, u.oneCell' = true)
    (hbytes : (n + m) * bytes ≤ 140737488355328) (h63 : n + m ≤ maxLen) (hbase : base ≤ w.heap.size)
    (h : ∀ v' w', w'.ownsRow base e size v' (n + m) (xs ++ news) → w.grownBy w' v.ownBlock → Below base w w' → wpList P ops Q rest (a.put o.dst v') w') :
    wpList P ops Q (o :: rest) a w := by
  obtain ⟨i, hi', hz0, hsz, hby⟩ := info_parts hi
  have hbel : ∀ w', w.grownBy w' v.ownBlock → Below base w w' := fun w' h3 => (Below.refl base w).grown h3 hbase fun k hk => (hown.lt k hk).1
  obtain ⟨hl, A, c, rfl, hc, hm, hz, hcell⟩ := hr
  rcases Nat.eq_zero_or_pos m with h0 | h0
  · subst h0
    have hn : news = [] := List.eq_nil_of_length_eq_zero (by simpa using hl)
    subst hn
    rcases A with _ | ad
    · have hc0 := hz rfl
      subst hc0
      refine wpList_append_own_none hgd s x t ho base e i size ht hi' v n xs hs hown hx ?_
      exact h v w (by simpa using hown) (World.grownBy.refl _ _) (Below.refl _ _)
    · refine wpList_append_own _ hgd s x t ho base e i z size bytes ht hi' hz0 hsz hby hz1 hsz0 v n xs hs hown ad 0 c [] hx (by simp) (by simp) (by simp) h63 hbytes hbase ?_
      intro v' w' h2 h3 _
      exact h v' w' h2 h3 (hbel _ h3)
  · obtain ⟨b, off, rfl, hb, hcs⟩ := hcell h0
    refine wpList_append_own _ hgd s x t ho base e i z size bytes ht hi' hz0 hsz hby hz1 hsz0 v n xs hs hown ⟨b, off, none⟩ m c news hx hl ?_ h1 h63 hbytes hbase ?_
    · intro j u hj
      have e : (⟨b, off, none⟩ : Addr).add j = ⟨b, off + j, none⟩ := by
        unfold Addr.add
        split <;> simp_all
      rw [e]
      exact hcs j u hj
    · intro v' w' h2 h3 _
      exact h v' w' h2 h3 (hbel _ h3)

/-- A byte as a value. -/
def B8 (b : UInt8) : Value := .int .u8 (b.toNat : Int)
theorem B8_one (b : UInt8) : (B8 b).oneCell' = true := rfl
theorem B8s_one (l : List UInt8) : ∀ u ∈ l.map B8, u.oneCell' = true := by
  intro u hu
  obtain ⟨b, _, rfl⟩ := List.mem_map.1 hu
  rfl
theorem B8_of (n : Int) (b : UInt8) (h : n = (b.toNat : Int)) : Value.int .u8 n = B8 b := by rw [h]; rfl

/-- A cut 'v[k:m]' of a slice that reads as a list. -/
theorem Rd.cut {w : World} {size n c : Nat} {A : Option Addr} {xs : List Value} (h : Rd w size (.slice A n c) n xs) {k m : Nat} (hk : k ≤ m) (hm : m ≤ n) :
    Rd w size (.slice (if c = k then A else A.map (·.add (k * size))) (m - k) (c - k)) (m - k) ((xs.drop (k * size)).take ((m - k) * size)) := by
  obtain ⟨hl, A', c', hv, hc, hmx, hz, hr⟩ := h
  injection hv with h1 h2 h3
  subst h1
  subst h3
  have hmul : (m - k) * size ≤ n * size - k * size := by rw [← Nat.sub_mul]; exact Nat.mul_le_mul_right _ (by omega)
  refine ⟨by rw [List.length_take, List.length_drop, hl]; omega, _, _, rfl, by omega, by omega, ?_, fun hn => ?_⟩
  · intro hA
    split at hA
    · omega
    · have : A = none := by simpa using hA
      have := hz this
      omega
  · obtain ⟨b, off, rfl, hb, hx⟩ := hr (by omega)
    refine ⟨b, off + k * size, ?_, hb, fun j u hj => ?_⟩
    · rw [if_neg (by omega)]
      simp only [Option.map_some, Option.some.injEq]
      unfold Addr.add
      split <;> simp_all
    · rw [List.getElem?_take] at hj
      split at hj
      · rw [List.getElem?_drop] at hj
        rw [Nat.add_assoc]
        exact hx _ u hj
      · cases hj

/-- 'string(v)' of a slice that reads as bytes: a rule for the walk. -/
theorem run_str {P : Program} {w : World} (src dst e : TypeId) (hs : P.underlying src = some (.slice e)) (he : P.underlying e = some (.int .u8)) (hd : P.underlying dst = some .string)
    {v : Value} {n : Nat} {bs : List UInt8} (hr : Rd w 1 v n (bs.map B8)) : (convert src dst v).run P w = .ok (.string ⟨bs.toArray⟩) w := by
  obtain ⟨hl, A, c, rfl, hc, hm, hz, hcell⟩ := hr
  have hl' : bs.length = n := by simpa using hl
  rcases Nat.eq_zero_or_pos n with h0 | h0
  · subst h0
    have hb : bs = [] := List.eq_nil_of_length_eq_zero hl'
    subst hb
    rw [run_convert_bytes_string w src dst e _ 0 c hs he hd]
    rcases A with _ | ad
    · simp [Conv.bytesToString]; rfl
    · have hl0 : (loadCells ad 0).run P w = .ok (([] : List Int).map (Value.int .u8)).toArray w := by
        have := run_loadCells_list (P := P) w ad [] (fun j v hj => by simp at hj)
        simpa using this
      rw [run_bytesToString w ad 0 c [] hl0]
      rfl
  · obtain ⟨b, off, rfl, hb, hcs⟩ := hcell h0
    have hq := run_convert_bytes_arg (P := P) w src e hs he b off n c (bs.map fun x => (x.toNat : Int)) (by simpa using hl') (fun i hi => by
      have h1 : (bs.map B8)[i]? = some (B8 (bs[i]'(by omega))) := by simp [List.getElem?_eq_getElem (show i < bs.length by omega)]
      rw [hcs i _ h1]
      simp [B8, List.getD, List.getElem?_eq_getElem (show i < bs.length by omega)]) dst hd
    rw [hq]
    congr 2
    simp only [strOfNums, List.map_map]
    congr 2
    rw [List.map_congr_left (g := id) (fun x _ => by simp), List.map_id]

/-- One byte of a slice that reads as bytes. -/
theorem Rd.at8 {w : World} {A : Option Addr} {c n : Nat} {bs : List UInt8} (h : Rd w 1 (.slice A n c) n (bs.map B8)) {k : Nat} (hk : k < bs.length) :
    ∃ b off, ∃ x : UInt8, A = some ⟨b, off, none⟩ ∧ b < w.heap.size ∧ w.cell? ⟨b, off + k, none⟩ = some (.int .u8 (x.toNat : Int)) ∧ x.toNat < 256 ∧ Hid (bs.drop k = x :: bs.drop (k + 1)) := by
  have hl := h.1
  obtain ⟨b, off, hA, hb, hc⟩ := h.cellAt (by simp at hl; omega)
  exact ⟨b, off, bs[k], hA, hb, hc k _ (by simp [List.getElem?_eq_getElem hk, B8]), bs[k].toNat_lt, List.drop_eq_getElem_cons hk⟩

/-- One cell of a slice whose elements have one cell each. -/
theorem Rd.atG {α : Type} {g : α → Value} {w : World} {A : Option Addr} {c n : Nat} {l : List α} (h : Rd w 1 (.slice A n c) n (l.map g)) {k : Nat} (hk : k < l.length) :
    ∃ b off, ∃ x : α, A = some ⟨b, off, none⟩ ∧ b < w.heap.size ∧ w.cell? ⟨b, off + k, none⟩ = some (g x) ∧ x ∈ l ∧ Hid (l.drop k = x :: l.drop (k + 1)) := by
  have hl := h.1
  obtain ⟨b, off, hA, hb, hc⟩ := h.cellAt (by simp at hl; omega)
  exact ⟨b, off, l[k], hA, hb, hc k _ (by simp [List.getElem?_eq_getElem hk]), List.getElem_mem hk, List.drop_eq_getElem_cons hk⟩

theorem Rd.n_eq {α : Type} {g : α → Value} {w : World} {v : Value} {n : Nat} {l : List α} (h : Rd w 1 v n (l.map g)) : l.length = n := by simpa using h.1

/-- What a call owns stays its own while only new blocks are written. -/
theorem own_below {w w' : World} {base size n : Nat} {e : TypeId} {v : Value} {xs : List Value} (h : w.ownsRow base e size v n xs) (hb : Below w.heap.size w w') : w'.ownsRow base e size v n xs := by
  obtain ⟨hl, hr⟩ := h
  refine ⟨hl, ?_⟩
  rcases hr with hn | ⟨g, cap, cur, hv, hg, hh, rest⟩
  · exact .inl hn
  · exact .inr ⟨g, cap, cur, hv, hg, (hb.block g (Array.getElem?_eq_some_iff.1 hh).1).trans hh, rest⟩

/-- 'append(s, x...)', x a string. -/
theorem append_str {P : Program} {w : World} {ops : Array Oper} {rest : List Oper} {o : Oper} {a : Act} {Q : Exit → Act → World → Prop} (hgd : o.guard = none) (sl x : Operand) (t u : TypeId)
    (ho : o.op = .call { callee := .builtin .append, args := #[sl, x], argTypes := #[t, u] })
    (base : Nat) (e : TypeId) (ht : P.underlying t = some (.slice e)) (hu : P.underlying u = some .string) (hi : (P.info? e).map (fun i => (i.zero, i.size, i.bytes)) = some (some (.int .u8 0), 1, 1))
    (v : Value) (n : Nat) (xs : List Value) (hs : a.eval sl = v) (hown : w.ownsRow base e 1 v n xs) (l : List UInt8) (hx : a.eval x = .string ⟨l.toArray⟩)
    (hbytes : n + l.length ≤ 140737488355328) (hbase : base ≤ w.heap.size)
    (h : ∀ v' w', w'.ownsRow base e 1 v' (n + l.length) (xs ++ l.map B8) → w.grownBy w' v.ownBlock → Below base w w' → wpList P ops Q rest (a.put o.dst v') w') : wpList P ops Q (o :: rest) a w := by
  obtain ⟨i, hi', hz0, hsz, hby⟩ := info_parts hi
  have es : (⟨l.toArray⟩ : ByteArray).size = l.length := by simp [ByteArray.size]
  refine Lib.wpList_append_own_string w hgd sl x t u ho base e i ht hu hi' hz0 hsz hby v n xs hs hown ⟨l.toArray⟩ hx (by rw [es]; unfold maxLen; omega) (by rw [es]; omega) hbase ?_
  intro v' w' h2 h3 _
  have ec : Lib.strCells ⟨l.toArray⟩ = l.map B8 := by simp [Lib.strCells, B8]
  rw [es, ec] at h2
  exact h v' w' h2 h3 ((Below.refl base w).grown h3 hbase fun k hk => (hown.lt k hk).1)

/-- A cut 'v[k:k+m]', where the capacity is more than k, and where it is k. -/
theorem Rd.cutA {w : World} {n c : Nat} {A : Option Addr} {xs : List Value} (h : Rd w 1 (.slice A n c) n xs) {k m : Nat} (hm : k + m ≤ n) (hc : c ≠ k) :
    Rd w 1 (.slice (Option.map (fun x => x.add k) A) m (c - k)) m ((xs.drop k).take m) := by
  have := h.cut (k := k) (m := k + m) (by omega) hm
  rw [if_neg hc] at this
  simpa using this
theorem Rd.cutE {w : World} {n c : Nat} {A : Option Addr} {xs : List Value} (h : Rd w 1 (.slice A n c) n xs) {k m : Nat} (hm : k + m ≤ n) (hc : c = k) :
    Rd w 1 (.slice A m 0) m ((xs.drop k).take m) := by
  have := h.cut (k := k) (m := k + m) (by omega) hm
  rw [if_pos hc] at this
  subst hc
  simpa using this
theorem Rd.none_ {w : World} {size n c : Nat} {xs : List Value} (h : Rd w size (.slice none n c) n xs) : n = 0 ∧ c = 0 ∧ xs = [] := by
  obtain ⟨hl, A', c', hv, hc, hm, hz, _⟩ := h
  injection hv with h1 h2 h3
  have := hz h1.symm
  have hn : n = 0 := by omega
  subst hn
  exact ⟨rfl, by omega, List.eq_nil_of_length_eq_zero (by simpa using hl)⟩
theorem Rd.cap {w : World} {size n c : Nat} {A : Option Addr} {xs : List Value} (h : Rd w size (.slice A n c) n xs) : n ≤ c ∧ c ≤ maxLen := by
  obtain ⟨_, A', c', hv, hc, hm, _⟩ := h
  injection hv with h1 h2 h3
  subst h3
  exact ⟨hc, hm⟩
theorem map_cut {α β : Type} {f : α → β} (l : List α) (k m : Nat) : ((l.map f).drop k).take m = ((l.drop k).take m).map f := by simp [List.map_take, List.map_drop]

/-- A byte string as a value. -/
def tx (s : List UInt8) : Value := .string ⟨s.toArray⟩
end Go.Proofs.YtmmomcililideaaDoor
