/-
  'append(b, x)' of one byte, the new slice laid open; a part of a slice.
-/
import Derived.Test.YtmmomcililideaaDoorWk02a
import Derived.Test.YtmmomcililideaaDoorAg
import Derived.Test.YtmmomcililideaaDoorConv
set_option linter.unusedSimpArgs false
set_option linter.unusedVariables false
namespace Go.Proofs.YtmmomcililideaaDoor
open Go.RowKit

theorem own_nil (w : World) (B : Nat) (e : TypeId) : w.ownsRow B e 1 (.slice none 0 0) 0 [] := ⟨rfl, .inl ⟨rfl, rfl⟩⟩
theorem app8 {w : World} {ops : Array Oper} {rest : List Oper} {o : Oper} {a : Act} {Q : Exit → Act → World → Prop} {u : Value} {tb : TypeId} (hgd : o.guard = none) {s x : Operand}
    (ho : o.op = .call { callee := .builtin .append, args := #[s, x], argTypes := #[22, 22] })
    (base : Nat) (v : Value) (n : Nat) (xs : List Value) (hs : a.eval s = v) (hown : w.ownsRow base 5 1 v n xs)
    (hx : a.eval x = .slice (some ⟨w.heap.size, 0, none⟩) 1 1) (h1 : u.oneCell' = true) (hn : n + 1 ≤ 140737488355328) (hbase : base ≤ w.heap.size)
    (h : ∀ A' c' w', w'.ownsRow base 5 1 (.slice A' (n + 1) c') (n + 1) (xs ++ [u]) → n + 1 ≤ c' → c' ≤ maxLen → Below base w w' → wpList Tryd.prog ops Q rest (a.put o.dst (.slice A' (n + 1) c')) w') :
    wpList Tryd.prog ops Q (o :: rest) a (w.alloc (.cells #[u] tb)) := by
  refine append_one u tb hgd s x 22 ho base 5 _ 1 Tryd.underlying22 info_u8 rfl v n xs hs hown hx h1 (by omega) (by unfold maxLen; omega) hbase ?_
  intro v' w' h2 _ h4
  have hR := Rd.of_own h2
  obtain ⟨A', c', rfl, h5, h6⟩ := hR.form
  exact h A' c' w' h2 h5 h6 h4

/-- A part of a slice. -/
theorem Rd.part {w : World} {b off n c : Nat} {xs : List Value} (h : Rd w 1 (.slice (some ⟨b, off, none⟩) n c) n xs) {k m : Nat} (hm : 0 < m) (hk : k + m ≤ n) :
    Rd w 1 (.slice (some ⟨b, off + k, none⟩) m (c - k)) m ((xs.drop k).take m) := by
  obtain ⟨hl, A', c', hv, hc, hmx, hz, hr⟩ := h
  injection hv with h1 h2 h3
  subst h1 h3
  obtain ⟨b', off', hA, hb, hx⟩ := hr (by omega)
  injection hA with hA
  injection hA with e1 e2 e3
  subst e1 e2
  refine ⟨by rw [List.length_take, List.length_drop]; omega, _, _, rfl, by omega, by omega, (fun h => by cases h), fun _ => ⟨b, off + k, rfl, hb, fun j u hj => ?_⟩⟩
  rw [List.getElem?_take] at hj
  split at hj
  · rw [List.getElem?_drop] at hj
    rw [Nat.add_assoc]
    exact hx _ u hj
  · cases hj
theorem take_snoc {α : Type} {l : List α} {k : Nat} (h : k < l.length) : l.take (k + 1) = l.take k ++ [l[k]] := (List.take_append_getElem h).symm

/-- 'op_store_new', the block's number told beside. -/
theorem op_store_at {P : Program} {ops : Array Oper} {rest : List Oper} {o : Oper} {a : Act} {Q : Exit → Act → World → Prop} (w0 : World) (old : Array Value) (t : TypeId) (g : Nat) (hg : g = w0.heap.size) (hgd : o.guard = none) (ty : TypeId) (p x : Operand) (ho : o.op = .store ty p x) (hp : a.eval p = .pointer (some ⟨g, 0, none⟩)) (cs : Array Value)
    (hx : a.eval x = .agg cs) (hs : cs.size = old.size) (h1 : ∀ v ∈ cs.toList, v.oneCell' = true) (hi : (P.info? ty).map (·.size) = some cs.size)
    (h : wpList P ops Q rest (a.put o.dst undef) (w0.alloc (.cells cs t))) : wpList P ops Q (o :: rest) a (w0.alloc (.cells old t)) := by
  subst hg
  exact op_store_new w0 old t hgd ty p x ho hp cs hx hs h1 hi h
theorem drop_take {α : Type} {l r : List α} {k : Nat} {x : α} (h : l.drop k = x :: r) : l.take (k + 1) = l.take k ++ [x] := by
  have hk : k < l.length := by
    rcases Nat.lt_or_ge k l.length with h' | h'
    · exact h'
    · rw [List.drop_eq_nil_of_le h'] at h; cases h
  rw [List.drop_eq_getElem_cons hk] at h
  injection h with h _
  rw [← List.take_append_getElem hk, h]
/-- At most 12 strings of at most 400 bytes. -/
def fewB (ss : List (List UInt8)) : Bool := decide (ss.length ≤ 12) && ss.all fun s => decide (s.length ≤ 400)
theorem fewB_long {ss : List (List UInt8)} (h : 12 < ss.length) : fewB ss = false := by unfold fewB; rw [decide_eq_false (by omega)]; rfl
theorem fewB_wide {ss : List (List UInt8)} {s : List UInt8} (hm : s ∈ ss) (h : 400 < s.length) : fewB ss = false := by
  unfold fewB
  rw [Bool.and_eq_false_iff]
  right
  rw [List.all_eq_false]
  exact ⟨s, hm, by simpa using h⟩
theorem fewB_of {ss : List (List UInt8)} (h : ss.length ≤ 12) (hall : ∀ s ∈ ss, s.length ≤ 400) : fewB ss = true := by
  unfold fewB
  rw [decide_eq_true h, Bool.true_and, List.all_eq_true]
  intro s hs
  exact decide_eq_true (hall s hs)
theorem fewB_out {ss : List (List UInt8)} (h : fewB ss = true) : ss.length ≤ 12 ∧ ∀ s ∈ ss, s.length ≤ 400 := by
  unfold fewB at h
  rw [Bool.and_eq_true, List.all_eq_true] at h
  exact ⟨of_decide_eq_true h.1, fun s hs => of_decide_eq_true (h.2 s hs)⟩

set_option maxRecDepth 100000 in
theorem fewC (A : Option Addr) (n c : Nat) (ss : List (List UInt8)) (w : World) (hr : Rd w 1 (.slice A n c) n (ss.map tx)) (hn : n ≤ 140737488355328) (hs : ∀ s ∈ ss, s.length ≤ 140737488355328) :
    Calls Tryd.prog 15 #[.slice A n c] w fun e w' => e = .returned (.bool (fewB ss)) ∧ w = w' := by
  have hl := hr.n_eq
  by_cases h12 : 12 < n
  · rw [fewB_long (by omega)]
    clear hl hr
    go_enter Tryd.func15, Tryd.ntmps15
    go_wp2
    go_ret
    exact ⟨rfl, rfl⟩
  · have HT := Lib.hid hl
    have hl2 : ss.length ≤ 12 := by omega
    clear hl
    go_enter Tryd.func15, Tryd.ntmps15
    go_wp2
    go_loop [3] (fun i => ∃ k : Nat, k ≤ n ∧ i = .int .i64 (k : Int) ∧ ∀ s ∈ ss.take k, s.length ≤ 400) (fun i => n - (intOf i).toNat)
    case atStart => exact ⟨0, by omega, rfl, by simp⟩
    case round =>
      obtain ⟨k, hk, rfl, hall⟩ := hrel
      by_cases hlt : k < n
      · obtain ⟨b, off, s, rfl, hb, hc, hm, hd⟩ := hr.atG (k := k) (by rw [HT.out]; exact hlt)
        have hsl := hs s hm
        have hc' : w.cell? ⟨b, off + k, none⟩ = some (.string ⟨s.toArray⟩) := hc
        clear hc hs
        by_cases h4 : 400 < s.length
        · have HF := Lib.hid (fewB_wide hm h4)
          clear hall
          go_wp2
          go_ret
          exact ⟨by rw [HF.out]; rfl, rfl⟩
        · have hst : ∀ s ∈ ss.take (k + 1), s.length ≤ 400 := by
            intro y hy
            have ht := drop_take hd.out
            rw [ht] at hy
            rcases List.mem_append.1 hy with hy | hy
            · exact hall y hy
            · simp at hy; subst hy; omega
          have HS := Lib.hid hst
          clear hst hall
          go_wp2
          go_round
          case rel => exact ⟨k + 1, by omega, by go_num, HS.out⟩
          case measure => simp [intOf]; omega
      · obtain rfl : k = n := by omega
        rw [List.take_of_length_le (by rw [HT.out]; omega)] at hall
        have HF := Lib.hid (fewB_of hl2 hall)
        clear hall
        go_wp2
        go_ret
        exact ⟨by rw [HF.out]; rfl, rfl⟩
end Go.Proofs.YtmmomcililideaaDoor
