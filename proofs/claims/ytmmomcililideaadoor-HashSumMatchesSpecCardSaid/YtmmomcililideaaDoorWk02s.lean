/-
  The law's hexadecimal digits; what every law checks first.
-/
import Derived.Test.YtmmomcililideaaDoorWk02p
import Derived.Deep.RegionLaw
set_option linter.unusedSimpArgs false
set_option linter.unusedVariables false
namespace Go.Proofs.YtmmomcililideaaDoor
open Go.RowKit

def digs : List UInt8 := [48, 49, 50, 51, 52, 53, 54, 55, 56, 57, 97, 98, 99, 100, 101, 102]
theorem digs_at {n : Nat} (h : n < 16) : (digs.getD n 0) = hexD n := by
  match n, h with
  | 0, _ | 1, _ | 2, _ | 3, _ | 4, _ | 5, _ | 6, _ | 7, _ | 8, _ | 9, _ | 10, _ | 11, _ | 12, _ | 13, _ | 14, _ | 15, _ => rfl
  | n + 16, h => omega
theorem run_sidx {kd : IntKind} (l : List UInt8) (k : Nat) (h : k < l.length) (W : World) : (Instr.index 9 (.string ⟨l.toArray⟩) (.int kd (k : Int))).run Tryd.prog W = .ok (.int .u8 ((l[k]).toNat : Int)) W := by
  have h1 := run_index_string (P := Tryd.prog) (w := W) 9 ⟨l.toArray⟩ kd (k : Int) Tryd.underlying9
  rw [h1]
  have h2 : k < (⟨l.toArray⟩ : ByteArray).size := by rw [ByteArray.size_mk']; simpa using h
  rw [dif_pos ⟨by omega, by omega⟩]
  rfl
theorem run_digs {n : Nat} (h : n < 16) {i : Int} (hi : i = (n : Int)) (W : World) : (Instr.index 9 (.string ⟨#[48, 49, 50, 51, 52, 53, 54, 55, 56, 57, 97, 98, 99, 100, 101, 102]⟩) (.int .u8 i)).run Tryd.prog W = .ok (.int .u8 ((hexD n).toNat : Int)) W := by
  subst hi
  have hd : n < digs.length := h
  have := run_sidx (kd := .u8) digs n hd W
  rw [← digs_at h]
  have e : digs.getD n 0 = digs[n]'hd := by simp [List.getD, List.getElem?_eq_getElem hd]
  rw [e]
  exact this

theorem step_app8 {X : World} {ops : Array Oper} {o : Oper} {a : Act} {K : Act → World → Prop} {Q : Exit → Act → World → Prop} {E : Prop} (hgd : o.guard = none) {s x : Operand}
    (ho : o.op = .call { callee := .builtin .append, args := #[s, x], argTypes := #[22, 22] })
    (base : Nat) (v : Value) (n : Nat) (xs : List Value) (hs : a.eval s = v) (hown : X.ownsRow base 5 1 v n xs) (g m c : Nat) (t : TypeId) (news : List Value) (hx : a.eval x = .slice (some ⟨g, 0, none⟩) m c) (hB : Blk X g t news) (hl : news.length = m) (hm : 0 < m)
    (h1 : ∀ u ∈ news, u.oneCell' = true) (hn : n + m ≤ 140737488355328) (hbase : base ≤ X.heap.size)
    (h : ∀ A' c' w', w'.ownsRow base 5 1 (.slice A' (n + m) c') (n + m) (xs ++ news) → n + m ≤ c' → c' ≤ maxLen → Below base X w' → K (a.put o.dst (.slice A' (n + m) c')) w') :
    if Region.wanted o (yielded ops a.tmps) = true then Oper.wp Tryd.prog o a X K Q else E := by
  obtain ⟨i, hi', hz0, hsz, hby⟩ := info_parts info_u8
  refine step_append_lies X hgd s x 22 ho base 5 i _ 1 1 Tryd.underlying22 hi' hz0 hsz hby rfl (by decide) v n xs hs hown ⟨g, 0, none⟩ m c news hx (by omega) (fun j u hj => by rw [add_zero_spot, Nat.zero_add]; exact hB.cell hj) h1 hm (by unfold maxLen; omega) (by omega) hbase X.heap.size rfl ?_
  intro g' cap w' h2 h3 _ _
  have hR := Rd.of_own h2
  obtain ⟨A', c', hv, h5, h6⟩ := hR.form
  injection hv with e1 e2 e3
  subst e1 e3
  exact h _ _ w' h2 h5 h6 ((Below.refl base X).grown h3 hbase fun k hk => (hown.lt k hk).1)

set_option maxRecDepth 100000 in
theorem hexC (l : List UInt8) (w : World) (hl : l.length ≤ 64) :
    Calls Tryd.prog 33 #[.string ⟨l.toArray⟩] w fun e w' => e = .returned (.string ⟨(hexL l).toArray⟩) ∧ Below w.heap.size w w' := by
  go_enter Tryd.func33, Tryd.ntmps33
  go_wp2
  go_loopw [4, 5] (fun v i wr => ∃ k : Nat, k ≤ l.length ∧ i = .int .i64 (k : Int) ∧ wr.ownsRow w.heap.size 5 1 v (2 * k) ((hexL (l.take k)).map B8) ∧ Below w.heap.size w wr) (fun _ i _ => l.length - (intOf i).toNat)
  case atStart => exact ⟨0, by omega, rfl, own_nil _ _ _, Below.refl _ _⟩
  case round =>
    obtain ⟨k, hk, rfl, hown, hb⟩ := hrel
    have hR := Rd.of_own hown
    obtain ⟨A1, c1, rfl, hc1, hc2⟩ := hR.form
    by_cases hlt : k < l.length
    · have hix := run_sidx (kd := .i64) l k hlt
      have HS : Hid (hexL (l.take (k + 1)) = hexL (l.take k) ++ [hexD (l[k].toNat / 16), hexD (l[k].toNat % 16)]) := by show _ = _; rw [take_snoc hlt, hexL_snoc]
      generalize l[k] = x at hix HS
      have hx := x.toNat_lt
      have hd1 := run_digs (n := x.toNat / 16) (by omega) (i := (x.toNat : Int) / 16) (by omega)
      have hd2 := run_digs (n := x.toNat % 16) (by omega) (i := (x.toNat : Int) % 16) (by omega)
      have hw1 : IntKind.u8.wrap ((x.toNat : Int) / 16) = (x.toNat : Int) / 16 := by rw [IntKind.wrap_u8']; omega
      have hw2 : IntKind.u8.wrap ((x.toNat : Int) % 16) = (x.toNat : Int) % 16 := by rw [IntKind.wrap_u8']; omega
      have hw3 : (x.toNat : Int).tmod 16 = (x.toNat : Int) % 16 := by rw [Int.tmod_eq_emod_of_nonneg (by omega)]
      clear hR
      go_wp2
      go_region_law ((refine step_app8 (by rfl) (by rfl) w.heap.size _ (2 * k) _ (by rfl) (World.ownsRow.alloc (w := wr.drew) hown _) wr.heap.size 2 2 5 [B8 (hexD (x.toNat / 16)), B8 (hexD (x.toNat % 16))] (by rfl) (Blk.new (w := wr.drew) rfl) rfl (by decide) (B8s_one [hexD (x.toNat / 16), hexD (x.toNat % 16)]) (by omega) (by have := hb.size; simp; omega) ?_; intro A2 c2 w2 hown2 hc3 hc4 hb2))
      all_goals
        go_wp2
        go_roundw
        case rel =>
          have e : (hexL (l.take k)).map B8 ++ [B8 (hexD (x.toNat / 16)), B8 (hexD (x.toNat % 16))] = (hexL (l.take (k + 1))).map B8 := by rw [HS.out]; simp
          rw [e] at hown2
          exact ⟨k + 1, by omega, by go_num, by rw [Nat.mul_add]; exact hown2, (bel_alloc hb.drew _).trans hb2⟩
        case measure => simp [intOf]; omega
    · obtain rfl : k = l.length := by omega
      rw [List.take_length] at hR
      have hs := run_str 22 9 5 Tryd.underlying22 Tryd.underlying5 Tryd.underlying9 hR
      clear hR hown
      go_wp2
      go_ret
      exact ⟨rfl, hb⟩
end Go.Proofs.YtmmomcililideaaDoor
