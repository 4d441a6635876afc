/-
  seal: numbers.
-/
import Derived.Test.YthinopepcmidmaaDoorSa48
set_option linter.unusedSimpArgs false
set_option linter.unusedVariables false
set_option maxRecDepth 100000
set_option maxHeartbeats 1600000
namespace Go.Proofs.YthinopepcmidmaaDoor
open Go.RowKit
theorem info_i1 : (Tryd.prog.info? 3).map (·.size) = some 1 := by kernel_rfl
theorem info_strz : (Tryd.prog.info? 9).map (fun i => (i.zero, i.size, i.bytes)) = some (some (.string ⟨#[]⟩), 1, 16) := by kernel_rfl
theorem own_since9 {X Y : World} {base m n : Nat} {e : TypeId} {v : Value} {xs : List Value} (h : X.ownsRow base e m v n xs) (hS : Since X Y) : Y.ownsRow base e m v n xs := by
  obtain ⟨hl, hr⟩ := h
  refine ⟨hl, hr.imp id ?_⟩
  rintro ⟨g, cap, cur, rfl, hb, hg, rest⟩
  exact ⟨g, cap, cur, rfl, hb, (hS.block g (Array.getElem?_eq_some_iff.1 hg).1).trans hg, rest⟩
def inAt (l : List Int) (k : Nat) : Int := l.getD k 0
theorem Rd.intIn {w : World} {A : Option Addr} {n c : Nat} {l : List Int} (h : Rd w 1 (.slice A n c) n (l.map (Value.int .i64))) (hl : l.length = n) {k : Nat} (hk : k < n) : ∃ b off, A = some ⟨b, off, none⟩ ∧ b < w.heap.size ∧ Cl w b (off + k * 1) [.int .i64 (inAt l k)] := by
  obtain ⟨b, off, hA, hb, hx⟩ := h.cellAt (by omega)
  refine ⟨b, off, hA, hb, fun j u hj => ?_⟩
  have hj0 : j = 0 := by
    have := (List.getElem?_eq_some_iff.1 hj).1
    simp at this
    omega
  subst hj0
  have h9 : (l.map (Value.int .i64))[k]? = some (.int .i64 (inAt l k)) := by
    rw [List.getElem?_map, List.getElem?_eq_getElem (by omega)]
    unfold inAt
    rw [List.getD_eq_getElem?_getD, List.getElem?_eq_getElem (by omega)]
    rfl
  have h8 := hx k _ h9
  have h7 : u = .int .i64 (inAt l k) := by simpa using hj.symm
  subst h7
  rw [Nat.mul_one, Nat.add_zero]
  exact h8
/-- The encodings of numbers, as they lie. -/
def encs (l : List Int) : List Value := l.map fun x => tx (encI x)
theorem encs_snoc {l : List Int} {k : Nat} (hk : k < l.length) : encs (l.take (k + 1)) = encs (l.take k) ++ [tx (encI (inAt l k))] := by
  unfold encs inAt
  rw [List.take_succ_eq_append_getElem hk, List.map_append, List.getD_eq_getElem?_getD, List.getElem?_eq_getElem hk]
  rfl
theorem wIntB (x : Int) (w : World) (h1 : -9223372036854775808 ≤ x) (h2 : x ≤ 9223372036854775807) : Calls Tryd.prog 58 #[.int .i64 x] w fun e w' => ∃ v, e = .returned v ∧ Bts (encI x) v w' ∧ Since w w' :=
  (wInt x w h1 h2).mono fun e w' ⟨v, he, hm⟩ => by
    obtain ⟨A, c, hv, _, _⟩ := (Rd.of_own hm.1).form
    subst hv
    exact ⟨_, he, ⟨A, c, rfl, Rd.of_own hm.1⟩, hm.2⟩
theorem numC (A : Option Addr) (n c : Nat) (l : List Int) (w : World) (hr : Rd w 1 (.slice A n c) n (l.map (Value.int .i64))) (hln : l.length = n) (hn1 : n ≤ 100) (hbd : ∀ k, k < n → -9223372036854775808 ≤ inAt l k ∧ inAt l k ≤ 9223372036854775807) : Calls Tryd.prog 47 #[.slice A n c] w fun e w' => ∃ v, e = .returned v ∧ w'.ownsRow w.heap.size 9 1 v n (encs l) ∧ Since w w' := by
  have HRX : Hid (∀ X, Since w X → Rd X 1 (.slice A n c) n (l.map (Value.int .i64))) := fun X h => hr.below h
  have HLN := Lib.hid hln
  have HBD := Lib.hid hbd
  clear hr hbd
  go_enter Tryd.func47, Tryd.ntmps47
  go_upto_region 1 with (fail)
  refine jp ?_
  refine jm (.slice none 0 0) ?_
  refine jz fun X1 hX1 => ?_
  have hb : Below w.heap.size w X1 := hX1
  clear hX1
  go_upto_region 2 with (fail)
  refine jp ?_
  refine jm (.slice A n c) ?_
  refine jv (.int .i64 (n : Int)) (exec_lenv Tryd.underlying96 _ (by rfl) A n c (by rfl) _ rfl) ?_
  refine jm (.int .i64 0) ?_
  refine jz fun X2 hX2 => ?_
  have hb := bel_next hb hX2
  clear hX2
  go_wp2
  go_loopw [3, 8] (fun ov kv wr => ∃ (k : Nat) (A6 : Option Addr) (c6 : Nat), k ≤ n ∧ ov = .slice A6 k c6 ∧ kv = .int .i64 (k : Int) ∧ wr.ownsRow w.heap.size 9 1 (.slice A6 k c6) k (encs (l.take k)) ∧ Below w.heap.size w wr) (fun ov kv _ => n - (intOf kv).toNat)
  case atStart => exact ⟨0, none, 0, by omega, rfl, rfl, ⟨rfl, .inl ⟨rfl, rfl⟩⟩, hb⟩
  case round =>
    clear hb
    obtain ⟨k, A6, c6, hk, rfl, rfl, hOW, hb⟩ := hrel
    rcases Nat.lt_or_ge k n with hlt | hlt
    · obtain ⟨b, off, rfl, hbb, hcx⟩ := (HRX.out _ hb).intIn HLN.out hlt
      obtain ⟨x, hx9⟩ : ∃ x, x = inAt l k := ⟨_, rfl⟩
      have HX := Lib.hid hx9
      clear hx9
      rw [← HX.out] at hcx
      have hxb := HBD.out k hlt
      rw [← HX.out] at hxb
      go_upto_region 3 with (fail)
      refine jp ?_
      refine jv (.bool true) (exec_lss _ _ _ _ (by rfl) .i64 (k : Int) (n : Int) (by rfl) (by rfl) true (decide_eq_true (by omega))) ?_
      refine jz fun X1 hX1 => ?_
      have hOW := own_since9 hOW hX1
      have hcx := hcx.below hX1 hbb
      replace hbb := Nat.lt_of_lt_of_le hbb (hX1).size
      have hb := bel_next hb hX1
      clear hX1
      go_upto_region 4 with (fail)
      refine jp ?_
      refine jv (.pointer (some ⟨b, off + k * 1, none⟩)) (exec_ixv Tryd.underlying96 info_i1 _ _ (by rfl) b (off) n c k (by omega) (by rfl) (by rfl) rfl) ?_
      refine jg (.int .i64 x) (fun X hX hF => exec_ld 3 _ (by rfl) b (off + k * 1) (by rfl) _ X ((hcx.below hX hbb) 0 _ rfl) (fun X u h => load_int b (off + k * 1) X u h)) ?_
      refine jm (.int .i64 x) ?_
      refine jz fun X2 hX2 => ?_
      have hOW := own_since9 hOW hX2
      have hcx := hcx.below hX2 hbb
      replace hbb := Nat.lt_of_lt_of_le hbb (hX2).size
      have hb := bel_next hb hX2
      clear hX2
      go_upto_region 5 with (fail)
      refine lx_plain_to 4 [none, none, some (Bts (encI x))] (lasts_none (lasts_none (lasts_some (Bts.lasts _) (lasts_nil)))) ?_
      simp only [its, List.take, List.drop, Nat.zero_add, Nat.reduceAdd]
      refine jm (.slice A6 k c6) ?_
      refine jm (.int .i64 x) ?_
      refine jk (fun X hX hF => wIntB x X hxb.1 hxb.2) ?_
      intro v14
      refine jg (st (encI x)) (fun X hX hF => by obtain ⟨A9, c9, h9, hr9⟩ := (hF _ _ List.mem_cons_self rfl); subst h9; exact exec_str 69 9 5 Tryd.underlying69 Tryd.underlying5 Tryd.underlying9 (.tmp 14) (by rfl) (v := .slice A9 (encI x).length c9) rfl hr9) ?_
      refine lx_nil ?_
      intro X3 hX3 hF
      have hv14 := hF _ _ List.mem_cons_self
      have hOW := own_since9 hOW hX3
      have hb := bel_next hb hX3
      clear hF hX3
      go_upto_region 6 with (at_builtin; go_loud (refine append_agg [tx (encI x)] 9 rfl (.tmp 12) (.tmp 16) 22 rfl w.heap.size 9 _ 1 16 Tryd.underlying22 info_strz rfl (by decide) _ _ _ (by rfl) hOW (by rfl) (by rfl) (by intro u hu; simp only [List.mem_cons, List.not_mem_nil, or_false] at hu; subst hu; rfl) (by omega) (by unfold maxLen; omega) hb.size ?_); intro v7 w7 hown7 hg7 hb7)
      have hb := hb.trans hb7
      obtain ⟨A7, c7, rfl, _, _⟩ := (Rd.of_own hown7).form
      have hOW : w7.ownsRow w.heap.size 9 1 (.slice A7 (k + 1) c7) (k + 1) (encs (l.take (k + 1))) := by
        rw [encs_snoc (by rw [HLN.out]; exact hlt), ← HX.out]
        exact hown7
      clear hown7 hg7 hb7 hv14
      refine jp ?_
      refine jv (.int .i64 ((k + 1 : Nat) : Int)) (exec_add _ _ _ _ (by rfl) (k : Int) 1 ((k + 1 : Nat) : Int) (by rfl) (by rfl) (by omega) (by omega) (by omega)) ?_
      refine jm (.int .i64 ((k + 1 : Nat) : Int)) ?_
      refine jz fun X4 hX4 => ?_
      have hOW := own_since9 hOW hX4
      have hb := bel_next hb hX4
      clear hX4
      go_wp2
      go_roundw
      case rel => exact ⟨k + 1, A7, c7, by omega, rfl, rfl, hOW, hb⟩
      case measure => simp [intOf]; omega
    · obtain rfl : k = n := by omega
      have HT : Hid (l.take k = l) := List.take_of_length_le (by rw [HLN.out]; exact Nat.le_refl _)
      rw [HT.out] at hOW
      go_upto_region 3 with (fail)
      refine jp ?_
      refine jv (.bool false) (exec_lss _ _ _ _ (by rfl) .i64 (k : Int) (k : Int) (by rfl) (by rfl) false (decide_eq_false (by omega))) ?_
      refine jz fun X1 hX1 => ?_
      have hOW := own_since9 hOW hX1
      have hb := bel_next hb hX1
      clear hX1
      go_upto_region 7 with (fail)
      refine jp ?_
      refine jm (.slice A6 k c6) ?_
      refine jm (.slice A6 k c6) ?_
      refine jz fun X2 hX2 => ?_
      have hOW := own_since9 hOW hX2
      have hb := bel_next hb hX2
      clear hX2
      go_wp2
      go_ret
      exact ⟨_, rfl, hOW, hb⟩
end Go.Proofs.YthinopepcmidmaaDoor
