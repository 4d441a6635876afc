/-
  Arguments that are accounts, lists of entries, adjustments.
-/
import Derived.ChangeSame
import Derived.Test.YtffgfkcljcollaaDoorOd44
import Derived.Test.YtffgfkcljcollaaDoorOp
import Derived.Test.YtffgfkcljcollaaDoorBj
set_option linter.unusedSimpArgs false
set_option linter.unusedVariables false
set_option maxRecDepth 100000
set_option maxHeartbeats 1600000
namespace Go.Proofs.YtffgfkcljcollaaDoor
open Go.ChangeShapes Go.WideShapes Go.RowKit
theorem chg_cells {H : Type} {enc : TypeId × Value → H} {w : World} {base : Nat} {spare : Nat → Bool} {held : Bool} {fuel : Nat} {cs : List Value} {x : DataW H × List MemPlace} (h : DataW.trod enc Tryd.prog w base spare held fuel 32 cs = some x) : ∃ a b c d : Int, cs = [.int .i64 a, .int .i64 b, .int .i64 c, .int .i64 d] := by
 obtain ⟨xs, n, _, _, hl, hlen, hf⟩ := DataW.trod_struct Tryd.underlying32 h
 have hC : Tryd.prog.cellsOf 32 = 4 := by kernel_rfl
 have c0 : Tryd.prog.cellsOf 3 = 1 := by kernel_rfl
 rw [hC] at hl
 match xs, hlen with
 | [y0, y1, y2, y3], _ =>
  have k0 : DataW.trod enc Tryd.prog w base spare held n 3 ((cs.drop 0).take 1) = some y0 := by rw [← c0]; exact hf 0 _ rfl
  have k1 : DataW.trod enc Tryd.prog w base spare held n 3 ((cs.drop 1).take 1) = some y1 := by rw [← c0]; exact hf 1 _ rfl
  have k2 : DataW.trod enc Tryd.prog w base spare held n 3 ((cs.drop 2).take 1) = some y2 := by rw [← c0]; exact hf 2 _ rfl
  have k3 : DataW.trod enc Tryd.prog w base spare held n 3 ((cs.drop 3).take 1) = some y3 := by rw [← c0]; exact hf 3 _ rfl
  match cs, hl with
  | [a, b, c, d], _ =>
   obtain ⟨n0, e0, _, _⟩ := DataW.trod_int Tryd.underlying3 k0;obtain ⟨n1, e1, _, _⟩ := DataW.trod_int Tryd.underlying3 k1;obtain ⟨n2, e2, _, _⟩ := DataW.trod_int Tryd.underlying3 k2;obtain ⟨n3, e3, _, _⟩ := DataW.trod_int Tryd.underlying3 k3
   simp at e0 e1 e2 e3
   exact ⟨n0, n1, n2, n3, by rw [e0, e1, e2, e3]⟩
theorem cause_cells {H : Type} {enc : TypeId × Value → H} {w : World} {base : Nat} {spare : Nat → Bool} {held : Bool} {fuel : Nat} {cs : List Value} {x : DataW H × List MemPlace} (h : DataW.trod enc Tryd.prog w base spare held fuel 34 cs = some x) : ∃ k p r a b c d : Int, cs = [.int .i64 k, .int .i64 p, .int .i64 r, .int .i64 a, .int .i64 b, .int .i64 c, .int .i64 d] := by
 obtain ⟨xs, n, _, _, hl, hlen, hf⟩ := DataW.trod_struct Tryd.underlying34 h
 have hC : Tryd.prog.cellsOf 34 = 7 := by kernel_rfl
 have c0 : Tryd.prog.cellsOf 3 = 1 := by kernel_rfl
 have c1 : Tryd.prog.cellsOf 32 = 4 := by kernel_rfl
 rw [hC] at hl
 match xs, hlen with
 | [y0, y1, y2, y3], _ =>
  have k0 : DataW.trod enc Tryd.prog w base spare held n 3 ((cs.drop 0).take 1) = some y0 := by rw [← c0]; exact hf 0 _ rfl
  have k1 : DataW.trod enc Tryd.prog w base spare held n 3 ((cs.drop 1).take 1) = some y1 := by rw [← c0]; exact hf 1 _ rfl
  have k2 : DataW.trod enc Tryd.prog w base spare held n 3 ((cs.drop 2).take 1) = some y2 := by rw [← c0]; exact hf 2 _ rfl
  have k3 : DataW.trod enc Tryd.prog w base spare held n 32 ((cs.drop 3).take 4) = some y3 := by rw [← c1]; exact hf 3 _ rfl
  match cs, hl with
  | [a, b, c, d1, d2, d3, d4], _ =>
   obtain ⟨n0, e0, _, _⟩ := DataW.trod_int Tryd.underlying3 k0;obtain ⟨n1, e1, _, _⟩ := DataW.trod_int Tryd.underlying3 k1;obtain ⟨n2, e2, _, _⟩ := DataW.trod_int Tryd.underlying3 k2;obtain ⟨z1, z2, z3, z4, e3⟩ := chg_cells k3
   simp at e0 e1 e2 e3
   obtain ⟨f1, f2, f3, f4⟩ := e3;exact ⟨n0, n1, n2, z1, z2, z3, z4, by rw [e0, e1, e2, f1, f2, f3, f4]⟩
/-- What holds of every entry that lies somewhere. -/
def EnB (x : En) : Prop := -9223372036854775808 ≤ x.day ∧ x.day ≤ 9223372036854775807
theorem entry_cells {H : Type} {enc' : TypeId × Value → H} {w : World} {base : Nat} {spare : Nat → Bool} {held : Bool} {fuel : Nat} {cs : List Value} {x : DataW H × List MemPlace} (h : DataW.trod enc' Tryd.prog w base spare held fuel 36 cs = some x) : ∃ y : En, cs = enc y ∧ EnB y := by
 obtain ⟨xs, n, _, _, hl, hlen, hf⟩ := DataW.trod_struct Tryd.underlying36 h
 have hC : Tryd.prog.cellsOf 36 = 13 := by kernel_rfl
 have c0 : Tryd.prog.cellsOf 3 = 1 := by kernel_rfl
 have c1 : Tryd.prog.cellsOf 30 = 3 := by kernel_rfl
 have c2 : Tryd.prog.cellsOf 34 = 7 := by kernel_rfl
 rw [hC] at hl
 match xs, hlen with
 | [y0, y1, y2, y3, y4], _ =>
  have k0 : DataW.trod enc' Tryd.prog w base spare held n 3 ((cs.drop 0).take 1) = some y0 := by rw [← c0]; exact hf 0 _ rfl
  have k1 : DataW.trod enc' Tryd.prog w base spare held n 3 ((cs.drop 1).take 1) = some y1 := by rw [← c0]; exact hf 1 _ rfl
  have k2 : DataW.trod enc' Tryd.prog w base spare held n 3 ((cs.drop 2).take 1) = some y2 := by rw [← c0]; exact hf 2 _ rfl
  have k3 : DataW.trod enc' Tryd.prog w base spare held n 30 ((cs.drop 3).take 3) = some y3 := by rw [← c1]; exact hf 3 _ rfl
  have k4 : DataW.trod enc' Tryd.prog w base spare held n 34 ((cs.drop 6).take 7) = some y4 := by rw [← c2]; exact hf 4 _ rfl
  match cs, hl with
  | [a, b, c, r1, r2, r3, d1, d2, d3, d4, d5, d6, d7], _ =>
   obtain ⟨n0, e0, _, w0⟩ := DataW.trod_int Tryd.underlying3 k0;obtain ⟨n1, e1, _, _⟩ := DataW.trod_int Tryd.underlying3 k1;obtain ⟨n2, e2, _, _⟩ := DataW.trod_int Tryd.underlying3 k2;obtain ⟨rn, rp, rq, er, _, _⟩ := rat_cells Tryd.underlying30 Tryd.underlying4 Tryd.underlying9 Tryd.underlying9 (by kernel_rfl) (by kernel_rfl) (by kernel_rfl) rfl rfl rfl (by kernel_rfl) k3;obtain ⟨z1, z2, z3, z4, z5, z6, z7, e3⟩ := cause_cells k4
   simp at e0 e1 e2 er e3
   obtain ⟨g1, g2, g3⟩ := er;obtain ⟨f1, f2, f3, f4, f5, f6, f7⟩ := e3;have b0 := bounds_i64 w0;exact ⟨⟨n0, n1, n2, (rn, rp, rq), z1, z2, z3, z4, z5, z6, z7⟩, by rw [e0, e1, e2, g1, g2, g3, f1, f2, f3, f4, f5, f6, f7]; rfl, by show _ ≤ n0 ∧ n0 ≤ _; omega⟩
theorem entries_open {H : Type} {enc' : TypeId × Value → H} {w : World} {A : Option Addr} {m c : Nat} {d : DataW H} {p : List MemPlace} (h : DataW.Trod enc' Tryd.prog w 0 (fun _ => true) true 22 (.slice A m c) d p) : ∃ l : List En, Es l (.slice A m c) w ∧ ∀ x ∈ l, EnB x := by
 obtain ⟨l, h1, h2, h3⟩ := aggs_rd (g := enc) (R := EnB) (m := 13) Tryd.underlying22 (by kernel_rfl) (by omega) enc_len (fun h => entry_cells h) h;refine ⟨l, ?_, h3⟩
 show Rd w 13 _ l.length _
 rw [h1];exact h2
theorem acc_open {H : Type} {enc' : TypeId × Value → H} {w : World} {r : Reach} {b0 : Nat} {v : Value} {d : DataW H} {p : List MemPlace}
  (hv : Value.okWide Tryd.prog w r b0 26 v) (h : DataW.Trod enc' Tryd.prog w 0 (fun _ => true) true 26 v d p) : ∃ (c : Int) (u : Value) (l : List En), v = .agg #[.int .i64 c, u] ∧ Es l u w ∧ ∀ x ∈ l, EnB x := by
 obtain ⟨cs, rfl, _⟩ := okWide_struct Tryd.underlying26 hv;obtain ⟨fuel, hf⟩ := h;obtain ⟨y0, y1, n, _, hl, k0, k1⟩ := trod_struct2 Tryd.underlying26 hf
 have hC : Tryd.prog.cellsOf 26 = 2 := by kernel_rfl
 have c0 : Tryd.prog.cellsOf 3 = 1 := by kernel_rfl
 have c1 : Tryd.prog.cellsOf 22 = 1 := by kernel_rfl
 rw [hC] at hl
 have k0 : DataW.trod enc' Tryd.prog w 0 (fun _ => true) true n 3 (((Value.agg cs).cells.toList.drop 0).take 1) = some y0 := by rw [← c0]; exact k0
 have k1 : DataW.trod enc' Tryd.prog w 0 (fun _ => true) true n 22 (((Value.agg cs).cells.toList.drop 1).take 1) = some y1 := by rw [← c1]; exact k1
 have hcs : (Value.agg cs).cells = cs := rfl;rw [hcs] at hl k0 k1
 obtain ⟨a, b, he⟩ : ∃ a b, cs.toList = [a, b] := by
  match hc : cs.toList, hl with
  | [a, b], _ => exact ⟨a, b, rfl⟩
 rw [he] at k0 k1
 have e9 : cs = #[a, b] := by
  cases cs
  simp at he
  rw [he]
 obtain ⟨n0, e0, _, _⟩ := DataW.trod_int Tryd.underlying3 k0
 simp at e0
 have ks : ∃ A m c, b = .slice A m c := by
  rcases Go.Deep.open_slice Tryd.underlying22 k1 with ⟨h1, _⟩ | ⟨_, _, _, _, _, _, _, h1, _⟩
  ·simp at h1
   exact ⟨_, _, _, h1⟩
  ·simp at h1
   exact ⟨_, _, _, h1⟩
 obtain ⟨A, m, c, rfl⟩ := ks;obtain ⟨l, h1, h2⟩ := entries_open (d := y1.1) (p := y1.2) ⟨n, k1⟩;exact ⟨n0, _, l, by rw [e9, e0], h1, h2⟩
theorem adj_open {H : Type} {enc' : TypeId × Value → H} {w : World} {r : Reach} {b0 : Nat} {v : Value} {d : DataW H} {p : List MemPlace} {base : Nat} {spare : Nat → Bool} {held : Bool}
  (hv : Value.okWide Tryd.prog w r b0 48 v) (h : DataW.Trod enc' Tryd.prog w base spare held 48 v d p) : ∃ q : Aj, v = .agg (ajc q).toArray := by
 obtain ⟨cs', rfl, _⟩ := okWide_struct Tryd.underlying48 hv;obtain ⟨fuel, h⟩ := h;have hcs : (Value.agg cs').cells = cs' := rfl;rw [hcs] at h;obtain ⟨xs, n, _, _, hl, hlen, hf⟩ := DataW.trod_struct Tryd.underlying48 h
 have hC : Tryd.prog.cellsOf 48 = 11 := by kernel_rfl
 have c0 : Tryd.prog.cellsOf 3 = 1 := by kernel_rfl
 have c1 : Tryd.prog.cellsOf 30 = 3 := by kernel_rfl
 have c2 : Tryd.prog.cellsOf 32 = 4 := by kernel_rfl
 rw [hC] at hl;obtain ⟨cs, hcs2⟩ : ∃ cs, cs'.toList = cs := ⟨_, rfl⟩;rw [hcs2] at hl hf
 match xs, hlen with
 | [y0, y1, y2, y3, y4, y5], _ =>
  have k0 : DataW.trod enc' Tryd.prog w base spare held n 3 ((cs.drop 0).take 1) = some y0 := by rw [← c0]; exact hf 0 _ rfl
  have k1 : DataW.trod enc' Tryd.prog w base spare held n 3 ((cs.drop 1).take 1) = some y1 := by rw [← c0]; exact hf 1 _ rfl
  have k2 : DataW.trod enc' Tryd.prog w base spare held n 3 ((cs.drop 2).take 1) = some y2 := by rw [← c0]; exact hf 2 _ rfl
  have k3 : DataW.trod enc' Tryd.prog w base spare held n 3 ((cs.drop 3).take 1) = some y3 := by rw [← c0]; exact hf 3 _ rfl
  have k4 : DataW.trod enc' Tryd.prog w base spare held n 30 ((cs.drop 4).take 3) = some y4 := by rw [← c1]; exact hf 4 _ rfl
  have k5 : DataW.trod enc' Tryd.prog w base spare held n 32 ((cs.drop 7).take 4) = some y5 := by rw [← c2]; exact hf 5 _ rfl
  match cs, hl with
  | [a, b, c, e, r1, r2, r3, d1, d2, d3, d4], _ =>
   obtain ⟨n0, e0, _, _⟩ := DataW.trod_int Tryd.underlying3 k0;obtain ⟨n1, e1, _, _⟩ := DataW.trod_int Tryd.underlying3 k1;obtain ⟨n2, e2, _, _⟩ := DataW.trod_int Tryd.underlying3 k2;obtain ⟨n3, e3, _, _⟩ := DataW.trod_int Tryd.underlying3 k3;obtain ⟨rn, rp, rq, er, _, _⟩ := rat_cells Tryd.underlying30 Tryd.underlying4 Tryd.underlying9 Tryd.underlying9 (by kernel_rfl) (by kernel_rfl) (by kernel_rfl) rfl rfl rfl (by kernel_rfl) k4;obtain ⟨z1, z2, z3, z4, e5⟩ := chg_cells k5
   simp at e0 e1 e2 e3 er e5
   obtain ⟨g1, g2, g3⟩ := er;obtain ⟨f1, f2, f3, f4⟩ := e5;refine ⟨⟨n0, n1, n2, n3, (rn, rp, rq), z1, z2, z3, z4⟩, ?_⟩
   have e9 : cs' = (ajc ⟨n0, n1, n2, n3, (rn, rp, rq), z1, z2, z3, z4⟩).toArray := by
    cases cs'
    simp only at hcs2;rw [hcs2, e0, e1, e2, e3, g1, g2, g3, f1, f2, f3, f4]
    rfl
   rw [e9]
end Go.Proofs.YtffgfkcljcollaaDoor
