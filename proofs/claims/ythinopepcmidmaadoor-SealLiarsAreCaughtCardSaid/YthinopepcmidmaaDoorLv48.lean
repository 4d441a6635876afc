/-
  Law 48: SealLiarsAreCaught.
-/
import Derived.Test.YthinopepcmidmaaDoorLw48
import Derived.Test.YthinopepcmidmaaDoorLt48
set_option linter.unusedSimpArgs false
set_option linter.unusedVariables false
set_option maxRecDepth 100000
set_option maxHeartbeats 1600000
namespace Go.Proofs.YthinopepcmidmaaDoor
open Go.RowKit
theorem load_sl_b (b k : Nat) (X : World) (v : Value) (h : X.cell? ⟨b, k, none⟩ = some v) : (loadVar 53 ⟨b, k, none⟩).run Tryd.prog X = .ok v X := by
  go_simp
end Go.Proofs.YthinopepcmidmaaDoor
namespace Go.Proofs.YthinopepcmidmaaDoor
open Go.RowKit
theorem exec_alloc_sl {f : Operand → Value} {o : Oper} (ho : o.op = .alloc 28) (X : World) : (execOp f o).run Tryd.prog X = .ok (.value (.pointer (some ⟨X.heap.size, 0, none⟩))) (X.alloc (.cells (slc sl0).toArray 28)) := by
  have hz := zeroSl
  unfold execOp
  simp only [ho]
  go_simp
section
variable {r : List (List UInt8)} {a b : List Sl} (ha : Chn mk48 nm48 r a) (hb : Chn mk48 nm48 r b) (hst : ∀ i j, i < a.length → j < b.length → (sAt a i).st = (sAt b j).st)
include ha hb hst
theorem li_lt {i j : Nat} (hi : i < a.length) (hj : j < b.length) (h : i < j) : ctr mk48 nm48 r (sAt a i) (sAt b j) = if i + 1 = j ∧ (sAt b j).pv ≠ nm48 (sAt a i) then 2 else if (sAt b j).dy < (sAt a i).dy then 3 else 0 := ctr_gap mk48 nm48 ha hb hst hi hj h
theorem li_gt {i j : Nat} (hi : i < a.length) (hj : j < b.length) (h : j < i) : ctr mk48 nm48 r (sAt a i) (sAt b j) = if j + 1 = i ∧ (sAt a i).pv ≠ nm48 (sAt b j) then 2 else if (sAt a i).dy < (sAt b j).dy then 3 else 0 := by
  rw [ctr_comm]
  exact ctr_gap mk48 nm48 hb ha (fun i j hi hj => (hst j i hj hi).symm) hj hi h
theorem li_eq {i : Nat} (hi : i < a.length) (hj : i < b.length) : ctr mk48 nm48 r (sAt a i) (sAt b i) = if sAt a i = sAt b i then 0 else 1 := ctr_one mk48 nm48 ha hb hst hi hj
theorem li_eq' {i j : Nat} (hi : i < a.length) (hj : j < b.length) (h : i = j) : ctr mk48 nm48 r (sAt a i) (sAt b j) = if sAt a i = sAt b j then 0 else 1 := by
  subst h
  exact li_eq ha hb hst hi hj
theorem li_low {i j : Nat} (hi : i < a.length) (hj : j < b.length) (h : i < cmn a b ∨ j < cmn a b) : ctr mk48 nm48 r (sAt a i) (sAt b j) = 0 := by
  rcases h with h | h
  · exact ctr_lowA mk48 nm48 ha hb hst hj h
  · exact ctr_lowB mk48 nm48 ha hb hst hi h
theorem li_nb {i : Nat} (hi : i < a.length) (hj : i < b.length) (hn : cmn a b ≤ i) (he : sAt a i = sAt b i) : 0 < i ∧ nm48 (sAt a (i - 1)) = nm48 (sAt b (i - 1)) := name_before mk48 nm48 ha hb hst hi hj hn he
theorem li_nb' {i j : Nat} (hi : i < a.length) (hj : j < b.length) (h : i = j) (hn : cmn a b ≤ i) (he : sAt a i = sAt b j) : 0 < i ∧ nm48 (sAt a (i - 1)) = nm48 (sAt b (j - 1)) := by
  subst h
  exact li_nb ha hb hst hi hj hn he
theorem li_fork (h1 : cmn a b < a.length) (h2 : cmn a b < b.length) : ctr mk48 nm48 r (sAt a (cmn a b)) (sAt b (cmn a b)) = 1 := by
  rw [li_eq ha hb hst h1 h2, if_neg (cmn_at a b h1 h2)]
theorem li_co (hr : rckE r = 0) (hla : a.length ≤ 4000) (hlb : b.length ≤ 4000) : coE mk48 nm48 r a b = 0 ∧ coN mk48 nm48 r a b = (cmn a b : Int) := by
  have h : coE mk48 nm48 r a b = 0 := coE_0 (lg_of hr hla ha) (lg_of hr hlb hb) (fun h1 h2 => hst 0 0 h1 h2)
  exact ⟨h, coN_yes h⟩
end
theorem exec_ixq {t e : TypeId} {f : Operand → Value} {o : Oper} (hu : Tryd.prog.underlying t = some (.slice e)) (hs : (Tryd.prog.info? e).map (·.size) = some 37) (x i : Operand) (ho : o.op = .indexAddr t x i) (A : Option Addr) (b off n c k : Nat) (hA : A = some ⟨b, off, none⟩) (hk : k < n) (hx : f x = .slice A n c) {z : Int} (hi : f i = .int .i64 z) (hz : z = (k : Int)) (w : World) : (execOp f o).run Tryd.prog w = .ok (.value (.pointer (some ⟨b, off + k * 37, none⟩))) w := by
  subst hA
  exact exec_ixv hu hs x i ho b off n c k hk hx hi hz w
/-- The block of a number within a function's code. -/
def blkAt (n : Nat) : Code → Option Code
  | .block i c => if i = n then some (.block i c) else blkAt n c
  | .seq a b => match blkAt n a with
    | some c => some c
    | none => blkAt n b
  | .cond _ a b => match blkAt n a with
    | some c => some c
    | none => blkAt n b
  | .loop c => blkAt n c
  | .scope c => blkAt n c
  | _ => none
def blkOf (n : Nat) (f : Func) : Option Code := match f.body with
  | some c => blkAt n c
  | none => none
end Go.Proofs.YthinopepcmidmaaDoor
namespace Go.Proofs.YthinopepcmidmaaDoor
open Go.RowKit
theorem liars0 (A : Option Addr) (c : Nat) (r : List (List UInt8)) (a : Int) (A1 : Option Addr) (n1 c1 : Nat) (l1 : List Sd) (A2 : Option Addr) (n2 c2 : Nat) (l2 : List Sd) (w : World) (hr : Sts r (.slice A r.length c) w) (ha : 0 ≤ a ∧ a ≤ 255) (hl1 : Rd w 3 (.slice A1 n1 c1) n1 (fl sdc l1)) (hln1 : l1.length = n1) (hsb1 : ∀ s ∈ l1, SdB s) (hl2 : Rd w 3 (.slice A2 n2 c2) n2 (fl sdc l2)) (hln2 : l2.length = n2) (hsb2 : ∀ s ∈ l2, SdB s) (hK : KK w) (h : ¬ (rckE r = 0 ∧ shB l1 = true ∧ shB l2 = true)) : Calls Tryd.prog 6 #[.agg #[.slice A r.length c], .int .u8 a, .agg #[.slice A1 n1 c1, .slice A2 n2 c2]] w fun e w' => e = .returned (.bool true) ∧ Since w w' := by
  have hzs := zeroSl
  have HKK : Hid (∀ X, Since w X → KK X) := fun X h => hK.below h hK.1
  have hm1 := rd_max hl1
  have hm2 := rd_max hl2
  have HR1 : Hid (∀ X, Since w X → Sts r (.slice A r.length c) X) := fun X h => Sts.lasts _ _ _ _ hr h
  have HRL1 : Hid (∀ X, Since w X → Rd X 3 (.slice A1 n1 c1) n1 (fl sdc l1)) := fun X h => hl1.below h
  have HRL2 : Hid (∀ X, Since w X → Rd X 3 (.slice A2 n2 c2) n2 (fl sdc l2)) := fun X h => hl2.below h
  have HLN1 := Lib.hid hln1
  have HLN2 := Lib.hid hln2
  have HSB1 := Lib.hid hsb1
  have HSB2 := Lib.hid hsb2
  clear hr hl1 hl2 hln1 hln2 hsb1 hsb2 hK
  obtain ⟨ha0, ha1⟩ := ha
  go_enter Tryd.func6, Tryd.ntmps6
  go_upto_region 1 with (fail)
  obtain ⟨W0, hW0, hB0, hB1, hb⟩ := start2 w 24 58 [.slice A r.length c] [.slice A1 n1 c1, .slice A2 n2 c2]
  rw [← hW0]
  clear hW0
  by_cases h1 : rckE r = 0
  · have HC := Lib.hid h1
    clear h1
    cases h2 : shB l1
    · clear h
      have H2 := Lib.hid h2
      clear h2
      refine jp ?_
      refine ja hB0 Tryd.underlying24 (by rfl) info_rg ?_
      refine jc (.int .i64 0) (fun X hX hF => mo (sckV r (.slice A r.length c) X (HR1.out X (bel_next hb hX))) (by rw [HC.out])) ?_
      refine jv (.bool false) (exec_nei _ _ _ _ (by rfl) .i64 0 0 (by rfl) (by rfl) false (by rfl)) ?_
      refine jm (.bool false) ?_
      refine jn (.pointer (some ⟨(w.heap.size + 1), 0, none⟩)) ?_
      refine jf (.slice A1 n1 c1) hB1 0 load_sl_b ?_
      refine jc (.bool false) (fun X hX hF => mo (shoC A1 n1 c1 l1 X (HRL1.out X (bel_next hb hX)) HLN1.out (by omega) HSB1.out) (by rw [H2.out])) ?_
      refine jm (.bool true) ?_
      refine jm (.bool true) ?_
      refine jm (.bool true) ?_
      refine js ?_
      refine js ?_
      refine js ?_
      refine js ?_
      refine jm (.bool true) ?_
      refine jm (.bool true) ?_
      refine js ?_
      refine js ?_
      refine js ?_
      refine js ?_
      refine jm (.bool true) ?_
      refine jz fun X1 hX1 => ?_
      have hB0 := hB0.bel hX1
      have hB1 := hB1.bel hX1
      have hb := bel_next hb hX1
      clear hX1
      go_upto_region 2 with (fail)
      refine jp ?_
      refine jc (.bool true) (fun X hX hF => sanC X (HKK.out X (bel_next hb hX))) ?_
      refine jm (.bool true) ?_
      refine jz fun X2 hX2 => ?_
      have hB0 := hB0.bel hX2
      have hB1 := hB1.bel hX2
      have hb := bel_next hb hX2
      clear hX2
      go_wp2
      go_ret
      exact ⟨rfl, hb⟩
    · have H2 := Lib.hid h2
      clear h2
      have H3 : Hid (shB l2 = false) := by
        cases h9 : shB l2
        · rfl
        · exact absurd ⟨HC.out, H2.out, h9⟩ h
      clear h
      refine jp ?_
      refine ja hB0 Tryd.underlying24 (by rfl) info_rg ?_
      refine jc (.int .i64 0) (fun X hX hF => mo (sckV r (.slice A r.length c) X (HR1.out X (bel_next hb hX))) (by rw [HC.out])) ?_
      refine jv (.bool false) (exec_nei _ _ _ _ (by rfl) .i64 0 0 (by rfl) (by rfl) false (by rfl)) ?_
      refine jm (.bool false) ?_
      refine jn (.pointer (some ⟨(w.heap.size + 1), 0, none⟩)) ?_
      refine jf (.slice A1 n1 c1) hB1 0 load_sl_b ?_
      refine jc (.bool true) (fun X hX hF => mo (shoC A1 n1 c1 l1 X (HRL1.out X (bel_next hb hX)) HLN1.out (by omega) HSB1.out) (by rw [H2.out])) ?_
      refine jm (.bool false) ?_
      refine jm (.bool false) ?_
      refine jm (.bool false) ?_
      refine jn (.pointer (some ⟨(w.heap.size + 1), 1, none⟩)) ?_
      refine jf (.slice A2 n2 c2) hB1 1 load_sl_b ?_
      refine jc (.bool false) (fun X hX hF => mo (shoC A2 n2 c2 l2 X (HRL2.out X (bel_next hb hX)) HLN2.out (by omega) HSB2.out) (by rw [H3.out])) ?_
      refine jm (.bool true) ?_
      refine jm (.bool true) ?_
      refine jm (.bool true) ?_
      refine js ?_
      refine js ?_
      refine js ?_
      refine js ?_
      refine jm (.bool true) ?_
      refine jz fun X1 hX1 => ?_
      have hB0 := hB0.bel hX1
      have hB1 := hB1.bel hX1
      have hb := bel_next hb hX1
      clear hX1
      go_upto_region 2 with (fail)
      refine jp ?_
      refine jc (.bool true) (fun X hX hF => sanC X (HKK.out X (bel_next hb hX))) ?_
      refine jm (.bool true) ?_
      refine jz fun X2 hX2 => ?_
      have hB0 := hB0.bel hX2
      have hB1 := hB1.bel hX2
      have hb := bel_next hb hX2
      clear hX2
      go_wp2
      go_ret
      exact ⟨rfl, hb⟩
  · clear h
    obtain ⟨e1, he19⟩ : ∃ e1, e1 = rckE r := ⟨_, rfl⟩
    have HE1 : Hid (rckE r = e1) := he19.symm
    rw [← he19] at h1
    have H1 : Hid (¬ e1 = 0) := h1
    clear h1 he19
    refine jp ?_
    refine ja hB0 Tryd.underlying24 (by rfl) info_rg ?_
    refine jc (.int .i64 e1) (fun X hX hF => mo (sckV r (.slice A r.length c) X (HR1.out X (bel_next hb hX))) (by rw [HE1.out])) ?_
    refine jv (.bool true) (exec_nei _ _ _ _ (by rfl) .i64 e1 0 (by rfl) (by rfl) true (by rw [decide_eq_false H1.out]; rfl)) ?_
    refine jm (.bool true) ?_
    refine js ?_
    refine js ?_
    refine js ?_
    refine js ?_
    refine jm (.bool true) ?_
    refine jm (.bool true) ?_
    refine js ?_
    refine js ?_
    refine js ?_
    refine js ?_
    refine jm (.bool true) ?_
    refine jm (.bool true) ?_
    refine js ?_
    refine js ?_
    refine js ?_
    refine js ?_
    refine jm (.bool true) ?_
    refine jz fun X1 hX1 => ?_
    have hB0 := hB0.bel hX1
    have hB1 := hB1.bel hX1
    have hb := bel_next hb hX1
    clear hX1
    go_upto_region 2 with (fail)
    refine jp ?_
    refine jc (.bool true) (fun X hX hF => sanC X (HKK.out X (bel_next hb hX))) ?_
    refine jm (.bool true) ?_
    refine jz fun X2 hX2 => ?_
    have hB0 := hB0.bel hX2
    have hB1 := hB1.bel hX2
    have hb := bel_next hb hX2
    clear hX2
    go_wp2
    go_ret
    exact ⟨rfl, hb⟩
end Go.Proofs.YthinopepcmidmaaDoor
