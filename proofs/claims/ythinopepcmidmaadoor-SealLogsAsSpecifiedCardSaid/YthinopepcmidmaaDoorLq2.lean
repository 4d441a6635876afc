/-
  Law 48: SealLogsAsSpecified.
-/
import Derived.Test.YthinopepcmidmaaDoorS48
import Derived.Test.YthinopepcmidmaaDoorRv48
import Derived.Test.YthinopepcmidmaaDoorLq5
set_option linter.unusedSimpArgs false
set_option linter.unusedVariables false
set_option maxRecDepth 100000
set_option maxHeartbeats 1600000
namespace Go.Proofs.YthinopepcmidmaaDoor
open Go.RowKit
set_option maxHeartbeats 4800000 in
theorem logsW (A : Option Addr) (c : Nat) (r : List (List UInt8)) (A1 : Option Addr) (m c1 : Nat) (l : List Sl) (A2 : Option Addr) (m2 c2 : Nat) (l2 : List Sl) (s : Sl) (w : World) (hr : Sts r (.slice A r.length c) w) (hrl : Rd w 37 (.slice A1 m c1) m (fl slc l)) (hlm : l.length = m) (hok : ∀ s ∈ l, SlOk s) (hrl2 : Rd w 37 (.slice A2 m2 c2) m2 (fl slc l2)) (hlm2 : l2.length = m2) (hok2 : ∀ s ∈ l2, SlOk s) (hs : SlOk s) (hK : KK w) (hK0 : KK0 w) : Calls Tryd.prog 4 #[.agg #[.slice A r.length c], .agg #[.slice A1 m c1, .slice A2 m2 c2], .agg (slc s).toArray] w fun e w' => e = .returned (.bool true) ∧ Since w w' := by
  have hzs := zeroSl
  have hzm := zeroMd
  have hm1 := rd_max hrl
  have hm2 := rd_max hrl2
  have HKK : Hid (∀ X, Since w X → KK X) := fun X h => hK.below h hK.1
  have HKZ : Hid (∀ X, Since w X → KK0 X) := fun X h => KK0.since hK0 h
  have HR1 : Hid (∀ X, Since w X → Sts r (.slice A r.length c) X) := fun X h => Sts.lasts _ _ _ _ hr h
  have HL1 : Hid (∀ X, Since w X → Slv l (.slice A1 m c1) X) := fun X hX => slv_of hlm (hrl.below hX)
  have HL2 : Hid (∀ X, Since w X → Slv l2 (.slice A2 m2 c2) X) := fun X hX => slv_of hlm2 (hrl2.below hX)
  have HRL1 : Hid (∀ X, Since w X → Rd X 37 (.slice A1 m c1) m (fl slc l)) := fun X h => hrl.below h
  have HRL2 : Hid (∀ X, Since w X → Rd X 37 (.slice A2 m2 c2) m2 (fl slc l2)) := fun X h => hrl2.below h
  have HLM := Lib.hid hlm
  have HLM2 := Lib.hid hlm2
  have HOK := Lib.hid hok
  have HOK2 := Lib.hid hok2
  clear hr hrl hrl2 hlm hlm2 hok hok2 hK hK0
  go_enter Tryd.func4, Tryd.ntmps4
  go_upto_region 1 with (fail)
  obtain ⟨W0, hW0, hB0, hB1, hB2, hb⟩ := start3 w 24 41 28 [.slice A r.length c] [.slice A1 m c1, .slice A2 m2 c2] (slc s)
  rw [← hW0]
  clear hW0
  refine jd ?_
  refine jn (.pointer (some ⟨(w.heap.size + 1), 0, none⟩)) ?_
  refine jf (.slice A1 m c1) hB1 0 load_sl_a ?_
  refine jn (.pointer (some ⟨(w.heap.size + 1), 1, none⟩)) ?_
  refine jf (.slice A2 m2 c2) hB1 1 load_sl_a ?_
  refine jm (.slice A1 m c1) ?_
  refine jm (.slice A2 m2 c2) ?_
  refine jz fun X1 hX1 => ?_
  have hB0 := hB0.bel hX1
  have hB1 := hB1.bel hX1
  have hB2 := hB2.bel hX1
  have hb := bel_next hb hX1
  clear hX1
  go_upto_region 2 with (fail)
  refine lx_plain [none, none, some (Bv (FewP l 12))] (lasts_none (lasts_none (lasts_some (Bv.lasts _) (lasts_nil)))) ?_
  simp only [iX, Nat.reduceAdd]
  refine ja hB0 Tryd.underlying24 (by rfl) info_rg ?_
  refine jm (.slice A1 m c1) ?_
  refine jk (fun X hX hF => rfwV r (.slice A r.length c) l (.slice A1 m c1) 12 (by decide) X (HR1.out X (bel_next hb hX)) (HL1.out X (bel_next hb hX)) HOK.out) ?_
  intro v26
  refine jm (v26) ?_
  refine lx_nil ?_
  intro X2 hX2 hF
  have hv26 := hF _ _ List.mem_cons_self
  have hB0 := hB0.bel hX2
  have hB1 := hB1.bel hX2
  have hB2 := hB2.bel hX2
  have hb := bel_next hb hX2
  clear hF hX2
  obtain ⟨b1, rfl, hf1⟩ := hv26
  clear hf1
  go_upto_region 3 with (fail)
  refine lx_plain [none, none, some (Bv (FewP l2 12))] (lasts_none (lasts_none (lasts_some (Bv.lasts _) (lasts_nil)))) ?_
  simp only [iX, Nat.reduceAdd]
  refine ja hB0 Tryd.underlying24 (by rfl) info_rg ?_
  refine jm (.slice A2 m2 c2) ?_
  refine jk (fun X hX hF => rfwV r (.slice A r.length c) l2 (.slice A2 m2 c2) 12 (by decide) X (HR1.out X (bel_next hb hX)) (HL2.out X (bel_next hb hX)) HOK2.out) ?_
  intro v29
  refine jm (v29) ?_
  refine lx_nil ?_
  intro X3 hX3 hF
  have hv29 := hF _ _ List.mem_cons_self
  have hB0 := hB0.bel hX3
  have hB1 := hB1.bel hX3
  have hB2 := hB2.bel hX3
  have hb := bel_next hb hX3
  clear hF hX3
  obtain ⟨b2, rfl, hf2⟩ := hv29
  clear hf2
  obtain ⟨b3, hb39⟩ : ∃ b, b = shS s := ⟨_, rfl⟩
  have HSH : Hid (shS s = b3) := hb39.symm
  clear hb39
  go_upto_region 4 with (fail)
  refine jp ?_
  refine jg (.agg (slc s).toArray) (fun X hX hF => exec_lda 28 _ (by rfl) (w.heap.size + 2) (by rfl) Tryd.underlying28 rfl X (hB2.bel hX) (info_slc hs)) ?_
  refine jc (.bool b3) (fun X hX hF => mo (rshC s X hs) (by rw [HSH.out])) ?_
  refine jm (.bool b3) ?_
  refine jz fun X4 hX4 => ?_
  have hB0 := hB0.bel hX4
  have hB1 := hB1.bel hX4
  have hB2 := hB2.bel hX4
  have hb := bel_next hb hX4
  clear hX4
  cases b1
  · cases b2
    · cases b3
      · go_upto_region 5 with (fail)
        refine jp ?_
        refine jm (.bool false) ?_
        refine jm (.bool true) ?_
        refine jm (.bool true) ?_
        refine js ?_
        refine js ?_
        refine jm (.bool true) ?_
        refine jm (.bool true) ?_
        refine js ?_
        refine js ?_
        refine jm (.bool true) ?_
        refine jz fun X5 hX5 => ?_
        have hB0 := hB0.bel hX5
        have hB1 := hB1.bel hX5
        have hB2 := hB2.bel hX5
        have hb := bel_next hb hX5
        clear hX5
        go_upto_region 6 with (fail)
        refine jp ?_
        refine jc (.bool true) (fun X hX hF => sanC X (HKK.out X (bel_next hb hX))) ?_
        refine jm (.bool true) ?_
        refine jz fun X6 hX6 => ?_
        have hB0 := hB0.bel hX6
        have hB1 := hB1.bel hX6
        have hB2 := hB2.bel hX6
        have hb := bel_next hb hX6
        clear hX6
        go_wp2
        go_ret
        exact ⟨rfl, hb⟩
      · go_upto_region 5 with (fail)
        refine jp ?_
        refine jm (.bool false) ?_
        refine jm (.bool true) ?_
        refine jm (.bool true) ?_
        refine js ?_
        refine js ?_
        refine jm (.bool true) ?_
        refine jm (.bool true) ?_
        refine js ?_
        refine js ?_
        refine jm (.bool true) ?_
        refine jz fun X5 hX5 => ?_
        have hB0 := hB0.bel hX5
        have hB1 := hB1.bel hX5
        have hB2 := hB2.bel hX5
        have hb := bel_next hb hX5
        clear hX5
        go_upto_region 6 with (fail)
        refine jp ?_
        refine jc (.bool true) (fun X hX hF => sanC X (HKK.out X (bel_next hb hX))) ?_
        refine jm (.bool true) ?_
        refine jz fun X6 hX6 => ?_
        have hB0 := hB0.bel hX6
        have hB1 := hB1.bel hX6
        have hB2 := hB2.bel hX6
        have hb := bel_next hb hX6
        clear hX6
        go_wp2
        go_ret
        exact ⟨rfl, hb⟩
    · cases b3
      · go_upto_region 5 with (fail)
        refine jp ?_
        refine jm (.bool false) ?_
        refine jm (.bool true) ?_
        refine jm (.bool true) ?_
        refine js ?_
        refine js ?_
        refine jm (.bool true) ?_
        refine jm (.bool true) ?_
        refine js ?_
        refine js ?_
        refine jm (.bool true) ?_
        refine jz fun X5 hX5 => ?_
        have hB0 := hB0.bel hX5
        have hB1 := hB1.bel hX5
        have hB2 := hB2.bel hX5
        have hb := bel_next hb hX5
        clear hX5
        go_upto_region 6 with (fail)
        refine jp ?_
        refine jc (.bool true) (fun X hX hF => sanC X (HKK.out X (bel_next hb hX))) ?_
        refine jm (.bool true) ?_
        refine jz fun X6 hX6 => ?_
        have hB0 := hB0.bel hX6
        have hB1 := hB1.bel hX6
        have hB2 := hB2.bel hX6
        have hb := bel_next hb hX6
        clear hX6
        go_wp2
        go_ret
        exact ⟨rfl, hb⟩
      · go_upto_region 5 with (fail)
        refine jp ?_
        refine jm (.bool false) ?_
        refine jm (.bool true) ?_
        refine jm (.bool true) ?_
        refine js ?_
        refine js ?_
        refine jm (.bool true) ?_
        refine jm (.bool true) ?_
        refine js ?_
        refine js ?_
        refine jm (.bool true) ?_
        refine jz fun X5 hX5 => ?_
        have hB0 := hB0.bel hX5
        have hB1 := hB1.bel hX5
        have hB2 := hB2.bel hX5
        have hb := bel_next hb hX5
        clear hX5
        go_upto_region 6 with (fail)
        refine jp ?_
        refine jc (.bool true) (fun X hX hF => sanC X (HKK.out X (bel_next hb hX))) ?_
        refine jm (.bool true) ?_
        refine jz fun X6 hX6 => ?_
        have hB0 := hB0.bel hX6
        have hB1 := hB1.bel hX6
        have hB2 := hB2.bel hX6
        have hb := bel_next hb hX6
        clear hX6
        go_wp2
        go_ret
        exact ⟨rfl, hb⟩
  · cases b2
    · cases b3
      · go_upto_region 5 with (fail)
        refine jp ?_
        refine jm (.bool true) ?_
        refine jm (.bool false) ?_
        refine jm (.bool false) ?_
        refine jm (.bool false) ?_
        refine jm (.bool true) ?_
        refine jm (.bool true) ?_
        refine jm (.bool true) ?_
        refine js ?_
        refine js ?_
        refine jm (.bool true) ?_
        refine jz fun X5 hX5 => ?_
        have hB0 := hB0.bel hX5
        have hB1 := hB1.bel hX5
        have hB2 := hB2.bel hX5
        have hb := bel_next hb hX5
        clear hX5
        go_upto_region 6 with (fail)
        refine jp ?_
        refine jc (.bool true) (fun X hX hF => sanC X (HKK.out X (bel_next hb hX))) ?_
        refine jm (.bool true) ?_
        refine jz fun X6 hX6 => ?_
        have hB0 := hB0.bel hX6
        have hB1 := hB1.bel hX6
        have hB2 := hB2.bel hX6
        have hb := bel_next hb hX6
        clear hX6
        go_wp2
        go_ret
        exact ⟨rfl, hb⟩
      · go_upto_region 5 with (fail)
        refine jp ?_
        refine jm (.bool true) ?_
        refine jm (.bool false) ?_
        refine jm (.bool false) ?_
        refine jm (.bool false) ?_
        refine jm (.bool true) ?_
        refine jm (.bool true) ?_
        refine jm (.bool true) ?_
        refine js ?_
        refine js ?_
        refine jm (.bool true) ?_
        refine jz fun X5 hX5 => ?_
        have hB0 := hB0.bel hX5
        have hB1 := hB1.bel hX5
        have hB2 := hB2.bel hX5
        have hb := bel_next hb hX5
        clear hX5
        go_upto_region 6 with (fail)
        refine jp ?_
        refine jc (.bool true) (fun X hX hF => sanC X (HKK.out X (bel_next hb hX))) ?_
        refine jm (.bool true) ?_
        refine jz fun X6 hX6 => ?_
        have hB0 := hB0.bel hX6
        have hB1 := hB1.bel hX6
        have hB2 := hB2.bel hX6
        have hb := bel_next hb hX6
        clear hX6
        go_wp2
        go_ret
        exact ⟨rfl, hb⟩
    · cases b3
      · go_upto_region 5 with (fail)
        refine jp ?_
        refine jm (.bool true) ?_
        refine jm (.bool false) ?_
        refine jm (.bool false) ?_
        refine jm (.bool true) ?_
        refine jm (.bool false) ?_
        refine jm (.bool false) ?_
        refine jm (.bool false) ?_
        refine jm (.bool false) ?_
        refine jm (.bool true) ?_
        refine jm (.bool true) ?_
        refine jz fun X5 hX5 => ?_
        have hB0 := hB0.bel hX5
        have hB1 := hB1.bel hX5
        have hB2 := hB2.bel hX5
        have hb := bel_next hb hX5
        clear hX5
        go_upto_region 6 with (fail)
        refine jp ?_
        refine jc (.bool true) (fun X hX hF => sanC X (HKK.out X (bel_next hb hX))) ?_
        refine jm (.bool true) ?_
        refine jz fun X6 hX6 => ?_
        have hB0 := hB0.bel hX6
        have hB1 := hB1.bel hX6
        have hB2 := hB2.bel hX6
        have hb := bel_next hb hX6
        clear hX6
        go_wp2
        go_ret
        exact ⟨rfl, hb⟩
      · go_upto_region 5 with (fail)
        refine jp ?_
        refine jm (.bool true) ?_
        refine jm (.bool false) ?_
        refine jm (.bool false) ?_
        refine jm (.bool true) ?_
        refine jm (.bool false) ?_
        refine jm (.bool false) ?_
        refine jm (.bool false) ?_
        refine jm (.bool true) ?_
        refine jm (.bool false) ?_
        refine jm (.bool false) ?_
        refine jz fun X5 hX5 => ?_
        have hB0 := hB0.bel hX5
        have hB1 := hB1.bel hX5
        have hB2 := hB2.bel hX5
        have hb := bel_next hb hX5
        clear hX5
        have hx := nxS_ok (r := r) (l := l) hs (by have := HLM.out; omega)
        obtain ⟨x, hx9⟩ : ∃ x, x = nxS mk48 nm48 r l s := ⟨_, rfl⟩
        obtain ⟨e, he9⟩ : ∃ e, e = nxE mk48 nm48 r l s := ⟨_, rfl⟩
        rw [← hx9] at hx
        have HX : Hid (nxS mk48 nm48 r l s = x ∧ nxE mk48 nm48 r l s = e) := ⟨hx9.symm, he9.symm⟩
        obtain ⟨cn, hcn9⟩ : ∃ e, e = coN mk48 nm48 r l l2 := ⟨_, rfl⟩
        obtain ⟨ce, hce9⟩ : ∃ e, e = coE mk48 nm48 r l l2 := ⟨_, rfl⟩
        have HCO : Hid (coN mk48 nm48 r l l2 = cn ∧ coE mk48 nm48 r l l2 = ce) := ⟨hcn9.symm, hce9.symm⟩
        obtain ⟨lg, hlg9⟩ : ∃ e, e = lgE mk48 nm48 r l := ⟨_, rfl⟩
        have HLG : Hid (lgE mk48 nm48 r l = lg) := hlg9.symm
        obtain ⟨cs, hcs9⟩ : ∃ e, e = ctr mk48 nm48 r s x := ⟨_, rfl⟩
        have HCS : Hid (ctr mk48 nm48 r s x = cs) := hcs9.symm
        clear hx9 he9 hcn9 hce9 hlg9 hcs9
        go_upto_region 7 with (fail)
        refine jq 7 ?_
        refine ja hB0 Tryd.underlying24 (by rfl) info_rg ?_
        refine jm (.slice A1 m c1) ?_
        refine jg (.agg (slc s).toArray) (fun X hX hF => exec_lda 28 _ (by rfl) (w.heap.size + 2) (by rfl) Tryd.underlying28 rfl X (hB2.bel hX) (info_slc hs)) ?_
        refine jc (.tuple #[.agg (slc x).toArray, .int .i64 e]) (fun X hX hF => mo (snxV r (.slice A r.length c) l (.slice A1 m c1) s X (HR1.out X (bel_next hb hX)) (HL1.out X (bel_next hb hX)) HOK.out hs (HKK.out X (bel_next hb hX))) (by rw [HX.out.1, HX.out.2])) ?_
        refine jm (.tuple #[.agg (slc x).toArray, .int .i64 e]) ?_
        refine jm (.agg (slc x).toArray) ?_
        refine jm (.int .i64 e) ?_
        refine jz fun X6 hX6 => ?_
        have hB0 := hB0.bel hX6
        have hB1 := hB1.bel hX6
        have hB2 := hB2.bel hX6
        have hb := bel_next hb hX6
        clear hX6
        go_upto_region 8 with (refine op_store_new _ _ _ rfl 28 (.tmp 12) (.tmp 48) (by rfl) (by rfl) (slc x).toArray (by rfl) (by show (slc x).toArray.size = (slc sl0).toArray.size; simp [SlOk.len hx, SlOk.len ok0]) (fun v hv => slc_one v (by simpa using hv)) (by rw [show (slc x).toArray.size = (slc x).length from by simp]; exact info_slc hx) ?_)
        obtain ⟨Y6, hY9, hD12, hS9⟩ := start1 X6 28 (slc x)
        rw [← hY9]
        clear hY9
        have hgs12 := hb.size
        have hlt12x0 := hB0.lt
        have hlt12x1 := hB1.lt
        have hlt12x2 := hB2.lt
        have hB0 := hB0.bel hS9
        have hB1 := hB1.bel hS9
        have hB2 := hB2.bel hS9
        have hb := bel_next hb hS9
        clear hS9
        generalize X6.heap.size = g12 at *
        refine jq 4 ?_
        refine ja hB0 Tryd.underlying24 (by rfl) info_rg ?_
        refine jm (.slice A1 m c1) ?_
        refine jg (.agg (slc s).toArray) (fun X hX hF => exec_lda 28 _ (by rfl) (w.heap.size + 2) (by rfl) Tryd.underlying28 rfl X (hB2.bel hX) (info_slc hs)) ?_
        refine jc (.agg (mdc x e).toArray) (fun X hX hF => mo (rnxV r (.slice A r.length c) l (.slice A1 m c1) s X (HR1.out X (bel_next hb hX)) (HL1.out X (bel_next hb hX)) HOK.out hs (HKZ.out X (bel_next hb hX))) (by rw [HX.out.1, HX.out.2])) ?_
        refine jz fun X7 hX7 => ?_
        have hB0 := hB0.bel hX7
        have hB1 := hB1.bel hX7
        have hB2 := hB2.bel hX7
        have hD12 := hD12.bel hX7
        have hb := bel_next hb hX7
        clear hX7
        go_upto_region 9 with (refine op_store_new _ _ _ rfl 36 (.tmp 14) (.tmp 53) (by rfl) (by rfl) (mdc x e).toArray (by rfl) (by show (mdc x e).toArray.size = (mdc sl0 0).toArray.size; simp [mdc_len hx, mdc_len ok0]) (fun v hv => mdc_one v (by simpa using hv)) (by rw [show (mdc x e).toArray.size = (mdc x e).length from by simp]; exact info_mdc hx _) ?_)
        obtain ⟨Y7, hY9, hD14, hS9⟩ := start1 X7 36 (mdc x e)
        rw [← hY9]
        clear hY9
        have hgs14 := hb.size
        have hlt14x0 := hB0.lt
        have hlt14x1 := hB1.lt
        have hlt14x2 := hB2.lt
        have hlt14x3 := hD12.lt
        have hB0 := hB0.bel hS9
        have hB1 := hB1.bel hS9
        have hB2 := hB2.bel hS9
        have hD12 := hD12.bel hS9
        have hb := bel_next hb hS9
        clear hS9
        generalize X7.heap.size = g14 at *
        refine jp ?_
        refine ja hB0 Tryd.underlying24 (by rfl) info_rg ?_
        refine jm (.slice A1 m c1) ?_
        refine jm (.slice A2 m2 c2) ?_
        refine jc (.tuple #[.int .i64 cn, .int .i64 ce]) (fun X hX hF => mo (scoV r (.slice A r.length c) l (.slice A1 m c1) l2 (.slice A2 m2 c2) X (HR1.out X (bel_next hb hX)) (HL1.out X (bel_next hb hX)) HOK.out (HL2.out X (bel_next hb hX)) HOK2.out (HKK.out X (bel_next hb hX))) (by rw [HCO.out.1, HCO.out.2])) ?_
        refine jm (.tuple #[.int .i64 cn, .int .i64 ce]) ?_
        refine jm (.int .i64 cn) ?_
        refine jm (.int .i64 ce) ?_
        refine jm (.int .i64 cn) ?_
        refine jm (.int .i64 ce) ?_
        refine jz fun X8 hX8 => ?_
        have hB0 := hB0.bel hX8
        have hB1 := hB1.bel hX8
        have hB2 := hB2.bel hX8
        have hD12 := hD12.bel hX8
        have hD14 := hD14.bel hX8
        have hb := bel_next hb hX8
        clear hX8
        go_upto_region 10 with (fail)
        refine jq 4 ?_
        refine ja hB0 Tryd.underlying24 (by rfl) info_rg ?_
        refine jm (.slice A1 m c1) ?_
        refine jm (.slice A2 m2 c2) ?_
        refine jc (.agg #[.int .i64 cn, .int .i64 ce]) (fun X hX hF => mo (rcoV r (.slice A r.length c) l (.slice A1 m c1) l2 (.slice A2 m2 c2) X (HR1.out X (bel_next hb hX)) (HL1.out X (bel_next hb hX)) HOK.out (HL2.out X (bel_next hb hX)) HOK2.out (HKZ.out X (bel_next hb hX))) (by rw [HCO.out.1, HCO.out.2])) ?_
        refine jz fun X9 hX9 => ?_
        have hB0 := hB0.bel hX9
        have hB1 := hB1.bel hX9
        have hB2 := hB2.bel hX9
        have hD12 := hD12.bel hX9
        have hD14 := hD14.bel hX9
        have hb := bel_next hb hX9
        clear hX9
        go_upto_region 11 with (refine osn 48 17 64 #[.int .i64 cn, .int .i64 ce] info_cn48 ?_)
        obtain ⟨Y9, hY9, hD17, hS9⟩ := start1 X9 48 [.int .i64 cn, .int .i64 ce]
        rw [← hY9]
        clear hY9
        have hgs17 := hb.size
        have hlt17x0 := hB0.lt
        have hlt17x1 := hB1.lt
        have hlt17x2 := hB2.lt
        have hlt17x3 := hD12.lt
        have hlt17x4 := hD14.lt
        have hB0 := hB0.bel hS9
        have hB1 := hB1.bel hS9
        have hB2 := hB2.bel hS9
        have hD12 := hD12.bel hS9
        have hD14 := hD14.bel hS9
        have hb := bel_next hb hS9
        clear hS9
        generalize X9.heap.size = g17 at *
        refine jd ?_
        refine ja hB0 Tryd.underlying24 (by rfl) info_rg ?_
        refine jm (.slice A1 m c1) ?_
        refine jc (.int .i64 lg) (fun X hX hF => mo (slgV r (.slice A r.length c) l (.slice A1 m c1) X (HR1.out X (bel_next hb hX)) (HL1.out X (bel_next hb hX)) HOK.out (HKK.out X (bel_next hb hX))) (by rw [HLG.out])) ?_
        refine ja hB0 Tryd.underlying24 (by rfl) info_rg ?_
        refine jm (.slice A1 m c1) ?_
        refine jc (.int .i64 lg) (fun X hX hF => mo (rlgV r (.slice A r.length c) l (.slice A1 m c1) X (HR1.out X (bel_next hb hX)) (HL1.out X (bel_next hb hX)) HOK.out (HKZ.out X (bel_next hb hX))) (by rw [HLG.out])) ?_
        refine jv (.bool false) (exec_nei _ _ _ _ (by rfl) .i64 lg lg (by rfl) (by rfl) false (by rw [decide_eq_true rfl]; rfl)) ?_
        refine jm (.bool false) ?_
        refine jg (.agg (slc x).toArray) (fun X hX hF => exec_lda 28 _ (by rfl) g12 (by rfl) Tryd.underlying28 rfl X (hD12.bel hX) (info_slc hx)) ?_
        refine jn (.pointer (some ⟨g14, 0, none⟩)) ?_
        refine jg (.agg (slc x).toArray) (fun X hX hF => exec_inr 28 _ (by rfl) g14 0 (slc x) (by rfl) Tryd.underlying28 rfl X (hD14.bel hX) (mdc_S hx e) (info_slc hx)) ?_
        refine jv (.bool false) (exec_nesl _ _ _ (by rfl) x x hx hx (by rfl) (by rfl) _ (by rw [decide_eq_true rfl]; rfl)) ?_
        refine jm (.bool false) ?_
        refine jm (.bool false) ?_
        refine jm (.int .i64 e) ?_
        refine jn (.pointer (some ⟨g14, 37, none⟩)) ?_
        refine jg (.int .i64 e) (fun X hX hF => exec_ld 32 _ (by rfl) g14 37 (by rfl) _ X ((hD14.bel hX).cell (j := 37) (mdc_err hx e)) (fun X u h => load_er g14 37 X u h)) ?_
        refine jv (.bool false) (exec_nei _ _ _ _ (by rfl) .i64 e e (by rfl) (by rfl) false (by rw [decide_eq_true rfl]; rfl)) ?_
        refine jm (.bool false) ?_
        refine jm (.bool false) ?_
        refine jm (.int .i64 cn) ?_
        refine jn (.pointer (some ⟨g17, 0, none⟩)) ?_
        refine jf (.int .i64 cn) hD17 0 load_int ?_
        refine jv (.bool false) (exec_nei _ _ _ _ (by rfl) .i64 cn cn (by rfl) (by rfl) false (by rw [decide_eq_true rfl]; rfl)) ?_
        refine jm (.bool false) ?_
        refine jm (.bool false) ?_
        refine jm (.int .i64 ce) ?_
        refine jn (.pointer (some ⟨g17, 1, none⟩)) ?_
        refine jf (.int .i64 ce) hD17 1 load_er ?_
        refine jv (.bool false) (exec_nei _ _ _ _ (by rfl) .i64 ce ce (by rfl) (by rfl) false (by rw [decide_eq_true rfl]; rfl)) ?_
        refine jm (.bool false) ?_
        refine jz fun X10 hX10 => ?_
        have hB0 := hB0.bel hX10
        have hB1 := hB1.bel hX10
        have hB2 := hB2.bel hX10
        have hD12 := hD12.bel hX10
        have hD14 := hD14.bel hX10
        have hD17 := hD17.bel hX10
        have hb := bel_next hb hX10
        clear hX10
        go_upto_region 13 with (fail)
        refine jp ?_
        refine jm (.int .i64 0) ?_
        refine jz fun X11 hX11 => ?_
        have hB0 := hB0.bel hX11
        have hB1 := hB1.bel hX11
        have hB2 := hB2.bel hX11
        have hD12 := hD12.bel hX11
        have hD14 := hD14.bel hX11
        have hD17 := hD17.bel hX11
        have hb := bel_next hb hX11
        clear hX11
        go_wp2
        go_loopw [18] (fun iv wr => ∃ i : Nat, i ≤ m ∧ iv = .int .i64 (i : Int) ∧ Blk wr w.heap.size 24 [.slice A r.length c] ∧ Blk wr (w.heap.size + 2) 28 (slc s) ∧ Blk wr g12 28 (slc x) ∧ Below w.heap.size w wr) (fun iv _ => m - (intOf iv).toNat)
        case atStart => exact ⟨0, by omega, rfl, hB0, hB2, hD12, hb⟩
        case round =>
          clear hb hB0 hB1 hB2 hD12 hD14 hD17
          obtain ⟨i, hi, rfl, hB0, hB2, hD12, hb⟩ := hrel
          obtain ⟨wo, rfl⟩ : ∃ wo : World, wo = wr := ⟨_, rfl⟩
          by_cases hlt : i < m ∧ i < 6
          · obtain ⟨hlt, hl6⟩ := hlt
            obtain ⟨b, off, rfl, hbb9, hall9⟩ := (HRL1.out _ hb).sls HOK.out HLM.out (by omega)
            clear hbb9 hall9
            go_upto_region 14 with (fail)
            refine jp ?_
            refine jm (.int .i64 (i : Int)) ?_
            refine jm (.slice (some ⟨b, off, none⟩) m c1) ?_
            refine jv (.int .i64 (m : Int)) (exec_lenv Tryd.underlying30 _ (by rfl) (some ⟨b, off, none⟩) m c1 (by rfl) _ rfl) ?_
            refine jv (.bool true) (exec_lss _ _ _ _ (by rfl) .i64 (i : Int) (m : Int) (by rfl) (by rfl) true (decide_eq_true (by omega))) ?_
            refine jm (.bool true) ?_
            refine jm (.int .i64 (i : Int)) ?_
            refine jv (.bool true) (exec_lss _ _ _ _ (by rfl) .i64 (i : Int) 6 (by rfl) (by rfl) true (decide_eq_true (by omega))) ?_
            refine jm (.bool true) ?_
            refine jz fun X1 hX1 => ?_
            have hB0 := hB0.bel hX1
            have hB2 := hB2.bel hX1
            have hD12 := hD12.bel hX1
            have hb := bel_next hb hX1
            clear hX1
            go_upto_region 16 with (fail)
            refine jp ?_
            refine jm (.int .i64 0) ?_
            refine jz fun X2 hX2 => ?_
            have hB0 := hB0.bel hX2
            have hB2 := hB2.bel hX2
            have hD12 := hD12.bel hX2
            have hb := bel_next hb hX2
            clear hX2
            go_wp2
            go_loopw [19] (fun jv wr => ∃ j : Nat, j ≤ m2 ∧ jv = .int .i64 (j : Int) ∧ Blk wr w.heap.size 24 [.slice A r.length c] ∧ Blk wr (w.heap.size + 2) 28 (slc s) ∧ Blk wr g12 28 (slc x) ∧ Below w.heap.size w wr) (fun jv _ => m2 - (intOf jv).toNat)
            case atStart => exact ⟨0, by omega, rfl, hB0, hB2, hD12, hb⟩
            case round =>
              clear hb hB0 hB2 hD12
              obtain ⟨j, hj, rfl, hB0, hB2, hD12, hb⟩ := hrel
              by_cases hlj : j < m2 ∧ j < 6
              · obtain ⟨hlj, hj6⟩ := hlj
                obtain ⟨b2, off2, rfl, hbc2, hall2⟩ := (HRL2.out _ hb).sls HOK2.out HLM2.out (by omega)
                have hbc : b < wr.heap.size := by obtain ⟨b9, off9, h8, h9, _⟩ := (HRL1.out _ hb).sls HOK.out HLM.out (by omega); injection h8 with h8; injection h8 with h7 _; rw [h7]; exact h9
                have hcx : Cl wr b (off + i * 37) (slc (sAt l i)) := by obtain ⟨b9, off9, h8, _, h9⟩ := (HRL1.out _ hb).sls HOK.out HLM.out (by omega); injection h8 with h8; injection h8 with h7 h6; rw [h7, h6]; exact h9 i hlt
                have hcy := hall2 j hlj
                clear hall2
                have ox := ok_at HOK.out (k := i) (by rw [HLM.out]; exact hlt)
                have oy := ok_at HOK2.out (k := j) (by rw [HLM2.out]; exact hlj)
                obtain ⟨p, hx9⟩ : ∃ x, x = sAt l i := ⟨_, rfl⟩
                obtain ⟨q, hy9⟩ : ∃ y, y = sAt l2 j := ⟨_, rfl⟩
                rw [← hx9] at hcx ox
                rw [← hy9] at hcy oy
                clear hx9 hy9
                obtain ⟨ct, hct9⟩ : ∃ e, e = ctr mk48 nm48 r p q := ⟨_, rfl⟩
                have HCT : Hid (ctr mk48 nm48 r p q = ct) := hct9.symm
                clear hct9
                go_upto_region 17 with (fail)
                refine jp ?_
                refine jm (.int .i64 (j : Int)) ?_
                refine jm (.slice (some ⟨b2, off2, none⟩) m2 c2) ?_
                refine jv (.int .i64 (m2 : Int)) (exec_lenv Tryd.underlying30 _ (by rfl) (some ⟨b2, off2, none⟩) m2 c2 (by rfl) _ rfl) ?_
                refine jv (.bool true) (exec_lss _ _ _ _ (by rfl) .i64 (j : Int) (m2 : Int) (by rfl) (by rfl) true (decide_eq_true (by omega))) ?_
                refine jm (.bool true) ?_
                refine jm (.int .i64 (j : Int)) ?_
                refine jv (.bool true) (exec_lss _ _ _ _ (by rfl) .i64 (j : Int) 6 (by rfl) (by rfl) true (decide_eq_true (by omega))) ?_
                refine jm (.bool true) ?_
                refine jz fun X1 hX1 => ?_
                have hB0 := hB0.bel hX1
                have hB2 := hB2.bel hX1
                have hD12 := hD12.bel hX1
                have hcx := hcx.below hX1 hbc
                have hcy := hcy.below hX1 hbc2
                replace hbc := Nat.lt_of_lt_of_le hbc (hX1).size
                replace hbc2 := Nat.lt_of_lt_of_le hbc2 (hX1).size
                have hb := bel_next hb hX1
                clear hX1
                go_upto_region 19 with (fail)
                refine jd ?_
                refine ja hB0 Tryd.underlying24 (by rfl) info_rg ?_
                refine jm (.slice (some ⟨b, off, none⟩) m c1) ?_
                refine jm (.int .i64 (i : Int)) ?_
                refine jv (.pointer (some ⟨b, off + i * 37, none⟩)) (exec_ixv Tryd.underlying30 info_sl _ _ (by rfl) b (off) m c1 i (by omega) (by rfl) (by rfl) rfl) ?_
                refine jg (.agg (slc p).toArray) (fun X hX hF => exec_ldc 28 _ (by rfl) b (off + i * 37) (by rfl) Tryd.underlying28 rfl (slc p) X (hcx.below hX hbc) (info_slc ox)) ?_
                refine jm (.slice (some ⟨b2, off2, none⟩) m2 c2) ?_
                refine jm (.int .i64 (j : Int)) ?_
                refine jv (.pointer (some ⟨b2, off2 + j * 37, none⟩)) (exec_ixv Tryd.underlying30 info_sl _ _ (by rfl) b2 (off2) m2 c2 j (by omega) (by rfl) (by rfl) rfl) ?_
                refine jg (.agg (slc q).toArray) (fun X hX hF => exec_ldc 28 _ (by rfl) b2 (off2 + j * 37) (by rfl) Tryd.underlying28 rfl (slc q) X (hcy.below hX hbc2) (info_slc oy)) ?_
                refine jc (.int .i64 ct) (fun X hX hF => mo (sctV r (.slice A r.length c) p q X (HR1.out X (bel_next hb hX)) ox oy (HKK.out X (bel_next hb hX))) (by rw [HCT.out])) ?_
                refine ja hB0 Tryd.underlying24 (by rfl) info_rg ?_
                refine jm (.slice (some ⟨b, off, none⟩) m c1) ?_
                refine jm (.int .i64 (i : Int)) ?_
                refine jv (.pointer (some ⟨b, off + i * 37, none⟩)) (exec_ixv Tryd.underlying30 info_sl _ _ (by rfl) b (off) m c1 i (by omega) (by rfl) (by rfl) rfl) ?_
                refine jg (.agg (slc p).toArray) (fun X hX hF => exec_ldc 28 _ (by rfl) b (off + i * 37) (by rfl) Tryd.underlying28 rfl (slc p) X (hcx.below hX hbc) (info_slc ox)) ?_
                refine jm (.slice (some ⟨b2, off2, none⟩) m2 c2) ?_
                refine jm (.int .i64 (j : Int)) ?_
                refine jv (.pointer (some ⟨b2, off2 + j * 37, none⟩)) (exec_ixv Tryd.underlying30 info_sl _ _ (by rfl) b2 (off2) m2 c2 j (by omega) (by rfl) (by rfl) rfl) ?_
                refine jg (.agg (slc q).toArray) (fun X hX hF => exec_ldc 28 _ (by rfl) b2 (off2 + j * 37) (by rfl) Tryd.underlying28 rfl (slc q) X (hcy.below hX hbc2) (info_slc oy)) ?_
                refine jc (.int .i64 ct) (fun X hX hF => mo (rctV r (.slice A r.length c) p q X (HR1.out X (bel_next hb hX)) ox oy (HKZ.out X (bel_next hb hX))) (by rw [HCT.out])) ?_
                refine jv (.bool false) (exec_nei _ _ _ _ (by rfl) .i64 ct ct (by rfl) (by rfl) false (by rw [decide_eq_true rfl]; rfl)) ?_
                refine jz fun X2 hX2 => ?_
                have hB0 := hB0.bel hX2
                have hB2 := hB2.bel hX2
                have hD12 := hD12.bel hX2
                have hcx := hcx.below hX2 hbc
                have hcy := hcy.below hX2 hbc2
                replace hbc := Nat.lt_of_lt_of_le hbc (hX2).size
                replace hbc2 := Nat.lt_of_lt_of_le hbc2 (hX2).size
                have hb := bel_next hb hX2
                clear hX2
                go_upto_region 18 with (fail)
                refine jp ?_
                refine jm (.int .i64 (j : Int)) ?_
                refine jv (.int .i64 ((j + 1 : Nat) : Int)) (exec_add _ _ _ _ (by rfl) (j : Int) 1 ((j + 1 : Nat) : Int) (by rfl) (by rfl) (by omega) (by omega) (by omega)) ?_
                refine jm (.int .i64 ((j + 1 : Nat) : Int)) ?_
                refine jz fun X3 hX3 => ?_
                have hB0 := hB0.bel hX3
                have hB2 := hB2.bel hX3
                have hD12 := hD12.bel hX3
                have hb := bel_next hb hX3
                clear hX3
                go_wp2
                go_roundw
                case rel => exact ⟨j + 1, by omega, rfl, hB0, hB2, hD12, hb⟩
                case measure => simp [intOf]; omega
              · have hjj : j ≤ m2 := hj
                by_cases hjm : j < m2
                · go_upto_region 17 with (fail)
                  refine jp ?_
                  refine jm (.int .i64 (j : Int)) ?_
                  refine jm (.slice A2 m2 c2) ?_
                  refine jv (.int .i64 (m2 : Int)) (exec_lenv Tryd.underlying30 _ (by rfl) A2 m2 c2 (by rfl) _ rfl) ?_
                  refine jv (.bool true) (exec_lss _ _ _ _ (by rfl) .i64 (j : Int) (m2 : Int) (by rfl) (by rfl) true (decide_eq_true (by omega))) ?_
                  refine jm (.bool true) ?_
                  refine jm (.int .i64 (j : Int)) ?_
                  refine jv (.bool false) (exec_lss _ _ _ _ (by rfl) .i64 (j : Int) 6 (by rfl) (by rfl) false (decide_eq_false (by omega))) ?_
                  refine jm (.bool false) ?_
                  refine jz fun X1 hX1 => ?_
                  have hB0 := hB0.bel hX1
                  have hB2 := hB2.bel hX1
                  have hD12 := hD12.bel hX1
                  have hb := bel_next hb hX1
                  clear hX1
                  go_upto_region 15 with (fail)
                  refine jp ?_
                  refine jm (.int .i64 (i : Int)) ?_
                  refine jv (.int .i64 ((i + 1 : Nat) : Int)) (exec_add _ _ _ _ (by rfl) (i : Int) 1 ((i + 1 : Nat) : Int) (by rfl) (by rfl) (by omega) (by omega) (by omega)) ?_
                  refine jm (.int .i64 ((i + 1 : Nat) : Int)) ?_
                  refine jz fun X2 hX2 => ?_
                  have hB0 := hB0.bel hX2
                  have hB2 := hB2.bel hX2
                  have hD12 := hD12.bel hX2
                  have hb := bel_next hb hX2
                  clear hX2
                  go_wp2
                  go_roundw
                  case rel => exact ⟨i + 1, by omega, rfl, hB0, hB2, hD12, hb⟩
                  case measure => simp [intOf]; omega
                · go_upto_region 17 with (fail)
                  refine jp ?_
                  refine jm (.int .i64 (j : Int)) ?_
                  refine jm (.slice A2 m2 c2) ?_
                  refine jv (.int .i64 (m2 : Int)) (exec_lenv Tryd.underlying30 _ (by rfl) A2 m2 c2 (by rfl) _ rfl) ?_
                  refine jv (.bool false) (exec_lss _ _ _ _ (by rfl) .i64 (j : Int) (m2 : Int) (by rfl) (by rfl) false (decide_eq_false (by omega))) ?_
                  refine jm (.bool false) ?_
                  refine js ?_
                  refine js ?_
                  refine jm (.bool false) ?_
                  refine jz fun X1 hX1 => ?_
                  have hB0 := hB0.bel hX1
                  have hB2 := hB2.bel hX1
                  have hD12 := hD12.bel hX1
                  have hb := bel_next hb hX1
                  clear hX1
                  go_upto_region 15 with (fail)
                  refine jp ?_
                  refine jm (.int .i64 (i : Int)) ?_
                  refine jv (.int .i64 ((i + 1 : Nat) : Int)) (exec_add _ _ _ _ (by rfl) (i : Int) 1 ((i + 1 : Nat) : Int) (by rfl) (by rfl) (by omega) (by omega) (by omega)) ?_
                  refine jm (.int .i64 ((i + 1 : Nat) : Int)) ?_
                  refine jz fun X2 hX2 => ?_
                  have hB0 := hB0.bel hX2
                  have hB2 := hB2.bel hX2
                  have hD12 := hD12.bel hX2
                  have hb := bel_next hb hX2
                  clear hX2
                  go_wp2
                  go_roundw
                  case rel => exact ⟨i + 1, by omega, rfl, hB0, hB2, hD12, hb⟩
                  case measure => simp [intOf]; omega
          · have hii : i ≤ m := hi
            by_cases him : i < m
            · go_upto_region 14 with (fail)
              refine jp ?_
              refine jm (.int .i64 (i : Int)) ?_
              refine jm (.slice A1 m c1) ?_
              refine jv (.int .i64 (m : Int)) (exec_lenv Tryd.underlying30 _ (by rfl) A1 m c1 (by rfl) _ rfl) ?_
              refine jv (.bool true) (exec_lss _ _ _ _ (by rfl) .i64 (i : Int) (m : Int) (by rfl) (by rfl) true (decide_eq_true (by omega))) ?_
              refine jm (.bool true) ?_
              refine jm (.int .i64 (i : Int)) ?_
              refine jv (.bool false) (exec_lss _ _ _ _ (by rfl) .i64 (i : Int) 6 (by rfl) (by rfl) false (decide_eq_false (by omega))) ?_
              refine jm (.bool false) ?_
              refine jz fun X1 hX1 => ?_
              have hB0 := hB0.bel hX1
              have hB2 := hB2.bel hX1
              have hD12 := hD12.bel hX1
              have hb := bel_next hb hX1
              clear hX1
              go_upto_region 21 with (fail)
              refine jd ?_
              refine jc (.bool true) (fun X hX hF => sanC X (HKK.out X (bel_next hb hX))) ?_
              refine jm (.bool true) ?_
              refine ja hB0 Tryd.underlying24 (by rfl) info_rg ?_
              refine jg (.agg (slc s).toArray) (fun X hX hF => exec_lda 28 _ (by rfl) (w.heap.size + 2) (by rfl) Tryd.underlying28 rfl X (hB2.bel hX) (info_slc hs)) ?_
              refine jg (.agg (slc x).toArray) (fun X hX hF => exec_lda 28 _ (by rfl) g12 (by rfl) Tryd.underlying28 rfl X (hD12.bel hX) (info_slc hx)) ?_
              refine jc (.int .i64 cs) (fun X hX hF => mo (sctV r (.slice A r.length c) s x X (HR1.out X (bel_next hb hX)) hs hx (HKK.out X (bel_next hb hX))) (by rw [HCS.out])) ?_
              refine ja hB0 Tryd.underlying24 (by rfl) info_rg ?_
              refine jg (.agg (slc s).toArray) (fun X hX hF => exec_lda 28 _ (by rfl) (w.heap.size + 2) (by rfl) Tryd.underlying28 rfl X (hB2.bel hX) (info_slc hs)) ?_
              refine jg (.agg (slc x).toArray) (fun X hX hF => exec_lda 28 _ (by rfl) g12 (by rfl) Tryd.underlying28 rfl X (hD12.bel hX) (info_slc hx)) ?_
              refine jc (.int .i64 cs) (fun X hX hF => mo (rctV r (.slice A r.length c) s x X (HR1.out X (bel_next hb hX)) hs hx (HKZ.out X (bel_next hb hX))) (by rw [HCS.out])) ?_
              refine jv (.bool true) (exec_eqi _ _ _ _ (by rfl) .i64 cs cs (by rfl) (by rfl) true (decide_eq_true rfl)) ?_
              refine jm (.bool true) ?_
              refine jm (.bool true) ?_
              refine jz fun X2 hX2 => ?_
              have hB0 := hB0.bel hX2
              have hB2 := hB2.bel hX2
              have hD12 := hD12.bel hX2
              have hb := bel_next hb hX2
              clear hX2
              go_wp2
              go_ret
              exact ⟨rfl, hb⟩
            · go_upto_region 14 with (fail)
              refine jp ?_
              refine jm (.int .i64 (i : Int)) ?_
              refine jm (.slice A1 m c1) ?_
              refine jv (.int .i64 (m : Int)) (exec_lenv Tryd.underlying30 _ (by rfl) A1 m c1 (by rfl) _ rfl) ?_
              refine jv (.bool false) (exec_lss _ _ _ _ (by rfl) .i64 (i : Int) (m : Int) (by rfl) (by rfl) false (decide_eq_false (by omega))) ?_
              refine jm (.bool false) ?_
              refine js ?_
              refine js ?_
              refine jm (.bool false) ?_
              refine jz fun X1 hX1 => ?_
              have hB0 := hB0.bel hX1
              have hB2 := hB2.bel hX1
              have hD12 := hD12.bel hX1
              have hb := bel_next hb hX1
              clear hX1
              go_upto_region 21 with (fail)
              refine jd ?_
              refine jc (.bool true) (fun X hX hF => sanC X (HKK.out X (bel_next hb hX))) ?_
              refine jm (.bool true) ?_
              refine ja hB0 Tryd.underlying24 (by rfl) info_rg ?_
              refine jg (.agg (slc s).toArray) (fun X hX hF => exec_lda 28 _ (by rfl) (w.heap.size + 2) (by rfl) Tryd.underlying28 rfl X (hB2.bel hX) (info_slc hs)) ?_
              refine jg (.agg (slc x).toArray) (fun X hX hF => exec_lda 28 _ (by rfl) g12 (by rfl) Tryd.underlying28 rfl X (hD12.bel hX) (info_slc hx)) ?_
              refine jc (.int .i64 cs) (fun X hX hF => mo (sctV r (.slice A r.length c) s x X (HR1.out X (bel_next hb hX)) hs hx (HKK.out X (bel_next hb hX))) (by rw [HCS.out])) ?_
              refine ja hB0 Tryd.underlying24 (by rfl) info_rg ?_
              refine jg (.agg (slc s).toArray) (fun X hX hF => exec_lda 28 _ (by rfl) (w.heap.size + 2) (by rfl) Tryd.underlying28 rfl X (hB2.bel hX) (info_slc hs)) ?_
              refine jg (.agg (slc x).toArray) (fun X hX hF => exec_lda 28 _ (by rfl) g12 (by rfl) Tryd.underlying28 rfl X (hD12.bel hX) (info_slc hx)) ?_
              refine jc (.int .i64 cs) (fun X hX hF => mo (rctV r (.slice A r.length c) s x X (HR1.out X (bel_next hb hX)) hs hx (HKZ.out X (bel_next hb hX))) (by rw [HCS.out])) ?_
              refine jv (.bool true) (exec_eqi _ _ _ _ (by rfl) .i64 cs cs (by rfl) (by rfl) true (decide_eq_true rfl)) ?_
              refine jm (.bool true) ?_
              refine jm (.bool true) ?_
              refine jz fun X2 hX2 => ?_
              have hB0 := hB0.bel hX2
              have hB2 := hB2.bel hX2
              have hD12 := hD12.bel hX2
              have hb := bel_next hb hX2
              clear hX2
              go_wp2
              go_ret
              exact ⟨rfl, hb⟩
end Go.Proofs.YthinopepcmidmaaDoor
