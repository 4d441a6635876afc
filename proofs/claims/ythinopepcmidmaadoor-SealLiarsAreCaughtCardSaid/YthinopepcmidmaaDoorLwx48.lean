/-
  Law 48: SealLiarsAreCaught, one log the beginning of the other.
-/
import Derived.Deep.CutBlock
import Derived.Test.YthinopepcmidmaaDoorLwd48
set_option linter.unusedSimpArgs false
set_option linter.unusedVariables false
set_option maxRecDepth 100000
set_option maxHeartbeats 1600000
namespace Go.Proofs.YthinopepcmidmaaDoor
open Go.RowKit
set_option maxHeartbeats 16000000 in
theorem liarsB (A : Option Addr) (c : Nat) (r : List (List UInt8)) (a : Int) (A1 : Option Addr) (n1 c1 : Nat) (l1 : List Sd) (A2 : Option Addr) (n2 c2 : Nat) (l2 : List Sd) (w : World) (hr : Sts r (.slice A r.length c) w) (ha : 0 ≤ a ∧ a ≤ 255) (hl1 : Rd w 3 (.slice A1 n1 c1) n1 (fl sdc l1)) (hln1 : l1.length = n1) (hsb1 : ∀ s ∈ l1, SdB s) (hl2 : Rd w 3 (.slice A2 n2 c2) n2 (fl sdc l2)) (hln2 : l2.length = n2) (hsb2 : ∀ s ∈ l2, SdB s) (hK : KK w) (hck : rckE r = 0) (hs1 : shB l1 = true) (hs2 : shB l2 = true) (hfk : ¬ (cmn (tlog r (a % (r.length : Int)) l1 n1) (tlog r (a % (r.length : Int)) l2 n2) < n1 ∧ cmn (tlog r (a % (r.length : Int)) l1 n1) (tlog r (a % (r.length : Int)) l2 n2) < n2)) : Calls Tryd.prog 6 #[.agg #[.slice A r.length c], .int .u8 a, .agg #[.slice A1 n1 c1, .slice A2 n2 c2]] w fun e w' => e = .returned (.bool true) ∧ Since w w' := by
  have hzs := zeroSl
  have HKK : Hid (∀ X, Since w X → KK X) := fun X h => hK.below h hK.1
  have hm1 := rd_max hl1
  have hm2 := rd_max hl2
  have HR1 : Hid (∀ X, Since w X → Sts r (.slice A r.length c) X) := fun X h => Sts.lasts _ _ _ _ hr h
  have HRL1 : Hid (∀ X, Since w X → Rd X 3 (.slice A1 n1 c1) n1 (fl sdc l1)) := fun X h => hl1.below h
  have HRL2 : Hid (∀ X, Since w X → Rd X 3 (.slice A2 n2 c2) n2 (fl sdc l2)) := fun X h => hl2.below h
  have HLN1 := Lib.hid hln1
  have HLN2 := Lib.hid hln2
  have HSB1 := Lib.hid hsb1
  have HSB2 := Lib.hid hsb2
  clear hr hl1 hl2 hln1 hln2 hsb1 hsb2 hK
  obtain ⟨ha0, ha1⟩ := ha
  go_enter Tryd.func6, Tryd.ntmps6
  go_upto_region 1 with (fail)
  obtain ⟨W0, hW0, hB0, hB1, hb⟩ := start2 w 24 58 [.slice A r.length c] [.slice A1 n1 c1, .slice A2 n2 c2]
  rw [← hW0]
  clear hW0
  have HSD1 := Lib.hid (sdOk_of HSB1.out hs1)
  have HSD2 := Lib.hid (sdOk_of HSB2.out hs2)
  have hn20 : n1 ≤ 20 := by have := HSD1.out.few; have := HLN1.out; omega
  have hn21 : n2 ≤ 20 := by have := HSD2.out.few; have := HLN2.out; omega
  have HC := Lib.hid hck
  have HS1 := Lib.hid hs1
  have HS2 := Lib.hid hs2
  clear hck hs1 hs2
  have hpos := rck_pos HC.out
  obtain ⟨who, hwho⟩ : ∃ x, x = a % (r.length : Int) := ⟨_, rfl⟩
  have hw0 : 0 ≤ who := by rw [hwho]; exact Int.emod_nonneg _ (by omega)
  have hw1 : who < (r.length : Int) := by rw [hwho]; exact Int.emod_lt_of_pos _ (by omega)
  have HWHO : Hid (a % (r.length : Int) = who) := hwho.symm
  clear hwho
  have hrl : r.length ≤ 9223372036854775807 := by obtain ⟨A9, c9, h8, h9⟩ := HR1.out _ hb; exact rd_max h9
  have htoA := tl_ok8 HC.out hw0 hw1 HSD1.out (k := n1) (by rw [HLN1.out]; exact Nat.le_refl _)
  have hoaA := tl_okA HC.out hw0 hw1 HSD1.out hrl (k := n1) (by rw [HLN1.out]; exact Nat.le_refl _)
  obtain ⟨la, hlog9⟩ : ∃ L, L = tlog r who l1 n1 := ⟨_, rfl⟩
  rw [← hlog9] at htoA hoaA
  have HLOGA : Hid (tlog r who l1 n1 = la) := hlog9.symm
  clear hlog9
  have HLMA := Lib.hid htoA.len
  have HOKA := Lib.hid hoaA
  have HCHA := Lib.hid htoA.chn
  have HSTA := Lib.hid htoA.st
  clear htoA hoaA
  have HLGA : Hid (lgE mk48 nm48 r la = 0) := lg_of HC.out (by rw [HLMA.out]; omega) HCHA.out
  have htoB := tl_ok8 HC.out hw0 hw1 HSD2.out (k := n2) (by rw [HLN2.out]; exact Nat.le_refl _)
  have hoaB := tl_okA HC.out hw0 hw1 HSD2.out hrl (k := n2) (by rw [HLN2.out]; exact Nat.le_refl _)
  obtain ⟨lb, hlog9⟩ : ∃ L, L = tlog r who l2 n2 := ⟨_, rfl⟩
  rw [← hlog9] at htoB hoaB
  have HLOGB : Hid (tlog r who l2 n2 = lb) := hlog9.symm
  clear hlog9
  have HLMB := Lib.hid htoB.len
  have HOKB := Lib.hid hoaB
  have HCHB := Lib.hid htoB.chn
  have HSTB := Lib.hid htoB.st
  clear htoB hoaB
  have HLGB : Hid (lgE mk48 nm48 r lb = 0) := lg_of HC.out (by rw [HLMB.out]; omega) HCHB.out
  have hst : ∀ i j, i < la.length → j < lb.length → (sAt la i).st = (sAt lb j).st := fun i j hi hj => (HSTA.out i (by rw [← HLMA.out]; exact hi)).trans (HSTB.out j (by rw [← HLMB.out]; exact hj)).symm
  have HSE := Lib.hid hst
  clear hst
  have hco := li_co HCHA.out HCHB.out HSE.out HC.out (by rw [HLMA.out]; omega) (by rw [HLMB.out]; omega)
  have hcl := cmn_le la lb
  rw [HLMA.out, HLMB.out] at hcl
  obtain ⟨N, hN9⟩ : ∃ N, N = cmn la lb := ⟨_, rfl⟩
  rw [← hN9] at hco hcl
  have HNN : Hid (cmn la lb = N) := hN9.symm
  have HCO := Lib.hid hco
  obtain ⟨hNa, hNb⟩ := hcl
  clear hco
  have hNN : ¬ (N < n1 ∧ N < n2) := by rw [HWHO.out, HLOGA.out, HLOGB.out, HNN.out] at hfk; exact hfk
  clear hfk hN9
  refine jp ?_
  refine ja hB0 Tryd.underlying24 (by rfl) info_rg ?_
  refine jc (.int .i64 0) (fun X hX hF => mo (sckV r (.slice A r.length c) X (HR1.out X (bel_next hb hX))) (by rw [HC.out])) ?_
  refine jv (.bool false) (exec_nei _ _ _ _ (by rfl) .i64 0 0 (by rfl) (by rfl) false (by rfl)) ?_
  refine jm (.bool false) ?_
  refine jn (.pointer (some ⟨(w.heap.size + 1), 0, none⟩)) ?_
  refine jf (.slice A1 n1 c1) hB1 0 load_sl_b ?_
  refine jc (.bool true) (fun X hX hF => mo (shoC A1 n1 c1 l1 X (HRL1.out X (bel_next hb hX)) HLN1.out (by omega) HSB1.out) (by rw [HS1.out])) ?_
  refine jm (.bool false) ?_
  refine jm (.bool false) ?_
  refine jm (.bool false) ?_
  refine jn (.pointer (some ⟨(w.heap.size + 1), 1, none⟩)) ?_
  refine jf (.slice A2 n2 c2) hB1 1 load_sl_b ?_
  refine jc (.bool true) (fun X hX hF => mo (shoC A2 n2 c2 l2 X (HRL2.out X (bel_next hb hX)) HLN2.out (by omega) HSB2.out) (by rw [HS2.out])) ?_
  refine jm (.bool false) ?_
  refine jm (.bool false) ?_
  refine jm (.bool false) ?_
  refine jn (.pointer (some ⟨w.heap.size, 0, none⟩)) ?_
  refine jf (.slice A r.length c) hB0 0 load_sts ?_
  refine jv (.int .i64 (r.length : Int)) (exec_lenv Tryd.underlying22 _ (by rfl) A r.length c (by rfl) _ rfl) ?_
  refine jv (.bool false) (exec_eqi _ _ _ _ (by rfl) .i64 (r.length : Int) 0 (by rfl) (by rfl) false (decide_eq_false (by omega))) ?_
  refine jm (.bool false) ?_
  refine jz fun X1 hX1 => ?_
  have hB0 := hB0.bel hX1
  have hB1 := hB1.bel hX1
  have hb := bel_next hb hX1
  clear hX1
  go_upto_region 3 with (fail)
  refine jp ?_
  refine jm (.int .u8 a) ?_
  refine jv (.int .i64 a) (exec_cnv _ _ .u8 .i64 Tryd.underlying5 Tryd.underlying3 _ (by rfl) a a (by rfl) (by rw [IntWalk.i64_in _ (by omega)])) ?_
  refine jn (.pointer (some ⟨w.heap.size, 0, none⟩)) ?_
  refine jf (.slice A r.length c) hB0 0 load_sts ?_
  refine jv (.int .i64 (r.length : Int)) (exec_lenv Tryd.underlying22 _ (by rfl) A r.length c (by rfl) _ rfl) ?_
  refine jv (.int .i64 who) (exec_rem _ _ _ _ (by rfl) .i64 a (r.length : Int) who (by rfl) (by rfl) (by omega) (by omega) HWHO.out) ?_
  refine jm (.int .i64 who) ?_
  refine jz fun X2 hX2 => ?_
  have hB0 := hB0.bel hX2
  have hB1 := hB1.bel hX2
  have hb := bel_next hb hX2
  clear hX2
  go_upto_region 4 with (fail)
  refine lx_plain [none, none, none, none, some (Tld la), none, some (Slv la)] (lasts_none (lasts_none (lasts_none (lasts_none (lasts_some (Tld.lasts _) (lasts_none (lasts_some (Slv.lasts _) (lasts_nil)))))))) ?_
  simp only [iX, Nat.reduceAdd]
  refine ja hB0 Tryd.underlying24 (by rfl) info_rg ?_
  refine jm (.int .i64 who) ?_
  refine jn (.pointer (some ⟨(w.heap.size + 1), 0, none⟩)) ?_
  refine jf (.slice A1 n1 c1) hB1 0 load_sl_b ?_
  refine jk (fun X hX hF => (tldC r (.slice A r.length c) who A1 n1 c1 l1 X (HRL1.out X (bel_next hb hX)) HLN1.out (by omega) HSB1.out (HR1.out X (bel_next hb hX)) HC.out (by omega) hw1 HSD1.out (HKK.out X (bel_next hb hX))).mono fun e X' ⟨v, h1, h2, h3⟩ => ⟨v, h1, HLOGA.out ▸ h2, h3⟩) ?_
  intro v52
  refine jm (v52) ?_
  refine lx_new (by rfl) (fun X hX hF => Tld.ext _ (by rfl) (by rfl) (hF _ _ List.mem_cons_self rfl)) ?_
  intro v53
  simp only [pX]
  refine jg (.bool true) (fun X hX hF => Tld.is _ (by rfl) (by rfl) (hF _ _ (List.mem_cons_of_mem _ List.mem_cons_self) rfl)) ?_
  refine jm (v53) ?_
  refine jm (.bool true) ?_
  refine lx_nil ?_
  intro X3 hX3 hF
  have hv52 := hF _ _ (List.mem_cons_of_mem _ List.mem_cons_self)
  have hv53 := hF _ _ List.mem_cons_self
  have hB0 := hB0.bel hX3
  have hB1 := hB1.bel hX3
  have hb := bel_next hb hX3
  clear hF hX3
  obtain ⟨A8, c8, rfl, hL1⟩ := hv53
  rw [HLMA.out] at hL1 ⊢
  clear hv52
  go_upto_region 5 with (fail)
  refine lx_plain [none, none, none, none, some (Tld lb), none, some (Slv lb)] (lasts_none (lasts_none (lasts_none (lasts_none (lasts_some (Tld.lasts _) (lasts_none (lasts_some (Slv.lasts _) (lasts_nil)))))))) ?_
  simp only [iX, Nat.reduceAdd]
  refine ja hB0 Tryd.underlying24 (by rfl) info_rg ?_
  refine jm (.int .i64 who) ?_
  refine jn (.pointer (some ⟨(w.heap.size + 1), 1, none⟩)) ?_
  refine jf (.slice A2 n2 c2) hB1 1 load_sl_b ?_
  refine jk (fun X hX hF => (tldC r (.slice A r.length c) who A2 n2 c2 l2 X (HRL2.out X (bel_next hb hX)) HLN2.out (by omega) HSB2.out (HR1.out X (bel_next hb hX)) HC.out (by omega) hw1 HSD2.out (HKK.out X (bel_next hb hX))).mono fun e X' ⟨v, h1, h2, h3⟩ => ⟨v, h1, HLOGB.out ▸ h2, h3⟩) ?_
  intro v60
  refine jm (v60) ?_
  refine lx_new (by rfl) (fun X hX hF => Tld.ext _ (by rfl) (by rfl) (hF _ _ List.mem_cons_self rfl)) ?_
  intro v61
  simp only [pX]
  refine jg (.bool true) (fun X hX hF => Tld.is _ (by rfl) (by rfl) (hF _ _ (List.mem_cons_of_mem _ List.mem_cons_self) rfl)) ?_
  refine jm (v61) ?_
  refine jm (.bool true) ?_
  refine lx_nil ?_
  intro X4 hX4 hF
  have hv60 := hF _ _ (List.mem_cons_of_mem _ List.mem_cons_self)
  have hv61 := hF _ _ List.mem_cons_self
  have hL1 := hL1.below hX4
  have hB0 := hB0.bel hX4
  have hB1 := hB1.bel hX4
  have hb := bel_next hb hX4
  clear hF hX4
  obtain ⟨A10, c10, rfl, hL2⟩ := hv61
  rw [HLMB.out] at hL2 ⊢
  clear hv60
  go_upto_region 6 with (fail)
  refine jp ?_
  refine ja hB0 Tryd.underlying24 (by rfl) info_rg ?_
  refine jm (.slice A8 n1 c8) ?_
  refine jm (.slice A10 n2 c10) ?_
  refine jc (.tuple #[.int .i64 (N : Int), .int .i64 0]) (fun X hX hF => mo (scoV r (.slice A r.length c) la (.slice A8 n1 c8) lb (.slice A10 n2 c10) X (HR1.out X (bel_next hb hX)) (slv_of HLMA.out (hL1.below hX)) HOKA.out (slv_of HLMB.out (hL2.below hX)) HOKB.out (HKK.out X (bel_next hb hX))) (by rw [HCO.out.1, HCO.out.2])) ?_
  refine jm (.tuple #[.int .i64 (N : Int), .int .i64 0]) ?_
  refine jm (.int .i64 (N : Int)) ?_
  refine jm (.int .i64 0) ?_
  refine jm (.int .i64 (N : Int)) ?_
  refine jm (.int .i64 0) ?_
  refine jz fun X5 hX5 => ?_
  have hL1 := hL1.below hX5
  have hL2 := hL2.below hX5
  have hB0 := hB0.bel hX5
  have hB1 := hB1.bel hX5
  have hb := bel_next hb hX5
  clear hX5
  go_upto_region 7 with (fail)
  refine jp ?_
  refine jm (.bool true) ?_
  refine jm (.bool false) ?_
  refine jm (.bool false) ?_
  refine jm (.bool true) ?_
  refine jm (.bool false) ?_
  refine jm (.bool false) ?_
  refine jm (.bool false) ?_
  refine jm (.int .i64 0) ?_
  refine jv (.bool false) (exec_nei _ _ _ _ (by rfl) .i64 0 0 (by rfl) (by rfl) false (by rfl)) ?_
  refine jm (.bool false) ?_
  refine jm (.bool false) ?_
  refine jm (.int .i64 (N : Int)) ?_
  refine jv (.bool false) (exec_lss _ _ _ _ (by rfl) .i64 (N : Int) 0 (by rfl) (by rfl) false (decide_eq_false (by omega))) ?_
  refine jm (.bool false) ?_
  refine jm (.bool false) ?_
  refine jm (.int .i64 (N : Int)) ?_
  refine jm (.slice A8 n1 c8) ?_
  refine jv (.int .i64 (n1 : Int)) (exec_lenv Tryd.underlying30 _ (by rfl) A8 n1 c8 (by rfl) _ rfl) ?_
  refine jv (.bool false) (exec_gtr _ _ _ _ (by rfl) .i64 (N : Int) (n1 : Int) (by rfl) (by rfl) false (decide_eq_false (by omega))) ?_
  refine jm (.bool false) ?_
  refine jm (.bool false) ?_
  refine jm (.int .i64 (N : Int)) ?_
  refine jm (.slice A10 n2 c10) ?_
  refine jv (.int .i64 (n2 : Int)) (exec_lenv Tryd.underlying30 _ (by rfl) A10 n2 c10 (by rfl) _ rfl) ?_
  refine jv (.bool false) (exec_gtr _ _ _ _ (by rfl) .i64 (N : Int) (n2 : Int) (by rfl) (by rfl) false (decide_eq_false (by omega))) ?_
  refine jm (.bool false) ?_
  refine jz fun X6 hX6 => ?_
  have hL1 := hL1.below hX6
  have hL2 := hL2.below hX6
  have hB0 := hB0.bel hX6
  have hB1 := hB1.bel hX6
  have hb := bel_next hb hX6
  clear hX6
  go_upto_region 9 with (fail)
  refine share [96, 97, 98, 99, 100, 101, 102, 103, 104, 105] (fun f9 X => (f9 105 = .bool false ∧ True) ∧ Since X6 X) ?_ ?_
  · by_cases hq : N < n1
    · refine jp ?_
      refine jm (.int .i64 (N : Int)) ?_
      refine jm (.slice A8 n1 c8) ?_
      refine jv (.int .i64 (n1 : Int)) (exec_lenv Tryd.underlying30 _ (by rfl) A8 n1 c8 (by rfl) _ rfl) ?_
      refine jv (.bool true) (exec_lss _ _ _ _ (by rfl) .i64 (N : Int) (n1 : Int) (by rfl) (by rfl) true (decide_eq_true (by omega))) ?_
      refine jm (.bool true) ?_
      refine jm (.int .i64 (N : Int)) ?_
      refine jm (.slice A10 n2 c10) ?_
      refine jv (.int .i64 (n2 : Int)) (exec_lenv Tryd.underlying30 _ (by rfl) A10 n2 c10 (by rfl) _ rfl) ?_
      refine jv (.bool false) (exec_lss _ _ _ _ (by rfl) .i64 (N : Int) (n2 : Int) (by rfl) (by rfl) false (decide_eq_false (by omega))) ?_
      refine jm (.bool false) ?_
      exact lx_nil fun X hX _ => share_nil ⟨⟨rfl, trivial⟩, hX⟩
    · refine jp ?_
      refine jm (.int .i64 (N : Int)) ?_
      refine jm (.slice A8 n1 c8) ?_
      refine jv (.int .i64 (n1 : Int)) (exec_lenv Tryd.underlying30 _ (by rfl) A8 n1 c8 (by rfl) _ rfl) ?_
      refine jv (.bool false) (exec_lss _ _ _ _ (by rfl) .i64 (N : Int) (n1 : Int) (by rfl) (by rfl) false (decide_eq_false (by omega))) ?_
      refine jm (.bool false) ?_
      refine js ?_
      refine js ?_
      refine js ?_
      refine js ?_
      refine jm (.bool false) ?_
      exact lx_nil fun X hX _ => share_nil ⟨⟨rfl, trivial⟩, hX⟩
  · intro f7 X7 hk9
    obtain ⟨⟨hk7_0, _⟩, hX7⟩ := hk9
    simp only [patch_cons, patch_nil, pX, hk7_0]
    clear hk7_0
    have hL1 := hL1.below hX7
    have hL2 := hL2.below hX7
    have hB0 := hB0.bel hX7
    have hB1 := hB1.bel hX7
    have hb := bel_next hb hX7
    clear hX7
    go_upto_region 12 with (fail)
    refine jp ?_
    refine jm (.slice A8 n1 c8) ?_
    refine jv (.int .i64 (n1 : Int)) (exec_lenv Tryd.underlying30 _ (by rfl) A8 n1 c8 (by rfl) _ rfl) ?_
    refine jm (.int .i64 0) ?_
    refine jz fun X8 hX8 => ?_
    have hL1 := hL1.below hX8
    have hL2 := hL2.below hX8
    have hB0 := hB0.bel hX8
    have hB1 := hB1.bel hX8
    have hb := bel_next hb hX8
    clear hX8
    go_wp2
    go_loopw [132] (fun iv wr => ∃ i : Nat, i ≤ n1 ∧ iv = .int .i64 (i : Int) ∧ Rd wr 37 (.slice A8 n1 c8) n1 (fl slc la) ∧ Rd wr 37 (.slice A10 n2 c10) n2 (fl slc lb) ∧ Blk wr w.heap.size 24 [.slice A r.length c] ∧ Below w.heap.size w wr) (fun iv _ => n1 - (intOf iv).toNat)
    case atStart => exact ⟨0, by omega, rfl, hL1, hL2, hB0, hb⟩
    case round =>
      clear hb hB0 hB1 hL1 hL2
      obtain ⟨i, hi, rfl, hL1, hL2, hB0, hb⟩ := hrel
      obtain ⟨wo, rfl⟩ : ∃ wo : World, wo = wr := ⟨_, rfl⟩
      rcases Nat.lt_or_ge i n1 with hlt | hlt
      · obtain ⟨b, off, rfl, hbb, hall⟩ := hL1.sls HOKA.out HLMA.out (by omega)
        go_upto_region 13 with (fail)
        refine jp ?_
        refine jv (.bool true) (exec_lss _ _ _ _ (by rfl) .i64 (i : Int) (n1 : Int) (by rfl) (by rfl) true (decide_eq_true (by omega))) ?_
        refine jz fun X1 hX1 => ?_
        have hL1 := hL1.below hX1
        have hL2 := hL2.below hX1
        have hall := fun j (hj : j < n1) => (hall j hj).below hX1 hbb
        have hbb := Nat.lt_of_lt_of_le hbb (hX1).size
        have hB0 := hB0.bel hX1
        have hb := bel_next hb hX1
        clear hX1
        go_upto_region 14 with (fail)
        refine jp ?_
        refine jm (.int .i64 (i : Int)) ?_
        refine jm (.int .i64 (i : Int)) ?_
        refine jz fun X2 hX2 => ?_
        have hL1 := hL1.below hX2
        have hL2 := hL2.below hX2
        have hall := fun j (hj : j < n1) => (hall j hj).below hX2 hbb
        have hbb := Nat.lt_of_lt_of_le hbb (hX2).size
        have hB0 := hB0.bel hX2
        have hb := bel_next hb hX2
        clear hX2
        go_upto_region 15 with (fail)
        refine jp ?_
        refine jm (.slice A10 n2 c10) ?_
        refine jv (.int .i64 (n2 : Int)) (exec_lenv Tryd.underlying30 _ (by rfl) A10 n2 c10 (by rfl) _ rfl) ?_
        refine jm (.int .i64 0) ?_
        refine jz fun X3 hX3 => ?_
        have hL1 := hL1.below hX3
        have hL2 := hL2.below hX3
        have hall := fun j (hj : j < n1) => (hall j hj).below hX3 hbb
        have hbb := Nat.lt_of_lt_of_le hbb (hX3).size
        have hB0 := hB0.bel hX3
        have hb := bel_next hb hX3
        clear hX3
        go_wp2
        go_loopw [137] (fun jv wr => ∃ j : Nat, j ≤ n2 ∧ jv = .int .i64 (j : Int) ∧ Rd wr 37 (.slice (some ⟨b, off, none⟩) n1 c8) n1 (fl slc la) ∧ Rd wr 37 (.slice A10 n2 c10) n2 (fl slc lb) ∧ (∀ k, k < n1 → Cl wr b (off + k * 37) (slc (sAt la k))) ∧ b < wr.heap.size ∧ Blk wr w.heap.size 24 [.slice A r.length c] ∧ Below w.heap.size w wr) (fun jv _ => n2 - (intOf jv).toNat)
        case atStart => exact ⟨0, by omega, rfl, hL1, hL2, hall, hbb, hB0, hb⟩
        case round =>
          clear hb hB0 hL1 hL2 hall hbb
          obtain ⟨j, hj, rfl, hL1, hL2, hall, hbb, hB0, hb⟩ := hrel
          rcases Nat.lt_or_ge j n2 with hlj | hlj
          · obtain ⟨b2, off2, rfl, hbb2, hall2⟩ := hL2.sls HOKB.out HLMB.out (by omega)
            go_upto_region 16 with (fail)
            refine jp ?_
            refine jv (.bool true) (exec_lss _ _ _ _ (by rfl) .i64 (j : Int) (n2 : Int) (by rfl) (by rfl) true (decide_eq_true (by omega))) ?_
            refine jz fun X1 hX1 => ?_
            have hL1 := hL1.below hX1
            have hL2 := hL2.below hX1
            have hall := fun j (hj : j < n1) => (hall j hj).below hX1 hbb
            have hbb := Nat.lt_of_lt_of_le hbb (hX1).size
            have hall2 := fun j (hj : j < n2) => (hall2 j hj).below hX1 hbb2
            have hbb2 := Nat.lt_of_lt_of_le hbb2 (hX1).size
            have hB0 := hB0.bel hX1
            have hb := bel_next hb hX1
            clear hX1
            go_upto_block 3 with (fail)
            refine liBody A c r la lb n1 n2 N b off c8 b2 off2 c10 w X1 HR1.out HKK.out HLMA.out HLMB.out HOKA.out HOKB.out HCHA.out HCHB.out HSE.out HLGA.out HLGB.out HNN.out hNa hNb hn20 hn21 hL1 hL2 hall hbb hall2 hbb2 hB0 hb i j hlt hlj _ _ (by kernel_rfl) _ _ _ _ _ _ _ _ _ _ _ _ _ _ _ _ _ _ _ _ _ _ _ _ _ _ _ _ _ _ _ _ _ _ _ _ _ _ _ _ _ _ _ _ _ _ _ _ _ _ _ _ _ _ _ _ _ _ _ _ _ _ _ _ _ _ _ _ _ _ _ _ _ _ _ _ _ _ _ _ _ _ _ _ _ _ _ _ _ _ _ _ _ _ _ _ _ _ _ _ _ _ _ _ _ _ _ _ _ _ _ _ _ _ _ _ _ _ _ _ _ _ _ _ _ _ _ _ _ _ _ _ _ _ _ _ _ _ _ _ _ _ _ _ _ _ _ _ _ _ _ _ _ _ _ _ _ _ _ _ _ _ _ _ _ _ _ _ _ _ _ _ _ _ _ _ _ _ _ _ _ _ _ _ _ _ _ _ _ _ _ _ _ _ _ _ _ _ _ _ _ _ _ _ _ _ _ _ _ _ _ _ _ _ _ _ _ _ _ _ _ _ _ _ _ _ _ _ _ _ _ _ _ _ _ _ _ _ _ _ _ _ _ _ _ _ _ _ _ _ _ _ _ _ _ _ _ _ _ _ _ _ _ _ _ _ _ _ _ _ _ _ _ _ _ _ _ _ _ _ _ _ _ _ _ _ _ _ _ _ _ _ _ _ _ _ _ _ _ ?_
            intro y15 y16 y17 y18 y139 y140 y141 y142 y143 y144 y145 y146 y147 y148 y149 y150 y151 y152 y153 y154 y155 y156 y157 y158 y159 y160 y161 y162 y163 y164 y165 y166 y167 y168 y169 y170 y171 y172 y173 y174 y175 y176 y177 y178 y179 y180 y181 y182 y183 y184 y185 y186 y187 y188 y189 y190 y191 y192 y193 y194 y195 y196 y197 y198 y199 y200 y201 y202 y203 y204 y205 y206 y207 y208 y209 y210 y211 y212 y213 y214 y215 y216 y217 y218 y219 y220 y221 y222 y223 y224 y225 y226 y227 y228 y229 y230 y231 y232 y233 y234 y235 y236 y237 y238 y239 y240 y241 y242 y243 y244 y245 y246 y247 y248 y249 y250 y251 y252 y253 y254 y255 y256 y257 y258 y259 y260 y261 y262 y263 y264 y265 y266 y267 y268 y269 y270 y271 y272 y273 y274 y275 y276 y277 y278 y279 y280 y281 y282 y283 y284 y285 y286 y287 y288 y289 y290 y291 y292 y293 y294 y295 y296 y297 y298 y299 y300 y301 wz hL1 hL2 hall hbb hB0 hb
            go_upto_region 38 with (fail)
            refine jp ?_
            refine jv (.int .i64 ((j + 1 : Nat) : Int)) (exec_add _ _ _ _ (by rfl) (j : Int) 1 ((j + 1 : Nat) : Int) (by rfl) (by rfl) (by omega) (by omega) (by omega)) ?_
            refine jm (.int .i64 ((j + 1 : Nat) : Int)) ?_
            refine jz fun X2 hX2 => ?_
            have hL1 := hL1.below hX2
            have hL2 := hL2.below hX2
            have hall := fun j (hj : j < n1) => (hall j hj).below hX2 hbb
            have hbb := Nat.lt_of_lt_of_le hbb (hX2).size
            have hB0 := hB0.bel hX2
            have hb := bel_next hb hX2
            clear hX2
            go_wp2
            go_roundw
            case rel => exact ⟨j + 1, by omega, rfl, hL1, hL2, hall, hbb, hB0, hb⟩
            case measure => simp [intOf]; omega
          · have hjn : n2 ≤ j := hlj
            go_upto_region 16 with (fail)
            refine jp ?_
            refine jv (.bool false) (exec_lss _ _ _ _ (by rfl) .i64 (j : Int) (n2 : Int) (by rfl) (by rfl) false (decide_eq_false (by omega))) ?_
            refine jz fun X1 hX1 => ?_
            have hL1 := hL1.below hX1
            have hL2 := hL2.below hX1
            have hB0 := hB0.bel hX1
            have hb := bel_next hb hX1
            clear hX1
            go_upto_region 39 with (fail)
            refine jp ?_
            refine jv (.int .i64 ((i + 1 : Nat) : Int)) (exec_add _ _ _ _ (by rfl) (i : Int) 1 ((i + 1 : Nat) : Int) (by rfl) (by rfl) (by omega) (by omega) (by omega)) ?_
            refine jm (.int .i64 ((i + 1 : Nat) : Int)) ?_
            refine jz fun X2 hX2 => ?_
            have hL1 := hL1.below hX2
            have hL2 := hL2.below hX2
            have hB0 := hB0.bel hX2
            have hb := bel_next hb hX2
            clear hX2
            go_wp2
            go_roundw
            case rel => exact ⟨i + 1, by omega, rfl, hL1, hL2, hB0, hb⟩
            case measure => simp [intOf]; omega
      · have hin : n1 ≤ i := hlt
        go_upto_region 13 with (fail)
        refine jp ?_
        refine jv (.bool false) (exec_lss _ _ _ _ (by rfl) .i64 (i : Int) (n1 : Int) (by rfl) (by rfl) false (decide_eq_false (by omega))) ?_
        refine jz fun X1 hX1 => ?_
        have hL1 := hL1.below hX1
        have hB0 := hB0.bel hX1
        have hb := bel_next hb hX1
        clear hX1
        go_upto_region 40 with (fail)
        refine jp ?_
        refine jc (.bool true) (fun X hX hF => sanC X (HKK.out X (bel_next hb hX))) ?_
        refine jm (.bool true) ?_
        refine jz fun X2 hX2 => ?_
        have hL1 := hL1.below hX2
        have hB0 := hB0.bel hX2
        have hb := bel_next hb hX2
        clear hX2
        go_wp2
        go_ret
        exact ⟨rfl, hb⟩
end Go.Proofs.YthinopepcmidmaaDoor
