/-
  Law 48: SealHonestIsSafe.
-/
import Derived.Test.YthinopepcmidmaaDoorLt48
set_option linter.unusedSimpArgs false
set_option linter.unusedVariables false
set_option maxRecDepth 100000
set_option maxHeartbeats 1600000
namespace Go.Proofs.YthinopepcmidmaaDoor
open Go.RowKit

theorem honestW (A : Option Addr) (c : Nat) (r : List (List UInt8)) (a : Int) (Al : Option Addr) (n cl : Nat) (l : List Sd) (w : World) (hr : Sts r (.slice A r.length c) w) (ha : 0 ≤ a ∧ a ≤ 255) (hl : Rd w 3 (.slice Al n cl) n (fl sdc l)) (hln : l.length = n) (hn1 : n ≤ 9223372036854775807) (hsb : ∀ s ∈ l, SdB s) (hK : KK w) : Calls Tryd.prog 5 #[.agg #[.slice A r.length c], .int .u8 a, .slice Al n cl] w fun e w' => e = .returned (.bool true) ∧ Since w w' := by
  have HKK : Hid (∀ X, Since w X → KK X) := fun X h => hK.below h hK.1
  have HR1 : Hid (∀ X, Since w X → Sts r (.slice A r.length c) X) := fun X h => Sts.lasts _ _ _ _ hr h
  have HRL : Hid (∀ X, Since w X → Rd X 3 (.slice Al n cl) n (fl sdc l)) := fun X h => hl.below h
  have HLN := Lib.hid hln
  have HSB := Lib.hid hsb
  clear hr hl hln hsb hK
  obtain ⟨ha0, ha1⟩ := ha
  go_enter Tryd.func5, Tryd.ntmps5
  go_upto_region 1 with (fail)
  obtain ⟨W0, hW0, hB0, hb⟩ := start1 w 24 [.slice A r.length c]
  rw [← hW0]
  clear hW0
  by_cases h1 : rckE r = 0
  · have HC := Lib.hid h1
    clear h1
    cases h2 : shB l
    · have H2 := Lib.hid h2
      clear h2
      refine jp ?_
      refine ja hB0 Tryd.underlying24 (by rfl) info_rg ?_
      refine jc (.int .i64 0) (fun X hX hF => mo (sckV r (.slice A r.length c) X (HR1.out X (bel_next hb hX))) (by rw [HC.out])) ?_
      refine jv (.bool false) (exec_nei _ _ _ _ (by rfl) .i64 0 0 (by rfl) (by rfl) false (by rfl)) ?_
      refine jm (.bool false) ?_
      refine jm (.slice Al n cl) ?_
      refine jc (.bool false) (fun X hX hF => mo (shoC Al n cl l X (HRL.out X (bel_next hb hX)) HLN.out (by omega) HSB.out) (by rw [H2.out])) ?_
      refine jm (.bool true) ?_
      refine jm (.bool true) ?_
      refine jm (.bool true) ?_
      refine js ?_
      refine js ?_
      refine js ?_
      refine js ?_
      refine jm (.bool true) ?_
      refine jz fun X1 hX1 => ?_
      have hB0 := hB0.bel hX1
      have hb := bel_next hb hX1
      clear hX1
      go_upto_region 2 with (fail)
      refine jp ?_
      refine jc (.bool true) (fun X hX hF => sanC X (HKK.out X (bel_next hb hX))) ?_
      refine jm (.bool true) ?_
      refine jz fun X2 hX2 => ?_
      have hB0 := hB0.bel hX2
      have hb := bel_next hb hX2
      clear hX2
      go_wp2
      go_ret
      exact ⟨rfl, hb⟩
    · have HSD := Lib.hid (sdOk_of HSB.out h2)
      have hn20 : n ≤ 20 := by have := HSD.out.few; have := HLN.out; omega
      have H2 := Lib.hid h2
      clear h2
      have hpos := rck_pos HC.out
      obtain ⟨who, hwho⟩ : ∃ x, x = a % (r.length : Int) := ⟨_, rfl⟩
      have hw0 : 0 ≤ who := by rw [hwho]; exact Int.emod_nonneg _ (by omega)
      have hw1 : who < (r.length : Int) := by rw [hwho]; exact Int.emod_lt_of_pos _ (by omega)
      have HWHO : Hid (a % (r.length : Int) = who) := hwho.symm
      clear hwho
      have hrl : r.length ≤ 9223372036854775807 := by obtain ⟨A9, c9, h8, h9⟩ := HR1.out _ hb; exact rd_max h9
      have hto := tl_ok8 HC.out hw0 hw1 HSD.out (k := n) (by rw [HLN.out]; exact Nat.le_refl _)
      have hoa := tl_okA HC.out hw0 hw1 HSD.out hrl (k := n) (by rw [HLN.out]; exact Nat.le_refl _)
      obtain ⟨log, hlog9⟩ : ∃ L, L = tlog r who l n := ⟨_, rfl⟩
      rw [← hlog9] at hto hoa
      have HLOG : Hid (tlog r who l n = log) := hlog9.symm
      clear hlog9
      have HLM := Lib.hid hto.len
      have HOK := Lib.hid hoa
      have HCH := Lib.hid hto.chn
      have HST := Lib.hid hto.st
      clear hto hoa
      have HLG : Hid (lgE mk48 nm48 r log = 0) := lg_of HC.out (by rw [HLM.out]; omega) HCH.out
      have HLO : Hid (log.length = n) := HLM.out
      refine jp ?_
      refine ja hB0 Tryd.underlying24 (by rfl) info_rg ?_
      refine jc (.int .i64 0) (fun X hX hF => mo (sckV r (.slice A r.length c) X (HR1.out X (bel_next hb hX))) (by rw [HC.out])) ?_
      refine jv (.bool false) (exec_nei _ _ _ _ (by rfl) .i64 0 0 (by rfl) (by rfl) false (by rfl)) ?_
      refine jm (.bool false) ?_
      refine jm (.slice Al n cl) ?_
      refine jc (.bool true) (fun X hX hF => mo (shoC Al n cl l X (HRL.out X (bel_next hb hX)) HLN.out (by omega) HSB.out) (by rw [H2.out])) ?_
      refine jm (.bool false) ?_
      refine jm (.bool false) ?_
      refine jm (.bool false) ?_
      refine jn (.pointer (some ⟨w.heap.size, 0, none⟩)) ?_
      refine jf (.slice A r.length c) hB0 0 load_sts ?_
      refine jv (.int .i64 (r.length : Int)) (exec_lenv Tryd.underlying22 _ (by rfl) A r.length c (by rfl) _ rfl) ?_
      refine jv (.bool false) (exec_eqi _ _ _ _ (by rfl) .i64 (r.length : Int) 0 (by rfl) (by rfl) false (decide_eq_false (by omega))) ?_
      refine jm (.bool false) ?_
      refine jz fun X1 hX1 => ?_
      have hB0 := hB0.bel hX1
      have hb := bel_next hb hX1
      clear hX1
      go_upto_region 3 with (fail)
      refine lx_region [none, none, none, none, none, none, none, none, some (Tld log), none, some (Slv log)] (by kernel_rfl) (by kernel_rfl) (lasts_none (lasts_none (lasts_none (lasts_none (lasts_none (lasts_none (lasts_none (lasts_none (lasts_some (Tld.lasts _) (lasts_none (lasts_some (Slv.lasts _) (lasts_nil)))))))))))) ?_
      simp only [iX, Nat.reduceAdd]
      refine ja hB0 Tryd.underlying24 (by rfl) info_rg ?_
      refine jm (.int .u8 a) ?_
      refine jv (.int .i64 a) (exec_cnv _ _ .u8 .i64 Tryd.underlying5 Tryd.underlying3 _ (by rfl) a a (by rfl) (by rw [IntWalk.i64_in _ (by omega)])) ?_
      refine jn (.pointer (some ⟨w.heap.size, 0, none⟩)) ?_
      refine jf (.slice A r.length c) hB0 0 load_sts ?_
      refine jv (.int .i64 (r.length : Int)) (exec_lenv Tryd.underlying22 _ (by rfl) A r.length c (by rfl) _ rfl) ?_
      refine jv (.int .i64 who) (exec_rem _ _ _ _ (by rfl) .i64 a (r.length : Int) who (by rfl) (by rfl) (by omega) (by omega) HWHO.out) ?_
      refine jm (.slice Al n cl) ?_
      refine jk (fun X hX hF => (tldC r (.slice A r.length c) who Al n cl l X (HRL.out X (bel_next hb hX)) HLN.out (by omega) HSB.out (HR1.out X (bel_next hb hX)) HC.out (by omega) hw1 HSD.out (HKK.out X (bel_next hb hX))).mono fun e X' ⟨v, h1, h2, h3⟩ => ⟨v, h1, HLOG.out ▸ h2, h3⟩) ?_
      intro v37
      refine jm (v37) ?_
      refine lx_new (by rfl) (fun X hX hF => Tld.ext _ (by rfl) (by rfl) (hF _ _ List.mem_cons_self rfl)) ?_
      intro v38
      simp only [pX]
      refine jg (.bool true) (fun X hX hF => Tld.is _ (by rfl) (by rfl) (hF _ _ (List.mem_cons_of_mem _ List.mem_cons_self) rfl)) ?_
      refine jm (v38) ?_
      refine jm (.bool true) ?_
      refine lx_nil ?_
      intro X2 hX2 hF
      have hv37 := hF _ _ (List.mem_cons_of_mem _ List.mem_cons_self)
      have hv38 := hF _ _ List.mem_cons_self
      have hB0 := hB0.bel hX2
      have hb := bel_next hb hX2
      clear hF hX2
      obtain ⟨A7, c7, rfl, hL⟩ := hv38
      rw [HLM.out] at hL ⊢
      clear hv37
      go_upto_region 4 with (fail)
      refine jp ?_
      refine jm (.bool true) ?_
      refine jm (.bool false) ?_
      refine jm (.bool false) ?_
      refine ja hB0 Tryd.underlying24 (by rfl) info_rg ?_
      refine jm (.slice A7 n c7) ?_
      refine jc (.int .i64 0) (fun X hX hF => mo (slgV r (.slice A r.length c) log (.slice A7 n c7) X (HR1.out X (bel_next hb hX)) (slv_of HLM.out (hL.below hX)) HOK.out (HKK.out X (bel_next hb hX))) (by rw [HLG.out])) ?_
      refine jv (.bool false) (exec_nei _ _ _ _ (by rfl) .i64 0 0 (by rfl) (by rfl) false (by rfl)) ?_
      refine jm (.bool false) ?_
      refine jm (.bool false) ?_
      refine jm (.slice A7 n c7) ?_
      refine jv (.int .i64 (n : Int)) (exec_lenv Tryd.underlying30 _ (by rfl) A7 n c7 (by rfl) _ rfl) ?_
      refine jm (.slice Al n cl) ?_
      refine jv (.int .i64 (n : Int)) (exec_lenv Tryd.underlying53 _ (by rfl) Al n cl (by rfl) _ rfl) ?_
      refine jv (.bool false) (exec_nei _ _ _ _ (by rfl) .i64 (n : Int) (n : Int) (by rfl) (by rfl) false (by rw [decide_eq_true (by omega)]; rfl)) ?_
      refine jm (.bool false) ?_
      refine jz fun X3 hX3 => ?_
      have hL := hL.below hX3
      have hB0 := hB0.bel hX3
      have hb := bel_next hb hX3
      clear hX3
      go_upto_region 6 with (fail)
      refine jp ?_
      refine jm (.slice A7 n c7) ?_
      refine jv (.int .i64 (n : Int)) (exec_lenv Tryd.underlying30 _ (by rfl) A7 n c7 (by rfl) _ rfl) ?_
      refine jm (.int .i64 0) ?_
      refine jz fun X4 hX4 => ?_
      have hL := hL.below hX4
      have hB0 := hB0.bel hX4
      have hb := bel_next hb hX4
      clear hX4
      go_wp2
      go_loopw [57] (fun kv wr => ∃ k : Nat, k ≤ n ∧ kv = .int .i64 (k : Int) ∧ Rd wr 37 (.slice A7 n c7) n (fl slc log) ∧ Blk wr w.heap.size 24 [.slice A r.length c] ∧ Below w.heap.size w wr) (fun kv _ => n - (intOf kv).toNat)
      case atStart => exact ⟨0, by omega, rfl, hL, hB0, hb⟩
      case round =>
        clear hb hB0 hL
        obtain ⟨k, hk, rfl, hL, hB0, hb⟩ := hrel
        obtain ⟨wo, rfl⟩ : ∃ wo : World, wo = wr := ⟨_, rfl⟩
        rcases Nat.lt_or_ge k n with hlt | hlt
        · obtain ⟨b, off, rfl, hbb, hall⟩ := hL.sls HOK.out HLM.out (by omega)
          go_upto_region 7 with (fail)
          refine jp ?_
          refine jv (.bool true) (exec_lss _ _ _ _ (by rfl) .i64 (k : Int) (n : Int) (by rfl) (by rfl) true (decide_eq_true (by omega))) ?_
          refine jz fun X1 hX1 => ?_
          have hL := hL.below hX1
          have hall := fun j (hj : j < n) => (hall j hj).below hX1 hbb
          have hbb := Nat.lt_of_lt_of_le hbb (hX1).size
          have hB0 := hB0.bel hX1
          have hb := bel_next hb hX1
          clear hX1
          go_upto_region 8 with (fail)
          refine jp ?_
          refine jm (.int .i64 (k : Int)) ?_
          refine jm (.int .i64 (k : Int)) ?_
          refine jz fun X2 hX2 => ?_
          have hL := hL.below hX2
          have hall := fun j (hj : j < n) => (hall j hj).below hX2 hbb
          have hbb := Nat.lt_of_lt_of_le hbb (hX2).size
          have hB0 := hB0.bel hX2
          have hb := bel_next hb hX2
          clear hX2
          go_upto_region 9 with (fail)
          refine jp ?_
          refine jm (.slice (some ⟨b, off, none⟩) n c7) ?_
          refine jv (.int .i64 (n : Int)) (exec_lenv Tryd.underlying30 _ (by rfl) (some ⟨b, off, none⟩) n c7 (by rfl) _ rfl) ?_
          refine jm (.int .i64 0) ?_
          refine jz fun X3 hX3 => ?_
          have hL := hL.below hX3
          have hall := fun j (hj : j < n) => (hall j hj).below hX3 hbb
          have hbb := Nat.lt_of_lt_of_le hbb (hX3).size
          have hB0 := hB0.bel hX3
          have hb := bel_next hb hX3
          clear hX3
          go_wp2
          go_loopw [62] (fun jv wr => ∃ j : Nat, j ≤ n ∧ jv = .int .i64 (j : Int) ∧ Rd wr 37 (.slice (some ⟨b, off, none⟩) n c7) n (fl slc log) ∧ (∀ j, j < n → Cl wr b (off + j * 37) (slc (sAt log j))) ∧ b < wr.heap.size ∧ Blk wr w.heap.size 24 [.slice A r.length c] ∧ Below w.heap.size w wr) (fun jv _ => n - (intOf jv).toNat)
          case atStart => exact ⟨0, by omega, rfl, hL, hall, hbb, hB0, hb⟩
          case round =>
            clear hb hB0 hL hall hbb
            obtain ⟨j, hj, rfl, hL, hall, hbb, hB0, hb⟩ := hrel
            rcases Nat.lt_or_ge j n with hlj | hlj
            · have hcx := hall k hlt
              have hcy := hall j hlj
              have ox := ok_at HOK.out (k := k) (by rw [HLM.out]; exact hlt)
              have oy := ok_at HOK.out (k := j) (by rw [HLM.out]; exact hlj)
              have hct := ctr_own mk48 nm48 HCH.out (i := k) (j := j) (by rw [HLM.out]; exact hlt) (by rw [HLM.out]; exact hlj)
              obtain ⟨x, hx9⟩ : ∃ x, x = sAt log k := ⟨_, rfl⟩
              obtain ⟨y, hy9⟩ : ∃ y, y = sAt log j := ⟨_, rfl⟩
              rw [← hx9] at hcx ox hct
              rw [← hy9] at hcy oy hct
              have HCT := Lib.hid hct
              clear hct hx9 hy9
              have hbc := hbb
              go_upto_region 10 with (fail)
              refine jp ?_
              refine jv (.bool true) (exec_lss _ _ _ _ (by rfl) .i64 (j : Int) (n : Int) (by rfl) (by rfl) true (decide_eq_true (by omega))) ?_
              refine jz fun X1 hX1 => ?_
              have hL := hL.below hX1
              have hall := fun j (hj : j < n) => (hall j hj).below hX1 hbb
              have hbb := Nat.lt_of_lt_of_le hbb (hX1).size
              have hB0 := hB0.bel hX1
              have hcx := hcx.below hX1 hbc
              have hcy := hcy.below hX1 hbc
              replace hbc := Nat.lt_of_lt_of_le hbc (hX1).size
              have hb := bel_next hb hX1
              clear hX1
              go_upto_region 11 with (fail)
              refine jp ?_
              refine jm (.int .i64 (j : Int)) ?_
              refine jm (.int .i64 (j : Int)) ?_
              refine jz fun X2 hX2 => ?_
              have hL := hL.below hX2
              have hall := fun j (hj : j < n) => (hall j hj).below hX2 hbb
              have hbb := Nat.lt_of_lt_of_le hbb (hX2).size
              have hB0 := hB0.bel hX2
              have hcx := hcx.below hX2 hbc
              have hcy := hcy.below hX2 hbc
              replace hbc := Nat.lt_of_lt_of_le hbc (hX2).size
              have hb := bel_next hb hX2
              clear hX2
              go_upto_region 12 with (fail)
              refine jd ?_
              refine ja hB0 Tryd.underlying24 (by rfl) info_rg ?_
              refine jm (.slice (some ⟨b, off, none⟩) n c7) ?_
              refine jm (.int .i64 (k : Int)) ?_
              refine jv (.pointer (some ⟨b, off + k * 37, none⟩)) (exec_ixv Tryd.underlying30 info_sl _ _ (by rfl) b (off) n c7 k (by omega) (by rfl) (by rfl) rfl) ?_
              refine jg (.agg (slc x).toArray) (fun X hX hF => exec_ldc 28 _ (by rfl) b (off + k * 37) (by rfl) Tryd.underlying28 rfl (slc x) X (hcx.below hX hbc) (info_slc ox)) ?_
              refine jm (.slice (some ⟨b, off, none⟩) n c7) ?_
              refine jm (.int .i64 (j : Int)) ?_
              refine jv (.pointer (some ⟨b, off + j * 37, none⟩)) (exec_ixv Tryd.underlying30 info_sl _ _ (by rfl) b (off) n c7 j (by omega) (by rfl) (by rfl) rfl) ?_
              refine jg (.agg (slc y).toArray) (fun X hX hF => exec_ldc 28 _ (by rfl) b (off + j * 37) (by rfl) Tryd.underlying28 rfl (slc y) X (hcy.below hX hbc) (info_slc oy)) ?_
              refine jc (.int .i64 0) (fun X hX hF => mo (sctV r (.slice A r.length c) x y X (HR1.out X (bel_next hb hX)) ox oy (HKK.out X (bel_next hb hX))) (by rw [HCT.out])) ?_
              refine jv (.bool false) (exec_nei _ _ _ _ (by rfl) .i64 0 0 (by rfl) (by rfl) false (by rfl)) ?_
              refine jz fun X3 hX3 => ?_
              have hL := hL.below hX3
              have hall := fun j (hj : j < n) => (hall j hj).below hX3 hbb
              have hbb := Nat.lt_of_lt_of_le hbb (hX3).size
              have hB0 := hB0.bel hX3
              have hcx := hcx.below hX3 hbc
              have hcy := hcy.below hX3 hbc
              replace hbc := Nat.lt_of_lt_of_le hbc (hX3).size
              have hb := bel_next hb hX3
              clear hX3
              go_upto_region 14 with (fail)
              refine jp ?_
              refine jv (.int .i64 ((j + 1 : Nat) : Int)) (exec_add _ _ _ _ (by rfl) (j : Int) 1 ((j + 1 : Nat) : Int) (by rfl) (by rfl) (by omega) (by omega) (by omega)) ?_
              refine jm (.int .i64 ((j + 1 : Nat) : Int)) ?_
              refine jz fun X4 hX4 => ?_
              have hL := hL.below hX4
              have hall := fun j (hj : j < n) => (hall j hj).below hX4 hbb
              have hbb := Nat.lt_of_lt_of_le hbb (hX4).size
              have hB0 := hB0.bel hX4
              have hb := bel_next hb hX4
              clear hX4
              go_wp2
              go_roundw
              case rel => exact ⟨j + 1, by omega, rfl, hL, hall, hbb, hB0, hb⟩
              case measure => simp [intOf]; omega
            · have hcc := hL.form
              obtain ⟨A9, c9, h9, hcc, _⟩ := hcc
              injection h9 with _ _ h9
              subst h9
              have hcx := hall k hlt
              have ox := ok_at HOK.out (k := k) (by rw [HLM.out]; exact hlt)
              have hrx := HCH.out.rgt k (by rw [HLM.out]; exact hlt)
              obtain ⟨x, hx9⟩ : ∃ x, x = sAt log k := ⟨_, rfl⟩
              rw [← hx9] at hcx ox hrx
              have HX : Hid (sAt log k = x) := hx9.symm
              have HRX := Lib.hid hrx
              clear hrx hx9
              have hbc := hbb
              have hcm := com_take mk48 nm48 HC.out HCH.out (by rw [HLM.out]; omega) (i := k) (by rw [HLM.out]; omega)
              have HCOM := Lib.hid (And.intro hcm.2 hcm.1)
              clear hcm
              by_cases hk0 : k = 0
              · go_upto_region 10 with (fail)
                refine jp ?_
                refine jv (.bool false) (exec_lss _ _ _ _ (by rfl) .i64 (j : Int) (n : Int) (by rfl) (by rfl) false (decide_eq_false (by omega))) ?_
                refine jz fun X1 hX1 => ?_
                have hL := hL.below hX1
                have hall := fun j (hj : j < n) => (hall j hj).below hX1 hbb
                have hbb := Nat.lt_of_lt_of_le hbb (hX1).size
                have hB0 := hB0.bel hX1
                have hcx := hcx.below hX1 hbc
                replace hbc := Nat.lt_of_lt_of_le hbc (hX1).size
                have hb := bel_next hb hX1
                clear hX1
                go_upto_region 15 with (fail)
                refine jd ?_
                refine ja hB0 Tryd.underlying24 (by rfl) info_rg ?_
                refine jm (.slice (some ⟨b, off, none⟩) n c7) ?_
                refine jm (.int .i64 (k : Int)) ?_
                refine jv (.slice (some ⟨b, off, none⟩) k c7) (exec_pre Tryd.underlying30 info_sl _ _ (by rfl) (some ⟨b, off, none⟩) n c7 k (by omega) (by rfl) (by rfl) rfl) ?_
                refine jm (.slice (some ⟨b, off, none⟩) n c7) ?_
                refine jc (.tuple #[.int .i64 (k : Int), .int .i64 0]) (fun X hX hF => mo (scoV r (.slice A r.length c) (log.take k) (.slice (some ⟨b, off, none⟩) k c7) log (.slice (some ⟨b, off, none⟩) n c7) X (HR1.out X (bel_next hb hX)) (slv_pre HOK.out HLM.out (hL.below hX) (by omega)) (all_take HOK.out k) (slv_of HLM.out (hL.below hX)) HOK.out (HKK.out X (bel_next hb hX))) (by rw [HCOM.out.1, HCOM.out.2])) ?_
                refine jm (.tuple #[.int .i64 (k : Int), .int .i64 0]) ?_
                refine jm (.int .i64 (k : Int)) ?_
                refine jm (.int .i64 0) ?_
                refine jm (.int .i64 (k : Int)) ?_
                refine jm (.int .i64 0) ?_
                refine jz fun X2 hX2 => ?_
                have hL := hL.below hX2
                have hall := fun j (hj : j < n) => (hall j hj).below hX2 hbb
                have hbb := Nat.lt_of_lt_of_le hbb (hX2).size
                have hB0 := hB0.bel hX2
                have hcx := hcx.below hX2 hbc
                replace hbc := Nat.lt_of_lt_of_le hbc (hX2).size
                have hb := bel_next hb hX2
                clear hX2
                go_upto_region 16 with (fail)
                refine jd ?_
                refine jm (.int .i64 (k : Int)) ?_
                refine jm (.int .i64 (k : Int)) ?_
                refine jv (.bool false) (exec_nei _ _ _ _ (by rfl) .i64 (k : Int) (k : Int) (by rfl) (by rfl) false (by rw [decide_eq_true (by omega)]; rfl)) ?_
                refine jm (.bool false) ?_
                refine jm (.int .i64 0) ?_
                refine jv (.bool false) (exec_nei _ _ _ _ (by rfl) .i64 0 0 (by rfl) (by rfl) false (by rfl)) ?_
                refine jm (.bool false) ?_
                refine jm (.bool false) ?_
                refine ja hB0 Tryd.underlying24 (by rfl) info_rg ?_
                refine jm (.slice (some ⟨b, off, none⟩) n c7) ?_
                refine jm (.int .i64 (k : Int)) ?_
                refine jv (.pointer (some ⟨b, off + k * 37, none⟩)) (exec_ixv Tryd.underlying30 info_sl _ _ (by rfl) b (off) n c7 k (by omega) (by rfl) (by rfl) rfl) ?_
                refine jg (.agg (slc x).toArray) (fun X hX hF => exec_ldc 28 _ (by rfl) b (off + k * 37) (by rfl) Tryd.underlying28 rfl (slc x) X (hcx.below hX hbc) (info_slc ox)) ?_
                refine jc (.bool true) (fun X hX hF => mo (srgV r (.slice A r.length c) x X (HR1.out X (bel_next hb hX)) ox (HKK.out X (bel_next hb hX))) (by rw [HRX.out])) ?_
                refine jm (.bool false) ?_
                refine jm (.bool false) ?_
                refine jm (.bool false) ?_
                refine jm (.int .i64 (k : Int)) ?_
                refine jv (.bool false) (exec_gtr _ _ _ _ (by rfl) .i64 (k : Int) 0 (by rfl) (by rfl) false (decide_eq_false (by omega))) ?_
                refine jm (.bool false) ?_
                refine js ?_
                refine js ?_
                refine js ?_
                refine js ?_
                refine js ?_
                refine js ?_
                refine js ?_
                refine js ?_
                refine js ?_
                refine js ?_
                refine js ?_
                refine js ?_
                refine jm (.bool false) ?_
                refine jm (.bool false) ?_
                refine jz fun X3 hX3 => ?_
                have hL := hL.below hX3
                have hall := fun j (hj : j < n) => (hall j hj).below hX3 hbb
                have hbb := Nat.lt_of_lt_of_le hbb (hX3).size
                have hB0 := hB0.bel hX3
                have hcx := hcx.below hX3 hbc
                replace hbc := Nat.lt_of_lt_of_le hbc (hX3).size
                have hb := bel_next hb hX3
                clear hX3
                go_upto_region 18 with (fail)
                refine jp ?_
                refine jv (.int .i64 ((k + 1 : Nat) : Int)) (exec_add _ _ _ _ (by rfl) (k : Int) 1 ((k + 1 : Nat) : Int) (by rfl) (by rfl) (by omega) (by omega) (by omega)) ?_
                refine jm (.int .i64 ((k + 1 : Nat) : Int)) ?_
                refine jz fun X4 hX4 => ?_
                have hL := hL.below hX4
                have hall := fun j (hj : j < n) => (hall j hj).below hX4 hbb
                have hbb := Nat.lt_of_lt_of_le hbb (hX4).size
                have hB0 := hB0.bel hX4
                have hb := bel_next hb hX4
                clear hX4
                go_wp2
                go_roundw
                case rel => exact ⟨k + 1, by omega, rfl, hL, hB0, hb⟩
                case measure => simp [intOf]; omega
              · have hcy := hall (k - 1) (by omega)
                have oy := ok_at HOK.out (k := k - 1) (by rw [HLM.out]; omega)
                have hyb := lg_bd HLG.out (k := k - 1) (by rw [HLM.out]; omega)
                have hpv := HCH.out.pv k (by rw [HLM.out]; exact hlt)
                unfold bfr at hpv
                rw [if_neg (by omega)] at hpv
                obtain ⟨y, hy9⟩ : ∃ y, y = sAt log (k - 1) := ⟨_, rfl⟩
                rw [← hy9] at hcy oy hyb hpv
                rw [HX.out] at hpv
                have HPV := Lib.hid hpv
                clear hpv hy9
                go_upto_region 10 with (fail)
                refine jp ?_
                refine jv (.bool false) (exec_lss _ _ _ _ (by rfl) .i64 (j : Int) (n : Int) (by rfl) (by rfl) false (decide_eq_false (by omega))) ?_
                refine jz fun X1 hX1 => ?_
                have hL := hL.below hX1
                have hall := fun j (hj : j < n) => (hall j hj).below hX1 hbb
                have hbb := Nat.lt_of_lt_of_le hbb (hX1).size
                have hB0 := hB0.bel hX1
                have hcx := hcx.below hX1 hbc
                have hcy := hcy.below hX1 hbc
                replace hbc := Nat.lt_of_lt_of_le hbc (hX1).size
                have hb := bel_next hb hX1
                clear hX1
                go_upto_region 15 with (fail)
                refine jd ?_
                refine ja hB0 Tryd.underlying24 (by rfl) info_rg ?_
                refine jm (.slice (some ⟨b, off, none⟩) n c7) ?_
                refine jm (.int .i64 (k : Int)) ?_
                refine jv (.slice (some ⟨b, off, none⟩) k c7) (exec_pre Tryd.underlying30 info_sl _ _ (by rfl) (some ⟨b, off, none⟩) n c7 k (by omega) (by rfl) (by rfl) rfl) ?_
                refine jm (.slice (some ⟨b, off, none⟩) n c7) ?_
                refine jc (.tuple #[.int .i64 (k : Int), .int .i64 0]) (fun X hX hF => mo (scoV r (.slice A r.length c) (log.take k) (.slice (some ⟨b, off, none⟩) k c7) log (.slice (some ⟨b, off, none⟩) n c7) X (HR1.out X (bel_next hb hX)) (slv_pre HOK.out HLM.out (hL.below hX) (by omega)) (all_take HOK.out k) (slv_of HLM.out (hL.below hX)) HOK.out (HKK.out X (bel_next hb hX))) (by rw [HCOM.out.1, HCOM.out.2])) ?_
                refine jm (.tuple #[.int .i64 (k : Int), .int .i64 0]) ?_
                refine jm (.int .i64 (k : Int)) ?_
                refine jm (.int .i64 0) ?_
                refine jm (.int .i64 (k : Int)) ?_
                refine jm (.int .i64 0) ?_
                refine jz fun X2 hX2 => ?_
                have hL := hL.below hX2
                have hall := fun j (hj : j < n) => (hall j hj).below hX2 hbb
                have hbb := Nat.lt_of_lt_of_le hbb (hX2).size
                have hB0 := hB0.bel hX2
                have hcx := hcx.below hX2 hbc
                have hcy := hcy.below hX2 hbc
                replace hbc := Nat.lt_of_lt_of_le hbc (hX2).size
                have hb := bel_next hb hX2
                clear hX2
                go_upto_region 16 with (fail)
                refine jd ?_
                refine jm (.int .i64 (k : Int)) ?_
                refine jm (.int .i64 (k : Int)) ?_
                refine jv (.bool false) (exec_nei _ _ _ _ (by rfl) .i64 (k : Int) (k : Int) (by rfl) (by rfl) false (by rw [decide_eq_true (by omega)]; rfl)) ?_
                refine jm (.bool false) ?_
                refine jm (.int .i64 0) ?_
                refine jv (.bool false) (exec_nei _ _ _ _ (by rfl) .i64 0 0 (by rfl) (by rfl) false (by rfl)) ?_
                refine jm (.bool false) ?_
                refine jm (.bool false) ?_
                refine ja hB0 Tryd.underlying24 (by rfl) info_rg ?_
                refine jm (.slice (some ⟨b, off, none⟩) n c7) ?_
                refine jm (.int .i64 (k : Int)) ?_
                refine jv (.pointer (some ⟨b, off + k * 37, none⟩)) (exec_ixv Tryd.underlying30 info_sl _ _ (by rfl) b (off) n c7 k (by omega) (by rfl) (by rfl) rfl) ?_
                refine jg (.agg (slc x).toArray) (fun X hX hF => exec_ldc 28 _ (by rfl) b (off + k * 37) (by rfl) Tryd.underlying28 rfl (slc x) X (hcx.below hX hbc) (info_slc ox)) ?_
                refine jc (.bool true) (fun X hX hF => mo (srgV r (.slice A r.length c) x X (HR1.out X (bel_next hb hX)) ox (HKK.out X (bel_next hb hX))) (by rw [HRX.out])) ?_
                refine jm (.bool false) ?_
                refine jm (.bool false) ?_
                refine jm (.bool false) ?_
                refine jm (.int .i64 (k : Int)) ?_
                refine jv (.bool true) (exec_gtr _ _ _ _ (by rfl) .i64 (k : Int) 0 (by rfl) (by rfl) true (decide_eq_true (by omega))) ?_
                refine jm (.bool true) ?_
                refine jm (.slice (some ⟨b, off, none⟩) n c7) ?_
                refine jm (.int .i64 (k : Int)) ?_
                refine jv (.pointer (some ⟨b, off + k * 37, none⟩)) (exec_ixv Tryd.underlying30 info_sl _ _ (by rfl) b (off) n c7 k (by omega) (by rfl) (by rfl) rfl) ?_
                refine jn (.pointer (some ⟨b, off + k * 37 + 5, none⟩)) ?_
                refine jg (.agg (x.pv.map B8).toArray) (fun X hX hF => exec_ldc 26 _ (by rfl) b (off + k * 37 + 5) (by rfl) Tryd.underlying26 rfl (x.pv.map B8) X (Cl.part (hcx.below hX hbc) 5 _ (slc_pv ox)) (info_d16 ox.pv)) ?_
                refine jm (.slice (some ⟨b, off, none⟩) n c7) ?_
                refine jm (.int .i64 (k : Int)) ?_
                refine jv (.int .i64 ((k : Int) - 1)) (exec_sub _ _ _ _ (by rfl) (k : Int) 1 ((k : Int) - 1) (by rfl) (by rfl) (by omega) (by omega) (by omega)) ?_
                refine jv (.pointer (some ⟨b, off + (k - 1) * 37, none⟩)) (exec_ixv Tryd.underlying30 info_sl _ _ (by rfl) b (off) n c7 (k - 1) (by omega) (by rfl) (by rfl) (by omega)) ?_
                refine jg (.agg (slc y).toArray) (fun X hX hF => exec_ldc 28 _ (by rfl) b (off + (k - 1) * 37) (by rfl) Tryd.underlying28 rfl (slc y) X (hcy.below hX hbc) (info_slc oy)) ?_
                refine jc (.agg ((nm48 y).map B8).toArray) (fun X hX hF => snmC y X oy (by omega) (HKK.out X (bel_next hb hX))) ?_
                refine jv (.bool false) (exec_nedg _ _ _ (by rfl) x.pv (nm48 y) ox.pv (nm_len _) (by rfl) (by rfl) _ (nes_f HPV.out)) ?_
                refine jm (.bool false) ?_
                refine jm (.bool false) ?_
                refine jz fun X3 hX3 => ?_
                have hL := hL.below hX3
                have hall := fun j (hj : j < n) => (hall j hj).below hX3 hbb
                have hbb := Nat.lt_of_lt_of_le hbb (hX3).size
                have hB0 := hB0.bel hX3
                have hcx := hcx.below hX3 hbc
                have hcy := hcy.below hX3 hbc
                replace hbc := Nat.lt_of_lt_of_le hbc (hX3).size
                have hb := bel_next hb hX3
                clear hX3
                go_upto_region 18 with (fail)
                refine jp ?_
                refine jv (.int .i64 ((k + 1 : Nat) : Int)) (exec_add _ _ _ _ (by rfl) (k : Int) 1 ((k + 1 : Nat) : Int) (by rfl) (by rfl) (by omega) (by omega) (by omega)) ?_
                refine jm (.int .i64 ((k + 1 : Nat) : Int)) ?_
                refine jz fun X4 hX4 => ?_
                have hL := hL.below hX4
                have hall := fun j (hj : j < n) => (hall j hj).below hX4 hbb
                have hbb := Nat.lt_of_lt_of_le hbb (hX4).size
                have hB0 := hB0.bel hX4
                have hb := bel_next hb hX4
                clear hX4
                go_wp2
                go_roundw
                case rel => exact ⟨k + 1, by omega, rfl, hL, hB0, hb⟩
                case measure => simp [intOf]; omega
        · have hkn : k = n := by omega
          go_upto_region 7 with (fail)
          refine jp ?_
          refine jv (.bool false) (exec_lss _ _ _ _ (by rfl) .i64 (k : Int) (n : Int) (by rfl) (by rfl) false (decide_eq_false (by omega))) ?_
          refine jz fun X1 hX1 => ?_
          have hL := hL.below hX1
          have hB0 := hB0.bel hX1
          have hb := bel_next hb hX1
          clear hX1
          go_upto_region 19 with (fail)
          refine jp ?_
          refine jc (.bool true) (fun X hX hF => sanC X (HKK.out X (bel_next hb hX))) ?_
          refine jm (.bool true) ?_
          refine jz fun X2 hX2 => ?_
          have hL := hL.below hX2
          have hB0 := hB0.bel hX2
          have hb := bel_next hb hX2
          clear hX2
          go_wp2
          go_ret
          exact ⟨rfl, hb⟩
  · obtain ⟨e1, he19⟩ : ∃ e1, e1 = rckE r := ⟨_, rfl⟩
    have HE1 : Hid (rckE r = e1) := he19.symm
    rw [← he19] at h1
    have H1 : Hid (¬ e1 = 0) := h1
    clear h1 he19
    refine jp ?_
    refine ja hB0 Tryd.underlying24 (by rfl) info_rg ?_
    refine jc (.int .i64 e1) (fun X hX hF => mo (sckV r (.slice A r.length c) X (HR1.out X (bel_next hb hX))) (by rw [HE1.out])) ?_
    refine jv (.bool true) (exec_nei _ _ _ _ (by rfl) .i64 e1 0 (by rfl) (by rfl) true (by rw [decide_eq_false H1.out]; rfl)) ?_
    refine jm (.bool true) ?_
    refine js ?_
    refine js ?_
    refine js ?_
    refine jm (.bool true) ?_
    refine jm (.bool true) ?_
    refine js ?_
    refine js ?_
    refine js ?_
    refine js ?_
    refine jm (.bool true) ?_
    refine jz fun X1 hX1 => ?_
    have hB0 := hB0.bel hX1
    have hb := bel_next hb hX1
    clear hX1
    go_upto_region 2 with (fail)
    refine jp ?_
    refine jc (.bool true) (fun X hX hF => sanC X (HKK.out X (bel_next hb hX))) ?_
    refine jm (.bool true) ?_
    refine jz fun X2 hX2 => ?_
    have hB0 := hB0.bel hX2
    have hb := bel_next hb hX2
    clear hX2
    go_wp2
    go_ret
    exact ⟨rfl, hb⟩

end Go.Proofs.YthinopepcmidmaaDoor
