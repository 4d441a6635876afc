/-
  Law 48: short, told.
-/
import Derived.Test.YthinopepcmidmaaDoorS48
import Derived.Test.YthinopepcmidmaaDoorOq48
set_option linter.unusedSimpArgs false
set_option linter.unusedVariables false
set_option maxRecDepth 100000
set_option maxHeartbeats 1600000
namespace Go.Proofs.YthinopepcmidmaaDoor
open Go.RowKit
theorem info_sd : (Tryd.prog.info? 72).map (·.size) = some 3 := by kernel_rfl
theorem load_by (b k : Nat) (X : World) (v : Value) (h : X.cell? ⟨b, k, none⟩ = some v) : (loadVar 5 ⟨b, k, none⟩).run Tryd.prog X = .ok v X := by
  go_simp
theorem Rd.sds {w : World} {A : Option Addr} {m c : Nat} {l : List Sd} (h : Rd w 3 (.slice A m c) m (fl sdc l)) (hl : l.length = m) (hm : 0 < m) : ∃ b off, A = some ⟨b, off, none⟩ ∧ b < w.heap.size ∧ ∀ k, k < m → Cl w b (off + k * 3) (sdc (sdAt l k)) := by
  obtain ⟨b, off, _, hA, hb, _⟩ := h.atF (m := 3) (fun x _ => sdc_len x) (by omega) (k := 0) (by omega)
  refine ⟨b, off, hA, hb, fun k hk => ?_⟩
  obtain ⟨b2, off2, x, hA2, hb2, hc, _, hd⟩ := h.atF (m := 3) (fun x _ => sdc_len x) (by omega) (k := k) (by omega)
  rw [hA] at hA2
  injection hA2 with hA2
  injection hA2 with e1 e2
  subst e1 e2
  have e : sdAt l k = x := by
    have h9 := hd.out
    unfold sdAt
    rw [List.getD_eq_getElem?_getD, List.getElem?_eq_getElem (by omega)]
    rw [List.drop_eq_getElem_cons (by omega)] at h9
    injection h9
  rw [e]
  exact hc
/-- Whether few things are said. -/
def shB (l : List Sd) : Bool := decide (l.length ≤ 20 ∧ ∀ k, k < l.length → (sdAt l k).2.2.length ≤ 100)
theorem shB_t {l : List Sd} (h1 : l.length ≤ 20) (h : ∀ k, k < l.length → (sdAt l k).2.2.length ≤ 100) : shB l = true := decide_eq_true ⟨h1, h⟩
theorem shB_f {l : List Sd} {k : Nat} (hk : k < l.length) (h : 100 < (sdAt l k).2.2.length) : shB l = false := decide_eq_false fun h9 => by have := h9.2 k hk; omega
theorem shB_n {l : List Sd} (h : 20 < l.length) : shB l = false := decide_eq_false fun h9 => by have := h9.1; omega
theorem sd_at {l : List Sd} {P : Sd → Prop} (h : ∀ s ∈ l, P s) {k : Nat} (hk : k < l.length) : P (sdAt l k) := by
  unfold sdAt
  rw [List.getD_eq_getElem?_getD, List.getElem?_eq_getElem hk]
  exact h _ (List.getElem_mem hk)
theorem sdOk_of {l : List Sd} (hb : ∀ s ∈ l, SdB s) (h : shB l = true) : SdOk l := by
  have h9 := of_decide_eq_true h
  exact ⟨h9.1, fun k hk => (sd_at hb hk).day, fun k hk => (sd_at hb hk).kd.1, h9.2⟩
theorem sho0 (A : Option Addr) (n c : Nat) (l : List Sd) (w : World) (hr : Rd w 3 (.slice A n c) n (fl sdc l)) (hln : l.length = n) (hn1 : n ≤ 9223372036854775807) (hsb : ∀ s ∈ l, SdB s) (h : 20 < n) : Calls Tryd.prog 28 #[.slice A n c] w fun e w' => e = .returned (.bool (shB l)) ∧ Since w w' := by
  have HS : Hid (shB l = false) := shB_n (by omega)
  clear hr hln
  go_enter Tryd.func28, Tryd.ntmps28
  go_upto_region 1 with (fail)
  refine jp ?_
  refine jm (.slice A n c) ?_
  refine jv (.int .i64 (n : Int)) (exec_lenv Tryd.underlying53 _ (by rfl) A n c (by rfl) _ rfl) ?_
  refine jv (.bool true) (exec_gtr _ _ _ _ (by rfl) .i64 (n : Int) 20 (by rfl) (by rfl) true (decide_eq_true (by omega))) ?_
  refine jz fun X1 hX1 => ?_
  have hb : Below w.heap.size w X1 := hX1
  clear hX1
  go_upto_region 2 with (fail)
  refine jp ?_
  refine jm (.bool false) ?_
  refine jz fun X2 hX2 => ?_
  have hb := bel_next hb hX2
  clear hX2
  go_wp2
  go_ret
  exact ⟨by rw [HS.out]; rfl, hb⟩
theorem shoM (A : Option Addr) (n c : Nat) (l : List Sd) (w : World) (hr : Rd w 3 (.slice A n c) n (fl sdc l)) (hln : l.length = n) (hn1 : n ≤ 9223372036854775807) (hsb : ∀ s ∈ l, SdB s) (h : n ≤ 20) : Calls Tryd.prog 28 #[.slice A n c] w fun e w' => e = .returned (.bool (shB l)) ∧ Since w w' := by
  have HRX : Hid (∀ X, Since w X → Rd X 3 (.slice A n c) n (fl sdc l)) := fun X h => hr.below h
  have HLN := Lib.hid hln
  have HSB := Lib.hid hsb
  clear hr hln hsb
  go_enter Tryd.func28, Tryd.ntmps28
  go_upto_region 1 with (fail)
  refine jp ?_
  refine jm (.slice A n c) ?_
  refine jv (.int .i64 (n : Int)) (exec_lenv Tryd.underlying53 _ (by rfl) A n c (by rfl) _ rfl) ?_
  refine jv (.bool false) (exec_gtr _ _ _ _ (by rfl) .i64 (n : Int) 20 (by rfl) (by rfl) false (decide_eq_false (by omega))) ?_
  refine jz fun X1 hX1 => ?_
  have hb : Below w.heap.size w X1 := hX1
  clear hX1
  go_upto_region 3 with (fail)
  refine jp ?_
  refine jm (.slice A n c) ?_
  refine jv (.int .i64 (n : Int)) (exec_lenv Tryd.underlying53 _ (by rfl) A n c (by rfl) _ rfl) ?_
  refine jm (.int .i64 0) ?_
  refine jz fun X2 hX2 => ?_
  have hb := bel_next hb hX2
  clear hX2
  go_wp2
  go_loopw [10] (fun kv wr => ∃ k : Nat, k ≤ n ∧ kv = .int .i64 (k : Int) ∧ Hid (∀ j, j < k → (sdAt l j).2.2.length ≤ 100) ∧ Below w.heap.size w wr) (fun kv _ => n - (intOf kv).toNat)
  case atStart => exact ⟨0, by omega, rfl, (fun j hj => by omega), hb⟩
  case round =>
    clear hb
    obtain ⟨k, hk, rfl, HZ, hb⟩ := hrel
    rcases Nat.lt_or_ge k n with hlt | hlt
    · obtain ⟨b, off, rfl, hbb, hall⟩ := (HRX.out _ hb).sds HLN.out (by omega)
      have hcx := hall k hlt
      clear hall
      have hbd := sd_at HSB.out (k := k) (by rw [HLN.out]; exact hlt)
      obtain ⟨⟨d1, d2, bd⟩, hx9⟩ : ∃ x, x = sdAt l k := ⟨_, rfl⟩
      rw [← hx9] at hcx hbd
      have HX := Lib.hid hx9
      clear hx9
      obtain ⟨⟨hd1, hd1'⟩, ⟨hd2, hd2'⟩, hbdl⟩ := hbd
      change 0 ≤ d1 at hd1
      change d1 ≤ 255 at hd1'
      change 0 ≤ d2 at hd2
      change d2 ≤ 255 at hd2'
      change bd.length ≤ _ at hbdl
      change Cl wr b (off + k * 3) [.int .u8 d1, .int .u8 d2, .string ⟨bd.toArray⟩] at hcx
      go_upto_region 4 with (fail)
      refine jp ?_
      refine jv (.bool true) (exec_lss _ _ _ _ (by rfl) .i64 (k : Int) (n : Int) (by rfl) (by rfl) true (decide_eq_true (by omega))) ?_
      refine jz fun X1 hX1 => ?_
      have hcx := hcx.below hX1 hbb
      replace hbb := Nat.lt_of_lt_of_le hbb (hX1).size
      have hb := bel_next hb hX1
      clear hX1
      go_upto_region 5 with (fail)
      refine jq 2 ?_
      refine jv (.pointer (some ⟨b, off + k * 3, none⟩)) (exec_ixv Tryd.underlying53 info_sd _ _ (by rfl) b (off) n c k (by omega) (by rfl) (by rfl) rfl) ?_
      refine jg (.agg #[.int .u8 d1, .int .u8 d2, st bd]) (fun X hX hF => exec_ldc 72 _ (by rfl) b (off + k * 3) (by rfl) Tryd.underlying72 rfl [.int .u8 d1, .int .u8 d2, .string ⟨bd.toArray⟩] X (Cl.part (hcx.below hX hbb) 0 _ (by rfl)) info_sd) ?_
      refine jz fun X2 hX2 => ?_
      have hcx := hcx.below hX2 hbb
      replace hbb := Nat.lt_of_lt_of_le hbb (hX2).size
      have hb := bel_next hb hX2
      clear hX2
      go_upto_region 6 with (refine osn 72 4 13 #[.int .u8 d1, .int .u8 d2, .string ⟨bd.toArray⟩] info_sd ?_)
      obtain ⟨Y2, hY9, hD4, hS9⟩ := start1 X2 72 [.int .u8 d1, .int .u8 d2, .string ⟨bd.toArray⟩]
      rw [← hY9]
      clear hY9
      have hgs4 := hb.size
      have hcx := hcx.below hS9 hbb
      replace hbb := Nat.lt_of_lt_of_le hbb (hS9).size
      have hb := bel_next hb hS9
      clear hS9
      generalize X2.heap.size = g4 at *
      clear hcx hbb
      by_cases hq : bd.length ≤ 100
      · have HZ2 : Hid (∀ j, j < k + 1 → (sdAt l j).2.2.length ≤ 100) := fun j hj => by
          rcases Nat.lt_or_ge j k with h9 | h9
          · exact HZ.out j h9
          · rw [show j = k by omega, ← HX.out]; exact hq
        refine jp ?_
        refine jn (.pointer (some ⟨g4, 2, none⟩)) ?_
        refine jf (st bd) hD4 2 load_str ?_
        refine jv (.int .i64 (bd.length : Int)) (exec_lens Tryd.underlying9 _ (by rfl) bd (by rfl) _ rfl) ?_
        refine jv (.bool false) (exec_gtr _ _ _ _ (by rfl) .i64 (bd.length : Int) 100 (by rfl) (by rfl) false (decide_eq_false (by omega))) ?_
        refine jz fun X3 hX3 => ?_
        have hD4 := hD4.bel hX3
        have hb := bel_next hb hX3
        clear hX3
        go_upto_region 8 with (fail)
        refine jp ?_
        refine jv (.int .i64 ((k + 1 : Nat) : Int)) (exec_add _ _ _ _ (by rfl) (k : Int) 1 ((k + 1 : Nat) : Int) (by rfl) (by rfl) (by omega) (by omega) (by omega)) ?_
        refine jm (.int .i64 ((k + 1 : Nat) : Int)) ?_
        refine jz fun X4 hX4 => ?_
        have hD4 := hD4.bel hX4
        have hb := bel_next hb hX4
        clear hX4
        go_wp2
        go_roundw
        case rel => exact ⟨k + 1, by omega, rfl, HZ2, hb⟩
        case measure => simp [intOf]; omega
      · have HS : Hid (shB l = false) := shB_f (k := k) (by rw [HLN.out]; exact hlt) (by rw [← HX.out]; show 100 < bd.length; omega)
        refine jp ?_
        refine jn (.pointer (some ⟨g4, 2, none⟩)) ?_
        refine jf (st bd) hD4 2 load_str ?_
        refine jv (.int .i64 (bd.length : Int)) (exec_lens Tryd.underlying9 _ (by rfl) bd (by rfl) _ rfl) ?_
        refine jv (.bool true) (exec_gtr _ _ _ _ (by rfl) .i64 (bd.length : Int) 100 (by rfl) (by rfl) true (decide_eq_true (by omega))) ?_
        refine jz fun X3 hX3 => ?_
        have hD4 := hD4.bel hX3
        have hb := bel_next hb hX3
        clear hX3
        go_upto_region 7 with (fail)
        refine jp ?_
        refine jm (.bool false) ?_
        refine jz fun X4 hX4 => ?_
        have hD4 := hD4.bel hX4
        have hb := bel_next hb hX4
        clear hX4
        go_wp2
        go_ret
        exact ⟨by rw [HS.out]; rfl, hb⟩
    · obtain rfl : k = n := by omega
      have HS : Hid (shB l = true) := shB_t (by rw [HLN.out]; exact h) (fun j hj => HZ.out j (by rw [HLN.out] at hj; exact hj))
      go_upto_region 4 with (fail)
      refine jp ?_
      refine jv (.bool false) (exec_lss _ _ _ _ (by rfl) .i64 (k : Int) (k : Int) (by rfl) (by rfl) false (decide_eq_false (by omega))) ?_
      refine jz fun X1 hX1 => ?_
      have hb := bel_next hb hX1
      clear hX1
      go_upto_region 9 with (fail)
      refine jp ?_
      refine jm (.bool true) ?_
      refine jz fun X2 hX2 => ?_
      have hb := bel_next hb hX2
      clear hX2
      go_wp2
      go_ret
      exact ⟨by rw [HS.out]; rfl, hb⟩
theorem shoC (A : Option Addr) (n c : Nat) (l : List Sd) (w : World) (hr : Rd w 3 (.slice A n c) n (fl sdc l)) (hln : l.length = n) (hn1 : n ≤ 9223372036854775807) (hsb : ∀ s ∈ l, SdB s) : Calls Tryd.prog 28 #[.slice A n c] w fun e w' => e = .returned (.bool (shB l)) ∧ Since w w' := by
  by_cases h : n ≤ 20
  · exact shoM A n c l w hr hln hn1 hsb h
  · exact sho0 A n c l w hr hln hn1 hsb (by omega)
theorem info_slz : (Tryd.prog.info? 28).map (fun i => (i.zero, i.size, i.bytes)) = some (some (.agg (slc sl0).toArray), 37, 80) := by kernel_rfl
/-- A log and that it is one. -/
def Tld (l : List Sl) (v : Value) (X : World) : Prop := ∃ u, v = .tuple #[u, .bool true] ∧ Slv l u X
theorem Tld.lasts (l : List Sl) : Lasts (Tld l) := fun _ _ _ ⟨u, h1, h2⟩ hS => ⟨u, h1, Slv.lasts _ _ _ _ h2 hS⟩
theorem Tld.ext {l : List Sl} {P : Program} {f : Operand → Value} {o : Oper} (x : Operand) (ho : o.op = .extract x 0) {v : Value} (hx : f x = v) {X : World} (h : Tld l v X) : ∃ u X', (execOp f o).run P X = .ok (.value u) X' ∧ Slv l u X' ∧ Since X X' := by
  obtain ⟨u, rfl, h1⟩ := h
  refine ⟨_, X, ?_, h1, Below.refl _ _⟩
  unfold execOp
  simp only [ho, hx]
  go_simp
theorem Tld.is {l : List Sl} {P : Program} {f : Operand → Value} {o : Oper} (x : Operand) (ho : o.op = .extract x 1) {v : Value} (hx : f x = v) {X : World} (h : Tld l v X) : (execOp f o).run P X = .ok (.value (.bool true)) X := by
  obtain ⟨u, rfl, h1⟩ := h
  unfold execOp
  simp only [ho, hx]
  go_simp
abbrev tlog (r : List (List UInt8)) (who : Int) (l : List Sd) (k : Nat) : List Sl := tlS mk48 nm48 r who l k
theorem tl_ok8 {r : List (List UInt8)} {who : Int} {l : List Sd} (hr : rckE r = 0) (h0 : 0 ≤ who) (h1 : who < (r.length : Int)) (hl : SdOk l) {k : Nat} (hk : k ≤ l.length) : TlOk mk48 nm48 r who l k (tlog r who l k) := tl_ok mk48 nm48 mk_put hr h0 h1 hl hk
theorem tl_okA {r : List (List UInt8)} {who : Int} {l : List Sd} (hr : rckE r = 0) (h0 : 0 ≤ who) (h1 : who < (r.length : Int)) (hl : SdOk l) (hrl : r.length ≤ 9223372036854775807) : ∀ {k : Nat}, k ≤ l.length → ∀ s ∈ tlog r who l k, SlOk s
  | 0, _, s, hs => by cases hs
  | k + 1, hk, s, hs => by
    have hd := tlD_bd hl (k := k + 1) hk
    have hf := hl.few
    have hkd := hl.kd k (by omega)
    have hlen := (tl_ok8 hr h0 h1 hl (k := k) (by omega)).len
    rcases List.mem_append.1 hs with h9 | h9
    · exact tl_okA hr h0 h1 hl hrl (by omega) s h9
    · simp only [List.mem_cons, List.not_mem_nil, or_false] at h9
      subst h9
      refine nxS_ok ⟨by show -9223372036854775808 ≤ who ∧ who ≤ 9223372036854775807; omega, by show -9223372036854775808 ≤ (0 : Int) ∧ (0 : Int) ≤ 9223372036854775807; omega, by show -9223372036854775808 ≤ tlD l (k + 1) ∧ tlD l (k + 1) ≤ 9223372036854775807; omega, by show -9223372036854775808 ≤ 1 + (sdAt l k).2.1 % 12 ∧ 1 + (sdAt l k).2.1 % 12 ≤ 9223372036854775807; omega, by show (sdAt l k).2.2.length ≤ _; have := hl.bd k (by omega); omega, rfl, rfl⟩ (by show (tlog r who l k).length ≤ _; rw [hlen]; omega)
theorem tldC (r : List (List UInt8)) (vr : Value) (who : Int) (A : Option Addr) (n c : Nat) (l : List Sd) (w : World) (hr : Rd w 3 (.slice A n c) n (fl sdc l)) (hln : l.length = n) (hn1 : n ≤ 9223372036854775807) (hsb : ∀ s ∈ l, SdB s) (hrr : Sts r vr w) (hck : rckE r = 0) (h0 : 0 ≤ who) (h1 : who < (r.length : Int)) (hsd : SdOk l) (hK : KK w) : Calls Tryd.prog 29 #[(.agg #[vr]), .int .i64 who, .slice A n c] w fun e w' => ∃ v, e = .returned v ∧ Tld (tlog r who l n) v w' ∧ Since w w' := by
  obtain ⟨Ar, cr, rfl, hrr⟩ := hrr
  have hrl := rd_max hrr
  have HRX : Hid (∀ X, Since w X → Rd X 3 (.slice A n c) n (fl sdc l)) := fun X h => hr.below h
  have HRR : Hid (∀ X, Since w X → Sts r (.slice Ar r.length cr) X) := fun X h => ⟨_, _, rfl, hrr.below h⟩
  have HLN := Lib.hid hln
  have HSB := Lib.hid hsb
  have HSD := Lib.hid hsd
  have HCK := Lib.hid hck
  have hn20 : n ≤ 20 := by have := hsd.few; omega
  have HKK : Hid (∀ X, Since w X → KK X) := fun X h => hK.below h hK.1
  clear hr hln hsb hrr hsd hck hK
  go_enter Tryd.func29, Tryd.ntmps29
  go_upto_region 1 with (fail)
  obtain ⟨W0, hW0, hB0, hb⟩ := start1 w 24 [.slice Ar r.length cr]
  rw [← hW0]
  clear hW0
  refine jp ?_
  refine jm (.slice none 0 0) ?_
  refine jz fun X1 hX1 => ?_
  have hB0 := hB0.bel hX1
  have hb := bel_next hb hX1
  clear hX1
  go_upto_region 2 with (fail)
  refine jp ?_
  refine jm (.int .i64 0) ?_
  refine jz fun X2 hX2 => ?_
  have hB0 := hB0.bel hX2
  have hb := bel_next hb hX2
  clear hX2
  go_upto_region 3 with (fail)
  refine jp ?_
  refine jm (.slice A n c) ?_
  refine jv (.int .i64 (n : Int)) (exec_lenv Tryd.underlying53 _ (by rfl) A n c (by rfl) _ rfl) ?_
  refine jm (.int .i64 0) ?_
  refine jz fun X3 hX3 => ?_
  have hB0 := hB0.bel hX3
  have hb := bel_next hb hX3
  clear hX3
  go_wp2
  go_loopw [8, 9, 16] (fun ov dv kv wr => ∃ (k : Nat) (A6 : Option Addr) (c6 : Nat), k ≤ n ∧ ov = .slice A6 k c6 ∧ dv = .int .i64 (tlD l k) ∧ kv = .int .i64 (k : Int) ∧ wr.ownsRow (w.heap.size + 1) 28 37 (.slice A6 k c6) k (fl slc (tlog r who l k)) ∧ Blk wr w.heap.size 24 [.slice Ar r.length cr] ∧ Below w.heap.size w wr) (fun ov dv kv _ => n - (intOf kv).toNat)
  case atStart => exact ⟨0, none, 0, by omega, rfl, rfl, rfl, ⟨rfl, .inl ⟨rfl, rfl⟩⟩, hB0, hb⟩
  case round =>
    clear hb hB0
    obtain ⟨k, A6, c6, hk, rfl, rfl, rfl, hOW, hB0, hb⟩ := hrel
    have hdb := tlD_bd HSD.out (k := k) (by rw [HLN.out]; exact hk)
    have hTO := tl_ok8 HCK.out h0 h1 HSD.out (k := k) (by rw [HLN.out]; exact hk)
    have hTA := tl_okA HCK.out h0 h1 HSD.out hrl (k := k) (by rw [HLN.out]; exact hk)
    rcases Nat.lt_or_ge k n with hlt | hlt
    · obtain ⟨b, off, rfl, hbb, hall⟩ := (HRX.out _ hb).sds HLN.out (by omega)
      have hcx := hall k hlt
      clear hall
      have hbd := sd_at HSB.out (k := k) (by rw [HLN.out]; exact hlt)
      obtain ⟨⟨d1, d2, bd⟩, hx9⟩ : ∃ x, x = sdAt l k := ⟨_, rfl⟩
      rw [← hx9] at hcx hbd
      have HX := Lib.hid hx9
      clear hx9
      obtain ⟨⟨hd1, hd1'⟩, ⟨hd2, hd2'⟩, hbdl⟩ := hbd
      change 0 ≤ d1 at hd1
      change d1 ≤ 255 at hd1'
      change 0 ≤ d2 at hd2
      change d2 ≤ 255 at hd2'
      change bd.length ≤ _ at hbdl
      change Cl wr b (off + k * 3) [.int .u8 d1, .int .u8 d2, .string ⟨bd.toArray⟩] at hcx
      have hnx := tl_next mk48 nm48 HCK.out h0 h1 HSD.out (show k < l.length by rw [HLN.out]; exact hlt) hTO
      have hlen := hTO.len
      have hstep : tlog r who l (k + 1) = tlog r who l k ++ [nxS mk48 nm48 r (tlog r who l k) (tlA who l k)] := rfl
      have hokn := tl_okA HCK.out h0 h1 HSD.out hrl (k := k + 1) (by rw [HLN.out]; exact hlt)
      have oy := hokn (nxS mk48 nm48 r (tlog r who l k) (tlA who l k)) (by rw [hstep]; exact List.mem_append_right _ (List.mem_singleton.2 rfl))
      have htA : tlA who l k = ⟨who, 0, tlD l k + d1, 1 + d2 % 12, bd, z16b, z16b⟩ := by
        unfold tlA
        rw [← HX.out]
        show (⟨who, 0, tlD l k + (sdAt l k).1, _, _, _, _⟩ : Sl) = _
        rw [← HX.out]
      obtain ⟨dd, hdd⟩ : ∃ dd, dd = tlD l k := ⟨_, rfl⟩
      obtain ⟨y, hy9⟩ : ∃ y, y = nxS mk48 nm48 r (tlog r who l k) (tlA who l k) := ⟨_, rfl⟩
      rw [← hy9] at hstep oy
      rw [← hdd] at htA hdb
      have HQ : Hid (nxS mk48 nm48 r (tlog r who l k) ⟨who, 0, dd + d1, 1 + d2 % 12, bd, z16b, z16b⟩ = y ∧ nxE mk48 nm48 r (tlog r who l k) ⟨who, 0, dd + d1, 1 + d2 % 12, bd, z16b, z16b⟩ = 0 ∧ SlOk ⟨who, 0, dd + d1, 1 + d2 % 12, bd, z16b, z16b⟩) := by
        rw [← htA]
        refine ⟨hy9.symm, hnx, ?_⟩
        rw [htA]
        exact ⟨by show -9223372036854775808 ≤ who ∧ who ≤ 9223372036854775807; omega, by show -9223372036854775808 ≤ (0 : Int) ∧ (0 : Int) ≤ 9223372036854775807; omega, by show -9223372036854775808 ≤ dd + d1 ∧ dd + d1 ≤ 9223372036854775807; omega, by show -9223372036854775808 ≤ 1 + d2 % 12 ∧ 1 + d2 % 12 ≤ 9223372036854775807; omega, hbdl, rfl, rfl⟩
      have HD1 : Hid (dd + d1 = tlD l (k + 1)) := by
        rw [hdd]
        show _ = tlD l k + (sdAt l k).1
        rw [← HX.out]
      have HST := Lib.hid hstep
      have HLE := Lib.hid hlen
      have HTA := Lib.hid hTA
      rw [← hdd]
      clear hnx hTO hstep hokn htA hdd hy9 hlen hTA
      go_upto_region 4 with (fail)
      refine jp ?_
      refine jv (.bool true) (exec_lss _ _ _ _ (by rfl) .i64 (k : Int) (n : Int) (by rfl) (by rfl) true (decide_eq_true (by omega))) ?_
      refine jz fun X1 hX1 => ?_
      have hOW := own_since9 hOW hX1
      have hB0 := hB0.bel hX1
      have hcx := hcx.below hX1 hbb
      replace hbb := Nat.lt_of_lt_of_le hbb (hX1).size
      have hb := bel_next hb hX1
      clear hX1
      go_upto_region 5 with (fail)
      refine jq 2 ?_
      refine jv (.pointer (some ⟨b, off + k * 3, none⟩)) (exec_ixv Tryd.underlying53 info_sd _ _ (by rfl) b (off) n c k (by omega) (by rfl) (by rfl) rfl) ?_
      refine jg (.agg #[.int .u8 d1, .int .u8 d2, st bd]) (fun X hX hF => exec_ldc 72 _ (by rfl) b (off + k * 3) (by rfl) Tryd.underlying72 rfl [.int .u8 d1, .int .u8 d2, .string ⟨bd.toArray⟩] X (Cl.part (hcx.below hX hbb) 0 _ (by rfl)) info_sd) ?_
      refine jz fun X2 hX2 => ?_
      have hOW := own_since9 hOW hX2
      have hB0 := hB0.bel hX2
      have hcx := hcx.below hX2 hbb
      replace hbb := Nat.lt_of_lt_of_le hbb (hX2).size
      have hb := bel_next hb hX2
      clear hX2
      go_upto_region 6 with (refine osn 72 11 19 #[.int .u8 d1, .int .u8 d2, .string ⟨bd.toArray⟩] info_sd ?_)
      obtain ⟨Y2, hY9, hD11, hS9⟩ := start1 X2 72 [.int .u8 d1, .int .u8 d2, .string ⟨bd.toArray⟩]
      rw [← hY9]
      clear hY9
      have hgs11 := hb.size
      have hlt11x0 := hB0.lt
      have hOW := own_since9 hOW hS9
      have hcx := hcx.below hS9 hbb
      replace hbb := Nat.lt_of_lt_of_le hbb (hS9).size
      have hB0 := hB0.bel hS9
      have hb := bel_next hb hS9
      clear hS9
      generalize X2.heap.size = g11 at *
      clear hcx hbb
      refine jp ?_
      refine jm (.int .i64 dd) ?_
      refine jn (.pointer (some ⟨g11, 0, none⟩)) ?_
      refine jf (.int .u8 d1) hD11 0 load_by ?_
      refine jv (.int .i64 d1) (exec_cnv _ _ .u8 .i64 Tryd.underlying5 Tryd.underlying3 _ (by rfl) d1 d1 (by rfl) (by rw [IntWalk.i64_in _ (by omega)])) ?_
      refine jv (.int .i64 (dd + d1)) (exec_add _ _ _ _ (by rfl) dd d1 (dd + d1) (by rfl) (by rfl) (by omega) (by omega) (by omega)) ?_
      refine jm (.int .i64 (dd + d1)) ?_
      refine jz fun X3 hX3 => ?_
      have hOW := own_since9 hOW hX3
      have hB0 := hB0.bel hX3
      have hD11 := hD11.bel hX3
      have hb := bel_next hb hX3
      clear hX3
      go_upto_region 7 with (fail)
      refine jq 16 ?_
      refine ja hB0 Tryd.underlying24 (by rfl) info_rg ?_
      refine jm (.slice A6 k c6) ?_
      refine jm (.int .i64 who) ?_
      refine jm (.int .i64 (dd + d1)) ?_
      refine jn (.pointer (some ⟨g11, 1, none⟩)) ?_
      refine jf (.int .u8 d2) hD11 1 load_by ?_
      refine jv (.int .i64 d2) (exec_cnv _ _ .u8 .i64 Tryd.underlying5 Tryd.underlying3 _ (by rfl) d2 d2 (by rfl) (by rw [IntWalk.i64_in _ (by omega)])) ?_
      refine jv (.int .i64 (d2 % 12)) (exec_rem _ _ _ _ (by rfl) .i64 d2 12 (d2 % 12) (by rfl) (by rfl) (by omega) (by omega) (by omega)) ?_
      refine jv (.int .i64 (1 + d2 % 12)) (exec_add _ _ _ _ (by rfl) 1 (d2 % 12) (1 + d2 % 12) (by rfl) (by rfl) (by omega) (by omega) (by omega)) ?_
      refine jn (.pointer (some ⟨g11, 2, none⟩)) ?_
      refine jf (st bd) hD11 2 load_str ?_
      refine jv (.agg (slc ⟨who, 0, dd + d1, 1 + d2 % 12, bd, z16b, z16b⟩).toArray) (exec_bq4 _ _ _ _ (by rfl) who (dd + d1) (1 + d2 % 12) bd (by rfl) (by rfl) (by rfl) (by rfl)) ?_
      refine jc (.tuple #[.agg (slc y).toArray, .int .i64 0]) (fun X hX hF => mo (snxV r (.slice Ar r.length cr) (tlog r who l k) (.slice A6 k c6) ⟨who, 0, dd + d1, 1 + d2 % 12, bd, z16b, z16b⟩ X (HRR.out X (bel_next hb hX)) (show Slv (tlog r who l k) (.slice A6 k c6) X from ⟨A6, c6, by rw [HLE.out], by rw [HLE.out]; exact (Rd.of_own hOW).below (hX)⟩) HTA.out HQ.out.2.2 (HKK.out X (bel_next hb hX))) (by rw [HQ.out.1, HQ.out.2.1])) ?_
      refine jm (.tuple #[.agg (slc y).toArray, .int .i64 0]) ?_
      refine jm (.agg (slc y).toArray) ?_
      refine jm (.int .i64 0) ?_
      refine jz fun X4 hX4 => ?_
      have hOW := own_since9 hOW hX4
      have hB0 := hB0.bel hX4
      have hD11 := hD11.bel hX4
      have hb := bel_next hb hX4
      clear hX4
      go_upto_region 8 with (refine op_store_new _ _ _ rfl 28 (.tmp 12) (.tmp 39) (by rfl) (by rfl) (slc y).toArray (by rfl) (by show (slc y).toArray.size = (slc sl0).toArray.size; simp [SlOk.len oy, SlOk.len ok0]) (fun v hv => slc_one v (by simpa using hv)) (by rw [show (slc y).toArray.size = (slc y).length from by simp]; exact info_slc oy) ?_)
      obtain ⟨Y4, hY9, hD12, hS9⟩ := start1 X4 28 (slc y)
      rw [← hY9]
      clear hY9
      have hgs12 := hb.size
      have hlt12x0 := hB0.lt
      have hlt12x1 := hD11.lt
      have hOW := own_since9 hOW hS9
      have hB0 := hB0.bel hS9
      have hD11 := hD11.bel hS9
      have hb := bel_next hb hS9
      clear hS9
      generalize X4.heap.size = g12 at *
      refine jp ?_
      refine jm (.int .i64 0) ?_
      refine jv (.bool false) (exec_nei _ _ _ _ (by rfl) .i64 0 0 (by rfl) (by rfl) false (by rfl)) ?_
      refine jz fun X5 hX5 => ?_
      have hOW := own_since9 hOW hX5
      have hB0 := hB0.bel hX5
      have hD11 := hD11.bel hX5
      have hD12 := hD12.bel hX5
      have hb := bel_next hb hX5
      clear hX5
      go_upto_region 10 with (fail)
      refine lx_plain_to 3 [none, none, some (Slv [y])] (lasts_none (lasts_none (lasts_some (Slv.lasts _) (lasts_nil)))) ?_
      simp only [its, List.take, List.drop, Nat.zero_add, Nat.reduceAdd]
      refine jm (.slice A6 k c6) ?_
      refine jg (.agg (slc y).toArray) (fun X hX hF => exec_lda 28 _ (by rfl) g12 (by rfl) Tryd.underlying28 rfl X (hD12.bel hX) (info_slc oy)) ?_
      refine lx_new (by rfl) (fun X hX hF => exec_bsl1 _ (by rfl) y oy (by rfl) X) ?_
      intro v45
      simp only [pX]
      refine lx_nil ?_
      intro X6 hX6 hF
      have hv45 := hF _ _ List.mem_cons_self
      have hOW := own_since9 hOW hX6
      have hB0 := hB0.bel hX6
      have hD11 := hD11.bel hX6
      have hD12 := hD12.bel hX6
      have hb := bel_next hb hX6
      clear hF hX6
      obtain ⟨A45, c45, rfl, hr45⟩ := hv45
      go_upto_region 11 with (at_builtin; refine append_rd rfl (.tmp 43) (.tmp 45) 30 rfl (w.heap.size + 1) 28 _ 37 80 Tryd.underlying30 info_slz (by rw [show (Value.agg (slc sl0).toArray).cells = (slc sl0).toArray from rfl, List.size_toArray, ok0.len]) (by decide) _ k _ (by rfl) hOW _ 1 _ (by rfl) hr45 (by rw [show fl slc [y] = slc y from by simp [fl]]; exact slc_one) (by omega) (by unfold maxLen; omega) hB0.lt ?_; intro v7 w7 hown7 hg7 hb7)
      have hB0 := hB0.below hb7 (by omega)
      have hb := hb.trans (hb7.mono (by omega))
      have hOW : w7.ownsRow (w.heap.size + 1) 28 37 v7 (k + 1) (fl slc (tlog r who l (k + 1))) := by
        rw [HST.out, show fl slc (tlog r who l k ++ [y]) = fl slc (tlog r who l k) ++ fl slc [y] from by simp [fl]]
        exact hown7
      obtain ⟨A7, c7, rfl, _, _⟩ := (Rd.of_own hOW).form
      clear hown7 hr45
      skip
      refine jp ?_
      refine jv (.int .i64 ((k + 1 : Nat) : Int)) (exec_add _ _ _ _ (by rfl) (k : Int) 1 ((k + 1 : Nat) : Int) (by rfl) (by rfl) (by omega) (by omega) (by omega)) ?_
      refine jm (.int .i64 ((k + 1 : Nat) : Int)) ?_
      refine jz fun X7 hX7 => ?_
      have hOW := own_since9 hOW hX7
      have hB0 := hB0.bel hX7
      have hb := bel_next hb hX7
      clear hX7
      rw [HD1.out]
      go_wp2
      go_roundw
      case rel => exact ⟨k + 1, A7, c7, by omega, rfl, rfl, rfl, hOW, hB0, hb⟩
      case measure => simp [intOf]; omega
    · obtain rfl : k = n := by omega
      have HLE := Lib.hid hTO.len
      clear hTO hTA
      go_upto_region 4 with (fail)
      refine jp ?_
      refine jv (.bool false) (exec_lss _ _ _ _ (by rfl) .i64 (k : Int) (k : Int) (by rfl) (by rfl) false (decide_eq_false (by omega))) ?_
      refine jz fun X1 hX1 => ?_
      have hOW := own_since9 hOW hX1
      have hB0 := hB0.bel hX1
      have hb := bel_next hb hX1
      clear hX1
      go_upto_region 12 with (fail)
      refine jp ?_
      refine jm (.slice A6 k c6) ?_
      refine jm (.slice A6 k c6) ?_
      refine jm (.bool true) ?_
      refine jz fun X2 hX2 => ?_
      have hOW := own_since9 hOW hX2
      have hB0 := hB0.bel hX2
      have hb := bel_next hb hX2
      clear hX2
      go_wp2
      go_ret2
      exact ⟨.tuple #[.slice A6 k c6, .bool true], rfl, ⟨.slice A6 k c6, rfl, A6, c6, by rw [HLE.out], by rw [HLE.out]; exact Rd.of_own hOW⟩, hb⟩
end Go.Proofs.YthinopepcmidmaaDoor
