/-
  load: a string as digits.
-/
import Derived.Test.YtglnabciomlmmaaDoorNa
namespace Go.Proofs.YtglnabciomlmmaaDoor
open Go.RowKit

theorem load_step (a : List UInt8) {k : Nat} {l : List UInt32} (hk : l.length = k) (hlt : 4 * k < a.length) (hlw : lw l = val (a.drop (a.length - 4 * k))) {p q : Nat} (hp : p = a.length - 4 * (k + 1)) (hq : q = a.length - 4 * k) :
    lw (l ++ [UInt32.ofNat (val ((a.drop p).take (q - p)))]) = val (a.drop p) ∧ val ((a.drop p).take (q - p)) < 4294967296 := by
  have hlen : ((a.drop p).take (q - p)).length ≤ 4 := by rw [List.length_take]; omega
  have hv : val ((a.drop p).take (q - p)) < 4294967296 := by
    have h1 := val_lt ((a.drop p).take (q - p))
    have h2 : 256 ^ ((a.drop p).take (q - p)).length ≤ 256 ^ 4 := Nat.pow_le_pow_right (by omega) hlen
    have h3 : (256 : Nat) ^ 4 = 4294967296 := by decide
    omega
  refine ⟨?_, hv⟩
  have hsplit : a.drop p = (a.drop p).take (q - p) ++ a.drop q := by
    have h := (List.take_append_drop (q - p) (a.drop p)).symm
    rw [List.drop_drop] at h
    rw [show p + (q - p) = q by omega] at h
    exact h
  rw [lw_snoc, hlw, hk, ← hq]
  conv => rhs; rw [hsplit, val_append]
  have e1 : (UInt32.ofNat (val ((a.drop p).take (q - p)))).toNat = val ((a.drop p).take (q - p)) := by
    rw [UInt32.toNat_ofNat']
    exact Nat.mod_eq_of_lt hv
  have e2 : (a.drop q).length = 4 * k := by rw [List.length_drop]; omega
  have e3 : 256 ^ (4 * k) = 4294967296 ^ k := by rw [Nat.pow_mul]
  rw [e1, e2, e3, Nat.add_comm, Nat.mul_comm]

set_option maxRecDepth 100000 in
set_option maxHeartbeats 1600000 in
theorem loadC (a : List UInt8) (w : World) (ha : a.length ≤ 16777216) :
    Calls Tryd.prog 34 #[.string ⟨a.toArray⟩] w fun e w' => ∃ v, e = .returned v ∧ Lm (val a) v w' ∧ Below w.heap.size w w' := by
  go_enter Tryd.func34, Tryd.ntmps34
  go_wp2
  go_loopw [3, 4] (fun x e wr => ∃ l : List UInt32, 4 * l.length < a.length + 4 ∧ e = .int .i64 ((a.length : Int) - 4 * (l.length : Int)) ∧ lw l = val (a.drop (a.length - 4 * l.length)) ∧ wr.ownsRow w.heap.size 63 1 x l.length (l.map W32) ∧ Below w.heap.size w wr) (fun _ e _ => (intOf e).toNat)
  case atStart => exact ⟨[], by simp, by simp, by simp [lw_nil, val_nil], own_nil _ _ _, Below.refl _ _⟩
  case round =>
    obtain ⟨l, hl4, rfl, hlw, hown, hb⟩ := hrel
    have hR := Rd.of_own hown
    obtain ⟨A1, c1, rfl, hc1, hc2⟩ := hR.form
    unfold maxLen at hc2
    by_cases hlt : 4 * l.length < a.length
    · obtain ⟨p, hp⟩ : ∃ p, p = a.length - 4 * (l.length + 1) := ⟨_, rfl⟩
      obtain ⟨q, hq⟩ : ∃ q, q = a.length - 4 * l.length := ⟨_, rfl⟩
      obtain ⟨ch, hch⟩ : ∃ ch, ch = (a.drop p).take (q - p) := ⟨_, rfl⟩
      have hst := load_step a rfl hlt hlw hp hq
      rw [← hch] at hst
      have hchl : ch.length = q - p := by rw [hch, List.length_take, List.length_drop]; omega
      have hch4 : ch.length ≤ 4 := by omega
      have hp1 : a.length ≤ p + 4 * l.length + 4 := by omega
      have hp2 : p + 4 * l.length ≤ a.length := by omega
      have hp3 : p = 0 ∨ p + 4 * l.length + 4 = a.length := by omega
      have HCH : Hid ((a.drop p).take (q - p) = ch) := hch.symm
      have hvl := hst.2
      have HST := Lib.hid hst.1
      have HP := Lib.hid hp
      clear hst hch hlw hR
      go_upto_region 6 with (fail)
      refine lx_plain [none, none, none, none, none, none, some (Bts ch)] (lasts_none (lasts_none (lasts_none (lasts_none (lasts_none (lasts_none (lasts_some (Bts.lasts _) (lasts_nil)))))))) ?_
      simp only [its, Nat.zero_add, Nat.reduceAdd]
      refine lx_val (by rfl) (.string ⟨a.toArray⟩) (fun X _ _ => by rfl) ?_
      simp only [Act.put, List.setIfInBounds_toArray, List.set_cons_succ, List.set_cons_zero]
      refine lx_val (by rfl) (.int .i64 ((a.length : Int) - 4 * (l.length : Int))) (fun X _ _ => by rfl) ?_
      simp only [Act.put, List.setIfInBounds_toArray, List.set_cons_succ, List.set_cons_zero]
      refine lx_val (by rfl) (.int .i64 ((a.length : Int) - 4 * (l.length : Int) - 4)) (fun X hX hF => exec_sub _ _ _ _ (by rfl) ((a.length : Int) - 4 * (l.length : Int)) 4 ((a.length : Int) - 4 * (l.length : Int) - 4) (by rfl) (by rfl) (by omega) (by omega) (by omega) X) ?_
      simp only [Act.put, List.setIfInBounds_toArray, List.set_cons_succ, List.set_cons_zero]
      refine lx_val (by rfl) (.int .i64 (p : Int)) (fun X hX hF => exec_max _ _ (by rfl) .i64 0 ((a.length : Int) - 4 * (l.length : Int) - 4) (p : Int) (by rfl) (by rfl) (by omega) X) ?_
      simp only [Act.put, List.setIfInBounds_toArray, List.set_cons_succ, List.set_cons_zero]
      refine lx_val (by rfl) (.int .i64 ((a.length : Int) - 4 * (l.length : Int))) (fun X _ _ => by rfl) ?_
      simp only [Act.put, List.setIfInBounds_toArray, List.set_cons_succ, List.set_cons_zero]
      refine lx_val (by rfl) (.string ⟨ch.toArray⟩) (fun X hX hF => (fun X => (exec_mid _ Tryd.underlying9 _ _ _ (by rfl) a p q (by rfl) (by rfl) (by rfl) (by omega) (by omega) (by omega) X).trans (by rw [HCH.out])) X) ?_
      simp only [Act.put, List.setIfInBounds_toArray, List.set_cons_succ, List.set_cons_zero]
      refine lx_bytes (by rfl) 9 61 5 _ (by rfl) ch (by rfl) Tryd.underlying9 Tryd.underlying61 Tryd.underlying5 (by omega) ?_
      intro v20
      simp only [Act.put, List.setIfInBounds_toArray, List.set_cons_succ, List.set_cons_zero]
      refine lx_val (by rfl) (.int .i64 (ch.length : Int)) (fun X hX hF => by obtain ⟨A9, c9, h9, _⟩ := hF _ _ List.mem_cons_self rfl; subst h9; exact exec_lenv Tryd.underlying61 _ (by rfl) A9 _ c9 (by rfl) _ rfl X) ?_
      simp only [Act.put, List.setIfInBounds_toArray, List.set_cons_succ, List.set_cons_zero]
      refine lx_val (by rfl) (.int .i64 ((0 : Nat) : Int)) (fun X _ _ => by rfl) ?_
      simp only [Act.put, List.setIfInBounds_toArray, List.set_cons_succ, List.set_cons_zero]
      refine lx_nil ?_
      intro X hX hF
      obtain ⟨A2, c2, rfl, hR2⟩ := hF _ _ List.mem_cons_self
      have hown := own_below hown hX
      have hb := bel_next hb hX
      clear hX hF hp hq hchl
      go_wp2
      go_loop [5, 22] (fun d i => ∃ j : Nat, j ≤ ch.length ∧ i = .int .i64 (j : Int) ∧ d = .int .u32 ((val (ch.take j) : Nat) : Int)) (fun _ i => ch.length - (intOf i).toNat)
      case atStart => exact ⟨0, by omega, rfl, rfl⟩
      case round =>
        obtain ⟨j, hj, rfl, rfl⟩ := hrel
        by_cases hjl : j < ch.length
        · obtain ⟨b, off, rfl, hbb, hc⟩ := hR2.byte hjl
          have hy := u8_lt (ch.getD j 0)
          have HV := Lib.hid (val_take_succ ch hjl)
          have hd : val (ch.take j) < 16777216 := by
            have h1 := val_take_lt ch j
            have h2 : 256 ^ j ≤ 256 ^ 3 := Nat.pow_le_pow_right (by omega) (by omega)
            have h3 : (256 : Nat) ^ 3 = 16777216 := by decide
            omega
          generalize (ch.getD j 0).toNat = y at hc hy HV
          generalize val (ch.take j) = d at hd HV ⊢
          go_upto_region 8 with (fail)
          refine lx_plain_eq ?_
          simp only [its, Nat.zero_add, Nat.reduceAdd]
          refine lx_vale (by rfl) (.pointer (some ⟨b, off + j, none⟩)) (exec_ix1 Tryd.underlying61 size_u8 _ _ (by rfl) b (off) ch.length c2 j (by omega) (by rfl) (by rfl) (by omega) _) ?_
          simp only [Act.put, List.setIfInBounds_toArray, List.set_cons_succ, List.set_cons_zero]
          refine lx_vale (by rfl) (.int .u8 (y : Int)) (exec_ld 5 _ (by rfl) b (off + j) (by rfl) _ _ (hc) (fun X u h => load_u8 b (off + j) X u h)) ?_
          simp only [Act.put, List.setIfInBounds_toArray, List.set_cons_succ, List.set_cons_zero]
          refine lx_vale (by rfl) (.int .u8 (y : Int)) (by rfl) ?_
          simp only [Act.put, List.setIfInBounds_toArray, List.set_cons_succ, List.set_cons_zero]
          refine lx_nil ?_
          rintro _ rfl _
          go_upto_region 9 with (fail)
          refine lx_plain_eq ?_
          simp only [its, Nat.zero_add, Nat.reduceAdd]
          refine lx_vale (by rfl) (.int .u32 (d : Int)) (by rfl) ?_
          simp only [Act.put, List.setIfInBounds_toArray, List.set_cons_succ, List.set_cons_zero]
          refine lx_vale (by rfl) (.int .u32 ((d * 2 ^ 8 : Nat) : Int)) (exec_shl _ _ _ _ (by rfl) .u32 .u64 (d : Int) ((d * 2 ^ 8 : Nat) : Int) 8 (by rfl) (by rfl) rfl (by decide) (by rw [w32 (by omega) (by omega)]; push_cast; rfl) _) ?_
          simp only [Act.put, List.setIfInBounds_toArray, List.set_cons_succ, List.set_cons_zero]
          refine lx_vale (by rfl) (.int .u8 (y : Int)) (by rfl) ?_
          simp only [Act.put, List.setIfInBounds_toArray, List.set_cons_succ, List.set_cons_zero]
          refine lx_vale (by rfl) (.int .u32 (y : Int)) (exec_cnv _ _ .u8 .u32 Tryd.underlying5 Tryd.underlying63 _ (by rfl) (y : Int) (y : Int) (by rfl) (by rw [w32 (by omega) (by omega)]) _) ?_
          simp only [Act.put, List.setIfInBounds_toArray, List.set_cons_succ, List.set_cons_zero]
          refine lx_vale (by rfl) (.int .u32 ((d * 2 ^ 8 + y : Nat) : Int)) (exec_or _ _ _ _ (by rfl) .u32 ((d * 2 ^ 8 : Nat) : Int) (y : Int) ((d * 2 ^ 8 + y : Nat) : Int) (by rfl) (by rfl) (or32 d y 8 (by omega) (by omega)) _) ?_
          simp only [Act.put, List.setIfInBounds_toArray, List.set_cons_succ, List.set_cons_zero]
          refine lx_vale (by rfl) (.int .u32 ((d * 2 ^ 8 + y : Nat) : Int)) (by rfl) ?_
          simp only [Act.put, List.setIfInBounds_toArray, List.set_cons_succ, List.set_cons_zero]
          refine lx_nil ?_
          rintro _ rfl _
          go_wp2
          go_round
          case rel => exact ⟨j + 1, by omega, by go_num, by rw [HV.out]⟩
          case measure => simp [intOf]; omega
        · obtain rfl : j = ch.length := by omega
          have hcl : ch.take ch.length = ch := List.take_of_length_le (Nat.le_refl _)
          rw [hcl]
          have hD : Value.int .u32 ((val ch : Nat) : Int) = W32 (UInt32.ofNat (val ch)) := by
            unfold W32
            rw [UInt32.toNat_ofNat', Nat.mod_eq_of_lt hvl]
          have HD : Hid (#[Value.int .u32 ((val ch : Nat) : Int)] = [W32 (UInt32.ofNat (val ch))].toArray) := by show _ = _; rw [hD]
          clear hcl hD
          go_wp2_with (at_builtin; refine app_new rfl rfl Tryd.underlying51 info_u32 rfl (w.heap.size) _ (l.length) _ [W32 (UInt32.ofNat (val ch))] HD.out rfl hown (m := 1) rfl rfl (fun u hu => by rw [List.mem_singleton.1 hu]; rfl) (by omega) (by omega) hb.size ?_; intro A3 c3 w3 hown3 hc3 hc4 hb3)
          go_roundw
          case rel =>
            refine ⟨l ++ [UInt32.ofNat (val ch)], by rw [List.length_append, List.length_singleton]; omega, int_eq (by rw [List.length_append, List.length_singleton]; omega), ?_, ?_, hb.trans hb3⟩
            · rw [HST.out, List.length_append, List.length_singleton, ← HP.out]
            · rw [List.length_append, List.length_singleton, List.map_append]
              exact hown3
          case measure => simp [intOf]; omega
    · have hz : lw l = val a := by rw [hlw, show a.length - 4 * l.length = 0 by omega]; rfl
      have HZ := Lib.hid hz
      clear hz hlw hown
      go_wp2_with fail
      refine (trimC A1 l.length c1 l _ hR (by omega)).mono ?_
      rintro e w' ⟨rfl, ht, rfl⟩
      rw [HZ.out] at ht
      rw [HZ.out]
      have hpre := hR.pre1 (k := (ld (val a)).length) (by have := congrArg List.length ht; rw [List.length_take] at this; omega)
      rw [ht] at hpre
      have HT := Lib.hid ht
      clear ht
      go_wp2
      go_ret
      exact ⟨_, rfl, ⟨A1, c1, rfl, hpre⟩, hb⟩
end Go.Proofs.YtglnabciomlmmaaDoor
