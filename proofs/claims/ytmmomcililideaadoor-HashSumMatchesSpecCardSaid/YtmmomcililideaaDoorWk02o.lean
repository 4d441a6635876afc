/-
  Keyed digests and expansion, as the program reckons them.
-/
import Derived.Test.YtmmomcililideaaDoorWk02m
import Derived.Test.YtmmomcililideaaDoorWk02g
import Derived.Test.YtmmomcililideaaDoorAp
set_option linter.unusedSimpArgs false
set_option linter.unusedVariables false
namespace Go.Proofs.YtmmomcililideaaDoor
open Go.RowKit

theorem size_dg : (Tryd.prog.info? 41).map (·.size) = some 16 := by kernel_rfl
def z16 : List Value := (List.replicate 16 (0 : UInt8)).map B8
theorem z16_len : z16.length = 16 := rfl
theorem zero16 : ∀ w : World, (zeroValue 41).run Tryd.prog w = .ok (.agg z16.toArray) w := fun _ => by kernel_rfl
theorem hmac_len (key m : List UInt8) : (hmac key m).length = 32 := sha_len _
theorem take16 {h : List UInt8} (hl : h.length = 32) : (h.map B8).take 16 = (h.take 16).map B8 := by rw [List.map_take]
theorem Cl.take {w : World} {b off : Nat} {xs : List Value} (h : Cl w b off xs) (k : Nat) : Cl w b off (xs.take k) := by
  intro j u hj
  rw [List.getElem?_take] at hj
  split at hj
  · exact h j u hj
  · cases hj

set_option maxRecDepth 100000 in
set_option maxHeartbeats 1600000 in
theorem macC (key : List UInt8) (A : Option Addr) (n c : Nat) (ss : List (List UInt8)) (w : World) (hr : Rd w 1 (.slice A n c) n (ss.map tx)) (hn : n ≤ 12) (hs : ∀ s ∈ ss, s.length ≤ 400) (hkl : key.length ≤ 1048576) (hK : KK w) :
    Calls Tryd.prog 30 #[.string ⟨key.toArray⟩, .slice A n c] w fun e w' => e = .returned (.agg (((hmac key (msg ss)).take 16).map B8).toArray) ∧ Below w.heap.size w w' := by
  have HT := Lib.hid hr.n_eq
  have hz := zero16
  have hz2 := zero32
  have hcat := ByteArray.mk_append_mk
  have R0 : Blk (w.alloc (.cells z16.toArray 41)) w.heap.size 41 z16 := Blk.new rfl
  have b0 := (Below.refl w.heap.size w).alloc (Nat.le_refl _) (.cells z16.toArray 41)
  go_enter Tryd.func30, Tryd.ntmps30
  go_wp2
  generalize w.alloc (.cells z16.toArray 41) = W at R0 b0 ⊢
  go_loopw [5, 11] (fun v i wr => ∃ k : Nat, k ≤ n ∧ i = .int .i64 (k : Int) ∧ v = .string ⟨(msg (ss.take k)).toArray⟩ ∧ Blk wr w.heap.size 41 z16 ∧ Below w.heap.size w wr) (fun _ i _ => n - (intOf i).toNat)
  case atStart => exact ⟨0, by omega, rfl, rfl, R0, b0⟩
  case round =>
    clear R0 b0
    obtain ⟨k, hk, rfl, rfl, hB, hb⟩ := hrel
    have hpl : (msg (ss.take k)).length ≤ 12 * 410 := Nat.le_trans (msg_len fun x hx => hs x (List.mem_of_mem_take hx)) (Nat.mul_le_mul_right _ (by rw [List.length_take]; omega))
    by_cases hlt : k < n
    · obtain ⟨b, off, s, rfl, hbb, hc, hm, hd⟩ := (hr.below hb).atG (k := k) (by rw [HT.out]; exact hlt)
      have hsl := hs s hm
      have hel := encS_len s
      have hc' : wr.cell? ⟨b, off + k, none⟩ = some (.string ⟨s.toArray⟩) := hc
      have HS := Lib.hid (msg_snoc hd.out)
      clear hc hs hd
      generalize msg (ss.take k) = p at hpl HS ⊢
      go_wp2_with (go_at_call 39; refine (wBytes s _ (by omega)).mono ?_; rintro e w1 ⟨v1, rfl, hO1, hb1⟩; have hs1 := run_str 22 9 5 Tryd.underlying22 Tryd.underlying5 Tryd.underlying9 (Rd.of_own hO1))
      go_roundw
      case rel => exact ⟨k + 1, by omega, by go_num, by rw [HS.out], hB.below hb1 hB.lt, hb.trans (hb1.mono hb.size)⟩
      case measure => simp [intOf]; omega
    · obtain rfl : k = n := by omega
      have ht : ss.take k = ss := List.take_of_length_le (by rw [HT.out]; omega)
      have hl := hmac_len key (msg (ss.take k))
      have hq : hmac key (msg ss) = hmac key (msg (ss.take k)) := by rw [ht]
      have HQ := Lib.hid hq
      clear ht hq
      generalize msg (ss.take k) = p at hpl HQ hl ⊢
      generalize hmacEq : hmac key p = h at hl HQ
      have HM := Lib.hid hmacEq
      have HL := Lib.hid hl
      clear hl hmacEq
      go_wp2_with fail
      refine (hmacC key p _ hkl (by omega) (hK.below hb hK.1)).mono ?_
      rintro e w2 ⟨rfl, hb2⟩
      rw [HM.out]
      have hB2 := hB.below hb2 hB.lt
      have bb2 := hb.trans (hb2.mono hb.size)
      clear hb2 hB hb
      go_upto_region 8 with ((with_reducible show wpList _ _ _ (⟨none, .store 24 _ _, _, _, _, _⟩ :: _) _ _); refine op_store_new w2 _ _ rfl 24 (.tmp 8) (.tmp 23) rfl rfl (h.map B8).toArray rfl (by simp [HL.out, o32_len]) (by simpa using B8s_one h) (by simp [HL.out, size_o32]) ?_)
      have B3 : Blk (w2.alloc (.cells (h.map B8).toArray 24)) w2.heap.size 24 (h.map B8) := Blk.new rfl
      have hB3 := hB2.alloc (.cells (h.map B8).toArray 24)
      have bb3 := bb2.alloc bb2.size (.cells (h.map B8).toArray 24)
      generalize w2.alloc (.cells (h.map B8).toArray 24) = w3 at B3 hB3 bb3 ⊢
      clear hB2 bb2
      generalize w2.heap.size = g at B3 ⊢
      have ar := run_arrayAt (P := Tryd.prog) 41 5 16 Tryd.underlying41 (some ⟨g, 0, none⟩) 16 32 (by omega)
      have hcl : Cl w3 g 0 ((h.take 16).map B8) := by rw [List.map_take]; exact B3.cl.take 16
      have hl16 : ((h.take 16).map B8).length = 16 := by rw [List.length_map, List.length_take, HL.out]; rfl
      have H16 := Lib.hid hl16
      clear hl16
      go_wp2_with (first
        | ((with_reducible show wpList _ _ _ (⟨some 26, _, _, _, _, _⟩ :: _) _ _); refine op_load_agg rfl 41 (.tmp 25) rfl g 0 rfl _ Tryd.underlying41 rfl ((h.take 16).map B8) hcl (by rw [H16.out]; exact size_dg) ?_)
        | ((with_reducible show wpList _ _ _ (⟨none, .store 41 _ _, _, _, _, _⟩ :: _) _ _); refine op_store_blk rfl 41 (.tmp 4) (.tmp 26) rfl w.heap.size 41 _ hB3 rfl ((h.take 16).map B8) rfl (by rw [H16.out, z16_len]) (B8s_one _) (by rw [H16.out]; exact size_dg) ?_; intro w9 hC9 hoth9 hbel9 hsz9))
      have hld := run_loadVar_cl (P := Tryd.prog) 41 _ w.heap.size 0 ((h.take 16).map B8) hC9.cl Tryd.underlying41 rfl (by rw [H16.out]; exact size_dg)
      rw [HQ.out]
      refine bodyPost_ret (v := .agg ((h.take 16).map B8).toArray) ?_ rfl ⟨rfl, hbel9 _ _ bb3 (Nat.le_refl _)⟩
      simp [results, Tryd.results30, asAddr, hld, Act.put]

/-- The bytes that a seed is expanded to, by k hashes. -/
def exs (seed : List UInt8) (k : Nat) : List UInt8 := ((List.range k).map fun (i : Nat) => hmac seed (encI (i : Int))).flatten
theorem exs_succ (seed : List UInt8) (k : Nat) : exs seed (k + 1) = exs seed k ++ hmac seed (encI (k : Int)) := by
  unfold exs
  rw [List.range_succ]
  simp
theorem exs_len (seed : List UInt8) : ∀ k, (exs seed k).length = 32 * k
  | 0 => rfl
  | k + 1 => by rw [exs_succ, List.length_append, exs_len seed k, hmac_len]; omega
def expL (seed : List UInt8) (n : Nat) : List UInt8 := (exs seed ((n + 31) / 32)).take n
def expI (seed : List UInt8) (n : Int) : List UInt8 := if n < 1 ∨ 1048576 < n then [] else expL seed n.toNat

set_option maxRecDepth 100000 in
set_option maxHeartbeats 1600000 in
theorem expandC (seed : List UInt8) (n : Int) (w : World) (hsl : seed.length ≤ 1048576) (hK : KK w) :
    Calls Tryd.prog 28 #[.string ⟨seed.toArray⟩, .int .i64 n] w fun e w' => e = .returned (.string ⟨(expI seed n).toArray⟩) ∧ Below w.heap.size w w' := by
  by_cases h1 : n < 1
  · have h2 : ¬ 1 ≤ n := by omega
    have HE : Hid (expI seed n = []) := by show _ = _; unfold expI; rw [if_pos (.inl h1)]
    go_enter Tryd.func28, Tryd.ntmps28
    go_wp2
    go_ret
    exact ⟨by rw [HE.out]; rfl, Below.refl _ _⟩
  · by_cases h2 : 1048576 < n
    · have HE : Hid (expI seed n = []) := by show _ = _; unfold expI; rw [if_pos (.inr h2)]
      have h3 : 1 ≤ n := by omega
      go_enter Tryd.func28, Tryd.ntmps28
      go_wp2
      go_ret
      exact ⟨by rw [HE.out]; rfl, Below.refl _ _⟩
    · obtain ⟨N, rfl⟩ : ∃ N : Nat, n = (N : Int) := ⟨n.toNat, by omega⟩
      have HE : Hid (expI seed (N : Int) = expL seed N) := by show _ = _; unfold expI; rw [if_neg (by omega)]; rfl
      have hN1 : 1 ≤ N := by omega
      have hN2 : N ≤ 1048576 := by omega
      have hz2 := zero32
      go_enter Tryd.func28, Tryd.ntmps28
      go_wp2
      go_loopw [5, 6] (fun v i wr => ∃ k : Nat, 32 * k < N + 32 ∧ i = .int .i64 (k : Int) ∧ wr.ownsRow w.heap.size 5 1 v (32 * k) ((exs seed k).map B8) ∧ Below w.heap.size w wr) (fun _ i _ => N - (intOf i).toNat)
      case atStart => exact ⟨0, by omega, rfl, own_nil _ _ _, Below.refl _ _⟩
      case round =>
        obtain ⟨k, hk, rfl, hown, hb⟩ := hrel
        have hR := Rd.of_own hown
        obtain ⟨A1, c1, rfl, hc1, hc2⟩ := hR.form
        unfold maxLen at hc2
        by_cases hlt : 32 * k < N
        · have hl := hmac_len seed (encI (k : Int))
          have HS := Lib.hid (exs_succ seed k)
          generalize exs seed k = p at hown HS
          have hel := encI_length (k : Int)
          generalize hX : encI (k : Int) = x at hl HS hel
          have HX := Lib.hid hX
          generalize hH : hmac seed x = h at hl HS
          have HH := Lib.hid hH
          have HL := Lib.hid hl
          clear hX hH hl hR
          go_wp2_with fail
          refine (wInt (k : Int) _ (by omega) (by omega)).mono ?_
          rintro e w1 ⟨v1, rfl, hO1, hb1⟩
          rw [HX.out] at hO1
          have hs1 := run_str 22 9 5 Tryd.underlying22 Tryd.underlying5 Tryd.underlying9 (Rd.of_own hO1)
          have hown1 := own_below hown hb1
          have bb1 := hb.trans (hb1.mono hb.size)
          clear hO1 hb1 hown hb
          go_wp2_with fail
          refine (hmacC seed x _ hsl (by omega) (hK.below bb1 hK.1)).mono ?_
          rintro e w2 ⟨rfl, hb2⟩
          rw [HH.out]
          have hown2 := own_below hown1 hb2
          have bb2 := bb1.trans (hb2.mono bb1.size)
          clear hs1 hb2 bb1 hown1
          go_upto_region 8 with ((with_reducible show wpList _ _ _ (⟨none, .store 24 _ _, _, _, _, _⟩ :: _) _ _); refine op_store_new w2 _ _ rfl 24 (.tmp 7) (.tmp 24) rfl rfl (h.map B8).toArray rfl (by simp [HL.out, o32_len]) (by simpa using B8s_one h) (by simp [HL.out, size_o32]) ?_)
          have hR3 : Rd (w2.alloc (.cells (h.map B8).toArray 24)) 1 (.slice (some ⟨w2.heap.size, 0, none⟩) 32 32) 32 (h.map B8) := Rd.new rfl (by rw [List.length_map]; exact HL.out) (by unfold maxLen; omega)
          have hown3 := hown2.alloc (.cells (h.map B8).toArray 24)
          have bb3 := bb2.alloc bb2.size (.cells (h.map B8).toArray 24)
          generalize w2.alloc (.cells (h.map B8).toArray 24) = w3 at hR3 hown3 bb3 ⊢
          clear hown2 bb2
          generalize w2.heap.size = g at hR3 ⊢
          go_wp2_with (at_builtin; refine append_rd rfl (.tmp 25) (.tmp 26) 22 rfl w.heap.size 5 _ 1 1 Tryd.underlying22 info_u8 rfl (by decide) _ _ _ rfl hown3 _ _ _ rfl hR3 (B8s_one _) (by omega) (by unfold maxLen; omega) bb3.size ?_; intro v4 w4 hown4 hg4 hb4)
          go_roundw
          case rel =>
            rw [← List.map_append, ← HS.out] at hown4
            exact ⟨k + 1, by omega, by go_num, by rw [Nat.mul_add]; exact hown4, bb3.trans hb4⟩
          case measure => simp [intOf]; omega
        · have hk2 : (N + 31) / 32 = k := by omega
          have hpre := hR.pre (k := N) (by omega)
          have hfin : (exs seed k).take N = expL seed N := by unfold expL; rw [hk2]
          rw [← List.map_take, hfin] at hpre
          have hs1 := run_str 22 9 5 Tryd.underlying22 Tryd.underlying5 Tryd.underlying9 hpre
          clear hfin hpre hR hown hk2
          have q1 : N ≤ c1 := by omega
          go_wp2
          go_ret
          exact ⟨by rw [HE.out]; rfl, hb⟩
end Go.Proofs.YtmmomcililideaaDoor
