/-
  Keyed digests and expansion, as the program reckons them.
-/
import Derived.Test.YthinopepcmidmaaDoorWk02m
import Derived.Test.YthinopepcmidmaaDoorWk02g
import Derived.Test.YthinopepcmidmaaDoorMA
set_option linter.unusedSimpArgs false
set_option linter.unusedVariables false
set_option maxRecDepth 100000
set_option maxHeartbeats 1600000
namespace Go.Proofs.YthinopepcmidmaaDoor
open Go.RowKit
theorem size_dg : (Tryd.prog.info? 26).map (·.size) = some 16 := by kernel_rfl
def z16 : List Value := (List.replicate 16 (0 : UInt8)).map B8
theorem z16_len : z16.length = 16 := rfl
theorem zero16 : ∀ w : World, (zeroValue 26).run Tryd.prog w = .ok (.agg z16.toArray) w := fun _ => by kernel_rfl
theorem hmac_len (key m : List UInt8) : (hmac key m).length = 32 := sha_len _
theorem take16 {h : List UInt8} (hl : h.length = 32) : (h.map B8).take 16 = (h.take 16).map B8 := by rw [List.map_take]
theorem Cl.take {w : World} {b off : Nat} {xs : List Value} (h : Cl w b off xs) (k : Nat) : Cl w b off (xs.take k) := by
  intro j u hj
  rw [List.getElem?_take] at hj
  split at hj
  · exact h j u hj
  · cases hj
theorem macC (key : List UInt8) (A : Option Addr) (n c : Nat) (ss : List (List UInt8)) (w : World) (hr : Rd w 1 (.slice A n c) n (ss.map tx)) (hn : n ≤ 12) (hs : ∀ s ∈ ss, s.length ≤ 5000) (hkl : key.length ≤ 1048576) (hK : KK w) :
    Calls Tryd.prog 39 #[.string ⟨key.toArray⟩, .slice A n c] w fun e w' => e = .returned (.agg (((hmac key (msg ss)).take 16).map B8).toArray) ∧ Below w.heap.size w w' := by
  have HT := Lib.hid hr.n_eq
  have hz := zero16
  have hz2 := zero32
  have hcat := ByteArray.mk_append_mk
  have R0 : Blk (w.alloc (.cells z16.toArray 26)) w.heap.size 26 z16 := Blk.new rfl
  have b0 := (Below.refl w.heap.size w).alloc (Nat.le_refl _) (.cells z16.toArray 26)
  go_enter Tryd.func39, Tryd.ntmps39
  go_wp2
  generalize w.alloc (.cells z16.toArray 26) = W at R0 b0 ⊢
  go_loopw [5, 11] (fun v i wr => ∃ k : Nat, k ≤ n ∧ i = .int .i64 (k : Int) ∧ v = .string ⟨(msg (ss.take k)).toArray⟩ ∧ Blk wr w.heap.size 26 z16 ∧ Below w.heap.size w wr) (fun _ i _ => n - (intOf i).toNat)
  case atStart => exact ⟨0, by omega, rfl, rfl, R0, b0⟩
  case round =>
    clear R0 b0
    obtain ⟨k, hk, rfl, rfl, hB, hb⟩ := hrel
    have hpl : (msg (ss.take k)).length ≤ 12 * 5010 := Nat.le_trans (msg_len fun x hx => hs x (List.mem_of_mem_take hx)) (Nat.mul_le_mul_right _ (by rw [List.length_take]; omega))
    by_cases hlt : k < n
    · obtain ⟨b, off, s, rfl, hbb, hc, hm, hd⟩ := (hr.below hb).atG (k := k) (by rw [HT.out]; exact hlt)
      have hsl := hs s hm
      have hel := encS_len s
      have hc' : wr.cell? ⟨b, off + k, none⟩ = some (.string ⟨s.toArray⟩) := hc
      have HS := Lib.hid (msg_snoc hd.out)
      clear hc hs hd
      generalize msg (ss.take k) = p at hpl HS ⊢
      go_wp2_with (go_at_call 45; refine (wBytes s _ (by omega)).mono ?_; rintro e w1 ⟨v1, rfl, hO1, hb1⟩; have hs1 := run_str 69 9 5 Tryd.underlying69 Tryd.underlying5 Tryd.underlying9 (Rd.of_own hO1))
      go_roundw
      case rel => exact ⟨k + 1, by omega, by go_num, by rw [HS.out], hB.below hb1 hB.lt, hb.trans (hb1.mono hb.size)⟩
      case measure => simp [intOf]; omega
    · obtain rfl : k = n := by omega
      have ht : ss.take k = ss := List.take_of_length_le (by rw [HT.out]; omega)
      have hl := hmac_len key (msg (ss.take k))
      have hq : hmac key (msg ss) = hmac key (msg (ss.take k)) := by rw [ht]
      have HQ := Lib.hid hq
      clear ht hq
      generalize msg (ss.take k) = p at hpl HQ hl ⊢
      generalize hmacEq : hmac key p = h at hl HQ
      have HM := Lib.hid hmacEq
      have HL := Lib.hid hl
      clear hl hmacEq
      go_wp2_with fail
      refine (hmacC key p _ hkl (by omega) (hK.below hb hK.1)).mono ?_
      rintro e w2 ⟨rfl, hb2⟩
      rw [HM.out]
      have hB2 := hB.below hb2 hB.lt
      have bb2 := hb.trans (hb2.mono hb.size)
      clear hb2 hB hb
      go_upto_region 8 with ((with_reducible show wpList _ _ _ (⟨none, .store 74 _ _, _, _, _, _⟩ :: _) _ _); refine op_store_new w2 _ _ rfl 74 (.tmp 8) (.tmp 23) rfl rfl (h.map B8).toArray rfl (by simp [HL.out, o32_len]) (by simpa using B8s_one h) (by simp [HL.out, size_o32]) ?_)
      have B3 : Blk (w2.alloc (.cells (h.map B8).toArray 74)) w2.heap.size 74 (h.map B8) := Blk.new rfl
      have hB3 := hB2.alloc (.cells (h.map B8).toArray 74)
      have bb3 := bb2.alloc bb2.size (.cells (h.map B8).toArray 74)
      generalize w2.alloc (.cells (h.map B8).toArray 74) = w3 at B3 hB3 bb3 ⊢
      clear hB2 bb2
      generalize w2.heap.size = g at B3 ⊢
      have ar := run_arrayAt (P := Tryd.prog) 26 5 16 Tryd.underlying26 (some ⟨g, 0, none⟩) 16 32 (by omega)
      have hcl : Cl w3 g 0 ((h.take 16).map B8) := by rw [List.map_take]; exact B3.cl.take 16
      have hl16 : ((h.take 16).map B8).length = 16 := by rw [List.length_map, List.length_take, HL.out]; rfl
      have H16 := Lib.hid hl16
      clear hl16
      go_wp2_with (first
        | ((with_reducible show wpList _ _ _ (⟨some 26, _, _, _, _, _⟩ :: _) _ _); refine op_load_agg rfl 26 (.tmp 25) rfl g 0 rfl _ Tryd.underlying26 rfl ((h.take 16).map B8) hcl (by rw [H16.out]; exact size_dg) ?_)
        | ((with_reducible show wpList _ _ _ (⟨none, .store 26 _ _, _, _, _, _⟩ :: _) _ _); refine op_store_blk rfl 26 (.tmp 4) (.tmp 26) rfl w.heap.size 26 _ hB3 rfl ((h.take 16).map B8) rfl (by rw [H16.out, z16_len]) (B8s_one _) (by rw [H16.out]; exact size_dg) ?_; intro w9 hC9 hoth9 hbel9 hsz9))
      have hld := run_loadVar_cl (P := Tryd.prog) 26 _ w.heap.size 0 ((h.take 16).map B8) hC9.cl Tryd.underlying26 rfl (by rw [H16.out]; exact size_dg)
      rw [HQ.out]
      refine bodyPost_ret (v := .agg ((h.take 16).map B8).toArray) ?_ rfl ⟨rfl, hbel9 _ _ bb3 (Nat.le_refl _)⟩
      simp [results, Tryd.results39, asAddr, hld, Act.put]
/-- The bytes that a seed is expanded to, by k hashes. -/
def exs (seed : List UInt8) (k : Nat) : List UInt8 := ((List.range k).map fun (i : Nat) => hmac seed (encI (i : Int))).flatten
theorem exs_succ (seed : List UInt8) (k : Nat) : exs seed (k + 1) = exs seed k ++ hmac seed (encI (k : Int)) := by
  unfold exs
  rw [List.range_succ]
  simp
theorem exs_len (seed : List UInt8) : ∀ k, (exs seed k).length = 32 * k
  | 0 => rfl
  | k + 1 => by rw [exs_succ, List.length_append, exs_len seed k, hmac_len]; omega
def expL (seed : List UInt8) (n : Nat) : List UInt8 := (exs seed ((n + 31) / 32)).take n
def expI (seed : List UInt8) (n : Int) : List UInt8 := if n < 1 ∨ 1048576 < n then [] else expL seed n.toNat
end Go.Proofs.YthinopepcmidmaaDoor
