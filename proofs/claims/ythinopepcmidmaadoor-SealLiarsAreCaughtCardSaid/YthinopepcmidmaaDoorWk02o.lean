/-
  Keyed digests and expansion, as the program reckons them.
-/
import Derived.RegionTactic
import Derived.BigRegion
import Derived.BigQuiet
import Derived.Test.YthinopepcmidmaaDoorWk02g
import Derived.Test.YthinopepcmidmaaDoorMA
import Derived.Test.YthinopepcmidmaaDoorWe
import Derived.Test.YthinopepcmidmaaDoorWk02a
set_option linter.unusedSimpArgs false
set_option linter.unusedVariables false
set_option maxRecDepth 100000
set_option maxHeartbeats 1600000
namespace Go.Proofs.YthinopepcmidmaaDoor
open Go.RowKit
/-- A part of a slice. -/
theorem Rd.part {w : World} {b off n c : Nat} {xs : List Value} (h : Rd w 1 (.slice (some ⟨b, off, none⟩) n c) n xs) {k m : Nat} (hm : 0 < m) (hk : k + m ≤ n) :
    Rd w 1 (.slice (some ⟨b, off + k, none⟩) m (c - k)) m ((xs.drop k).take m) := by
  obtain ⟨hl, A', c', hv, hc, hmx, hz, hr⟩ := h
  injection hv with h1 h2 h3
  subst h1 h3
  obtain ⟨b', off', hA, hb, hx⟩ := hr (by omega)
  injection hA with hA
  injection hA with e1 e2 e3
  subst e1 e2
  refine ⟨by rw [List.length_take, List.length_drop]; omega, _, _, rfl, by omega, by omega, (fun h => by cases h), fun _ => ⟨b, off + k, rfl, hb, fun j u hj => ?_⟩⟩
  rw [List.getElem?_take] at hj
  split at hj
  · rw [List.getElem?_drop] at hj
    rw [Nat.add_assoc]
    exact hx _ u hj
  · cases hj
theorem drop_take {α : Type} {l r : List α} {k : Nat} {x : α} (h : l.drop k = x :: r) : l.take (k + 1) = l.take k ++ [x] := by
  have hk : k < l.length := by
    rcases Nat.lt_or_ge k l.length with h' | h'
    · exact h'
    · rw [List.drop_eq_nil_of_le h'] at h; cases h
  rw [List.drop_eq_getElem_cons hk] at h
  injection h with h _
  rw [← List.take_append_getElem hk, h]
end Go.Proofs.YthinopepcmidmaaDoor
namespace Go.Proofs.YthinopepcmidmaaDoor
open Go.RowKit
/-- The concatenation of pieces. -/
def cat (ss : List (List UInt8)) : List UInt8 := ss.flatten
theorem cat_snoc {ss : List (List UInt8)} {k : Nat} {s : List UInt8} {r : List (List UInt8)} (h : ss.drop k = s :: r) : cat (ss.take (k + 1)) = cat (ss.take k) ++ s := by
  unfold cat
  rw [drop_take h]
  simp
theorem cat_len {ss : List (List UInt8)} {M : Nat} (h : ∀ s ∈ ss, s.length ≤ M) : (cat ss).length ≤ ss.length * M := by
  induction ss with
  | nil => simp [cat]
  | cons s ss ih =>
    have h1 := h s (by simp)
    have h2 := ih (fun x hx => h x (by simp [hx]))
    unfold cat at *
    simp only [List.flatten_cons, List.length_append, List.length_cons, Nat.succ_mul]
    omega
end Go.Proofs.YthinopepcmidmaaDoor
namespace Go.Proofs.YthinopepcmidmaaDoor
open Go.RowKit
/-- The message of parts. -/
def msg (ss : List (List UInt8)) : List UInt8 := cat (ss.map encS)
theorem msg_snoc {ss : List (List UInt8)} {k : Nat} {s : List UInt8} {r : List (List UInt8)} (h : ss.drop k = s :: r) : msg (ss.take (k + 1)) = msg (ss.take k) ++ encS s := by
  unfold msg
  rw [List.map_take, List.map_take]
  exact cat_snoc (r := r.map encS) (by rw [← List.map_drop, h]; rfl)
theorem encS_len (s : List UInt8) : (encS s).length ≤ s.length + 10 := by
  have := encI_length s.length
  unfold encS
  rw [List.length_append]
  omega
theorem msg_len {ss : List (List UInt8)} (h : ∀ s ∈ ss, s.length ≤ 5000) : (msg ss).length ≤ ss.length * 5010 := by
  have := cat_len (ss := ss.map encS) (M := 5010) (fun x hx => by
    obtain ⟨s, hs, rfl⟩ := List.mem_map.1 hx
    have h1 := h s hs
    have h2 := encS_len s
    omega)
  rwa [List.length_map] at this
/-- A tag's byte. -/
def tagB (tag : Int) : UInt8 := UInt8.ofNat (tag % 256).toNat
theorem tagB_of (tag : Int) : Value.int .u8 (tag % 256) = B8 (tagB tag) := by
  refine B8_of _ _ ?_
  unfold tagB
  rw [UInt8.toNat_ofNat', Nat.mod_eq_of_lt (by omega)]
  omega
/-- The input of a digest. -/
def inp (tag : Int) (ss : List (List UInt8)) : List UInt8 := tagB tag :: msg ss
end Go.Proofs.YthinopepcmidmaaDoor
namespace Go.Proofs.YthinopepcmidmaaDoor
open Go.RowKit
theorem size_dg : (Tryd.prog.info? 26).map (·.size) = some 16 := by kernel_rfl
def z16 : List Value := (List.replicate 16 (0 : UInt8)).map B8
theorem z16_len : z16.length = 16 := rfl
theorem zero16 : ∀ w : World, (zeroValue 26).run Tryd.prog w = .ok (.agg z16.toArray) w := fun _ => by kernel_rfl
theorem hmac_len (key m : List UInt8) : (hmac key m).length = 32 := sha_len _
theorem Cl.take {w : World} {b off : Nat} {xs : List Value} (h : Cl w b off xs) (k : Nat) : Cl w b off (xs.take k) := by
  intro j u hj
  rw [List.getElem?_take] at hj
  split at hj
  · exact h j u hj
  · cases hj
theorem macC (key : List UInt8) (A : Option Addr) (n c : Nat) (ss : List (List UInt8)) (w : World) (hr : Rd w 1 (.slice A n c) n (ss.map tx)) (hn : n ≤ 12) (hs : ∀ s ∈ ss, s.length ≤ 5000) (hkl : key.length ≤ 1048576) (hK : KK w) :
    Calls Tryd.prog 39 #[.string ⟨key.toArray⟩, .slice A n c] w fun e w' => e = .returned (.agg (((hmac key (msg ss)).take 16).map B8).toArray) ∧ Below w.heap.size w w' := by
  have HT := Lib.hid hr.n_eq
  have hz := zero16
  have hz2 := zero32
  have hcat := ByteArray.mk_append_mk
  have R0 : Blk (w.alloc (.cells z16.toArray 26)) w.heap.size 26 z16 := Blk.new rfl
  have b0 := (Below.refl w.heap.size w).alloc (Nat.le_refl _) (.cells z16.toArray 26)
  go_enter Tryd.func39, Tryd.ntmps39
  go_wp2
  generalize w.alloc (.cells z16.toArray 26) = W at R0 b0 ⊢
  go_loopw [5, 11] (fun v i wr => ∃ k : Nat, k ≤ n ∧ i = .int .i64 (k : Int) ∧ v = .string ⟨(msg (ss.take k)).toArray⟩ ∧ Blk wr w.heap.size 26 z16 ∧ Below w.heap.size w wr) (fun _ i _ => n - (intOf i).toNat)
  case atStart => exact ⟨0, by omega, rfl, rfl, R0, b0⟩
  case round =>
    clear R0 b0
    obtain ⟨k, hk, rfl, rfl, hB, hb⟩ := hrel
    have hpl : (msg (ss.take k)).length ≤ 12 * 5010 := Nat.le_trans (msg_len fun x hx => hs x (List.mem_of_mem_take hx)) (Nat.mul_le_mul_right _ (by rw [List.length_take]; omega))
    by_cases hlt : k < n
    · obtain ⟨b, off, s, rfl, hbb, hc, hm, hd⟩ := (hr.below hb).atG (k := k) (by rw [HT.out]; exact hlt)
      have hsl := hs s hm
      have hel := encS_len s
      have hc' : wr.cell? ⟨b, off + k, none⟩ = some (.string ⟨s.toArray⟩) := hc
      have HS := Lib.hid (msg_snoc hd.out)
      clear hc hs hd
      generalize msg (ss.take k) = p at hpl HS ⊢
      go_wp2_with (go_at_call 45; refine (wBytes s _ (by omega)).mono ?_; rintro e w1 ⟨v1, rfl, hO1, hb1⟩; have hs1 := run_str 69 9 5 Tryd.underlying69 Tryd.underlying5 Tryd.underlying9 (Rd.of_own hO1))
      go_roundw
      case rel => exact ⟨k + 1, by omega, by go_num, by rw [HS.out], hB.below hb1 hB.lt, hb.trans (hb1.mono hb.size)⟩
      case measure => simp [intOf]; omega
    · obtain rfl : k = n := by omega
      have ht : ss.take k = ss := List.take_of_length_le (by rw [HT.out]; omega)
      have hl := hmac_len key (msg (ss.take k))
      have hq : hmac key (msg ss) = hmac key (msg (ss.take k)) := by rw [ht]
      have HQ := Lib.hid hq
      clear ht hq
      generalize msg (ss.take k) = p at hpl HQ hl ⊢
      generalize hmacEq : hmac key p = h at hl HQ
      have HM := Lib.hid hmacEq
      have HL := Lib.hid hl
      clear hl hmacEq
      go_wp2_with fail
      refine (hmacC key p _ hkl (by omega) (hK.below hb hK.1)).mono ?_
      rintro e w2 ⟨rfl, hb2⟩
      rw [HM.out]
      have hB2 := hB.below hb2 hB.lt
      have bb2 := hb.trans (hb2.mono hb.size)
      clear hb2 hB hb
      go_upto_region 8 with ((with_reducible show wpList _ _ _ (⟨none, .store 74 _ _, _, _, _, _⟩ :: _) _ _); refine op_store_new w2 _ _ rfl 74 (.tmp 8) (.tmp 23) rfl rfl (h.map B8).toArray rfl (by simp [HL.out, o32_len]) (by simpa using B8s_one h) (by simp [HL.out, size_o32]) ?_)
      have B3 : Blk (w2.alloc (.cells (h.map B8).toArray 74)) w2.heap.size 74 (h.map B8) := Blk.new rfl
      have hB3 := hB2.alloc (.cells (h.map B8).toArray 74)
      have bb3 := bb2.alloc bb2.size (.cells (h.map B8).toArray 74)
      generalize w2.alloc (.cells (h.map B8).toArray 74) = w3 at B3 hB3 bb3 ⊢
      clear hB2 bb2
      generalize w2.heap.size = g at B3 ⊢
      have ar := run_arrayAt (P := Tryd.prog) 26 5 16 Tryd.underlying26 (some ⟨g, 0, none⟩) 16 32 (by omega)
      have hcl : Cl w3 g 0 ((h.take 16).map B8) := by rw [List.map_take]; exact B3.cl.take 16
      have hl16 : ((h.take 16).map B8).length = 16 := by rw [List.length_map, List.length_take, HL.out]; rfl
      have H16 := Lib.hid hl16
      clear hl16
      go_wp2_with (first
        | ((with_reducible show wpList _ _ _ (⟨some 26, _, _, _, _, _⟩ :: _) _ _); refine op_load_agg rfl 26 (.tmp 25) rfl g 0 rfl _ Tryd.underlying26 rfl ((h.take 16).map B8) hcl (by rw [H16.out]; exact size_dg) ?_)
        | ((with_reducible show wpList _ _ _ (⟨none, .store 26 _ _, _, _, _, _⟩ :: _) _ _); refine op_store_blk rfl 26 (.tmp 4) (.tmp 26) rfl w.heap.size 26 _ hB3 rfl ((h.take 16).map B8) rfl (by rw [H16.out, z16_len]) (B8s_one _) (by rw [H16.out]; exact size_dg) ?_; intro w9 hC9 hoth9 hbel9 hsz9))
      have hld := run_loadVar_cl (P := Tryd.prog) 26 _ w.heap.size 0 ((h.take 16).map B8) hC9.cl Tryd.underlying26 rfl (by rw [H16.out]; exact size_dg)
      rw [HQ.out]
      refine bodyPost_ret (v := .agg ((h.take 16).map B8).toArray) ?_ rfl ⟨rfl, hbel9 _ _ bb3 (Nat.le_refl _)⟩
      simp [results, Tryd.results39, asAddr, hld, Act.put]
end Go.Proofs.YthinopepcmidmaaDoor
