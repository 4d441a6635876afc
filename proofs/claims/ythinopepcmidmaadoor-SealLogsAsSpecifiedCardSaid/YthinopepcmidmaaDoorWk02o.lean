/-
  Keyed digests and expansion, as the program reckons them.
-/
import Derived.RegionTactic
import Derived.BigRegion
import Derived.BigQuiet
import Derived.Test.YthinopepcmidmaaDoorWk02g
import Derived.Test.YthinopepcmidmaaDoorMA
import Derived.Test.YthinopepcmidmaaDoorAp8
import Derived.Test.YthinopepcmidmaaDoorWe
set_option linter.unusedSimpArgs false
set_option linter.unusedVariables false
set_option maxRecDepth 100000
set_option maxHeartbeats 1600000
namespace Go.Proofs.YthinopepcmidmaaDoor
open Go.RowKit
theorem bcell_get {h : List UInt8} {k : Nat} (hk : k < h.length) : (h.map B8)[k]? = some (.int .u8 ((h[k]).toNat : Int)) := by
  rw [List.getElem?_map, List.getElem?_eq_getElem hk]; rfl
theorem b8_snoc {h : List UInt8} {k : Nat} (hk : k < h.length) : (h.take k).map B8 ++ [.int .u8 ((h[k]).toNat : Int)] = (h.take (k + 1)).map B8 := by
  rw [take_snoc hk, List.map_append]; rfl
theorem b32C (h : List UInt8) (w : World) (hl : h.length = 32) :
    Calls Tryd.prog 54 #[.agg (h.map B8).toArray] w fun e w' => e = .returned (.string ⟨h.toArray⟩) ∧ Below w.heap.size w w' := by
  have HL := Lib.hid hl
  clear hl
  go_enter Tryd.func54, Tryd.ntmps54
  go_wp2
  have B0 : Blk (w.alloc (.cells (h.map B8).toArray 74)) w.heap.size 74 (h.map B8) := Blk.new rfl
  go_loopw [3, 4] (fun v i wr => ∃ k : Nat, k ≤ 32 ∧ i = .int .i64 (k : Int) ∧ wr.ownsRow (w.heap.size + 1) 5 1 v k ((h.take k).map B8) ∧ Blk wr w.heap.size 74 (h.map B8) ∧ Below w.heap.size w wr ∧ w.heap.size + 1 ≤ wr.heap.size) (fun _ i _ => 32 - (intOf i).toNat)
  case atStart => exact ⟨0, by omega, rfl, own_nil _ _ _, B0, (Below.refl _ _).alloc (Nat.le_refl _) _, by simp⟩
  case round =>
    clear B0
    obtain ⟨k, hk, rfl, hown, hB, hb, hz⟩ := hrel
    have hR := Rd.of_own hown
    obtain ⟨A1, c1, rfl, hc1, hc2⟩ := hR.form
    by_cases hlt : k < 32
    · have hlt2 : k < h.length := by rw [HL.out]; exact hlt
      have ci : wr.cell? ⟨w.heap.size, k, none⟩ = some (.int .u8 ((h[k]'hlt2).toNat : Int)) := hB.cell (bcell_get hlt2)
      have HS := Lib.hid (b8_snoc hlt2)
      clear hR
      generalize h[k]'hlt2 = x at ci HS
      go_wp2_with (at_builtin; refine app8 rfl rfl (w.heap.size + 1) _ (k) _ rfl hown rfl rfl (by omega) (hz) ?_; intro A2 c2 w2 hown2 hc3 hc4 hb2)
      go_roundw
      case rel =>
        rw [HS.out] at hown2
        exact ⟨k + 1, by omega, by go_num, hown2, hB.below hb2 (by omega), hb.trans (hb2.mono (by omega)), Nat.le_trans hz hb2.size⟩
      case measure => simp [intOf]; omega
    · obtain rfl : k = 32 := by omega
      rw [List.take_of_length_le (by rw [HL.out]; omega)] at hR
      have hs := run_str 69 9 5 Tryd.underlying69 Tryd.underlying5 Tryd.underlying9 hR
      clear hR hown
      go_wp2
      go_ret
      exact ⟨rfl, hb⟩
/-- The concatenation of pieces. -/
def cat (ss : List (List UInt8)) : List UInt8 := ss.flatten
theorem cat_snoc {ss : List (List UInt8)} {k : Nat} {s : List UInt8} {r : List (List UInt8)} (h : ss.drop k = s :: r) : cat (ss.take (k + 1)) = cat (ss.take k) ++ s := by
  unfold cat
  rw [drop_take h]
  simp
theorem cat_len {ss : List (List UInt8)} {M : Nat} (h : ∀ s ∈ ss, s.length ≤ M) : (cat ss).length ≤ ss.length * M := by
  induction ss with
  | nil => simp [cat]
  | cons s ss ih =>
    have h1 := h s (by simp)
    have h2 := ih (fun x hx => h x (by simp [hx]))
    unfold cat at *
    simp only [List.flatten_cons, List.length_append, List.length_cons, Nat.succ_mul]
    omega
end Go.Proofs.YthinopepcmidmaaDoor
namespace Go.Proofs.YthinopepcmidmaaDoor
open Go.RowKit
/-- The message of parts. -/
def msg (ss : List (List UInt8)) : List UInt8 := cat (ss.map encS)
theorem msg_snoc {ss : List (List UInt8)} {k : Nat} {s : List UInt8} {r : List (List UInt8)} (h : ss.drop k = s :: r) : msg (ss.take (k + 1)) = msg (ss.take k) ++ encS s := by
  unfold msg
  rw [List.map_take, List.map_take]
  exact cat_snoc (r := r.map encS) (by rw [← List.map_drop, h]; rfl)
theorem encS_len (s : List UInt8) : (encS s).length ≤ s.length + 10 := by
  have := encI_length s.length
  unfold encS
  rw [List.length_append]
  omega
theorem msg_len {ss : List (List UInt8)} (h : ∀ s ∈ ss, s.length ≤ 5000) : (msg ss).length ≤ ss.length * 5010 := by
  have := cat_len (ss := ss.map encS) (M := 5010) (fun x hx => by
    obtain ⟨s, hs, rfl⟩ := List.mem_map.1 hx
    have h1 := h s hs
    have h2 := encS_len s
    omega)
  rwa [List.length_map] at this
theorem messageC (A : Option Addr) (n c : Nat) (ss : List (List UInt8)) (w : World) (hr : Rd w 1 (.slice A n c) n (ss.map tx)) (hn : n ≤ 12) (hs : ∀ s ∈ ss, s.length ≤ 5000) :
    Calls Tryd.prog 41 #[.slice A n c] w fun e w' => e = .returned (.string ⟨(msg ss).toArray⟩) ∧ Below w.heap.size w w' := by
  have HT := Lib.hid hr.n_eq
  go_enter Tryd.func41, Tryd.ntmps41
  go_wp2
  go_loopw [3, 4] (fun v i wr => ∃ k : Nat, k ≤ n ∧ i = .int .i64 (k : Int) ∧ wr.ownsRow w.heap.size 5 1 v (msg (ss.take k)).length ((msg (ss.take k)).map B8) ∧ Below w.heap.size w wr) (fun _ i _ => n - (intOf i).toNat)
  case atStart => exact ⟨0, by omega, rfl, own_nil _ _ _, Below.refl _ _⟩
  case round =>
    obtain ⟨k, hk, rfl, hown, hb⟩ := hrel
    have hpl : (msg (ss.take k)).length ≤ 12 * 5010 := Nat.le_trans (msg_len fun x hx => hs x (List.mem_of_mem_take hx)) (Nat.mul_le_mul_right _ (by rw [List.length_take]; omega))
    by_cases hlt : k < n
    · obtain ⟨b, off, s, rfl, hbb, hc, hm, hd⟩ := (hr.below hb).atG (k := k) (by rw [HT.out]; exact hlt)
      have hsl := hs s hm
      have hel := encS_len s
      have hc' : wr.cell? ⟨b, off + k, none⟩ = some (.string ⟨s.toArray⟩) := hc
      have HS := Lib.hid (msg_snoc hd.out)
      clear hc hs hd
      generalize msg (ss.take k) = p at hpl HS hown
      have hR := Rd.of_own hown
      obtain ⟨A1, c1, rfl, hc1, hc2⟩ := hR.form
      clear hR
      go_wp2_with (first
        | (go_at_call 55; refine (rBytes s _ (by omega)).mono ?_; rintro e w1 ⟨v1, rfl, hO1, hb1⟩; have hown1 := own_below hown hb1; have hr1 := Rd.of_own hO1; have hbb1 := hb.trans (hb1.mono hb.size))
        | (at_builtin; refine append_rd rfl (.tmp 11) (.tmp 16) 69 rfl w.heap.size 5 _ 1 1 Tryd.underlying69 info_u8 rfl (by decide) _ _ _ rfl hown1 _ _ _ rfl hr1 (B8s_one _) (by omega) (by unfold maxLen; omega) hbb1.size ?_; intro v2 w2 hown2 hg2 hb2))
      go_roundw
      case rel =>
        rw [← List.map_append, ← List.length_append, ← HS.out] at hown2
        exact ⟨k + 1, by omega, by go_num, hown2, hbb1.trans hb2⟩
      case measure => simp [intOf]; omega
    · obtain rfl : k = n := by omega
      have ht : ss.take k = ss := List.take_of_length_le (by rw [HT.out]; omega)
      rw [ht] at hown
      clear ht
      have hR := Rd.of_own hown
      obtain ⟨A1, c1, rfl, hc1, hc2⟩ := hR.form
      have hst := run_str 69 9 5 Tryd.underlying69 Tryd.underlying5 Tryd.underlying9 hR
      clear hR hown
      go_wp2
      go_ret
      exact ⟨rfl, hb⟩
/-- A tag's byte. -/
def tagB (tag : Int) : UInt8 := UInt8.ofNat (tag % 256).toNat
theorem tagB_of (tag : Int) : Value.int .u8 (tag % 256) = B8 (tagB tag) := by
  refine B8_of _ _ ?_
  unfold tagB
  rw [UInt8.toNat_ofNat', Nat.mod_eq_of_lt (by omega)]
  omega
/-- The input of a digest. -/
def inp (tag : Int) (ss : List (List UInt8)) : List UInt8 := tagB tag :: msg ss
theorem inputC (tag : Int) (A : Option Addr) (n c : Nat) (ss : List (List UInt8)) (w : World) (hr : Rd w 1 (.slice A n c) n (ss.map tx)) (hn : n ≤ 12) (hs : ∀ s ∈ ss, s.length ≤ 5000) :
    Calls Tryd.prog 49 #[.int .i64 tag, .slice A n c] w fun e w' => ∃ A' c', e = .returned (.slice A' (inp tag ss).length c') ∧ Rd w' 1 (.slice A' (inp tag ss).length c') (inp tag ss).length ((inp tag ss).map B8) ∧ Below w.heap.size w w' := by
  have HT := Lib.hid hr.n_eq
  have e1 : (w.alloc (.cells #[.int .u8 (tag % 256)] 5)).ownsRow w.heap.size 5 1 (.slice (some ⟨w.heap.size, 0, none⟩) 1 1) 1 ((tagB tag :: msg (ss.take 0)).map B8) :=
    ⟨rfl, .inr ⟨w.heap.size, 1, #[.int .u8 (tag % 256)], rfl, Nat.le_refl _, heap_alloc_new w _, Nat.le_refl _, by unfold maxLen; omega, rfl, by rw [tagB_of]; rfl⟩⟩
  go_enter Tryd.func49, Tryd.ntmps49
  go_wp2
  go_loopw [5, 6] (fun v i wr => ∃ k : Nat, k ≤ n ∧ i = .int .i64 (k : Int) ∧ wr.ownsRow w.heap.size 5 1 v (tagB tag :: msg (ss.take k)).length ((tagB tag :: msg (ss.take k)).map B8) ∧ Below w.heap.size w wr) (fun _ i _ => n - (intOf i).toNat)
  case atStart => exact ⟨0, by omega, rfl, e1, (Below.refl _ _).alloc (Nat.le_refl _) _⟩
  case round =>
    clear e1
    obtain ⟨k, hk, rfl, hown, hb⟩ := hrel
    have hpl : (msg (ss.take k)).length ≤ 12 * 5010 := Nat.le_trans (msg_len fun x hx => hs x (List.mem_of_mem_take hx)) (Nat.mul_le_mul_right _ (by rw [List.length_take]; omega))
    by_cases hlt : k < n
    · obtain ⟨b, off, s, rfl, hbb, hc, hm, hd⟩ := (hr.below hb).atG (k := k) (by rw [HT.out]; exact hlt)
      have hsl := hs s hm
      have hel := encS_len s
      have hc' : wr.cell? ⟨b, off + k, none⟩ = some (.string ⟨s.toArray⟩) := hc
      have HS := Lib.hid (msg_snoc hd.out)
      clear hc hs hd
      generalize msg (ss.take k) = p at hpl HS hown
      have hql : (tagB tag :: p).length ≤ 61000 := by simp; omega
      have HS2 : Hid (tagB tag :: msg (List.take (k + 1) ss) = (tagB tag :: p) ++ encS s) := by show _ = _; rw [HS.out]; rfl
      generalize tagB tag :: p = q at hown hql HS2
      have hR := Rd.of_own hown
      obtain ⟨A1, c1, rfl, hc1, hc2⟩ := hR.form
      clear hR
      go_wp2_with (first
        | (go_at_call 55; refine (rBytes s _ (by omega)).mono ?_; rintro e w1 ⟨v1, rfl, hO1, hb1⟩; have hown1 := own_below hown hb1; have hr1 := Rd.of_own hO1; have hbb1 := hb.trans (hb1.mono hb.size))
        | (at_builtin; refine append_rd rfl (.tmp 16) (.tmp 21) 69 rfl w.heap.size 5 _ 1 1 Tryd.underlying69 info_u8 rfl (by decide) _ _ _ rfl hown1 _ _ _ rfl hr1 (B8s_one _) (by omega) (by unfold maxLen; omega) hbb1.size ?_; intro v2 w2 hown2 hg2 hb2))
      go_roundw
      case rel =>
        rw [← List.map_append, ← List.length_append, ← HS2.out] at hown2
        exact ⟨k + 1, by omega, by go_num, hown2, hbb1.trans hb2⟩
      case measure => simp [intOf]; omega
    · obtain rfl : k = n := by omega
      have ht : ss.take k = ss := List.take_of_length_le (by rw [HT.out]; omega)
      rw [ht] at hown
      clear ht
      have hR := Rd.of_own hown
      have ei : tagB tag :: msg ss = inp tag ss := rfl
      rw [ei] at hR
      clear ei
      obtain ⟨q, hq⟩ : ∃ q, q = inp tag ss := ⟨_, rfl⟩
      rw [← hq] at hR
      have HQ := Lib.hid hq
      clear hq
      obtain ⟨A1, c1, rfl, hc1, hc2⟩ := hR.form
      clear hown
      go_wp2
      go_ret
      exact ⟨A1, c1, by rw [← HQ.out]; rfl, by rw [← HQ.out]; exact hR, hb⟩
end Go.Proofs.YthinopepcmidmaaDoor
namespace Go.Proofs.YthinopepcmidmaaDoor
open Go.RowKit
theorem size_dg : (Tryd.prog.info? 26).map (·.size) = some 16 := by kernel_rfl
def z16 : List Value := (List.replicate 16 (0 : UInt8)).map B8
theorem z16_len : z16.length = 16 := rfl
theorem zero16 : ∀ w : World, (zeroValue 26).run Tryd.prog w = .ok (.agg z16.toArray) w := fun _ => by kernel_rfl
theorem hmac_len (key m : List UInt8) : (hmac key m).length = 32 := sha_len _
theorem Cl.take {w : World} {b off : Nat} {xs : List Value} (h : Cl w b off xs) (k : Nat) : Cl w b off (xs.take k) := by
  intro j u hj
  rw [List.getElem?_take] at hj
  split at hj
  · exact h j u hj
  · cases hj
theorem macC (key : List UInt8) (A : Option Addr) (n c : Nat) (ss : List (List UInt8)) (w : World) (hr : Rd w 1 (.slice A n c) n (ss.map tx)) (hn : n ≤ 12) (hs : ∀ s ∈ ss, s.length ≤ 5000) (hkl : key.length ≤ 1048576) (hK : KK w) :
    Calls Tryd.prog 39 #[.string ⟨key.toArray⟩, .slice A n c] w fun e w' => e = .returned (.agg (((hmac key (msg ss)).take 16).map B8).toArray) ∧ Below w.heap.size w w' := by
  have HT := Lib.hid hr.n_eq
  have hz := zero16
  have hz2 := zero32
  have hcat := ByteArray.mk_append_mk
  have R0 : Blk (w.alloc (.cells z16.toArray 26)) w.heap.size 26 z16 := Blk.new rfl
  have b0 := (Below.refl w.heap.size w).alloc (Nat.le_refl _) (.cells z16.toArray 26)
  go_enter Tryd.func39, Tryd.ntmps39
  go_wp2
  generalize w.alloc (.cells z16.toArray 26) = W at R0 b0 ⊢
  go_loopw [5, 11] (fun v i wr => ∃ k : Nat, k ≤ n ∧ i = .int .i64 (k : Int) ∧ v = .string ⟨(msg (ss.take k)).toArray⟩ ∧ Blk wr w.heap.size 26 z16 ∧ Below w.heap.size w wr) (fun _ i _ => n - (intOf i).toNat)
  case atStart => exact ⟨0, by omega, rfl, rfl, R0, b0⟩
  case round =>
    clear R0 b0
    obtain ⟨k, hk, rfl, rfl, hB, hb⟩ := hrel
    have hpl : (msg (ss.take k)).length ≤ 12 * 5010 := Nat.le_trans (msg_len fun x hx => hs x (List.mem_of_mem_take hx)) (Nat.mul_le_mul_right _ (by rw [List.length_take]; omega))
    by_cases hlt : k < n
    · obtain ⟨b, off, s, rfl, hbb, hc, hm, hd⟩ := (hr.below hb).atG (k := k) (by rw [HT.out]; exact hlt)
      have hsl := hs s hm
      have hel := encS_len s
      have hc' : wr.cell? ⟨b, off + k, none⟩ = some (.string ⟨s.toArray⟩) := hc
      have HS := Lib.hid (msg_snoc hd.out)
      clear hc hs hd
      generalize msg (ss.take k) = p at hpl HS ⊢
      go_wp2_with (go_at_call 45; refine (wBytes s _ (by omega)).mono ?_; rintro e w1 ⟨v1, rfl, hO1, hb1⟩; have hs1 := run_str 69 9 5 Tryd.underlying69 Tryd.underlying5 Tryd.underlying9 (Rd.of_own hO1))
      go_roundw
      case rel => exact ⟨k + 1, by omega, by go_num, by rw [HS.out], hB.below hb1 hB.lt, hb.trans (hb1.mono hb.size)⟩
      case measure => simp [intOf]; omega
    · obtain rfl : k = n := by omega
      have ht : ss.take k = ss := List.take_of_length_le (by rw [HT.out]; omega)
      have hl := hmac_len key (msg (ss.take k))
      have hq : hmac key (msg ss) = hmac key (msg (ss.take k)) := by rw [ht]
      have HQ := Lib.hid hq
      clear ht hq
      generalize msg (ss.take k) = p at hpl HQ hl ⊢
      generalize hmacEq : hmac key p = h at hl HQ
      have HM := Lib.hid hmacEq
      have HL := Lib.hid hl
      clear hl hmacEq
      go_wp2_with fail
      refine (hmacC key p _ hkl (by omega) (hK.below hb hK.1)).mono ?_
      rintro e w2 ⟨rfl, hb2⟩
      rw [HM.out]
      have hB2 := hB.below hb2 hB.lt
      have bb2 := hb.trans (hb2.mono hb.size)
      clear hb2 hB hb
      go_upto_region 8 with ((with_reducible show wpList _ _ _ (⟨none, .store 74 _ _, _, _, _, _⟩ :: _) _ _); refine op_store_new w2 _ _ rfl 74 (.tmp 8) (.tmp 23) rfl rfl (h.map B8).toArray rfl (by simp [HL.out, o32_len]) (by simpa using B8s_one h) (by simp [HL.out, size_o32]) ?_)
      have B3 : Blk (w2.alloc (.cells (h.map B8).toArray 74)) w2.heap.size 74 (h.map B8) := Blk.new rfl
      have hB3 := hB2.alloc (.cells (h.map B8).toArray 74)
      have bb3 := bb2.alloc bb2.size (.cells (h.map B8).toArray 74)
      generalize w2.alloc (.cells (h.map B8).toArray 74) = w3 at B3 hB3 bb3 ⊢
      clear hB2 bb2
      generalize w2.heap.size = g at B3 ⊢
      have ar := run_arrayAt (P := Tryd.prog) 26 5 16 Tryd.underlying26 (some ⟨g, 0, none⟩) 16 32 (by omega)
      have hcl : Cl w3 g 0 ((h.take 16).map B8) := by rw [List.map_take]; exact B3.cl.take 16
      have hl16 : ((h.take 16).map B8).length = 16 := by rw [List.length_map, List.length_take, HL.out]; rfl
      have H16 := Lib.hid hl16
      clear hl16
      go_wp2_with (first
        | ((with_reducible show wpList _ _ _ (⟨some 26, _, _, _, _, _⟩ :: _) _ _); refine op_load_agg rfl 26 (.tmp 25) rfl g 0 rfl _ Tryd.underlying26 rfl ((h.take 16).map B8) hcl (by rw [H16.out]; exact size_dg) ?_)
        | ((with_reducible show wpList _ _ _ (⟨none, .store 26 _ _, _, _, _, _⟩ :: _) _ _); refine op_store_blk rfl 26 (.tmp 4) (.tmp 26) rfl w.heap.size 26 _ hB3 rfl ((h.take 16).map B8) rfl (by rw [H16.out, z16_len]) (B8s_one _) (by rw [H16.out]; exact size_dg) ?_; intro w9 hC9 hoth9 hbel9 hsz9))
      have hld := run_loadVar_cl (P := Tryd.prog) 26 _ w.heap.size 0 ((h.take 16).map B8) hC9.cl Tryd.underlying26 rfl (by rw [H16.out]; exact size_dg)
      rw [HQ.out]
      refine bodyPost_ret (v := .agg ((h.take 16).map B8).toArray) ?_ rfl ⟨rfl, hbel9 _ _ bb3 (Nat.le_refl _)⟩
      simp [results, Tryd.results39, asAddr, hld, Act.put]
end Go.Proofs.YthinopepcmidmaaDoor
