/-
  The reference's messages and inputs; the law's hex and clash.
-/
import Derived.Test.YtmmomcililideaaDoorWk02k
import Derived.RegionTactic
import Derived.BigRegion
set_option linter.unusedSimpArgs false
set_option linter.unusedVariables false
namespace Go.Proofs.YtmmomcililideaaDoor
open Go.RowKit

/-- The message of parts. -/
def msg (ss : List (List UInt8)) : List UInt8 := cat (ss.map encS)
theorem msg_snoc {ss : List (List UInt8)} {k : Nat} {s : List UInt8} {r : List (List UInt8)} (h : ss.drop k = s :: r) : msg (ss.take (k + 1)) = msg (ss.take k) ++ encS s := by
  unfold msg
  rw [List.map_take, List.map_take]
  exact cat_snoc (r := r.map encS) (by rw [← List.map_drop, h]; rfl)
theorem encS_len (s : List UInt8) : (encS s).length ≤ s.length + 10 := by
  have := encI_length s.length
  unfold encS
  rw [List.length_append]
  omega
theorem msg_len {ss : List (List UInt8)} (h : ∀ s ∈ ss, s.length ≤ 400) : (msg ss).length ≤ ss.length * 410 := by
  have := cat_len (ss := ss.map encS) (M := 410) (fun x hx => by
    obtain ⟨s, hs, rfl⟩ := List.mem_map.1 hx
    have h1 := h s hs
    have h2 := encS_len s
    omega)
  rwa [List.length_map] at this

set_option maxRecDepth 100000 in
theorem messageC (A : Option Addr) (n c : Nat) (ss : List (List UInt8)) (w : World) (hr : Rd w 1 (.slice A n c) n (ss.map tx)) (hn : n ≤ 12) (hs : ∀ s ∈ ss, s.length ≤ 400) :
    Calls Tryd.prog 31 #[.slice A n c] w fun e w' => e = .returned (.string ⟨(msg ss).toArray⟩) ∧ Below w.heap.size w w' := by
  have HT := Lib.hid hr.n_eq
  go_enter Tryd.func31, Tryd.ntmps31
  go_wp2
  go_loopw [3, 4] (fun v i wr => ∃ k : Nat, k ≤ n ∧ i = .int .i64 (k : Int) ∧ wr.ownsRow w.heap.size 5 1 v (msg (ss.take k)).length ((msg (ss.take k)).map B8) ∧ Below w.heap.size w wr) (fun _ i _ => n - (intOf i).toNat)
  case atStart => exact ⟨0, by omega, rfl, own_nil _ _ _, Below.refl _ _⟩
  case round =>
    obtain ⟨k, hk, rfl, hown, hb⟩ := hrel
    have hpl : (msg (ss.take k)).length ≤ 12 * 410 := Nat.le_trans (msg_len fun x hx => hs x (List.mem_of_mem_take hx)) (Nat.mul_le_mul_right _ (by rw [List.length_take]; omega))
    by_cases hlt : k < n
    · obtain ⟨b, off, s, rfl, hbb, hc, hm, hd⟩ := (hr.below hb).atG (k := k) (by rw [HT.out]; exact hlt)
      have hsl := hs s hm
      have hel := encS_len s
      have hc' : wr.cell? ⟨b, off + k, none⟩ = some (.string ⟨s.toArray⟩) := hc
      have HS := Lib.hid (msg_snoc hd.out)
      clear hc hs hd
      generalize msg (ss.take k) = p at hpl HS hown
      have hR := Rd.of_own hown
      obtain ⟨A1, c1, rfl, hc1, hc2⟩ := hR.form
      clear hR
      go_wp2_with (first
        | (go_at_call 41; refine (rBytes s _ (by omega)).mono ?_; rintro e w1 ⟨v1, rfl, hO1, hb1⟩; have hown1 := own_below hown hb1; have hr1 := Rd.of_own hO1; have hbb1 := hb.trans (hb1.mono hb.size))
        | (at_builtin; refine append_rd rfl (.tmp 11) (.tmp 16) 22 rfl w.heap.size 5 _ 1 1 Tryd.underlying22 info_u8 rfl (by decide) _ _ _ rfl hown1 _ _ _ rfl hr1 (B8s_one _) (by omega) (by unfold maxLen; omega) hbb1.size ?_; intro v2 w2 hown2 hg2 hb2))
      go_roundw
      case rel =>
        rw [← List.map_append, ← List.length_append, ← HS.out] at hown2
        exact ⟨k + 1, by omega, by go_num, hown2, hbb1.trans hb2⟩
      case measure => simp [intOf]; omega
    · obtain rfl : k = n := by omega
      have ht : ss.take k = ss := List.take_of_length_le (by rw [HT.out]; omega)
      rw [ht] at hown
      clear ht
      have hR := Rd.of_own hown
      obtain ⟨A1, c1, rfl, hc1, hc2⟩ := hR.form
      have hst := run_str 22 9 5 Tryd.underlying22 Tryd.underlying5 Tryd.underlying9 hR
      clear hR hown
      go_wp2
      go_ret
      exact ⟨rfl, hb⟩

/-- A tag's byte. -/
def tagB (tag : Int) : UInt8 := UInt8.ofNat (tag % 256).toNat
theorem tagB_of (tag : Int) : Value.int .u8 (tag % 256) = B8 (tagB tag) := by
  refine B8_of _ _ ?_
  unfold tagB
  rw [UInt8.toNat_ofNat', Nat.mod_eq_of_lt (by omega)]
  omega

/-- The input of a digest. -/
def inp (tag : Int) (ss : List (List UInt8)) : List UInt8 := tagB tag :: msg ss

set_option maxRecDepth 100000 in
theorem inputC (tag : Int) (A : Option Addr) (n c : Nat) (ss : List (List UInt8)) (w : World) (hr : Rd w 1 (.slice A n c) n (ss.map tx)) (hn : n ≤ 12) (hs : ∀ s ∈ ss, s.length ≤ 400) :
    Calls Tryd.prog 23 #[.int .i64 tag, .slice A n c] w fun e w' => ∃ A' c', e = .returned (.slice A' (inp tag ss).length c') ∧ Rd w' 1 (.slice A' (inp tag ss).length c') (inp tag ss).length ((inp tag ss).map B8) ∧ Below w.heap.size w w' := by
  have HT := Lib.hid hr.n_eq
  have e1 : (w.alloc (.cells #[.int .u8 (tag % 256)] 5)).ownsRow w.heap.size 5 1 (.slice (some ⟨w.heap.size, 0, none⟩) 1 1) 1 ((tagB tag :: msg (ss.take 0)).map B8) :=
    ⟨rfl, .inr ⟨w.heap.size, 1, #[.int .u8 (tag % 256)], rfl, Nat.le_refl _, heap_alloc_new w _, Nat.le_refl _, by unfold maxLen; omega, rfl, by rw [tagB_of]; rfl⟩⟩
  go_enter Tryd.func23, Tryd.ntmps23
  go_wp2
  go_loopw [5, 6] (fun v i wr => ∃ k : Nat, k ≤ n ∧ i = .int .i64 (k : Int) ∧ wr.ownsRow w.heap.size 5 1 v (tagB tag :: msg (ss.take k)).length ((tagB tag :: msg (ss.take k)).map B8) ∧ Below w.heap.size w wr) (fun _ i _ => n - (intOf i).toNat)
  case atStart => exact ⟨0, by omega, rfl, e1, (Below.refl _ _).alloc (Nat.le_refl _) _⟩
  case round =>
    clear e1
    obtain ⟨k, hk, rfl, hown, hb⟩ := hrel
    have hpl : (msg (ss.take k)).length ≤ 12 * 410 := Nat.le_trans (msg_len fun x hx => hs x (List.mem_of_mem_take hx)) (Nat.mul_le_mul_right _ (by rw [List.length_take]; omega))
    by_cases hlt : k < n
    · obtain ⟨b, off, s, rfl, hbb, hc, hm, hd⟩ := (hr.below hb).atG (k := k) (by rw [HT.out]; exact hlt)
      have hsl := hs s hm
      have hel := encS_len s
      have hc' : wr.cell? ⟨b, off + k, none⟩ = some (.string ⟨s.toArray⟩) := hc
      have HS := Lib.hid (msg_snoc hd.out)
      clear hc hs hd
      generalize msg (ss.take k) = p at hpl HS hown
      have hql : (tagB tag :: p).length ≤ 5000 := by simp; omega
      have HS2 : Hid (tagB tag :: msg (List.take (k + 1) ss) = (tagB tag :: p) ++ encS s) := by show _ = _; rw [HS.out]; rfl
      generalize tagB tag :: p = q at hown hql HS2
      have hR := Rd.of_own hown
      obtain ⟨A1, c1, rfl, hc1, hc2⟩ := hR.form
      clear hR
      go_wp2_with (first
        | (go_at_call 41; refine (rBytes s _ (by omega)).mono ?_; rintro e w1 ⟨v1, rfl, hO1, hb1⟩; have hown1 := own_below hown hb1; have hr1 := Rd.of_own hO1; have hbb1 := hb.trans (hb1.mono hb.size))
        | (at_builtin; refine append_rd rfl (.tmp 16) (.tmp 21) 22 rfl w.heap.size 5 _ 1 1 Tryd.underlying22 info_u8 rfl (by decide) _ _ _ rfl hown1 _ _ _ rfl hr1 (B8s_one _) (by omega) (by unfold maxLen; omega) hbb1.size ?_; intro v2 w2 hown2 hg2 hb2))
      go_roundw
      case rel =>
        rw [← List.map_append, ← List.length_append, ← HS2.out] at hown2
        exact ⟨k + 1, by omega, by go_num, hown2, hbb1.trans hb2⟩
      case measure => simp [intOf]; omega
    · obtain rfl : k = n := by omega
      have ht : ss.take k = ss := List.take_of_length_le (by rw [HT.out]; omega)
      rw [ht] at hown
      clear ht
      have hR := Rd.of_own hown
      have ei : tagB tag :: msg ss = inp tag ss := rfl
      rw [ei] at hR
      clear ei
      obtain ⟨q, hq⟩ : ∃ q, q = inp tag ss := ⟨_, rfl⟩
      rw [← hq] at hR
      have HQ := Lib.hid hq
      clear hq
      obtain ⟨A1, c1, rfl, hc1, hc2⟩ := hR.form
      clear hown
      go_wp2
      go_ret
      exact ⟨A1, c1, by rw [← HQ.out]; rfl, by rw [← HQ.out]; exact hR, hb⟩

/-- The hexadecimal digits of bytes. -/
def hexD (n : Nat) : UInt8 := if n < 10 then UInt8.ofNat (48 + n) else UInt8.ofNat (87 + n)
def hexL (l : List UInt8) : List UInt8 := (l.map fun b => [hexD (b.toNat / 16), hexD (b.toNat % 16)]).flatten
theorem hexL_snoc (l : List UInt8) (b : UInt8) : hexL (l ++ [b]) = hexL l ++ [hexD (b.toNat / 16), hexD (b.toNat % 16)] := by simp [hexL]
theorem hexL_len (l : List UInt8) : (hexL l).length = 2 * l.length := by
  induction l with
  | nil => rfl
  | cons b l ih => simp only [hexL, List.map_cons, List.flatten_cons, List.length_append] at *; rw [ih]; simp; omega

/-- Whether two hashes begin with the same 16 bytes. -/
def clashB (a b : List UInt8) : Bool := a.take 16 == b.take 16
set_option maxRecDepth 100000 in
theorem clashC (a b : List UInt8) (w : World) (ha : a.length = 32) (hb : b.length = 32) :
    Calls Tryd.prog 24 #[.agg (a.map B8).toArray, .agg (b.map B8).toArray] w fun e w' => e = .returned (.bool (clashB a b)) ∧ Below w.heap.size w w' := by
  have HA := Lib.hid ha
  have HB := Lib.hid hb
  clear ha hb
  go_enter Tryd.func24, Tryd.ntmps24
  go_wp2
  have B0 : Blk ((w.alloc (.cells (a.map B8).toArray 24)).alloc (.cells (b.map B8).toArray 24)) w.heap.size 24 (a.map B8) := (Blk.new rfl).alloc _
  have B1 : Blk ((w.alloc (.cells (a.map B8).toArray 24)).alloc (.cells (b.map B8).toArray 24)) (w.heap.size + 1) 24 (b.map B8) := Blk.newAt rfl (by simp)
  have bl : Below w.heap.size w ((w.alloc (.cells (a.map B8).toArray 24)).alloc (.cells (b.map B8).toArray 24)) := ((Below.refl _ _).alloc (Nat.le_refl _) _).alloc (by simp) _
  generalize (w.alloc (.cells (a.map B8).toArray 24)).alloc (.cells (b.map B8).toArray 24) = W at B0 B1 bl ⊢
  go_loopw [5] (fun i wr => ∃ k : Nat, k ≤ 16 ∧ i = .int .i64 (k : Int) ∧ a.take k = b.take k ∧ ∃ q, wr = W.drewN q) (fun i _ => 16 - (intOf i).toNat)
  case atStart => exact ⟨0, by omega, rfl, by simp, 0, rfl⟩
  case round =>
    obtain ⟨k, hk, rfl, heq, q, rfl⟩ := hrel
    have HE := Lib.hid heq
    clear heq
    by_cases hlt : k < 16
    · have h1 : k < a.length := by rw [HA.out]; omega
      have h2 : k < b.length := by rw [HB.out]; omega
      have c1 : (W.drewN q).cell? ⟨w.heap.size, k, none⟩ = some (.int .u8 ((a[k]'h1).toNat : Int)) := B0.cell (bcell_get h1)
      have c2 : (W.drewN q).cell? ⟨w.heap.size + 1, k, none⟩ = some (.int .u8 ((b[k]'h2).toNat : Int)) := B1.cell (bcell_get h2)
      have d1 : W.cell? ⟨w.heap.size, k, none⟩ = some (.int .u8 ((a[k]'h1).toNat : Int)) := B0.cell (bcell_get h1)
      have d2 : W.cell? ⟨w.heap.size + 1, k, none⟩ = some (.int .u8 ((b[k]'h2).toNat : Int)) := B1.cell (bcell_get h2)
      have t1 := take_snoc h1
      have t2 := take_snoc h2
      have T1 := Lib.hid t1
      have T2 := Lib.hid t2
      clear t1 t2
      have HX : Hid (∀ _ : Unit, a[k]'h1 ≠ b[k]'h2 → clashB a b = false) := fun _ hne => by
        unfold clashB
        rw [beq_eq_false_iff_ne]
        intro h
        apply hne
        have := congrArg (fun l => l[k]?) h
        simpa [List.getElem?_take, hlt, List.getElem?_eq_getElem h1, List.getElem?_eq_getElem h2] using this
      generalize a[k]'h1 = x at c1 d1 T1 HX
      generalize b[k]'h2 = y at c2 d2 T2 HX
      by_cases hxy : x = y
      · subst hxy
        have q5 : (0 : Int) ≤ (k : Int) := by omega
        have q6 : (k : Int) < 32 := by omega
        go_wp2
        go_quiet (fail)
        go_wp2
        go_roundw
        case rel => exact ⟨k + 1, by omega, by go_num, by rw [T1.out, T2.out, HE.out], q + nq, by first | rfl | exact World.drewN_drewN _ _ _⟩
        case measure => simp [intOf]; omega
      · have hne : ((x.toNat : Int) != (y.toNat : Int)) = true := by
          rw [bne_iff_ne]
          intro h
          exact hxy (UInt8.toNat_inj.1 (by omega))
        have hne2 : ¬ (x.toNat : Int) = (y.toNat : Int) := by simpa using hne
        have HF := Lib.hid (HX.out () hxy)
        have q5 : (0 : Int) ≤ (k : Int) := by omega
        have q6 : (k : Int) < 32 := by omega
        go_wp2
        go_quiet (fail)
        go_wp2
        go_ret
        exact ⟨by rw [HF.out]; rfl, by first | exact bel_drewN bl _ | exact bel_drewN (bel_drewN bl _) _⟩
    · obtain rfl : k = 16 := by omega
      have hf : clashB a b = true := by
        unfold clashB
        rw [HE.out]
        exact beq_self_eq_true _
      have HF := Lib.hid hf
      clear hf
      go_wp2
      go_ret
      exact ⟨by rw [HF.out]; rfl, bel_drewN bl _⟩
end Go.Proofs.YtmmomcililideaaDoor
