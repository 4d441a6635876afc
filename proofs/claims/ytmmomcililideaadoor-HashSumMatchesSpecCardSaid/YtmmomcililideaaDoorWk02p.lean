/-
  Digests of parts, as the program reckons them.
-/
import Derived.Test.YtmmomcililideaaDoorWk02r
set_option linter.unusedSimpArgs false
set_option linter.unusedVariables false
namespace Go.Proofs.YtmmomcililideaaDoor
open Go.RowKit

theorem zeroStr : ∀ w : World, (zeroValue 34).run Tryd.prog w = .ok (.agg z73.toArray) w := zeroSt

set_option maxRecDepth 100000 in
set_option maxHeartbeats 3200000 in
theorem ofC (tag : Int) (A : Option Addr) (n c : Nat) (ss : List (List UInt8)) (w : World) (hr : Rd w 1 (.slice A n c) n (ss.map tx)) (hn : n ≤ 12) (hs : ∀ s ∈ ss, s.length ≤ 400) (hK : KK w) :
    Calls Tryd.prog 20 #[.int .i64 tag, .slice A n c] w fun e w' => e = .returned (.agg (((sha (inp tag ss)).take 16).map B8).toArray) ∧ Below w.heap.size w w' := by
  have HT := Lib.hid hr.n_eq
  have hz := zero16
  have hz2 := zero32
  have R0 : Blk (w.alloc (.cells z16.toArray 41)) w.heap.size 41 z16 := Blk.new rfl
  have b0 := (Below.refl w.heap.size w).alloc (Nat.le_refl _) (.cells z16.toArray 41)
  have hKK : ∀ X, Below w.heap.size w X → KK X := fun X h => hK.below h hK.1
  have HKK := Lib.hid hKK
  clear hKK
  go_enter Tryd.func20, Tryd.ntmps20
  go_upto_region 1 with fail
  generalize w.alloc (.cells z16.toArray 41) = W at R0 b0 ⊢
  go_cut [5] (fun v wx => OfS [tagB tag] w v wx)
  case first =>
    refine wp_region_any (by kernel_rfl) ?_
    change wpAny _ _ _ _ _ _ _ (World.drew _)
    refine wpAny_take (i := 1) (v := ?_) rfl (by kernel_rfl) (by kernel_rfl) (by kernel_rfl) (fun _ _ _ h => h) (Or.inl ⟨by rfl, ?_⟩) ?_
    rotate_left
    · intro w; go_simp; rfl
    refine wpAny_take (i := 2) (v := ?_) rfl (by kernel_rfl) (by kernel_rfl) (by kernel_rfl) (fun _ _ _ h => h) (Or.inl ⟨by rfl, ?_⟩) ?_
    rotate_left
    · intro w; go_simp; rfl
    refine ofR_0000 (tag := tag) (A := A) (n := n) (c := c) (w := w) ?_ HKK.out R0.drew b0.drew
    intro g5 g12 v1 S X hS
    go_wp2_with fail
    go_meet
    exact hS
  case rest =>
    obtain ⟨g, S, rfl, hI, hSl, hB5, hR, hb, hg⟩ := hcut
    clear R0 b0
    have h0 : OfS (inp tag (ss.take 0)) w (.pointer (some ⟨g, 0, none⟩)) wc := ⟨g, S, rfl, hI, hSl, hB5, hR, hb, hg⟩
    clear hI hSl hB5 hR hb
    go_wp2
    go_loopw [17] (fun i wr => ∃ k : Nat, k ≤ n ∧ i = .int .i64 (k : Int) ∧ OfS (inp tag (ss.take k)) w (.pointer (some ⟨g, 0, none⟩)) wr) (fun i _ => n - (intOf i).toNat)
    case atStart => exact ⟨0, by omega, rfl, h0⟩
    case round =>
      clear h0
      obtain ⟨k, hk, rfl, g', S', hge, hI, hSl, hB, hR, hb, hg2⟩ := hrel
      injection hge with hge
      injection hge with hge
      injection hge with hge _ _
      subst hge
      have hpl : (msg (ss.take k)).length ≤ 12 * 410 := Nat.le_trans (msg_len fun x hx => hs x (List.mem_of_mem_take hx)) (Nat.mul_le_mul_right _ (by rw [List.length_take]; omega))
      have hql : (inp tag (ss.take k)).length ≤ 5000 := by unfold inp; simp only [List.length_cons]; omega
      by_cases hlt : k < n
      · obtain ⟨bb, off, s, rfl, hbb, hc, hm, hd⟩ := (hr.below hb).atG (k := k) (by rw [HT.out]; exact hlt)
        have hsl := hs s hm
        have hel := encS_len s
        have hc' : wr.cell? ⟨bb, off + k, none⟩ = some (.string ⟨s.toArray⟩) := hc
        have HS : Hid (inp tag (ss.take (k + 1)) = inp tag (ss.take k) ++ encS s) := by show _ = _; unfold inp; rw [msg_snoc hd.out]; rfl
        clear hc hs hd
        generalize inp tag (ss.take k) = p at hql HS hI
        go_upto_region 5 with fail
        refine wp_region_any (by kernel_rfl) ?_
        change wpAny _ _ _ _ _ _ _ (World.drew _)
        refine wpAny_take (i := 1) (v := ?_) rfl (by kernel_rfl) (by kernel_rfl) (by kernel_rfl) (fun _ _ _ h => h) (Or.inl ⟨by rfl, ?_⟩) ?_
        rotate_left
        · intro w; go_simp; rfl
        refine ofB_010000 (x22 := undef) (m := p) (s := s) (g := g) (S := S') (w := w) ?_ HKK.out (by omega) (by omega) hI hSl hg hB.drew hR.drew hb.drew
        intro v23 S1 S2 X hX
        go_wp2
        go_roundw
        case rel => exact ⟨k + 1, by omega, by go_num, by rw [HS.out]; exact hX⟩
        case measure => simp [intOf]; omega
      · obtain rfl : k = n := by omega
        have ht : ss.take k = ss := List.take_of_length_le (by rw [HT.out]; omega)
        rw [ht] at hI hql
        clear ht hpl
        have hl := sha_len (inp tag ss)
        obtain ⟨h, hh⟩ : ∃ h, h = sha (inp tag ss) := ⟨_, rfl⟩
        rw [← hh] at hl
        have HH := Lib.hid hh
        have HL := Lib.hid hl
        clear hh hl
        have HSL := Lib.hid hSl
        clear hSl
        go_wp2_with ((with_reducible show wpList _ _ _ (⟨some 27, _, _, _, _, _⟩ :: _) _ _); refine op_load_agg rfl 34 (.tmp 5) rfl g 0 rfl _ Tryd.underlying34 rfl S' hB.cl (by rw [HSL.out]; exact size_st) ?_)
        refine (sumC _ _ _ hI (by omega) (HKK.out _ hb)).mono ?_
        rintro e w2 ⟨rfl, hb2⟩
        rw [← HH.out]
        have hB2 := hR.bel hb2
        have bb2 := bel_next hb hb2
        clear hb2 hB hb hR
        go_upto_region 8 with ((with_reducible show wpList _ _ _ (⟨none, .store 24 _ _, _, _, _, _⟩ :: _) _ _); refine op_store_new w2 _ _ rfl 24 (.tmp 8) (.tmp 28) rfl rfl (h.map B8).toArray rfl (by simp [HL.out, o32_len]) (by simpa using B8s_one h) (by simp [HL.out, size_o32]) ?_)
        have B3 : Blk (w2.alloc (.cells (h.map B8).toArray 24)) w2.heap.size 24 (h.map B8) := Blk.new rfl
        have hB3 := hB2.alloc (.cells (h.map B8).toArray 24)
        have bb3 := bel_alloc bb2 (.cells (h.map B8).toArray 24)
        generalize w2.alloc (.cells (h.map B8).toArray 24) = w3 at B3 hB3 bb3 ⊢
        clear hB2 bb2
        generalize w2.heap.size = g3 at B3 ⊢
        have ar := run_arrayAt (P := Tryd.prog) 41 5 16 Tryd.underlying41 (some ⟨g3, 0, none⟩) 16 32 (by omega)
        have hcl : Cl w3 g3 0 ((h.take 16).map B8) := by rw [List.map_take]; exact B3.cl.take 16
        have hl16 : ((h.take 16).map B8).length = 16 := by rw [List.length_map, List.length_take, HL.out]; rfl
        have H16 := Lib.hid hl16
        clear hl16
        go_wp2_with (first
          | ((with_reducible show wpList _ _ _ (⟨some 31, _, _, _, _, _⟩ :: _) _ _); refine op_load_agg rfl 41 (.tmp 30) rfl g3 0 rfl _ Tryd.underlying41 rfl ((h.take 16).map B8) hcl (by rw [H16.out]; exact size_dg) ?_)
          | ((with_reducible show wpList _ _ _ (⟨none, .store 41 _ _, _, _, _, _⟩ :: _) _ _); refine op_store_blk rfl 41 (.tmp 4) (.tmp 31) rfl w.heap.size 41 _ hB3 rfl ((h.take 16).map B8) rfl (by rw [H16.out, z16_len]) (B8s_one _) (by rw [H16.out]; exact size_dg) ?_; intro w9 hC9 hoth9 hbel9 hsz9))
        have hld := run_loadVar_cl (P := Tryd.prog) 41 _ w.heap.size 0 ((h.take 16).map B8) hC9.cl Tryd.underlying41 rfl (by rw [H16.out]; exact size_dg)
        rw [← HH.out]
        refine bodyPost_ret (v := .agg ((h.take 16).map B8).toArray) ?_ rfl ⟨rfl, hbel9 _ _ bb3 (Nat.le_refl _)⟩
        simp [results, Tryd.results20, asAddr, hld, Act.put]
end Go.Proofs.YtmmomcililideaaDoor
