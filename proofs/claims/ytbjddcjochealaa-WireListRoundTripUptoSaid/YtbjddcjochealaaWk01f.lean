import Derived.Test.YtbjddcjochealaaWk01e
import Derived.Test.YtbjddcjochealaaAg
import Derived.Lib.SliceRun
namespace Go.Proofs.Ytbjddcjochealaa
open Go.RowKit

theorem cloneB0 (w : World) (A : Option Addr) (c : Nat) (bs : List UInt8) (hr : Rd w 1 (.slice A bs.length c) bs.length (bs.map B8)) (hl : bs.length ≤ 4294967296) :
    Calls Try.prog 48 #[.slice A bs.length c] w fun e w' => ∃ v, e = .returned v ∧ Mk w w' 5 1 v bs.length (bs.map B8) := by
  cases A with
  | none =>
    obtain ⟨h0, hc0, hb⟩ := hr.none_
    have hb : bs = [] := List.map_eq_nil_iff.1 hb
    subst hb hc0
    have hq := Lib.run_eql_slice_nil (P := Try.prog) w 28 5 none 0 0 0 0 Try.underlying28
    simp only [List.length_nil]
    go_enter Try.func48, Try.ntmps48
    go_wp2
    go_ret
    exact ⟨_, rfl, World.ownsRow_nil _ _ _ _, Below.refl _ _⟩
  | some ad =>
    have hq := Lib.run_eql_slice_nil (P := Try.prog) w 28 5 (some ad) bs.length c 0 0 Try.underlying28
    go_enter Try.func48, Try.ntmps48
    go_wp2_with (at_builtin; refine append_rd rfl (.tmp 5) (.tmp 6) 28 rfl w.heap.size 5 _ 1 1 Try.underlying28 info_u8 rfl (by decide) _ 0 [] rfl (World.ownsRow_made w #[] 0 (Nat.le_refl _) (by unfold maxLen; omega) rfl) _ bs.length _ rfl (hr.alloc _) (B8s_one _) (by omega) (by unfold maxLen; omega) (by simp) ?_; intro v3 w3 hown4 hg4 hb4)
    go_ret
    exact ⟨_, rfl, by simpa using hown4, ((Below.refl _ _).alloc (Nat.le_refl _) _).trans hb4⟩

theorem cloneB (w : World) (A : Option Addr) (n c : Nat) (bs : List UInt8) (hr : Rd w 1 (.slice A n c) n (bs.map B8)) (hl : n ≤ 4294967296) :
    Calls Try.prog 48 #[.slice A n c] w fun e w' => ∃ v, e = .returned v ∧ Mk w w' 5 1 v n (bs.map B8) := by
  obtain rfl := hr.n_eq
  exact cloneB0 w A c bs hr hl

def cd (d : List UInt8) : List Value := d.map B8
theorem cd_one (d : List UInt8) : ∀ u ∈ cd d, u.oneCell' = true := B8s_one d
theorem size_dg : (Try.prog.info? 57).map (·.size) = some 16 := by kernel_rfl

theorem wDigest (w : World) (d : List UInt8) (hd : d.length = 16) :
    Calls Try.prog 41 #[.agg (cd d).toArray] w fun e w' => ∃ v, e = .returned v ∧ Mk w w' 5 1 v 16 (cd d) := by
  have hn : Rd (w.alloc (.cells (cd d).toArray 57)) 1 (.slice (some ⟨w.heap.size, 0, none⟩) 16 16) 16 (cd d) := Rd.new rfl (by simpa [cd] using hd) (by unfold maxLen; omega)
  clear hd
  go_enter Try.func41, Try.ntmps41
  go_wp2_with (go_at_call 48; refine (cloneB _ _ _ _ d hn (by omega)).mono ?_; rintro e w1 ⟨v1, rfl, hown1, hb1⟩)
  go_ret
  have hs : w.heap.size ≤ (w.alloc (.cells (cd d).toArray 57)).heap.size := by simp
  exact ⟨_, rfl, ownsRow_mono hown1 hs, ((Below.refl _ _).alloc (Nat.le_refl _) _).trans (hb1.mono hs)⟩

set_option maxRecDepth 100000 in
theorem wListD (w : World) (A : Option Addr) (c : Nat) (l : List (List UInt8)) (hr : Rd w 16 (.slice A l.length c) l.length (fl cd l)) (hl : l.length ≤ 4294967296) (hx' : ∀ x ∈ l, x.length = 16)
    (ht : (encL id l).length ≤ 140737488355328) :
    Calls Try.prog 40 #[.slice A l.length c, .func (.func 41) #[] #[]] w fun e w' => ∃ v, e = .returned v ∧ Mk w w' 5 1 v (encL id l).length ((encL id l).map B8) := by
  have hE := encI_length l.length
  go_enter Try.func40, Try.ntmps40
  go_wp2_with (go_at_call 14; refine (wInt _ _ (by omega) (by omega)).mono ?_; rintro e w1 ⟨v1, rfl, hown1, hb1⟩)
  go_loopw [5, 13] (fun v i wr => ∃ k : Nat, k ≤ l.length ∧ i = .int .i64 (k : Int) ∧ wr.ownsRow w.heap.size 5 1 v (encP id l k).length ((encP id l k).map B8) ∧ Below w.heap.size w wr)
    (fun _ i _ => l.length - (intOf i).toNat)
  case atStart => exact ⟨0, by omega, rfl, by rw [encP_zero]; exact hown1, hb1⟩
  case round =>
    obtain ⟨k, hk, rfl, hown, hb⟩ := hrel
    by_cases hlt : k < l.length
    · obtain ⟨b, off, x, rfl, hbl, hcell, hx, hD⟩ := (hr.below hb).atF (g := cd) (fun x hx => by simpa [cd] using hx' x hx) (by omega) hlt
      have hS := encP_succ id hD.out
      have hP := encP_le id l (k + 1)
      rw [hS, List.length_append] at hP
      have HS := Lib.hid hS
      clear hS
      have h16 := hx' x hx
      have h16c : (cd x).length = 16 := by simpa [cd] using h16
      have HL : Hid ((cd x).length = 16) := h16c
      have HX : Hid (x.length = 16) := h16
      simp only [id] at hP
      rw [h16] at hP
      clear h16c h16
      have hcn : Cl (wr.alloc (.cells (cd x).toArray 57)) wr.heap.size 0 (cd x) := Cl.new rfl
      have hsz : wr.heap.size ≤ (wr.alloc (.cells (cd x).toArray 57)).heap.size := by simp
      have hbn : Below wr.heap.size wr (wr.alloc (.cells (cd x).toArray 57)) := (Below.refl _ _).alloc (Nat.le_refl _) _
      go_wp2_with (first
        | ((with_reducible show wpList _ _ _ _ _ _); refine op_load_agg rfl 57 (.tmp 15) rfl b (off + k * 16) rfl _ Try.underlying57 rfl (cd x) hcell (by rw [HL.out]; exact size_dg) ?_)
        | ((with_reducible show wpList _ _ _ _ _ _); refine op_store_new wr _ _ rfl 57 (.tmp 7) (.tmp 16) rfl rfl (cd x).toArray rfl (by simp [HL.out]) (by simpa using cd_one x) (by simp [HL.out, size_dg]) ?_)
        | ((with_reducible show wpList _ _ _ _ _ _); refine op_load_agg rfl 57 (.tmp 7) rfl wr.heap.size 0 rfl _ Try.underlying57 rfl (cd x) hcn (by rw [HL.out]; exact size_dg) ?_)
        | (go_at_call 41; refine (wDigest _ _ HX.out).mono ?_; rintro e w2 ⟨v2, rfl, hown2, hb2⟩; have hb3 := hbn.trans (hb2.mono hsz); have hown3 := own_below hown hb3; have hb4 := hb.trans (hb3.mono hb.size))
        | (at_builtin; refine append_rd rfl (.tmp 17) (.tmp 20) 28 rfl w.heap.size 5 _ 1 1 Try.underlying28 info_u8 rfl (by decide) _ _ _ rfl hown3 _ _ _ rfl (Rd.of_own hown2) (cd_one _) (by omega) (by unfold maxLen; omega) hb4.size ?_; intro v3 w3 hown4 hg4 hb5))
      go_roundw
      case rel =>
        refine ⟨k + 1, by omega, by go_num, ?_, hb4.trans hb5⟩
        rw [HS.out]
        simp only [id, List.length_append, HX.out, List.map_append]
        exact hown4
      case measure => simp [intOf]; omega
    · have hkl : k = l.length := by omega
      subst hkl
      go_wp2
      go_ret
      rw [encP_all] at hown
      exact ⟨_, rfl, hown, hb⟩
end Go.Proofs.Ytbjddcjochealaa
