import Derived.Test.YtbjddcjochealaaWk01g
namespace Go.Proofs.Ytbjddcjochealaa
open Go.RowKit

def oneD (b : List UInt8) : Except Int (List UInt8 × Nat) := if b.length < 16 then .error 10 else .ok (b.take 16, 16)
theorem oneD_ok {b : List UInt8} (h : 16 ≤ b.length) : oneD b = .ok (b.take 16, 16) := by unfold oneD; rw [if_neg (by omega)]
theorem info_dg : (Try.prog.info? 57).map (fun i => (i.zero, i.size, i.bytes)) = some (some (.agg (Array.replicate 16 (.int .u8 0))), 16, 16) := by kernel_rfl

theorem rDigests (w : World) (A : Option Addr) (c : Nat) (l : List (List UInt8)) (hr : Rd w 16 (.slice A l.length c) l.length (fl cd l)) (hl : l.length ≤ 4294967296) (hx' : ∀ x ∈ l, x.length = 16)
    (ht : (encL id l).length ≤ 140737488355328) :
    Calls Try.prog 23 #[.slice A l.length c] w fun e w' => ∃ v, e = .returned v ∧ Mk w w' 5 1 v (encL id l).length ((encL id l).map B8) := by
  have hE := encI_length l.length
  go_enter Try.func23, Try.ntmps23
  go_wp2_with (go_at_call 15; refine (rInt _ _ (by omega) (by omega)).mono ?_; rintro e w1 ⟨v1, rfl, hown1, hb1⟩)
  go_loopw [3, 4] (fun v i wr => ∃ k : Nat, k ≤ l.length ∧ i = .int .i64 (k : Int) ∧ wr.ownsRow w.heap.size 5 1 v (encP id l k).length ((encP id l k).map B8) ∧ Below w.heap.size w wr)
    (fun _ i _ => l.length - (intOf i).toNat)
  case atStart => exact ⟨0, by omega, rfl, by rw [encP_zero]; exact hown1, hb1⟩
  case round =>
    obtain ⟨k, hk, rfl, hown, hb⟩ := hrel
    by_cases hlt : k < l.length
    · obtain ⟨b, off, x, rfl, hbl, hcell, hx, hD⟩ := (hr.below hb).atF (g := cd) (fun x hx => by simpa [cd] using hx' x hx) (by omega) hlt
      have hS := encP_succ id hD.out
      have hP := encP_le id l (k + 1)
      rw [hS, List.length_append] at hP
      have HS := Lib.hid hS
      clear hS
      have h16 := hx' x hx
      have hRd : Rd wr 1 (.slice (some ⟨b, off + k * 16, none⟩) 16 16) 16 (cd x) := Rd.of_cl hcell hbl (by simpa [cd] using h16) (by omega) (by unfold maxLen; omega)
      have HX : Hid (x.length = 16) := h16
      simp only [id] at hP
      rw [h16] at hP
      clear h16
      go_wp2_with (at_builtin; refine append_rd rfl (.tmp 14) (.tmp 18) 28 rfl w.heap.size 5 _ 1 1 Try.underlying28 info_u8 rfl (by decide) _ _ _ rfl hown _ 16 (cd x) rfl hRd (cd_one _) (by omega) (by unfold maxLen; omega) hb.size ?_; intro v3 w3 hown4 hg4 hb5)
      go_roundw
      case rel =>
        refine ⟨k + 1, by omega, by go_num, ?_, hb.trans hb5⟩
        rw [HS.out]
        simp only [id, List.length_append, HX.out, List.map_append]
        exact hown4
      case measure => simp [intOf]; omega
    · have hkl : k = l.length := by omega
      subst hkl
      go_wp2
      go_ret
      rw [encP_all] at hown
      exact ⟨_, rfl, hown, hb⟩

theorem wDigests (w : World) (A : Option Addr) (c : Nat) (l : List (List UInt8)) (hr : Rd w 16 (.slice A l.length c) l.length (fl cd l)) (hl : l.length ≤ 4294967296) (hx' : ∀ x ∈ l, x.length = 16)
    (ht : (encL id l).length ≤ 140737488355328) :
    Calls Try.prog 22 #[.slice A l.length c] w fun e w' => ∃ v, e = .returned v ∧ Mk w w' 5 1 v (encL id l).length ((encL id l).map B8) := by
  go_enter Try.func22, Try.ntmps22
  go_wp2_with (go_at_call 40; refine (wListD _ _ _ _ hr hl hx' ht).mono ?_; rintro e w1 ⟨v1, rfl, hown1, hb1⟩)
  go_ret
  exact ⟨_, rfl, hown1, hb1⟩

theorem wGetDigest (w : World) (A : Option Addr) (n c : Nat) (bs : List UInt8) (hr : Rd w 1 (.slice A n c) n (bs.map B8)) (h16 : 16 ≤ n) (hl : n ≤ 4294967296) :
    Calls Try.prog 47 #[.slice A n c] w fun e w' => e = .returned (.tuple #[.agg (cd (bs.take 16)).toArray, .int .i64 16, .int .i64 0]) ∧ Below w.heap.size w w' := by
  have hcap := hr.cap.1
  have hn := hr.n_eq
  obtain ⟨b, off, rfl, hb, hc⟩ := hr.cellAt (by omega)
  have hlen : (cd (bs.take 16)).length = 16 := by simp [cd]; omega
  have HL := Lib.hid hlen
  have hcl : Cl w b off (cd (bs.take 16)) := fun j u hj => by
    refine hc j u ?_
    unfold cd at hj
    rw [List.map_take, List.getElem?_take] at hj
    split at hj
    · exact hj
    · cases hj
  clear hlen hc hn
  have hcl2 := hcl.alloc hb (.cells (Array.replicate 16 (.int .u8 0)) 57)
  have hnew : (w.alloc (.cells (cd (bs.take 16)).toArray 57)).heap[w.heap.size]? = some (.cells (cd (bs.take 16)).toArray 57 (0, 0)) := heap_alloc_new w _
  have hld := run_loadVar_cl (P := Try.prog) 57 _ w.heap.size 0 (cd (bs.take 16)) (Cl.new (w := w) (t := 57) rfl) Try.underlying57 rfl (by rw [HL.out]; exact size_dg)
  have hap := run_arrayAt (P := Try.prog) 57 5 16 Try.underlying57 (some ⟨b, off, none⟩) 16 c (by omega)
  go_enter Try.func47, Try.ntmps47
  go_wp2_with (first
    | ((with_reducible show wpList _ _ _ _ _ _); refine op_load_agg rfl 57 (.tmp 7) rfl b off rfl _ Try.underlying57 rfl (cd (bs.take 16)) hcl2 (by rw [HL.out]; exact size_dg) ?_)
    | ((with_reducible show wpList _ _ _ _ _ _); refine op_store_new w _ _ rfl 57 (.tmp 2) (.tmp 8) rfl rfl (cd (bs.take 16)).toArray rfl (by simp [HL.out]) (by simpa using cd_one _) (by simp [HL.out, size_dg]) ?_))
  refine bodyPost_ret (v := .tuple #[.agg (cd (bs.take 16)).toArray, .int .i64 16, .int .i64 0]) ?_ rfl ⟨rfl, (Below.refl _ _).alloc (Nat.le_refl _) _⟩
  simp [results, Try.results47, asAddr, hld]
end Go.Proofs.Ytbjddcjochealaa
