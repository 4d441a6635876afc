/-
  The references: number, Cmp.
-/
import Derived.Test.YtglnabciomlmmaaDoorRcl
import Derived.Test.YtglnabciomlmmaaDoorNtx
namespace Go.Proofs.YtglnabciomlmmaaDoor
open Go.RowKit

/-- A digit as an int's cell. -/
def Ni (d : Nat) : Value := .int .i64 (d : Int)
theorem Nis_one (l : List Nat) : ∀ u ∈ l.map Ni, u.oneCell' = true := by
  intro u hu
  obtain ⟨b, _, rfl⟩ := List.mem_map.1 hu
  rfl
/-- A slice that reads as numbers. -/
def Is (l : List Nat) (v : Value) (w : World) : Prop := ∃ A c, v = .slice A l.length c ∧ Rd w 1 (.slice A l.length c) l.length (l.map Ni)
theorem Is.lasts (l : List Nat) : Lasts (Is l) := by
  rintro v X Y ⟨A, c, hv, hr⟩ hS
  exact ⟨A, c, hv, hr.below hS⟩
theorem Rd.ni {w : World} {A : Option Addr} {n c : Nat} {l : List Nat} (h : Rd w 1 (.slice A n c) n (l.map Ni)) {k : Nat} (hk : k < n) :
    ∃ b off, A = some ⟨b, off, none⟩ ∧ b < w.heap.size ∧ w.cell? ⟨b, off + k, none⟩ = some (.int .i64 (l.getD k 0 : Int)) := by
  have hl : l.length = n := by have := h.1; simpa using this
  obtain ⟨b, off, hA, hb, hc⟩ := h.cellAt (by omega)
  refine ⟨b, off, hA, hb, ?_⟩
  have hkl : k < l.length := by omega
  have := hc k (Ni l[k]) (by simp [hkl])
  rw [this]
  simp [Ni, List.getD, hkl]
theorem info_int : (Tryd.prog.info? 3).map (fun i => (i.zero, i.size, i.bytes)) = some (some (.int .i64 0), 1, 8) := by kernel_rfl
theorem size_int : (Tryd.prog.info? 3).map (·.size) = some 1 := by kernel_rfl
theorem load_int (b k : Nat) (X : World) (v : Value) (h : X.cell? ⟨b, k, none⟩ = some v) : (loadVar 3 ⟨b, k, none⟩).run Tryd.prog X = .ok v X := by
  go_simp
def u8s (l : List Nat) : List UInt8 := l.map UInt8.ofNat
theorem val_u8s {l : List Nat} (h : ∀ d ∈ l, d < 256) : val (u8s l).reverse = lvN 256 l := by
  unfold val u8s
  rw [List.map_reverse, List.reverse_reverse, map8 h]
theorem u8s_drop (l : List Nat) {k : Nat} (hk : k < l.length) : (u8s (l.drop k)).reverse = (u8s (l.drop (k + 1))).reverse ++ [UInt8.ofNat (l.getD k 0)] := by
  rw [List.drop_eq_getElem_cons hk]
  unfold u8s
  rw [List.map_cons, List.reverse_cons]
  simp [List.getD, hk]
set_option maxRecDepth 100000 in
set_option maxHeartbeats 1600000 in
theorem rnumberC (v : Value) (ds : List Nat) (w : World) (hv : Is ds v w) (hd : ∀ d ∈ ds, d < 256) (hn : ds.length ≤ 16777216) :
    Calls Tryd.prog 40 #[v] w fun e w' => e = .returned (.string ⟨(be (lvN 256 ds)).toArray⟩) ∧ Since w w' := by
  obtain ⟨A, c, rfl, hR⟩ := hv
  obtain ⟨n, hnn⟩ : ∃ n, n = ds.length := ⟨_, rfl⟩
  rw [← hnn] at hR hn ⊢
  have HN := Lib.hid hnn
  have HDS : Hid (∀ d ∈ ds, d < 256) := hd
  have hRX : ∀ X, Since w X → Rd X 1 (.slice A n c) n (ds.map Ni) := fun X h => hR.below h
  have HRX := Lib.hid hRX
  clear hnn hd hRX hR
  go_enter Tryd.func40, Tryd.ntmps40
  go_upto_region 2 with (fail)
  refine lx_plain [] (lasts_nil) ?_
  simp only [its, Nat.zero_add, Nat.reduceAdd]
  refine lx_val (by rfl) (.slice A n c) (fun X hX hF => by rfl) ?_
  simp only [Act.put, List.setIfInBounds_toArray, List.set_cons_succ, List.set_cons_zero]
  refine lx_val (by rfl) (.int .i64 (n : Int)) (fun X hX hF => exec_lenv Tryd.underlying58 _ (by rfl) A n c (by rfl) _ rfl X) ?_
  simp only [Act.put, List.setIfInBounds_toArray, List.set_cons_succ, List.set_cons_zero]
  refine lx_val (by rfl) (.int .i64 ((n : Int) - 1)) (fun X hX hF => exec_sub _ _ _ _ (by rfl) (n : Int) 1 ((n : Int) - 1) (by rfl) (by rfl) (by omega) (by omega) (by omega) X) ?_
  simp only [Act.put, List.setIfInBounds_toArray, List.set_cons_succ, List.set_cons_zero]
  refine lx_val (by rfl) (.int .i64 ((n : Int) - 1)) (fun X hX hF => by rfl) ?_
  simp only [Act.put, List.setIfInBounds_toArray, List.set_cons_succ, List.set_cons_zero]
  refine lx_nil ?_
  intro X1 hX1 hF
  have hb : Below w.heap.size w X1 := hX1
  clear hF hX1
  go_wp2
  go_loopw [3, 4] (fun ov kv wr => ∃ j : Nat, j ≤ n ∧ kv = .int .i64 ((j : Int) - 1) ∧ wr.ownsRow w.heap.size 5 1 ov (n - j) ((u8s (ds.drop j)).reverse.map B8) ∧ Below w.heap.size w wr) (fun _ kv _ => (intOf kv + 1).toNat)
  case atStart => exact ⟨n, by omega, rfl, by rw [Nat.sub_self, List.drop_eq_nil_of_le (by rw [← HN.out]; exact Nat.le_refl _)]; exact own_nil _ _ _, hb⟩
  case round =>
    clear hb
    obtain ⟨j, hj, rfl, hown, hb⟩ := hrel
    obtain ⟨A1, c1, rfl, hc1, hc1'⟩ := (Rd.of_own hown).form
    rcases Nat.eq_zero_or_pos j with hj0 | hj0
    · subst hj0
      have hb8 : val (u8s ds).reverse = lvN 256 ds := val_u8s HDS.out
      have HB8 := Lib.hid hb8
      have hul : (u8s ds).reverse.length = n := by unfold u8s; rw [List.length_reverse, List.length_map, ← HN.out]
      rw [List.drop_zero] at hown
      have hul2 : (u8s ds).reverse.length ≤ 16777216 := by omega
      have HUL := Lib.hid hul
      clear hb8 hul
      go_upto_region 3 with (fail)
      refine lx_plain [] (lasts_nil) ?_
      simp only [its, Nat.zero_add, Nat.reduceAdd]
      refine lx_val (by rfl) (.int .i64 (((0 : Nat) : Int) - 1)) (fun X hX hF => by rfl) ?_
      simp only [Act.put, List.setIfInBounds_toArray, List.set_cons_succ, List.set_cons_zero]
      refine lx_val (by rfl) (.bool false) (fun X hX hF => exec_geq _ _ _ _ (by rfl) .i64 (((0 : Nat) : Int) - 1) 0 (by rfl) (by rfl) false (decide_eq_false (by omega)) X) ?_
      simp only [Act.put, List.setIfInBounds_toArray, List.set_cons_succ, List.set_cons_zero]
      refine lx_nil ?_
      intro X1 hX1 hF
      have hown := own_below hown hX1
      have hb := bel_next hb hX1
      clear hF hX1
      go_upto_region 6 with (fail)
      refine lx_plain [] (lasts_nil) ?_
      simp only [its, Nat.zero_add, Nat.reduceAdd]
      refine lx_val (by rfl) (.slice A1 (n - 0) c1) (fun X hX hF => by rfl) ?_
      simp only [Act.put, List.setIfInBounds_toArray, List.set_cons_succ, List.set_cons_zero]
      refine lx_val (by rfl) (.string ⟨((u8s ds).reverse).toArray⟩) (fun X hX hF => exec_str _ _ 5 Tryd.underlying61 Tryd.underlying5 Tryd.underlying9 _ (by rfl) (by rfl) ((Rd.of_own hown).below hX)) ?_
      simp only [Act.put, List.setIfInBounds_toArray, List.set_cons_succ, List.set_cons_zero]
      refine lx_call (by rfl) 17 _ _ (by rfl) (.string ⟨(be (val (u8s ds).reverse)).toArray⟩) [.string ⟨((u8s ds).reverse).toArray⟩] (by rfl) (by kernel_rfl) (fun _ => by go_simp) (fun X hX hF => rcleanC (u8s ds).reverse X (by omega)) ?_
      simp only [Act.put, List.setIfInBounds_toArray, List.set_cons_succ, List.set_cons_zero]
      refine lx_val (by rfl) (.string ⟨(be (val (u8s ds).reverse)).toArray⟩) (fun X hX hF => by rfl) ?_
      simp only [Act.put, List.setIfInBounds_toArray, List.set_cons_succ, List.set_cons_zero]
      refine lx_nil ?_
      intro X2 hX2 hF
      have hown := own_below hown hX2
      have hb := bel_next hb hX2
      clear hF hX2
      rw [HB8.out]
      go_wp2
      go_ret
      exact ⟨rfl, hb⟩
    · obtain ⟨k, rfl⟩ : ∃ k, j = k + 1 := ⟨j - 1, by omega⟩
      rw [show (((k + 1 : Nat) : Int) - 1) = (k : Int) by omega]
      obtain ⟨b, off, rfl, hbb, hc⟩ := (HRX.out _ hb).ni (k := k) (by omega)
      obtain ⟨y, hy⟩ : ∃ y, y = ds.getD k 0 := ⟨_, rfl⟩
      rw [← hy] at hc
      have hkl : k < ds.length := by rw [← HN.out]; omega
      have hy2 : y < 256 := by
        rw [hy]
        have : ds.getD k 0 = ds[k] := by simp [List.getD, hkl]
        rw [this]
        exact HDS.out _ (List.getElem_mem hkl)
      have HS : Hid ((u8s (ds.drop k)).reverse = (u8s (ds.drop (k + 1))).reverse ++ [UInt8.ofNat y]) := by show _ = _; rw [hy]; exact u8s_drop ds hkl
      have HD : Hid (#[Value.int .u8 (y : Int)] = [B8 (UInt8.ofNat y)].toArray) := by
        show _ = _
        rw [B8n, Nat.mod_eq_of_lt hy2]
      clear hy hkl
      have e3 : n - (k + 1) + 1 = n - k := by omega
      have E3 := Lib.hid e3
      clear e3
      go_upto_region 3 with (fail)
      refine lx_plain [] (lasts_nil) ?_
      simp only [its, Nat.zero_add, Nat.reduceAdd]
      refine lx_val (by rfl) (.int .i64 (k : Int)) (fun X hX hF => by rfl) ?_
      simp only [Act.put, List.setIfInBounds_toArray, List.set_cons_succ, List.set_cons_zero]
      refine lx_val (by rfl) (.bool true) (fun X hX hF => exec_geq _ _ _ _ (by rfl) .i64 (k : Int) 0 (by rfl) (by rfl) true (decide_eq_true (by omega)) X) ?_
      simp only [Act.put, List.setIfInBounds_toArray, List.set_cons_succ, List.set_cons_zero]
      refine lx_nil ?_
      intro X1 hX1 hF
      have hown := own_below hown hX1
      have hc := (Below.cell hX1 (p := ⟨b, off + k, none⟩) hbb).trans hc
      have hbb := Nat.lt_of_lt_of_le hbb (hX1).size
      have hb := bel_next hb hX1
      clear hF hX1
      go_upto_region 5 with (fail)
      refine lx_plain_to 6 [] (lasts_nil) ?_
      simp only [its, List.take, List.drop, Nat.zero_add, Nat.reduceAdd]
      refine lx_val (by rfl) (.slice A1 (n - (k + 1)) c1) (fun X hX hF => by rfl) ?_
      simp only [Act.put, List.setIfInBounds_toArray, List.set_cons_succ, List.set_cons_zero]
      refine lx_val (by rfl) (.slice (some ⟨b, off, none⟩) n c) (fun X hX hF => by rfl) ?_
      simp only [Act.put, List.setIfInBounds_toArray, List.set_cons_succ, List.set_cons_zero]
      refine lx_val (by rfl) (.int .i64 (k : Int)) (fun X hX hF => by rfl) ?_
      simp only [Act.put, List.setIfInBounds_toArray, List.set_cons_succ, List.set_cons_zero]
      refine lx_val (by rfl) (.pointer (some ⟨b, off + k, none⟩)) (fun X hX hF => exec_ix1 Tryd.underlying58 size_int _ _ (by rfl) b (off) n c k (by omega) (by rfl) (by rfl) (by omega) X) ?_
      simp only [Act.put, List.setIfInBounds_toArray, List.set_cons_succ, List.set_cons_zero]
      refine lx_val (by rfl) (.int .i64 (y : Int)) (fun X hX hF => exec_ld 3 _ (by rfl) b (off + k) (by rfl) _ X ((Below.cell hX (p := ⟨b, off + k, none⟩) hbb).trans hc) (fun X u h => load_int b (off + k) X u h)) ?_
      simp only [Act.put, List.setIfInBounds_toArray, List.set_cons_succ, List.set_cons_zero]
      refine lx_val (by rfl) (.int .u8 (y : Int)) (fun X hX hF => exec_cnv _ _ .i64 .u8 Tryd.underlying3 Tryd.underlying5 _ (by rfl) (y : Int) (y : Int) (by rfl) (by rw [w8 (by omega) (by omega)]) X) ?_
      simp only [Act.put, List.setIfInBounds_toArray, List.set_cons_succ, List.set_cons_zero]
      refine lx_nil ?_
      intro X2 hX2 hF
      have hown := own_below hown hX2
      have hc := (Below.cell hX2 (p := ⟨b, off + k, none⟩) hbb).trans hc
      have hbb := Nat.lt_of_lt_of_le hbb (hX2).size
      have hb := bel_next hb hX2
      clear hF hX2
      go_wp2_with (at_builtin; refine app_new rfl rfl Tryd.underlying61 info_u8 rfl (w.heap.size) _ (n - (k + 1)) _ [B8 (UInt8.ofNat y)] HD.out rfl hown (m := 1) rfl rfl (fun u hu => by rw [List.mem_singleton.1 hu]; rfl) (by omega) (by omega) hb.size ?_; intro A3 c3 w3 hown3 hc4 hc5 hb3)
      go_roundw
      case rel => exact ⟨k, by omega, rfl, by rw [HS.out, List.map_append, ← E3.out]; exact hown3, hb.trans hb3⟩
      case measure => simp [intOf] <;> omega

end Go.Proofs.YtglnabciomlmmaaDoor
