import Derived.Test.YtbjddcjochealaaWk01h
namespace Go.Proofs.Ytbjddcjochealaa
open Go.RowKit

/-- What the inner loop of the reference has written after i bytes. -/
def dcur (l : List UInt8) (i : Nat) : List Value := cd (l.take i) ++ List.replicate (16 - i) (.int .u8 0)
theorem dcur_len {l : List UInt8} {i : Nat} (h : 16 ≤ l.length) (hi : i ≤ 16) : (dcur l i).length = 16 := by simp [dcur, cd]; omega
theorem dcur_at {l : List UInt8} {i : Nat} (h : 16 ≤ l.length) (hi : i < 16) : (dcur l i)[i]? = some (.int .u8 0) := by
  have : (cd (l.take i)).length = i := by simp [cd]; omega
  unfold dcur
  rw [List.getElem?_append_right (by omega), this, Nat.sub_self]
  simp [List.getElem?_replicate]
  omega
theorem dcur_set {l : List UInt8} {i : Nat} {x : UInt8} (h : 16 ≤ l.length) (hi : i < 16) (hx : l[i]? = some x) : (dcur l i).set i (B8 x) = dcur l (i + 1) := by
  have hc : (cd (l.take i)).length = i := by simp [cd]; omega
  unfold dcur
  rw [List.set_append_right _ _ (by omega), hc, Nat.sub_self, show 16 - i = (16 - (i + 1)) + 1 by omega, List.replicate_succ, List.set_cons_zero]
  have ht : l.take (i + 1) = l.take i ++ [x] := by
    rw [List.take_add_one, hx]; rfl
  rw [ht]
  simp [cd]
theorem dcur_zero (l : List UInt8) : (dcur l 0).toArray = Array.replicate 16 (.int .u8 0) := by simp [dcur, cd]; rfl
theorem dcur_all {l : List UInt8} : dcur l 16 = cd (l.take 16) := by simp [dcur]

set_option maxRecDepth 100000 in
set_option maxHeartbeats 800000 in
theorem wGetLD (w : World) (A : Option Addr) (c : Nat) (bs : List UInt8) (hr : Rd w 1 (.slice A bs.length c) bs.length (bs.map B8)) (hl : bs.length ≤ 4294967296) :
    Calls Try.prog 46 #[.slice A bs.length c, .int .i64 16, .func (.func 47) #[] #[]] w fun e w' => GotL w w' 57 16 (fl cd) e (getL oneD 16 bs) := by
  have hcap := hr.cap.1
  rcases hd : lenI bs 16 with er | ⟨n, u⟩
  · have hR : getL oneD 16 bs = .error er := by unfold getL; rw [hd]
    have HR := Lib.hid hR
    have HD := Lib.hid hd
    rcases lenI_err hd with rfl | rfl
    all_goals
      clear hR hd
      go_enter Try.func46, Try.ntmps46
      go_wp2_with (go_at_call 42; refine (wLength _ _ _ 16 _ hr (by omega) (by omega) (by omega)).mono ?_; rw [HD.out]; rintro e w1 ⟨rfl, rfl⟩; simp only [outN])
      go_ret3
      rw [HR.out]
      exact ⟨rfl, Below.refl _ _⟩
  · obtain ⟨q1, q2, q3, q4⟩ := lenI_ok hd
    have q5 : 16 * n ≤ bs.length - u := by omega
    have HD := Lib.hid hd
    clear hd q4 q3
    go_enter Try.func46, Try.ntmps46
    go_wp2_with (go_at_call 42; refine (wLength _ _ _ 16 _ hr (by omega) (by omega) (by omega)).mono ?_; rw [HD.out]; rintro e w1 ⟨rfl, rfl⟩; simp only [outN])
    go_loopw [12, 10, 27] (fun v p i wr => ∃ (pl j : Nat) (acc : List (List UInt8)), i = .int .i64 (j : Int) ∧ p = .int .i64 (pl : Int) ∧ 16 * (n - j) ≤ bs.length - pl ∧ GetS oneD bs n u j pl acc ∧
        wr.ownsRow w.heap.size 57 16 v acc.length (fl cd acc) ∧ Below w.heap.size w wr)
      (fun _ _ i _ => n - (intOf i).toNat)
    case atStart => exact ⟨u, 0, [], rfl, rfl, by omega, GetS.start q2, World.ownsRow_nil _ _ _ _, Below.refl _ _⟩
    case round =>
      obtain ⟨pl, j, acc, rfl, rfl, h16, hG, hown, hb⟩ := hrel
      have g1 := hG.hj
      have g2 := hG.hu
      have g3 := hG.hp
      have g4 := hG.hl
      have hrr := hr.below hb
      by_cases hlt : j < n
      · have hk : 16 ≤ bs.length - pl := by omega
        have hlen16 : 16 ≤ (bs.drop pl).length := by simp; omega
        have HN : Hid (GetS oneD bs n u (j + 1) (pl + 16) (acc ++ [(bs.drop pl).take 16])) := hG.good hlt (oneD_ok hlen16) (by omega)
        have hca : c ≠ pl := by omega
        have hA' := (hrr.rest g3).1 hca
        have HL : Hid ((cd ((bs.drop pl).take 16)).length = 16) := by show _ = _; simp [cd]; omega
        have HG : Hid (16 ≤ (bs.drop pl).length) := hlen16
        have h16' : 16 * (n - (j + 1)) ≤ bs.length - (pl + 16) := by omega
        clear hG hlen16
        go_wp2_with (first
          | (go_at_call 47; refine (wGetDigest _ _ _ _ (bs.drop pl) hA' hk (by omega)).mono ?_; rintro e w2 ⟨rfl, hb2⟩; have hown2 := own_below hown hb2; have hb3 := hb.trans (hb2.mono hb.size))
          | ((with_reducible show wpList _ _ _ _ _ _); refine op_store_new w2 _ _ rfl 57 (.tmp 13) (.tmp 35) rfl rfl (cd ((bs.drop pl).take 16)).toArray rfl (by simp [HL.out]) (by simpa using cd_one _) (by simp [HL.out, size_dg]) ?_; have hown3 := hown2.alloc (.cells (cd ((bs.drop pl).take 16)).toArray 57); have hb4 := hb3.alloc hb3.size (.cells (cd ((bs.drop pl).take 16)).toArray 57))
          | ((with_reducible show wpList _ _ _ _ _ _); refine op_load_agg rfl 57 (.tmp 13) rfl w2.heap.size 0 rfl _ Try.underlying57 rfl (cd ((bs.drop pl).take 16)) (Cl.new rfl) (by rw [HL.out]; exact size_dg) ?_)
          | ((with_reducible show wpList _ _ _ _ _ _); refine op_build1 rfl 24 57 (.tmp 42) rfl Try.underlying24 _ 16 16 info_dg (by decide) (by decide) (cd ((bs.drop pl).take 16)).toArray rfl (by simp [HL.out]) ?_)
          | (at_builtin; refine append_agg (cd ((bs.drop pl).take 16)) _ rfl (.tmp 41) (.tmp 43) 24 rfl w.heap.size 57 _ 16 16 Try.underlying24 info_dg rfl (by decide) _ _ _ rfl hown3 rfl HL.out (cd_one _) (by omega) (by unfold maxLen; omega) hb4.size ?_; intro v5 w5 hown5 hg5 hb5))
        go_roundw
        case rel => exact ⟨pl + 16, j + 1, _, by go_num, by go_num, h16', HN.out, by simpa [fl] using hown5, hb4.trans hb5⟩
        case measure => simp [intOf]; omega
      · have hjn : j = n := by omega
        subst hjn
        have HR : Hid (getL oneD 16 bs = .ok (acc, pl)) := hG.done HD.out
        clear hG
        go_wp2
        go_ret3
        rw [HR.out]
        exact ⟨_, rfl, hown, hb⟩

set_option maxRecDepth 100000 in
set_option maxHeartbeats 800000 in
theorem rGetDigests (w : World) (A : Option Addr) (c : Nat) (bs : List UInt8) (hr : Rd w 1 (.slice A bs.length c) bs.length (bs.map B8)) (hl : bs.length ≤ 4294967296) :
    Calls Try.prog 35 #[.slice A bs.length c] w fun e w' => GotL w w' 57 16 (fl cd) e (getL oneD 16 bs) := by
  have hcap := hr.cap.1
  rcases hd : lenI bs 16 with er | ⟨n, u⟩
  · have hR : getL oneD 16 bs = .error er := by unfold getL; rw [hd]
    have HR := Lib.hid hR
    have HD := Lib.hid hd
    rcases lenI_err hd with rfl | rfl
    all_goals
      clear hR hd
      go_enter Try.func35, Try.ntmps35
      go_wp2_with (go_at_call 44; refine (rLength _ _ _ 16 _ hr (by omega) (by omega) (by omega)).mono ?_; rw [HD.out]; rintro e w1 ⟨rfl, rfl⟩; simp only [outN])
      go_ret3
      rw [HR.out]
      exact ⟨rfl, Below.refl _ _⟩
  · obtain ⟨q1, q2, q3, q4⟩ := lenI_ok hd
    have q5 : 16 * n ≤ bs.length - u := by omega
    have HD := Lib.hid hd
    clear hd q4 q3
    go_enter Try.func35, Try.ntmps35
    go_wp2_with (go_at_call 44; refine (rLength _ _ _ 16 _ hr (by omega) (by omega) (by omega)).mono ?_; rw [HD.out]; rintro e w1 ⟨rfl, rfl⟩; simp only [outN])
    go_loopw [8, 6, 9] (fun v p i wr => ∃ (pl j : Nat) (acc : List (List UInt8)), i = .int .i64 (j : Int) ∧ p = .int .i64 (pl : Int) ∧ 16 * (n - j) ≤ bs.length - pl ∧ GetS oneD bs n u j pl acc ∧
        wr.ownsRow w.heap.size 57 16 v acc.length (fl cd acc) ∧ Below w.heap.size w wr)
      (fun _ _ i _ => n - (intOf i).toNat)
    case atStart => exact ⟨u, 0, [], rfl, rfl, by omega, GetS.start q2, World.ownsRow_nil _ _ _ _, Below.refl _ _⟩
    case round =>
      obtain ⟨pl, j, acc, rfl, rfl, h16, hG, hown, hb⟩ := hrel
      have g1 := hG.hj
      have g2 := hG.hu
      have g3 := hG.hp
      have g4 := hG.hl
      have hrr := hr.below hb
      by_cases hlt : j < n
      · have hk : 16 ≤ bs.length - pl := by omega
        have hlen16 : 16 ≤ (bs.drop pl).length := by simp; omega
        have HN : Hid (GetS oneD bs n u (j + 1) (pl + 16) (acc ++ [(bs.drop pl).take 16])) := hG.good hlt (oneD_ok hlen16) (by omega)
        have hca : c ≠ pl := by omega
        have hA' := (hrr.rest g3).1 hca
        have HL : Hid ((cd ((bs.drop pl).take 16)).length = 16) := by show _ = _; simp [cd]; omega
        have HG : Hid (16 ≤ (bs.drop pl).length) := hlen16
        have h16' : 16 * (n - (j + 1)) ≤ bs.length - (pl + 16) := by omega
        clear hG hlen16
        obtain ⟨wo, rfl⟩ : ∃ wo : World, wo = wr := ⟨_, rfl⟩
        go_wp2
        go_loopw [11] (fun i wr => ∃ k : Nat, k ≤ 16 ∧ i = .int .i64 (k : Int) ∧ wr.heap[wo.heap.size]? = some (.cells (dcur (bs.drop pl) k).toArray 57 (0, 0)) ∧ wr.heap.size = wo.heap.size + 1 ∧ Below wo.heap.size wo wr) (fun i _ => 16 - (intOf i).toNat)
        case atStart => exact ⟨0, by omega, rfl, by rw [dcur_zero]; exact heap_alloc_new wo _, by simp, (Below.refl _ _).alloc (Nat.le_refl _) _⟩
        case round =>
          obtain ⟨k, hk16, rfl, hblk, hsz, hbq⟩ := hrel
          have hrq := hrr.below hbq
          by_cases hkl : k < 16
          · obtain ⟨b, off, x, rfl, hbl, hcell, hx, hD⟩ := hrq.at8 (k := pl + k) (by omega)
            have hx' : (bs.drop pl)[k]? = some x := by
              have := hD.out
              rw [List.getElem?_drop]
              have h2 : (bs.drop (pl + k))[0]? = some x := by rw [this]; rfl
              simpa using h2
            have HS : Hid ((dcur (bs.drop pl) k).set k (B8 x) = dcur (bs.drop pl) (k + 1)) := dcur_set HG.out hkl hx'
            have hc0 : wr.cell? ⟨wo.heap.size, k, none⟩ = some (.int .u8 0) := by
              rw [cell_of_row _ _ _ _ _ _ hblk]
              simpa using dcur_at HG.out hkl
            have hf0 : wr.frozen? ⟨wo.heap.size, k, none⟩ = false := frozen_of_row _ _ _ _ _ hblk
            have HB : Hid (wr.heap[wo.heap.size]? = some (.cells (dcur (bs.drop pl) k).toArray 57 (0, 0))) := hblk
            clear hblk hx'
            go_wp2
            go_roundw
            case rel =>
              refine ⟨k + 1, by omega, by go_num, ?_, by simpa [World.setCell] using hsz, hbq.setCell (by simp) _⟩
              rw [heap_setCell_same _ _ _ _ _ _ HB.out, ← HS.out]
              simp [B8]
            case measure => simp [intOf]; omega
          · have hk' : k = 16 := by omega
            subst hk'
            rw [dcur_all] at hblk
            have hown2 := own_below hown hbq
            have hb3 := hb.trans (hbq.mono hb.size)
            have hclq : Cl wr wo.heap.size 0 (cd ((bs.drop pl).take 16)) := fun j' u' hj' => by rw [cell_of_row _ _ _ _ _ _ hblk]; simpa using hj'
            clear hblk
            go_wp2_with (first
              | ((with_reducible show wpList _ _ _ _ _ _); refine op_load_agg rfl 57 (.tmp 10) rfl wo.heap.size 0 rfl _ Try.underlying57 rfl (cd ((bs.drop pl).take 16)) hclq (by rw [HL.out]; exact size_dg) ?_)
              | ((with_reducible show wpList _ _ _ _ _ _); refine op_build1 rfl 24 57 (.tmp 39) rfl Try.underlying24 _ 16 16 info_dg (by decide) (by decide) (cd ((bs.drop pl).take 16)).toArray rfl (by simp [HL.out]) ?_)
              | (at_builtin; refine append_agg (cd ((bs.drop pl).take 16)) _ rfl (.tmp 38) (.tmp 40) 24 rfl w.heap.size 57 _ 16 16 Try.underlying24 info_dg rfl (by decide) _ _ _ rfl hown2 rfl HL.out (cd_one _) (by omega) (by unfold maxLen; omega) hb3.size ?_; intro v5 w5 hown5 hg5 hb5))
            go_roundw
            case rel => exact ⟨pl + 16, j + 1, _, by go_num, by go_num, h16', HN.out, by simpa [fl] using hown5, hb3.trans hb5⟩
            case measure => simp [intOf]; omega
      · have hjn : j = n := by omega
        subst hjn
        have HR : Hid (getL oneD 16 bs = .ok (acc, pl)) := hG.done HD.out
        clear hG
        go_wp2
        go_ret3
        rw [HR.out]
        exact ⟨_, rfl, hown, hb⟩

theorem wGetDigests (w : World) (A : Option Addr) (c : Nat) (bs : List UInt8) (hr : Rd w 1 (.slice A bs.length c) bs.length (bs.map B8)) (hl : bs.length ≤ 4294967296) :
    Calls Try.prog 34 #[.slice A bs.length c] w fun e w' => GotL w w' 57 16 (fl cd) e (getL oneD 16 bs) := by
  rcases hd : getL oneD 16 bs with er | ⟨l, pl⟩
  · have HD := Lib.hid hd
    clear hd
    go_enter Try.func34, Try.ntmps34
    go_wp2_with (go_at_call 46; refine (wGetLD _ _ _ _ hr hl).mono ?_; rw [HD.out]; rintro e w1 ⟨rfl, hb1⟩)
    go_ret3
    exact ⟨rfl, hb1⟩
  · have HD := Lib.hid hd
    clear hd
    go_enter Try.func34, Try.ntmps34
    go_wp2_with (go_at_call 46; refine (wGetLD _ _ _ _ hr hl).mono ?_; rw [HD.out]; rintro e w1 ⟨v1, rfl, hown1, hb1⟩)
    go_ret3
    exact ⟨_, rfl, hown1, hb1⟩

end Go.Proofs.Ytbjddcjochealaa
