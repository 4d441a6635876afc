import Derived.Test.YtbjddcjochealaaWk01c
namespace Go.Proofs.Ytbjddcjochealaa
open Go.RowKit

theorem wBytes (s : List UInt8) (w : World) (hs : s.length ≤ 4294967296) :
    Calls Try.prog 16 #[.string ⟨s.toArray⟩] w fun e w' => ∃ v, e = .returned v ∧ Mk w w' 5 1 v (encS s).length ((encS s).map B8) := by
  have hE := encI_length s.length
  go_enter Try.func16, Try.ntmps16
  go_wp2_with (first
    | (go_at_call 14; refine (wInt _ _ (by omega) (by omega)).mono ?_; rintro e w1 ⟨v1, rfl, hown, hb⟩)
    | (at_builtin; refine append_str rfl (.tmp 5) (.tmp 6) 28 9 rfl w.heap.size 5 Try.underlying28 Try.underlying9 info_u8 _ _ _ rfl hown s rfl (by omega) hb.size ?_; intro v2 w2 hown2 hg2 hb2))
  go_ret
  refine ⟨_, rfl, ?_, hb.trans hb2⟩
  unfold encS
  simpa using hown2

theorem rBytes (s : List UInt8) (w : World) (hs : s.length ≤ 4294967296) :
    Calls Try.prog 17 #[.string ⟨s.toArray⟩] w fun e w' => ∃ v, e = .returned v ∧ Mk w w' 5 1 v (encS s).length ((encS s).map B8) := by
  have hE := encI_length s.length
  go_enter Try.func17, Try.ntmps17
  go_wp2_with (first
    | (go_at_call 15; refine (rInt _ _ (by omega) (by omega)).mono ?_; rintro e w1 ⟨v1, rfl, hown, hb⟩)
    | (at_builtin; refine append_str rfl (.tmp 5) (.tmp 6) 28 9 rfl w.heap.size 5 Try.underlying28 Try.underlying9 info_u8 _ _ _ rfl hown s rfl (by omega) hb.size ?_; intro v2 w2 hown2 hg2 hb2))
  go_ret
  refine ⟨_, rfl, ?_, hb.trans hb2⟩
  unfold encS
  simpa using hown2

theorem wLength (w : World) (A : Option Addr) (c m : Nat) (bs : List UInt8) (hr : Rd w 1 (.slice A bs.length c) bs.length (bs.map B8)) (hl : bs.length ≤ 140737488355328) (hm : 1 ≤ m) (hm2 : m ≤ 16) :
    Calls Try.prog 42 #[.slice A bs.length c, .int .i64 (m : Int)] w fun e w' => e = .returned (outN (lenI bs m)) ∧ w = w' := by
  rcases hd : decI bs with er | ⟨n, u⟩
  · have hR : lenI bs m = .error er := by unfold lenI; rw [hd]
    have HR := Lib.hid hR
    have HD := Lib.hid hd
    rcases decI_err hd with rfl | rfl
    all_goals
      clear hR hd
      go_enter Try.func42, Try.ntmps42
      go_wp2_with (go_at_call 24; refine (wGetInt _ _ _ _ hr hl).mono ?_; rw [HD.out]; rintro e w1 ⟨rfl, rfl⟩; simp only [outI])
      go_ret3
      exact ⟨by rw [HR.out]; rfl, rfl⟩
  · obtain ⟨q1, q2, q3, q4, q5⟩ := decI_ok hd
    have HD := Lib.hid hd
    have hR : lenI bs m = if n < 0 then .error 11 else if ((bs.length - u) / m : Nat) < n then .error 10 else .ok (n.toNat, u) := by unfold lenI; rw [hd]
    by_cases hn : n < 0
    · rw [if_pos hn] at hR
      have HR := Lib.hid hR
      clear hR hd
      go_enter Try.func42, Try.ntmps42
      go_wp2_with (go_at_call 24; refine (wGetInt _ _ _ _ hr hl).mono ?_; rw [HD.out]; rintro e w1 ⟨rfl, rfl⟩; simp only [outI])
      go_ret3
      exact ⟨by rw [HR.out]; rfl, rfl⟩
    · rw [if_neg hn] at hR
      obtain ⟨k, rfl⟩ := Int.eq_ofNat_of_zero_le (Int.not_lt.1 hn)
      have e1 : ((bs.length : Int) - (u : Int)) / (m : Int) = (((bs.length - u) / m : Nat) : Int) := by
        rw [← Int.ofNat_sub q2]; rfl
      by_cases hk : ((bs.length - u) / m : Nat) < (k : Int)
      · rw [if_pos hk] at hR
        have HR := Lib.hid hR
        have hk2 : ((bs.length : Int) - (u : Int)) / (m : Int) < (k : Int) := by rw [e1]; exact hk
        clear hR hd e1
        go_enter Try.func42, Try.ntmps42
        go_wp2_with (go_at_call 24; refine (wGetInt _ _ _ _ hr hl).mono ?_; rw [HD.out]; rintro e w1 ⟨rfl, rfl⟩; simp only [outI])
        go_ret3
        exact ⟨by rw [HR.out]; rfl, rfl⟩
      · rw [if_neg hk] at hR
        have HR := Lib.hid hR
        have hk2 : (k : Int) ≤ ((bs.length : Int) - (u : Int)) / (m : Int) := by rw [e1]; omega
        clear hR hd e1
        go_enter Try.func42, Try.ntmps42
        go_wp2_with (go_at_call 24; refine (wGetInt _ _ _ _ hr hl).mono ?_; rw [HD.out]; rintro e w1 ⟨rfl, rfl⟩; simp only [outI])
        go_ret3
        exact ⟨by rw [HR.out]; rfl, rfl⟩
theorem rLength (w : World) (A : Option Addr) (c m : Nat) (bs : List UInt8) (hr : Rd w 1 (.slice A bs.length c) bs.length (bs.map B8)) (hl : bs.length ≤ 140737488355328) (hm : 1 ≤ m) (hm2 : m ≤ 16) :
    Calls Try.prog 44 #[.slice A bs.length c, .int .i64 (m : Int)] w fun e w' => e = .returned (outN (lenI bs m)) ∧ w = w' := by
  rcases hd : decI bs with er | ⟨n, u⟩
  · have hR : lenI bs m = .error er := by unfold lenI; rw [hd]
    have HR := Lib.hid hR
    have HD := Lib.hid hd
    rcases decI_err hd with rfl | rfl
    all_goals
      clear hR hd
      go_enter Try.func44, Try.ntmps44
      go_wp2_with (go_at_call 25; refine (rGetInt _ _ _ _ hr hl).mono ?_; rw [HD.out]; rintro e w1 ⟨rfl, rfl⟩; simp only [outI])
      go_ret3
      exact ⟨by rw [HR.out]; rfl, rfl⟩
  · obtain ⟨q1, q2, q3, q4, q5⟩ := decI_ok hd
    have HD := Lib.hid hd
    have hR : lenI bs m = if n < 0 then .error 11 else if ((bs.length - u) / m : Nat) < n then .error 10 else .ok (n.toNat, u) := by unfold lenI; rw [hd]
    by_cases hn : n < 0
    · rw [if_pos hn] at hR
      have HR := Lib.hid hR
      clear hR hd
      go_enter Try.func44, Try.ntmps44
      go_wp2_with (go_at_call 25; refine (rGetInt _ _ _ _ hr hl).mono ?_; rw [HD.out]; rintro e w1 ⟨rfl, rfl⟩; simp only [outI])
      go_ret3
      exact ⟨by rw [HR.out]; rfl, rfl⟩
    · rw [if_neg hn] at hR
      obtain ⟨k, rfl⟩ := Int.eq_ofNat_of_zero_le (Int.not_lt.1 hn)
      have e1 : ((bs.length : Int) - (u : Int)) / (m : Int) = (((bs.length - u) / m : Nat) : Int) := by
        rw [← Int.ofNat_sub q2]; rfl
      by_cases hk : ((bs.length - u) / m : Nat) < (k : Int)
      · rw [if_pos hk] at hR
        have HR := Lib.hid hR
        have hk2 : ((bs.length : Int) - (u : Int)) / (m : Int) < (k : Int) := by rw [e1]; exact hk
        clear hR hd e1
        go_enter Try.func44, Try.ntmps44
        go_wp2_with (go_at_call 25; refine (rGetInt _ _ _ _ hr hl).mono ?_; rw [HD.out]; rintro e w1 ⟨rfl, rfl⟩; simp only [outI])
        go_ret3
        exact ⟨by rw [HR.out]; rfl, rfl⟩
      · rw [if_neg hk] at hR
        have HR := Lib.hid hR
        have hk2 : (k : Int) ≤ ((bs.length : Int) - (u : Int)) / (m : Int) := by rw [e1]; omega
        clear hR hd e1
        go_enter Try.func44, Try.ntmps44
        go_wp2_with (go_at_call 25; refine (rGetInt _ _ _ _ hr hl).mono ?_; rw [HD.out]; rintro e w1 ⟨rfl, rfl⟩; simp only [outI])
        go_ret3
        exact ⟨by rw [HR.out]; rfl, rfl⟩
theorem wGetBytes (w : World) (A : Option Addr) (c : Nat) (bs : List UInt8) (hr : Rd w 1 (.slice A bs.length c) bs.length (bs.map B8)) (hl : bs.length ≤ 140737488355328) :
    Calls Try.prog 26 #[.slice A bs.length c] w fun e w' => e = .returned (outS (getS bs)) ∧ w = w' := by
  rcases hd : lenI bs 1 with er | ⟨n, u⟩
  · have hR : getS bs = .error er := by unfold getS; rw [hd]
    have HR := Lib.hid hR
    have HD := Lib.hid hd
    rcases lenI_err hd with rfl | rfl
    all_goals
      clear hR hd
      go_enter Try.func26, Try.ntmps26
      go_wp2_with (go_at_call 42; refine (wLength _ _ _ 1 _ hr hl (by omega) (by omega)).mono ?_; rw [HD.out]; rintro e w1 ⟨rfl, rfl⟩; simp only [outN])
      go_ret3
      exact ⟨by rw [HR.out]; rfl, rfl⟩
  · obtain ⟨q1, q2, q3, q4⟩ := lenI_ok hd
    rw [Nat.div_one] at q3
    have hR : getS bs = .ok ((bs.drop u).take n, u + n) := by unfold getS; rw [hd]
    have HR := Lib.hid hR
    have HD := Lib.hid hd
    have hcap := hr.cap.1
    by_cases hcu : c = u
    · have hcut : Rd w 1 (.slice A n 0) n (((bs.drop u).take n).map B8) := by rw [← map_cut]; exact hr.cutE (by omega) hcu
      have hcv := run_str 28 9 5 Try.underlying28 Try.underlying5 Try.underlying9 hcut
      subst hcu
      clear hR hd q4
      go_enter Try.func26, Try.ntmps26
      go_wp2_with (first | (go_at_call 42; refine (wLength _ _ _ 1 _ hr hl (by omega) (by omega)).mono ?_; rw [HD.out]; rintro e w1 ⟨rfl, rfl⟩; simp only [outN]))
      go_ret3
      exact ⟨by rw [HR.out]; rfl, rfl⟩
    · have hcut : Rd w 1 (.slice (Option.map (fun x => x.add u) A) n (c - u)) n (((bs.drop u).take n).map B8) := by rw [← map_cut]; exact hr.cutA (by omega) hcu
      have hcv := run_str 28 9 5 Try.underlying28 Try.underlying5 Try.underlying9 hcut
      clear hR hd q4
      go_enter Try.func26, Try.ntmps26
      go_wp2_with (first | (go_at_call 42; refine (wLength _ _ _ 1 _ hr hl (by omega) (by omega)).mono ?_; rw [HD.out]; rintro e w1 ⟨rfl, rfl⟩; simp only [outN]))
      go_ret3
      exact ⟨by rw [HR.out]; rfl, rfl⟩

theorem rGetBytes (w : World) (A : Option Addr) (c : Nat) (bs : List UInt8) (hr : Rd w 1 (.slice A bs.length c) bs.length (bs.map B8)) (hl : bs.length ≤ 140737488355328) :
    Calls Try.prog 27 #[.slice A bs.length c] w fun e w' => e = .returned (outS (getS bs)) ∧ w = w' := by
  rcases hd : decI bs with er | ⟨n, u⟩
  · have hR : getS bs = .error er := by unfold getS lenI; rw [hd]
    have HR := Lib.hid hR
    have HD := Lib.hid hd
    rcases decI_err hd with rfl | rfl
    all_goals
      clear hR hd
      go_enter Try.func27, Try.ntmps27
      go_wp2_with (go_at_call 25; refine (rGetInt _ _ _ _ hr hl).mono ?_; rw [HD.out]; rintro e w1 ⟨rfl, rfl⟩; simp only [outI])
      go_ret3
      exact ⟨by rw [HR.out]; rfl, rfl⟩
  · obtain ⟨q1, q2, q3, q4, q5⟩ := decI_ok hd
    have HD := Lib.hid hd
    have hR0 : lenI bs 1 = if n < 0 then .error 11 else if ((bs.length - u) / 1 : Nat) < n then .error 10 else .ok (n.toNat, u) := by unfold lenI; rw [hd]
    rw [Nat.div_one] at hR0
    by_cases hn : n < 0
    · rw [if_pos hn] at hR0
      have hR : getS bs = .error 11 := by unfold getS; rw [hR0]
      have HR := Lib.hid hR
      clear hR hR0 hd
      go_enter Try.func27, Try.ntmps27
      go_wp2_with (go_at_call 25; refine (rGetInt _ _ _ _ hr hl).mono ?_; rw [HD.out]; rintro e w1 ⟨rfl, rfl⟩; simp only [outI])
      go_ret3
      exact ⟨by rw [HR.out]; rfl, rfl⟩
    · rw [if_neg hn] at hR0
      obtain ⟨k, rfl⟩ := Int.eq_ofNat_of_zero_le (Int.not_lt.1 hn)
      by_cases hk : ((bs.length - u : Nat) : Int) < (k : Int)
      · rw [if_pos hk] at hR0
        have hR : getS bs = .error 10 := by unfold getS; rw [hR0]
        have HR := Lib.hid hR
        clear hR hR0 hd
        go_enter Try.func27, Try.ntmps27
        go_wp2_with (go_at_call 25; refine (rGetInt _ _ _ _ hr hl).mono ?_; rw [HD.out]; rintro e w1 ⟨rfl, rfl⟩; simp only [outI])
        go_ret3
        exact ⟨by rw [HR.out]; rfl, rfl⟩
      · rw [if_neg hk] at hR0
        have hR : getS bs = .ok ((bs.drop u).take k, u + k) := by unfold getS; rw [hR0]; rfl
        have HR := Lib.hid hR
        clear hR hR0 hd
        have hcap := hr.cap.1
        by_cases hcu : c = u
        · have hcut : Rd w 1 (.slice A k 0) k (((bs.drop u).take k).map B8) := by rw [← map_cut]; exact hr.cutE (by omega) hcu
          have hcv := run_str 28 9 5 Try.underlying28 Try.underlying5 Try.underlying9 hcut
          subst hcu
          go_enter Try.func27, Try.ntmps27
          go_wp2_with (first | (go_at_call 25; refine (rGetInt _ _ _ _ hr hl).mono ?_; rw [HD.out]; rintro e w1 ⟨rfl, rfl⟩; simp only [outI]))
          go_ret3
          exact ⟨by rw [HR.out]; rfl, rfl⟩
        · have hcut : Rd w 1 (.slice (Option.map (fun x => x.add u) A) k (c - u)) k (((bs.drop u).take k).map B8) := by rw [← map_cut]; exact hr.cutA (by omega) hcu
          have hcv := run_str 28 9 5 Try.underlying28 Try.underlying5 Try.underlying9 hcut
          go_enter Try.func27, Try.ntmps27
          go_wp2_with (first | (go_at_call 25; refine (rGetInt _ _ _ _ hr hl).mono ?_; rw [HD.out]; rintro e w1 ⟨rfl, rfl⟩; simp only [outI]))
          go_ret3
          exact ⟨by rw [HR.out]; rfl, rfl⟩
end Go.Proofs.Ytbjddcjochealaa
