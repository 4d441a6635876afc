import Derived.Test.YtbjddcjochealaaWk01f
namespace Go.Proofs.Ytbjddcjochealaa
open Go.RowKit

theorem info_i64 : (Try.prog.info? 3).map (fun i => (i.zero, i.size, i.bytes)) = some (some (.int .i64 0), 1, 8) := by kernel_rfl
theorem info_str : (Try.prog.info? 9).map (fun i => (i.zero, i.size, i.bytes)) = some (some (.string ⟨#[]⟩), 1, 16) := by kernel_rfl

theorem wGetInt' (w : World) (A : Option Addr) (n c : Nat) (bs : List UInt8) (hr : Rd w 1 (.slice A n c) n (bs.map B8)) (hl : n ≤ 140737488355328) :
    Calls Try.prog 24 #[.slice A n c] w fun e w' => e = .returned (outI (decI bs)) ∧ w = w' := by
  obtain rfl := hr.n_eq
  exact wGetInt w A c bs hr hl
theorem rGetInt' (w : World) (A : Option Addr) (n c : Nat) (bs : List UInt8) (hr : Rd w 1 (.slice A n c) n (bs.map B8)) (hl : n ≤ 140737488355328) :
    Calls Try.prog 25 #[.slice A n c] w fun e w' => e = .returned (outI (decI bs)) ∧ w = w' := by
  obtain rfl := hr.n_eq
  exact rGetInt w A c bs hr hl
theorem wGetBytes' (w : World) (A : Option Addr) (n c : Nat) (bs : List UInt8) (hr : Rd w 1 (.slice A n c) n (bs.map B8)) (hl : n ≤ 140737488355328) :
    Calls Try.prog 26 #[.slice A n c] w fun e w' => e = .returned (outS (getS bs)) ∧ w = w' := by
  obtain rfl := hr.n_eq
  exact wGetBytes w A c bs hr hl
theorem rGetBytes' (w : World) (A : Option Addr) (n c : Nat) (bs : List UInt8) (hr : Rd w 1 (.slice A n c) n (bs.map B8)) (hl : n ≤ 140737488355328) :
    Calls Try.prog 27 #[.slice A n c] w fun e w' => e = .returned (outS (getS bs)) ∧ w = w' := by
  obtain rfl := hr.n_eq
  exact rGetBytes w A c bs hr hl

/-- The rest 'b[pl:]' of a slice that reads as bytes, at either address. -/
theorem Rd.rest {w : World} {A : Option Addr} {c pl : Nat} {bs : List UInt8} (h : Rd w 1 (.slice A bs.length c) bs.length (bs.map B8)) (hp : pl ≤ bs.length) :
    (c ≠ pl → Rd w 1 (.slice (Option.map (fun x => x.add pl) A) (bs.length - pl) (c - pl)) (bs.length - pl) ((bs.drop pl).map B8)) ∧
    (c = pl → Rd w 1 (.slice A (bs.length - pl) 0) (bs.length - pl) ((bs.drop pl).map B8)) := by
  have e : ((bs.map B8).drop pl).take (bs.length - pl) = (bs.drop pl).map B8 := by rw [map_cut, List.take_of_length_le (by simp)]
  exact ⟨fun hc => by rw [← e]; exact h.cutA (by omega) hc, fun hc => by rw [← e]; exact h.cutE (by omega) hc⟩

set_option maxRecDepth 100000 in
set_option maxHeartbeats 800000 in
theorem wGetLI (w : World) (A : Option Addr) (c : Nat) (bs : List UInt8) (hr : Rd w 1 (.slice A bs.length c) bs.length (bs.map B8)) (hl : bs.length ≤ 4294967296) :
    Calls Try.prog 43 #[.slice A bs.length c, .int .i64 1, .func (.func 24) #[] #[]] w fun e w' => GotL w w' 3 1 (List.map (Value.int .i64)) e (getL decI 1 bs) := by
  have hcap := hr.cap.1
  rcases hd : lenI bs 1 with er | ⟨n, u⟩
  · have hR : getL decI 1 bs = .error er := by unfold getL; rw [hd]
    have HR := Lib.hid hR
    have HD := Lib.hid hd
    rcases lenI_err hd with rfl | rfl
    all_goals
      clear hR hd
      go_enter Try.func43, Try.ntmps43
      go_wp2_with (go_at_call 42; refine (wLength _ _ _ 1 _ hr (by omega) (by omega) (by omega)).mono ?_; rw [HD.out]; rintro e w1 ⟨rfl, rfl⟩; simp only [outN])
      go_ret3
      rw [HR.out]
      exact ⟨rfl, Below.refl _ _⟩
  · obtain ⟨q1, q2, q3, q4⟩ := lenI_ok hd
    rw [Nat.div_one] at q3
    have HD := Lib.hid hd
    clear hd q4
    go_enter Try.func43, Try.ntmps43
    go_wp2_with (go_at_call 42; refine (wLength _ _ _ 1 _ hr (by omega) (by omega) (by omega)).mono ?_; rw [HD.out]; rintro e w1 ⟨rfl, rfl⟩; simp only [outN])
    go_loopw [12, 10, 27] (fun v p i wr => ∃ (pl j : Nat) (acc : List Int), i = .int .i64 (j : Int) ∧ p = .int .i64 (pl : Int) ∧ GetS decI bs n u j pl acc ∧ wr.ownsRow w.heap.size 3 1 v acc.length (acc.map (Value.int .i64)) ∧ Below w.heap.size w wr)
      (fun _ _ i _ => n - (intOf i).toNat)
    case atStart => exact ⟨u, 0, [], rfl, rfl, GetS.start q2, World.ownsRow_nil _ _ _ _, Below.refl _ _⟩
    case round =>
      obtain ⟨pl, j, acc, rfl, rfl, hG, hown, hb⟩ := hrel
      have g1 := hG.hj
      have g2 := hG.hu
      have g3 := hG.hp
      have g4 := hG.hl
      have HG : Hid (GetS decI bs n u j pl acc) := hG
      have hrr := hr.below hb
      obtain ⟨hA, hE⟩ := hrr.rest g3
      by_cases hlt : j < n
      · rcases ho : decI (bs.drop pl) with er | ⟨x, v1⟩
        · have HR : Hid (getL decI 1 bs = .error er) := hG.bad hlt ho HD.out
          have HO := Lib.hid ho
          rcases decI_err ho with rfl | rfl
          all_goals
            clear hG ho
            by_cases hca : c = pl
            · have e0 : bs.drop pl = [] := List.drop_eq_nil_of_le (by omega)
              have hE0 : Rd wr 1 (.slice A 0 0) 0 (([] : List UInt8).map B8) := by have := hE hca; rwa [e0, show bs.length - pl = 0 by omega] at this
              rw [e0] at HO
              subst hca
              clear hA hE e0
              go_wp2_with (go_at_call 24; refine (wGetInt' _ _ _ _ [] hE0 (by omega)).mono ?_; rw [HO.out]; rintro e w2 ⟨rfl, rfl⟩; simp only [outI])
              go_ret3
              rw [HR.out]
              exact ⟨rfl, hb⟩
            · have hA' := hA hca
              clear hA hE
              go_wp2_with (go_at_call 24; refine (wGetInt' _ _ _ _ (bs.drop pl) hA' (by omega)).mono ?_; rw [HO.out]; rintro e w2 ⟨rfl, rfl⟩; simp only [outI])
              go_ret3
              rw [HR.out]
              exact ⟨rfl, hb⟩
        · have hk := decI_ok ho
          rw [List.length_drop] at hk
          have HO := Lib.hid ho
          have HN : Hid (GetS decI bs n u (j + 1) (pl + v1) (acc ++ [x])) := hG.good hlt ho (by omega)
          have hca : c ≠ pl := by omega
          have hA' := hA hca
          clear hG ho hA hE
          go_wp2_with (first
            | (go_at_call 24; refine (wGetInt' _ _ _ _ (bs.drop pl) hA' (by omega)).mono ?_; rw [HO.out]; rintro e w2 ⟨rfl, rfl⟩; simp only [outI])
            | (at_builtin; refine append_one _ _ rfl (.tmp 41) (.tmp 43) 22 rfl w.heap.size 3 _ 8 Try.underlying22 info_i64 rfl _ _ _ rfl hown rfl rfl (by omega) (by unfold maxLen; omega) hb.size ?_; intro v2 w2 hown2 hg2 hb2))
          go_roundw
          case rel => exact ⟨pl + v1, j + 1, acc ++ [x], by go_num, by go_num, HN.out, by simpa [tx] using hown2, hb.trans hb2⟩
          case measure => simp [intOf]; omega
      · have hjn : j = n := by omega
        subst hjn
        have HR : Hid (getL decI 1 bs = .ok (acc, pl)) := hG.done HD.out
        clear hG hA hE
        go_wp2
        go_ret3
        rw [HR.out]
        exact ⟨_, rfl, hown, hb⟩

set_option maxRecDepth 100000 in
set_option maxHeartbeats 800000 in
theorem wGetLS (w : World) (A : Option Addr) (c : Nat) (bs : List UInt8) (hr : Rd w 1 (.slice A bs.length c) bs.length (bs.map B8)) (hl : bs.length ≤ 4294967296) :
    Calls Try.prog 45 #[.slice A bs.length c, .int .i64 1, .func (.func 26) #[] #[]] w fun e w' => GotL w w' 9 1 (List.map tx) e (getL getS 1 bs) := by
  have hcap := hr.cap.1
  rcases hd : lenI bs 1 with er | ⟨n, u⟩
  · have hR : getL getS 1 bs = .error er := by unfold getL; rw [hd]
    have HR := Lib.hid hR
    have HD := Lib.hid hd
    rcases lenI_err hd with rfl | rfl
    all_goals
      clear hR hd
      go_enter Try.func45, Try.ntmps45
      go_wp2_with (go_at_call 42; refine (wLength _ _ _ 1 _ hr (by omega) (by omega) (by omega)).mono ?_; rw [HD.out]; rintro e w1 ⟨rfl, rfl⟩; simp only [outN])
      go_ret3
      rw [HR.out]
      exact ⟨rfl, Below.refl _ _⟩
  · obtain ⟨q1, q2, q3, q4⟩ := lenI_ok hd
    rw [Nat.div_one] at q3
    have HD := Lib.hid hd
    clear hd q4
    go_enter Try.func45, Try.ntmps45
    go_wp2_with (go_at_call 42; refine (wLength _ _ _ 1 _ hr (by omega) (by omega) (by omega)).mono ?_; rw [HD.out]; rintro e w1 ⟨rfl, rfl⟩; simp only [outN])
    go_loopw [12, 10, 27] (fun v p i wr => ∃ (pl j : Nat) (acc : List (List UInt8)), i = .int .i64 (j : Int) ∧ p = .int .i64 (pl : Int) ∧ GetS getS bs n u j pl acc ∧ wr.ownsRow w.heap.size 9 1 v acc.length (acc.map tx) ∧ Below w.heap.size w wr)
      (fun _ _ i _ => n - (intOf i).toNat)
    case atStart => exact ⟨u, 0, [], rfl, rfl, GetS.start q2, World.ownsRow_nil _ _ _ _, Below.refl _ _⟩
    case round =>
      obtain ⟨pl, j, acc, rfl, rfl, hG, hown, hb⟩ := hrel
      have g1 := hG.hj
      have g2 := hG.hu
      have g3 := hG.hp
      have g4 := hG.hl
      have HG : Hid (GetS getS bs n u j pl acc) := hG
      have hrr := hr.below hb
      obtain ⟨hA, hE⟩ := hrr.rest g3
      by_cases hlt : j < n
      · rcases ho : getS (bs.drop pl) with er | ⟨x, v1⟩
        · have HR : Hid (getL getS 1 bs = .error er) := hG.bad hlt ho HD.out
          have HO := Lib.hid ho
          rcases getS_err ho with rfl | rfl
          all_goals
            clear hG ho
            by_cases hca : c = pl
            · have e0 : bs.drop pl = [] := List.drop_eq_nil_of_le (by omega)
              have hE0 : Rd wr 1 (.slice A 0 0) 0 (([] : List UInt8).map B8) := by have := hE hca; rwa [e0, show bs.length - pl = 0 by omega] at this
              rw [e0] at HO
              subst hca
              clear hA hE e0
              go_wp2_with (go_at_call 26; refine (wGetBytes' _ _ _ _ [] hE0 (by omega)).mono ?_; rw [HO.out]; rintro e w2 ⟨rfl, rfl⟩; simp only [outS])
              go_ret3
              rw [HR.out]
              exact ⟨rfl, hb⟩
            · have hA' := hA hca
              clear hA hE
              go_wp2_with (go_at_call 26; refine (wGetBytes' _ _ _ _ (bs.drop pl) hA' (by omega)).mono ?_; rw [HO.out]; rintro e w2 ⟨rfl, rfl⟩; simp only [outS])
              go_ret3
              rw [HR.out]
              exact ⟨rfl, hb⟩
        · have hk := getS_ok ho
          rw [List.length_drop] at hk
          have HO := Lib.hid ho
          have HN : Hid (GetS getS bs n u (j + 1) (pl + v1) (acc ++ [x])) := hG.good hlt ho (by omega)
          have hca : c ≠ pl := by omega
          have hA' := hA hca
          clear hG ho hA hE
          go_wp2_with (first
            | (go_at_call 26; refine (wGetBytes' _ _ _ _ (bs.drop pl) hA' (by omega)).mono ?_; rw [HO.out]; rintro e w2 ⟨rfl, rfl⟩; simp only [outS])
            | (at_builtin; refine append_one _ _ rfl (.tmp 41) (.tmp 43) 23 rfl w.heap.size 9 _ 16 Try.underlying23 info_str rfl _ _ _ rfl hown rfl rfl (by omega) (by unfold maxLen; omega) hb.size ?_; intro v2 w2 hown2 hg2 hb2))
          go_roundw
          case rel => exact ⟨pl + v1, j + 1, acc ++ [x], by go_num, by go_num, HN.out, by simpa [tx] using hown2, hb.trans hb2⟩
          case measure => simp [intOf]; omega
      · have hjn : j = n := by omega
        subst hjn
        have HR : Hid (getL getS 1 bs = .ok (acc, pl)) := hG.done HD.out
        clear hG hA hE
        go_wp2
        go_ret3
        rw [HR.out]
        exact ⟨_, rfl, hown, hb⟩

set_option maxRecDepth 100000 in
set_option maxHeartbeats 800000 in
theorem rGetInts (w : World) (A : Option Addr) (c : Nat) (bs : List UInt8) (hr : Rd w 1 (.slice A bs.length c) bs.length (bs.map B8)) (hl : bs.length ≤ 4294967296) :
    Calls Try.prog 29 #[.slice A bs.length c] w fun e w' => GotL w w' 3 1 (List.map (Value.int .i64)) e (getL decI 1 bs) := by
  have hcap := hr.cap.1
  rcases hd : lenI bs 1 with er | ⟨n, u⟩
  · have hR : getL decI 1 bs = .error er := by unfold getL; rw [hd]
    have HR := Lib.hid hR
    have HD := Lib.hid hd
    rcases lenI_err hd with rfl | rfl
    all_goals
      clear hR hd
      go_enter Try.func29, Try.ntmps29
      go_wp2_with (go_at_call 44; refine (rLength _ _ _ 1 _ hr (by omega) (by omega) (by omega)).mono ?_; rw [HD.out]; rintro e w1 ⟨rfl, rfl⟩; simp only [outN])
      go_ret3
      rw [HR.out]
      exact ⟨rfl, Below.refl _ _⟩
  · obtain ⟨q1, q2, q3, q4⟩ := lenI_ok hd
    rw [Nat.div_one] at q3
    have HD := Lib.hid hd
    clear hd q4
    go_enter Try.func29, Try.ntmps29
    go_wp2_with (go_at_call 44; refine (rLength _ _ _ 1 _ hr (by omega) (by omega) (by omega)).mono ?_; rw [HD.out]; rintro e w1 ⟨rfl, rfl⟩; simp only [outN])
    go_loopw [8, 6, 9] (fun v p i wr => ∃ (pl j : Nat) (acc : List Int), i = .int .i64 (j : Int) ∧ p = .int .i64 (pl : Int) ∧ GetS decI bs n u j pl acc ∧ wr.ownsRow w.heap.size 3 1 v acc.length (acc.map (Value.int .i64)) ∧ Below w.heap.size w wr)
      (fun _ _ i _ => n - (intOf i).toNat)
    case atStart => exact ⟨u, 0, [], rfl, rfl, GetS.start q2, World.ownsRow_nil _ _ _ _, Below.refl _ _⟩
    case round =>
      obtain ⟨pl, j, acc, rfl, rfl, hG, hown, hb⟩ := hrel
      have g1 := hG.hj
      have g2 := hG.hu
      have g3 := hG.hp
      have g4 := hG.hl
      have HG : Hid (GetS decI bs n u j pl acc) := hG
      have hrr := hr.below hb
      obtain ⟨hA, hE⟩ := hrr.rest g3
      by_cases hlt : j < n
      · rcases ho : decI (bs.drop pl) with er | ⟨x, v1⟩
        · have HR : Hid (getL decI 1 bs = .error er) := hG.bad hlt ho HD.out
          have HO := Lib.hid ho
          rcases decI_err ho with rfl | rfl
          all_goals
            clear hG ho
            by_cases hca : c = pl
            · have e0 : bs.drop pl = [] := List.drop_eq_nil_of_le (by omega)
              have hE0 : Rd wr 1 (.slice A 0 0) 0 (([] : List UInt8).map B8) := by have := hE hca; rwa [e0, show bs.length - pl = 0 by omega] at this
              rw [e0] at HO
              subst hca
              clear hA hE e0
              go_wp2_with (go_at_call 25; refine (rGetInt' _ _ _ _ [] hE0 (by omega)).mono ?_; rw [HO.out]; rintro e w2 ⟨rfl, rfl⟩; simp only [outI])
              go_ret3
              rw [HR.out]
              exact ⟨rfl, hb⟩
            · have hA' := hA hca
              clear hA hE
              go_wp2_with (go_at_call 25; refine (rGetInt' _ _ _ _ (bs.drop pl) hA' (by omega)).mono ?_; rw [HO.out]; rintro e w2 ⟨rfl, rfl⟩; simp only [outI])
              go_ret3
              rw [HR.out]
              exact ⟨rfl, hb⟩
        · have hk := decI_ok ho
          rw [List.length_drop] at hk
          have HO := Lib.hid ho
          have HN : Hid (GetS decI bs n u (j + 1) (pl + v1) (acc ++ [x])) := hG.good hlt ho (by omega)
          have hca : c ≠ pl := by omega
          have hA' := hA hca
          clear hG ho hA hE
          go_wp2_with (first
            | (go_at_call 25; refine (rGetInt' _ _ _ _ (bs.drop pl) hA' (by omega)).mono ?_; rw [HO.out]; rintro e w2 ⟨rfl, rfl⟩; simp only [outI])
            | (at_builtin; refine append_one _ _ rfl (.tmp 38) (.tmp 40) 22 rfl w.heap.size 3 _ 8 Try.underlying22 info_i64 rfl _ _ _ rfl hown rfl rfl (by omega) (by unfold maxLen; omega) hb.size ?_; intro v2 w2 hown2 hg2 hb2))
          go_roundw
          case rel => exact ⟨pl + v1, j + 1, acc ++ [x], by go_num, by go_num, HN.out, by simpa [tx] using hown2, hb.trans hb2⟩
          case measure => simp [intOf]; omega
      · have hjn : j = n := by omega
        subst hjn
        have HR : Hid (getL decI 1 bs = .ok (acc, pl)) := hG.done HD.out
        clear hG hA hE
        go_wp2
        go_ret3
        rw [HR.out]
        exact ⟨_, rfl, hown, hb⟩

set_option maxRecDepth 100000 in
set_option maxHeartbeats 800000 in
theorem rGetStrings (w : World) (A : Option Addr) (c : Nat) (bs : List UInt8) (hr : Rd w 1 (.slice A bs.length c) bs.length (bs.map B8)) (hl : bs.length ≤ 4294967296) :
    Calls Try.prog 32 #[.slice A bs.length c] w fun e w' => GotL w w' 9 1 (List.map tx) e (getL getS 1 bs) := by
  have hcap := hr.cap.1
  rcases hd : lenI bs 1 with er | ⟨n, u⟩
  · have hR : getL getS 1 bs = .error er := by unfold getL; rw [hd]
    have HR := Lib.hid hR
    have HD := Lib.hid hd
    rcases lenI_err hd with rfl | rfl
    all_goals
      clear hR hd
      go_enter Try.func32, Try.ntmps32
      go_wp2_with (go_at_call 44; refine (rLength _ _ _ 1 _ hr (by omega) (by omega) (by omega)).mono ?_; rw [HD.out]; rintro e w1 ⟨rfl, rfl⟩; simp only [outN])
      go_ret3
      rw [HR.out]
      exact ⟨rfl, Below.refl _ _⟩
  · obtain ⟨q1, q2, q3, q4⟩ := lenI_ok hd
    rw [Nat.div_one] at q3
    have HD := Lib.hid hd
    clear hd q4
    go_enter Try.func32, Try.ntmps32
    go_wp2_with (go_at_call 44; refine (rLength _ _ _ 1 _ hr (by omega) (by omega) (by omega)).mono ?_; rw [HD.out]; rintro e w1 ⟨rfl, rfl⟩; simp only [outN])
    go_loopw [8, 6, 9] (fun v p i wr => ∃ (pl j : Nat) (acc : List (List UInt8)), i = .int .i64 (j : Int) ∧ p = .int .i64 (pl : Int) ∧ GetS getS bs n u j pl acc ∧ wr.ownsRow w.heap.size 9 1 v acc.length (acc.map tx) ∧ Below w.heap.size w wr)
      (fun _ _ i _ => n - (intOf i).toNat)
    case atStart => exact ⟨u, 0, [], rfl, rfl, GetS.start q2, World.ownsRow_nil _ _ _ _, Below.refl _ _⟩
    case round =>
      obtain ⟨pl, j, acc, rfl, rfl, hG, hown, hb⟩ := hrel
      have g1 := hG.hj
      have g2 := hG.hu
      have g3 := hG.hp
      have g4 := hG.hl
      have HG : Hid (GetS getS bs n u j pl acc) := hG
      have hrr := hr.below hb
      obtain ⟨hA, hE⟩ := hrr.rest g3
      by_cases hlt : j < n
      · rcases ho : getS (bs.drop pl) with er | ⟨x, v1⟩
        · have HR : Hid (getL getS 1 bs = .error er) := hG.bad hlt ho HD.out
          have HO := Lib.hid ho
          rcases getS_err ho with rfl | rfl
          all_goals
            clear hG ho
            by_cases hca : c = pl
            · have e0 : bs.drop pl = [] := List.drop_eq_nil_of_le (by omega)
              have hE0 : Rd wr 1 (.slice A 0 0) 0 (([] : List UInt8).map B8) := by have := hE hca; rwa [e0, show bs.length - pl = 0 by omega] at this
              rw [e0] at HO
              subst hca
              clear hA hE e0
              go_wp2_with (go_at_call 27; refine (rGetBytes' _ _ _ _ [] hE0 (by omega)).mono ?_; rw [HO.out]; rintro e w2 ⟨rfl, rfl⟩; simp only [outS])
              go_ret3
              rw [HR.out]
              exact ⟨rfl, hb⟩
            · have hA' := hA hca
              clear hA hE
              go_wp2_with (go_at_call 27; refine (rGetBytes' _ _ _ _ (bs.drop pl) hA' (by omega)).mono ?_; rw [HO.out]; rintro e w2 ⟨rfl, rfl⟩; simp only [outS])
              go_ret3
              rw [HR.out]
              exact ⟨rfl, hb⟩
        · have hk := getS_ok ho
          rw [List.length_drop] at hk
          have HO := Lib.hid ho
          have HN : Hid (GetS getS bs n u (j + 1) (pl + v1) (acc ++ [x])) := hG.good hlt ho (by omega)
          have hca : c ≠ pl := by omega
          have hA' := hA hca
          clear hG ho hA hE
          go_wp2_with (first
            | (go_at_call 27; refine (rGetBytes' _ _ _ _ (bs.drop pl) hA' (by omega)).mono ?_; rw [HO.out]; rintro e w2 ⟨rfl, rfl⟩; simp only [outS])
            | (at_builtin; refine append_one _ _ rfl (.tmp 38) (.tmp 40) 23 rfl w.heap.size 9 _ 16 Try.underlying23 info_str rfl _ _ _ rfl hown rfl rfl (by omega) (by unfold maxLen; omega) hb.size ?_; intro v2 w2 hown2 hg2 hb2))
          go_roundw
          case rel => exact ⟨pl + v1, j + 1, acc ++ [x], by go_num, by go_num, HN.out, by simpa [tx] using hown2, hb.trans hb2⟩
          case measure => simp [intOf]; omega
      · have hjn : j = n := by omega
        subst hjn
        have HR : Hid (getL getS 1 bs = .ok (acc, pl)) := hG.done HD.out
        clear hG hA hE
        go_wp2
        go_ret3
        rw [HR.out]
        exact ⟨_, rfl, hown, hb⟩

theorem wGetInts (w : World) (A : Option Addr) (c : Nat) (bs : List UInt8) (hr : Rd w 1 (.slice A bs.length c) bs.length (bs.map B8)) (hl : bs.length ≤ 4294967296) :
    Calls Try.prog 28 #[.slice A bs.length c] w fun e w' => GotL w w' 3 1 (List.map (Value.int .i64)) e (getL decI 1 bs) := by
  rcases hd : getL decI 1 bs with er | ⟨l, pl⟩
  · have HD := Lib.hid hd
    clear hd
    go_enter Try.func28, Try.ntmps28
    go_wp2_with (go_at_call 43; refine (wGetLI _ _ _ _ hr hl).mono ?_; rw [HD.out]; rintro e w1 ⟨rfl, hb1⟩)
    go_ret3
    exact ⟨rfl, hb1⟩
  · have HD := Lib.hid hd
    clear hd
    go_enter Try.func28, Try.ntmps28
    go_wp2_with (go_at_call 43; refine (wGetLI _ _ _ _ hr hl).mono ?_; rw [HD.out]; rintro e w1 ⟨v1, rfl, hown1, hb1⟩)
    go_ret3
    exact ⟨_, rfl, hown1, hb1⟩

theorem wGetStrings (w : World) (A : Option Addr) (c : Nat) (bs : List UInt8) (hr : Rd w 1 (.slice A bs.length c) bs.length (bs.map B8)) (hl : bs.length ≤ 4294967296) :
    Calls Try.prog 31 #[.slice A bs.length c] w fun e w' => GotL w w' 9 1 (List.map tx) e (getL getS 1 bs) := by
  rcases hd : getL getS 1 bs with er | ⟨l, pl⟩
  · have HD := Lib.hid hd
    clear hd
    go_enter Try.func31, Try.ntmps31
    go_wp2_with (go_at_call 45; refine (wGetLS _ _ _ _ hr hl).mono ?_; rw [HD.out]; rintro e w1 ⟨rfl, hb1⟩)
    go_ret3
    exact ⟨rfl, hb1⟩
  · have HD := Lib.hid hd
    clear hd
    go_enter Try.func31, Try.ntmps31
    go_wp2_with (go_at_call 45; refine (wGetLS _ _ _ _ hr hl).mono ?_; rw [HD.out]; rintro e w1 ⟨v1, rfl, hown1, hb1⟩)
    go_ret3
    exact ⟨_, rfl, hown1, hb1⟩

end Go.Proofs.Ytbjddcjochealaa
