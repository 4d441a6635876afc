/-
  Text.
-/
import Derived.Test.YtglnabciomlmmaaDoorNbd
import Derived.Test.YtglnabciomlmmaaDoorPl04t
namespace Go.Proofs.YtglnabciomlmmaaDoor
open Go.RowKit

/-- The same as app_new, with what grows. -/
theorem app_newG {P : Program} {w : World} {ops : Array Oper} {rest : List Oper} {o : Oper} {a : Act} {Q : Exit → Act → World → Prop} {cs : Array Value} {tb : TypeId} (hgd : o.guard = none) {s x : Operand} {t : TypeId}
    (ho : o.op = .call { callee := .builtin .append, args := #[s, x], argTypes := #[t, t] }) {e : TypeId} {z : Value} {bytes : Nat} (ht : P.underlying t = some (.slice e)) (hi : (P.info? e).map (fun i => (i.zero, i.size, i.bytes)) = some (some z, 1, bytes)) (hz1 : z.cells.size = 1)
    (base : Nat) (v : Value) (n : Nat) (xs us : List Value) (hcs : cs = us.toArray) (hs : a.eval s = v) (hown : w.ownsRow base e 1 v n xs) {m : Nat} (hm : us.length = m)
    (hx : a.eval x = .slice (some ⟨w.heap.size, 0, none⟩) m m) (h1 : ∀ u ∈ us, u.oneCell' = true) (hn : (n + m) * bytes ≤ 140737488355328) (hn2 : n + m ≤ 140737488355328) (hbase : base ≤ w.heap.size)
    (h : ∀ A' c' w', w'.ownsRow base e 1 (.slice A' (n + m) c') (n + m) (xs ++ us) → n + m ≤ c' → c' ≤ maxLen → Below base w w' → w.grownBy w' v.ownBlock → wpList P ops Q rest (a.put o.dst (.slice A' (n + m) c')) w') :
    wpList P ops Q (o :: rest) a (w.alloc (.cells cs tb)) := by
  subst hcs
  obtain ⟨i, hi', hz0, hsz, hby⟩ := info_parts hi
  refine wpList_append_own _ hgd s x t ho base e i z 1 bytes ht hi' hz0 hsz hby hz1 (by decide) v n xs hs (hown.alloc _) ⟨w.heap.size, 0, none⟩ m m us hx (by omega) ?_ h1 (by unfold maxLen; omega) hn (by simp; omega) ?_
  · intro j u hj
    have hb : Blk (w.alloc (.cells us.toArray tb)) w.heap.size tb us := Blk.new rfl
    have := hb.cell hj
    rw [addr_add, Nat.zero_add]
    exact this
  · intro v' w' h2 h3 _
    have h4 : Below base w w' := ((Below.refl base w).alloc hbase _).grown h3 (by simp; omega) (by intro k hk; exact (hown.lt k hk).1)
    have hR := Rd.of_own h2
    obtain ⟨A', c', rfl, h5, h6⟩ := hR.form
    have h7 : Below w.heap.size w (w.alloc (.cells us.toArray tb)) := (Below.refl w.heap.size w).alloc (Nat.le_refl _) _
    exact h A' c' w' h2 h5 h6 h4 ⟨h3.os, h3.tape, h3.output, Nat.le_trans h7.size h3.size, fun k hk hne => (h3.block k (Nat.lt_of_lt_of_le hk h7.size) hne).trans (h7.block k hk)⟩
theorem Dg.grownV {l : List UInt32} {v s : Value} {X Y : World} {base : Nat} (h : Dg l v X) (hf : Fr base v) (hk : ∀ k, s.ownBlock = some k → k < base) (hgr : X.grownBy Y s.ownBlock) : Dg l v Y := by
  cases hs : s.ownBlock with
  | some g =>
    rw [hs] at hgr
    exact h.grown hf (hk g hs) hgr
  | none =>
    rw [hs] at hgr
    obtain ⟨A, c, rfl, hr⟩ := h
    refine ⟨A, c, rfl, hr.keep hgr.size fun p hp => World.cell?_of_block (hgr.block _ hp (fun h => by cases h))⟩

set_option maxRecDepth 100000 in
set_option maxHeartbeats 1600000 in
theorem ntextC (a : List UInt8) (w : World) (ha : a.length ≤ 4194304) :
    Calls Tryd.prog 32 #[.string ⟨a.toArray⟩] w fun e w' => e = .returned (.string ⟨(txt (val a)).toArray⟩) ∧ Below w.heap.size w w' := by
  have la := ld_val a
  have ht := txd_of_bytes (val_lt a)
  obtain ⟨N, hN⟩ : ∃ N, val a = N := ⟨_, rfl⟩
  rw [hN] at la ht ⊢
  have HN := Lib.hid hN
  clear hN
  go_enter Tryd.func32, Tryd.ntmps32
  go_upto_region 2 with (fail)
  refine lx_plain [none, some (Lm (val a))] (lasts_none (lasts_some (Dg.lasts _) (lasts_nil))) ?_
  simp only [its, Nat.zero_add, Nat.reduceAdd]
  refine lx_val (by rfl) (.string ⟨a.toArray⟩) (fun X hX hF => by rfl) ?_
  simp only [Act.put, List.setIfInBounds_toArray, List.set_cons_succ, List.set_cons_zero]
  refine lx_make (by rfl) 34 _ _ (by rfl) [.string ⟨a.toArray⟩] (by rfl) (fun _ => by go_simp) (fun X hX hF => loadC a X (by omega)) ?_
  intro v7
  simp only [Act.put, List.setIfInBounds_toArray, List.set_cons_succ, List.set_cons_zero]
  refine lx_val (by rfl) (v7) (fun X hX hF => by rfl) ?_
  simp only [Act.put, List.setIfInBounds_toArray, List.set_cons_succ, List.set_cons_zero]
  refine lx_val (by rfl) (.int .u32 0) (fun X hX hF => by rfl) ?_
  simp only [Act.put, List.setIfInBounds_toArray, List.set_cons_succ, List.set_cons_zero]
  refine lx_nil ?_
  intro X1 hX1 hF
  have hv7 := hF _ _ List.mem_cons_self
  have hb : Below w.heap.size w X1 := hX1
  clear hF hX1
  rw [HN.out] at hv7
  go_wp2
  go_loopw [3, 4, 5] (fun bv xw dv wr => ∃ (l : List UInt8) (m d : Nat) (xv : Value), xv = xw ∧ dv = .int .u32 (d : Int) ∧ wr.ownsRow w.heap.size 5 1 bv l.length (l.map B8) ∧ Lm m xv wr ∧ txd N = l ++ txd m ∧ (ld m).length ≤ 4194304 ∧ Below w.heap.size w wr) (fun bv _ _ _ => (txd N).length - (match bv with | .slice _ n _ => n | _ => 0))
  case atStart => exact ⟨[], N, 0, _, rfl, rfl, own_nil _ _ _, hv7, rfl, by omega, hb⟩
  case round =>
    clear hv7 hb
    obtain ⟨l, m, d, xv, rfl, rfl, hown, hx, htx, hlm, hb⟩ := hrel
    have hll : l.length ≤ (txd N).length := by rw [htx, List.length_append]; omega
    have HTX := Lib.hid htx
    clear htx
    obtain ⟨A1, c1, rfl, hc1, hc1'⟩ := (Rd.of_own hown).form
    rcases Nat.eq_zero_or_pos m with hm | hm
    · have hl0 := ld_none hm
      have HT : Hid (txd N = l) := by show _ = _; rw [HTX.out, hm, txd_zero, List.append_nil]
      clear hm
      go_upto_region 3 with (fail)
      refine lx_plain [] (lasts_nil) ?_
      simp only [its, Nat.zero_add, Nat.reduceAdd]
      refine lx_val (by rfl) (xv) (fun X hX hF => by rfl) ?_
      simp only [Act.put, List.setIfInBounds_toArray, List.set_cons_succ, List.set_cons_zero]
      refine lx_val (by rfl) (.int .i64 ((ld m).length : Int)) (fun X hX hF => by obtain ⟨A9, c9, h9, _⟩ := ((Dg.lasts _) _ _ _ hx hX); subst h9; exact exec_lenv Tryd.underlying51 _ (by rfl) A9 _ c9 (by rfl) _ rfl X) ?_
      simp only [Act.put, List.setIfInBounds_toArray, List.set_cons_succ, List.set_cons_zero]
      refine lx_val (by rfl) (.bool false) (fun X hX hF => exec_gtr _ _ _ _ (by rfl) .i64 ((ld m).length : Int) 0 (by rfl) (by rfl) false (decide_eq_false (by omega)) X) ?_
      simp only [Act.put, List.setIfInBounds_toArray, List.set_cons_succ, List.set_cons_zero]
      refine lx_nil ?_
      intro X1 hX1 hF
      have hx := (Dg.lasts _) _ _ _ hx hX1
      have hown := own_below hown hX1
      have hb := bel_next hb hX1
      clear hF hX1
      rcases Nat.eq_zero_or_pos N with hN0 | hN0
      · have hl9 : l.length ≤ 0 := by rw [← HT.out, hN0]; exact Nat.le_refl 0
        have HX : Hid (txt N = [48]) := by show _ = _; unfold txt; rw [if_pos hN0]
        clear hN0
        go_upto_region 6 with (fail)
        refine lx_plain [] (lasts_nil) ?_
        simp only [its, Nat.zero_add, Nat.reduceAdd]
        refine lx_val (by rfl) (.slice A1 l.length c1) (fun X hX hF => by rfl) ?_
        simp only [Act.put, List.setIfInBounds_toArray, List.set_cons_succ, List.set_cons_zero]
        refine lx_val (by rfl) (.int .i64 (l.length : Int)) (fun X hX hF => exec_lenv Tryd.underlying61 _ (by rfl) A1 l.length c1 (by rfl) _ rfl X) ?_
        simp only [Act.put, List.setIfInBounds_toArray, List.set_cons_succ, List.set_cons_zero]
        refine lx_val (by rfl) (.bool true) (fun X hX hF => exec_eqi _ _ _ _ (by rfl) .i64 (l.length : Int) 0 (by rfl) (by rfl) true (decide_eq_true (by omega)) X) ?_
        simp only [Act.put, List.setIfInBounds_toArray, List.set_cons_succ, List.set_cons_zero]
        refine lx_nil ?_
        intro X2 hX2 hF
        have hx := (Dg.lasts _) _ _ _ hx hX2
        have hown := own_below hown hX2
        have hb := bel_next hb hX2
        clear hF hX2
        go_wp2
        go_ret
        exact ⟨by rw [HX.out]; rfl, hb⟩
      · have hl9 : 0 < l.length := by
          rw [← HT.out]
          exact List.length_pos_iff.2 (fun h => by rw [txd_nil] at h; omega)
        have HX : Hid (txt N = l.reverse) := by
          show _ = _
          unfold txt
          rw [if_neg (by omega), HT.out]
        clear hN0
        go_upto_region 6 with (fail)
        refine lx_plain [] (lasts_nil) ?_
        simp only [its, Nat.zero_add, Nat.reduceAdd]
        refine lx_val (by rfl) (.slice A1 l.length c1) (fun X hX hF => by rfl) ?_
        simp only [Act.put, List.setIfInBounds_toArray, List.set_cons_succ, List.set_cons_zero]
        refine lx_val (by rfl) (.int .i64 (l.length : Int)) (fun X hX hF => exec_lenv Tryd.underlying61 _ (by rfl) A1 l.length c1 (by rfl) _ rfl X) ?_
        simp only [Act.put, List.setIfInBounds_toArray, List.set_cons_succ, List.set_cons_zero]
        refine lx_val (by rfl) (.bool false) (fun X hX hF => exec_eqi _ _ _ _ (by rfl) .i64 (l.length : Int) 0 (by rfl) (by rfl) false (decide_eq_false (by omega)) X) ?_
        simp only [Act.put, List.setIfInBounds_toArray, List.set_cons_succ, List.set_cons_zero]
        refine lx_nil ?_
        intro X2 hX2 hF
        have hx := (Dg.lasts _) _ _ _ hx hX2
        have hown := own_below hown hX2
        have hb := bel_next hb hX2
        clear hF hX2
        go_wp2_with fail
        refine (reverseC w.heap.size A1 l.length c1 l _ hown hb.size).mono ?_
        rintro e w2 ⟨rfl, hown2, hb2⟩
        have hs1 := run_str 61 9 5 Tryd.underlying61 Tryd.underlying5 Tryd.underlying9 (Rd.of_own hown2)
        have bb2 := hb.trans hb2
        clear hown hown2 hb hb2
        go_wp2
        go_ret
        exact ⟨by rw [HX.out]; rfl, bb2⟩
    · have hl0 := ld_pos hm
      have hl2 := ld_le (Nat.div_le_self m 10)
      have hmd := Nat.mod_lt m (show 0 < 10 by omega)
      have HS : Hid (txd m = UInt8.ofNat (48 + m % 10) :: txd (m / 10)) := txd_step hm
      have hlt : l.length < (txd N).length := by rw [HTX.out, HS.out, List.length_append, List.length_cons]; omega
      have HD : Hid (#[Value.int .u8 ((48 + m % 10 : Nat) : Int)] = [B8 (UInt8.ofNat (48 + m % 10))].toArray) := by
        show _ = _
        rw [B8n, Nat.mod_eq_of_lt (show 48 + m % 10 < 256 by omega)]
      go_upto_region 3 with (fail)
      refine lx_plain [] (lasts_nil) ?_
      simp only [its, Nat.zero_add, Nat.reduceAdd]
      refine lx_val (by rfl) (xv) (fun X hX hF => by rfl) ?_
      simp only [Act.put, List.setIfInBounds_toArray, List.set_cons_succ, List.set_cons_zero]
      refine lx_val (by rfl) (.int .i64 ((ld m).length : Int)) (fun X hX hF => by obtain ⟨A9, c9, h9, _⟩ := ((Dg.lasts _) _ _ _ hx hX); subst h9; exact exec_lenv Tryd.underlying51 _ (by rfl) A9 _ c9 (by rfl) _ rfl X) ?_
      simp only [Act.put, List.setIfInBounds_toArray, List.set_cons_succ, List.set_cons_zero]
      refine lx_val (by rfl) (.bool true) (fun X hX hF => exec_gtr _ _ _ _ (by rfl) .i64 ((ld m).length : Int) 0 (by rfl) (by rfl) true (decide_eq_true (by omega)) X) ?_
      simp only [Act.put, List.setIfInBounds_toArray, List.set_cons_succ, List.set_cons_zero]
      refine lx_nil ?_
      intro X1 hX1 hF
      have hx := (Dg.lasts _) _ _ _ hx hX1
      have hown := own_below hown hX1
      have hb := bel_next hb hX1
      clear hF hX1
      have hkk : ∀ k, (Value.slice A1 l.length c1).ownBlock = some k → k < X1.heap.size := fun k hk => (hown.lt k hk).2
      have HKK := Lib.hid hkk
      clear hkk
      go_upto_region 5 with (fail)
      refine lx_plain_to 2 [none, some (fun q Y => ∃ u, q = .tuple #[u, .int .u32 ((m % 10 : Nat) : Int)] ∧ Lm (m / 10) u Y ∧ Fr X1.heap.size u)] (lasts_none (lasts_some ((by rintro q X Y ⟨u, h1, h2, h3⟩ hS; exact ⟨u, h1, h2.bel hS, h3⟩)) (lasts_nil))) ?_
      simp only [its, List.take, List.drop, Nat.zero_add, Nat.reduceAdd]
      refine lx_val (by rfl) (xv) (fun X hX hF => by rfl) ?_
      simp only [Act.put, List.setIfInBounds_toArray, List.set_cons_succ, List.set_cons_zero]
      refine lx_make (by rfl) 47 _ _ (by rfl) [xv, .int .u32 10] (by rfl) (fun _ => by go_simp) (fun X hX hF => (smallF xv m 10 X ((Dg.lasts _) _ _ _ hx hX) (by omega) (by omega) (by omega)).mono fun e X' ⟨u, h1, h2, h3, h4⟩ => ⟨_, h1, ⟨u, rfl, h2, h3.weak hX.size⟩, h4⟩) ?_
      intro v19
      simp only [Act.put, List.setIfInBounds_toArray, List.set_cons_succ, List.set_cons_zero]
      refine lx_nil ?_
      intro X2 hX2 hF
      have hx := (Dg.lasts _) _ _ _ hx hX2
      have hv19 := hF _ _ List.mem_cons_self
      have hown := own_below hown hX2
      have hb := bel_next hb hX2
      clear hF hX2
      obtain ⟨xv', rfl, hx', hfr⟩ := hv19
      clear hx
      go_upto_region 4 with (fail)
      refine lx_plain_to 4 [] (lasts_nil) ?_
      simp only [its, List.take, List.drop, Nat.zero_add, Nat.reduceAdd]
      refine lx_val (by rfl) (.slice A1 l.length c1) (fun X hX hF => by rfl) ?_
      simp only [Act.put, List.setIfInBounds_toArray, List.set_cons_succ, List.set_cons_zero]
      refine lx_val (by rfl) (.int .u32 ((m % 10 : Nat) : Int)) (fun X hX hF => by rfl) ?_
      simp only [Act.put, List.setIfInBounds_toArray, List.set_cons_succ, List.set_cons_zero]
      refine lx_val (by rfl) (.int .u32 ((48 + m % 10 : Nat) : Int)) (fun X hX hF => exec_addk _ _ _ _ (by rfl) .u32 48 ((m % 10 : Nat) : Int) ((48 + m % 10 : Nat) : Int) (by rfl) (by rfl) (by rw [w32 (by omega) (by omega)]; omega) X) ?_
      simp only [Act.put, List.setIfInBounds_toArray, List.set_cons_succ, List.set_cons_zero]
      refine lx_val (by rfl) (.int .u8 ((48 + m % 10 : Nat) : Int)) (fun X hX hF => exec_cnv _ _ .u32 .u8 Tryd.underlying63 Tryd.underlying5 _ (by rfl) ((48 + m % 10 : Nat) : Int) ((48 + m % 10 : Nat) : Int) (by rfl) (by rw [w8 (by omega) (by omega)]) X) ?_
      simp only [Act.put, List.setIfInBounds_toArray, List.set_cons_succ, List.set_cons_zero]
      refine lx_nil ?_
      intro X3 hX3 hF
      have hx' := (Dg.lasts _) _ _ _ hx' hX3
      have hown := own_below hown hX3
      have hb := bel_next hb hX3
      clear hF hX3
      go_wp2_with (at_builtin; refine app_newG rfl rfl Tryd.underlying61 info_u8 rfl (w.heap.size) _ (l.length) _ [B8 (UInt8.ofNat (48 + m % 10))] HD.out rfl hown (m := 1) rfl rfl (fun u hu => by rw [List.mem_singleton.1 hu]; rfl) (by omega) (by omega) hb.size ?_; intro A3 c3 w3 hown3 hc4 hc5 hb3 hgr3)
      go_roundw
      case rel => exact ⟨l ++ [UInt8.ofNat (48 + m % 10)], m / 10, m % 10, _, rfl, rfl, by rw [List.length_append, List.length_singleton, List.map_append]; exact hown3, hx'.grownV hfr HKK.out hgr3, by rw [HTX.out, HS.out, List.append_assoc]; rfl, by omega, hb.trans hb3⟩
      case measure => simp; omega

end Go.Proofs.YtglnabciomlmmaaDoor
