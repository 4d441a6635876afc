/-
  One block: compress.
-/
import Derived.Test.YtmmomcililideaaDoorWk02b
import Derived.Deep.DeepCutAuto
set_option linter.unusedSimpArgs false
set_option linter.unusedVariables false
namespace Go.Proofs.YtmmomcililideaaDoor
open Go.RowKit

theorem size_w8 : (Tryd.prog.info? 30).map (·.size) = some 8 := by kernel_rfl
theorem size_w4 : (Tryd.prog.info? 73).map (·.size) = some 4 := by kernel_rfl

/-- The table of constants lies where it lies. -/
def KK (w : World) : Prop := 1 < w.heap.size ∧ Cl w 1 0 (kk.map W4)
theorem KK.below {w w' : World} {B : Nat} (h : KK w) (hb : Below B w w') (hB : 1 < B) : KK w' :=
  ⟨Nat.lt_of_lt_of_le h.1 hb.size, h.2.below hb hB⟩

theorem size_u32 : (Tryd.prog.info? 29).map (·.size) = some 1 := by kernel_rfl
theorem kk_get {t : Nat} (h : t < 64) : (kk.map W4)[t]? = some (.int .u32 (un (kk.getD t 0) : Int)) := by
  have : t < kk.length := h
  simp [List.getElem?_eq_getElem this, W4]
theorem sw_get {b : List UInt8} {t : Nat} (h : t < 64) : ((sw b 64).map W4)[t]? = some (.int .u32 (un ((sw b 64).getD t 0) : Int)) := by
  have : t < (sw b 64).length := by rw [sw_len]; exact h
  simp [List.getElem?_eq_getElem this, W4]
theorem mixEq (x : UInt32) (w : World) :
    Calls Tryd.prog 48 #[.int .u32 (un x : Int), .int .i64 6, .int .i64 11, .int .i64 25] w fun e w' => e = .returned (.int .u32 (un (mix3 x 6 11 25) : Int)) ∧ w' = w :=
  (mixE x w).mono fun _ _ ⟨h1, h2⟩ => ⟨h1, h2.symm⟩
theorem mixAq (x : UInt32) (w : World) :
    Calls Tryd.prog 48 #[.int .u32 (un x : Int), .int .i64 2, .int .i64 13, .int .i64 22] w fun e w' => e = .returned (.int .u32 (un (mix3 x 2 13 22) : Int)) ∧ w' = w :=
  (mixA x w).mono fun _ _ ⟨h1, h2⟩ => ⟨h1, h2.symm⟩
theorem kk_len : (kk.map W4).length = 64 := rfl
def z8 : List Value := [.int .u32 0, .int .u32 0, .int .u32 0, .int .u32 0, .int .u32 0, .int .u32 0, .int .u32 0, .int .u32 0]
/-- The blocks of compress. -/
structure CW (w wx : World) (l8 : List Value) (b : List UInt8) (gW gv ge : Nat) (V E : List Value) : Prop where
  B0 : Blk wx w.heap.size 30 l8
  B1 : Blk wx (w.heap.size + 1) 30 z8
  BW : Blk wx gW 63 ((sw b 64).map W4)
  BV : Blk wx gv 73 V
  BE : Blk wx ge 73 E
  nW : w.heap.size + 2 ≤ gW
  nv : gW < gv
  ne : gW < ge
  d : gv ≠ ge
  bel : Below w.heap.size w wx
def V4 (s : S8) : List Value := [W4 s.a, W4 s.b, W4 s.c, W4 s.d]
def E4 (s : S8) : List Value := [W4 s.e, W4 s.f, W4 s.g, W4 s.h]
theorem V4_len (s : S8) : (V4 s).length = 4 := rfl
theorem E4_len (s : S8) : (E4 s).length = 4 := rfl
theorem V4_one (s : S8) : ∀ u ∈ V4 s, u.oneCell' = true := W4s_one [s.a, s.b, s.c, s.d]
theorem E4_one (s : S8) : ∀ u ∈ E4 s, u.oneCell' = true := W4s_one [s.e, s.f, s.g, s.h]
theorem E4_rnd (st : S8) (kt wt : UInt32) : (E4 (rnd st kt wt)).toArray = #[.int .u32 (un (st.d + (st.h + mix3 st.e 6 11 25 + ((st.e &&& st.f) ^^^ (~~~st.e &&& st.g)) + kt + wt)) : Int), .int .u32 (un st.e : Int), .int .u32 (un st.f : Int), .int .u32 (un st.g : Int)] := rfl
theorem V4_rnd (st : S8) (kt wt : UInt32) : (V4 (rnd st kt wt)).toArray = #[.int .u32 (un ((st.h + mix3 st.e 6 11 25 + ((st.e &&& st.f) ^^^ (~~~st.e &&& st.g)) + kt + wt) + (mix3 st.a 2 13 22 + ((st.a &&& st.b) ^^^ (st.a &&& st.c) ^^^ (st.b &&& st.c)))) : Int), .int .u32 (un st.a : Int), .int .u32 (un st.b : Int), .int .u32 (un st.c : Int)] := rfl
theorem CW.set {w wx : World} {l8 : List Value} {b : List UInt8} {gW gv ge : Nat} {V E : List Value} (h : CW w wx l8 b gW gv ge V E) (k : Nat) (v : Value) : CW w ((wx.setCell ⟨w.heap.size, k, none⟩ v).drew) (l8.set k v) b gW gv ge V E :=
  ⟨(h.B0.set k v).drew, (h.B1.other _ _ (by simp)).drew, (h.BW.other _ _ (by have := h.nW; simp; omega)).drew, (h.BV.other _ _ (by have := h.nW; have := h.nv; simp; omega)).drew, (h.BE.other _ _ (by have := h.nW; have := h.ne; simp; omega)).drew,
    h.nW, h.nv, h.ne, h.d, (h.bel.setCell (Nat.le_refl _) v).drew⟩
def addL (s r : S8) (k : Nat) : List UInt32 := [if 0 < k then s.a + r.a else s.a, if 1 < k then s.b + r.b else s.b, if 2 < k then s.c + r.c else s.c, if 3 < k then s.d + r.d else s.d,
  if 0 < k then s.e + r.e else s.e, if 1 < k then s.f + r.f else s.f, if 2 < k then s.g + r.g else s.g, if 3 < k then s.h + r.h else s.h]
theorem addL_len (s r : S8) (k : Nat) : ((addL s r k).map W4).length = 8 := rfl
theorem addL_0 (s r : S8) : addL s r 0 = s.l := rfl
theorem addL_4 (s r : S8) : addL s r 4 = (s.add r).l := rfl
theorem CW.drewN {w wx : World} {l8 : List Value} {b : List UInt8} {gW gv ge : Nat} {V E : List Value} (h : CW w wx l8 b gW gv ge V E) (n : Nat) : CW w (wx.drewN n) l8 b gW gv ge V E :=
  ⟨h.B0, h.B1, h.BW, h.BV, h.BE, h.nW, h.nv, h.ne, h.d, bel_drewN h.bel n⟩

set_option maxRecDepth 100000 in
set_option maxHeartbeats 3200000 in
theorem compC (s : S8) (A : Option Addr) (c : Nat) (b : List UInt8) (w : World) (hl : b.length = 64) (hr : Rd w 1 (.slice A 64 c) 64 (b.map B8)) (hK : KK w) :
    Calls Tryd.prog 38 #[.agg (s.l.map W4).toArray, .slice A 64 c] w fun e w' => e = .returned (.agg ((comp s b).l.map W4).toArray) ∧ Below w.heap.size w w' := by
  go_enter Tryd.func38, Tryd.ntmps38
  go_wp2_with fail
  have r0 := (hr.alloc (.cells (List.map W4 s.l).toArray 30)).alloc (.cells #[.int .u32 0, .int .u32 0, .int .u32 0, .int .u32 0, .int .u32 0, .int .u32 0, .int .u32 0, .int .u32 0] 30)
  refine (schedC _ _ b _ hl r0).mono ?_
  rintro e w1 ⟨rfl, hb1⟩
  have h1 : (w.alloc (.cells (List.map W4 s.l).toArray 30)).heap.size = w.heap.size + 1 := by simp
  have B0 : Blk w1 w.heap.size 30 (s.l.map W4) := (((Blk.new rfl).alloc _).below hb1 (by simp; omega))
  have B1 : Blk w1 (w.heap.size + 1) 30 [.int .u32 0, .int .u32 0, .int .u32 0, .int .u32 0, .int .u32 0, .int .u32 0, .int .u32 0, .int .u32 0] := (Blk.newAt rfl h1.symm).below hb1 (by simp)
  have b1 : Below w.heap.size w w1 := (((Below.refl w.heap.size w).alloc (Nat.le_refl _) _).alloc (by simp) _).trans (hb1.mono (by simp; omega))
  have z1 : w.heap.size + 2 ≤ w1.heap.size := by have := hb1.size; simp at this; omega
  clear r0 hb1 h1
  go_wp2_with ((with_reducible show wpList _ _ _ _ _ _); refine op_store_new w1 _ _ rfl 63 (.tmp 5) (.tmp 14) rfl rfl ((sw b 64).map W4).toArray rfl (by simp [sw_len]) (by simpa using W4s_one _) (by simp [sw_len, size_w64]) ?_)
  have B0' := B0.alloc (.cells (List.map W4 (sw b 64)).toArray 63)
  have B1' := B1.alloc (.cells (List.map W4 (sw b 64)).toArray 63)
  have BW : Blk (w1.alloc (.cells (List.map W4 (sw b 64)).toArray 63)) w1.heap.size 63 ((sw b 64).map W4) := Blk.new rfl
  have b2 := b1.alloc b1.size (.cells (List.map W4 (sw b 64)).toArray 63)
  have z2 : (w1.alloc (.cells (List.map W4 (sw b 64)).toArray 63)).heap.size = w1.heap.size + 1 := by simp
  generalize w1.alloc (.cells (List.map W4 (sw b 64)).toArray 63) = w2 at B0' B1' BW b2 z2 ⊢
  clear B0 B1 b1
  generalize w1.heap.size = gW at z1 BW z2 ⊢
  have c0 : w2.cell? ⟨w.heap.size, 0, none⟩ = some (.int .u32 (un s.a : Int)) := B0'.cell rfl
  have c1 : w2.cell? ⟨w.heap.size, 1, none⟩ = some (.int .u32 (un s.b : Int)) := B0'.cell rfl
  have c2 : w2.cell? ⟨w.heap.size, 2, none⟩ = some (.int .u32 (un s.c : Int)) := B0'.cell rfl
  have c3 : w2.cell? ⟨w.heap.size, 3, none⟩ = some (.int .u32 (un s.d : Int)) := B0'.cell rfl
  have c4 : w2.cell? ⟨w.heap.size, 4, none⟩ = some (.int .u32 (un s.e : Int)) := B0'.cell rfl
  have c5 : w2.cell? ⟨w.heap.size, 5, none⟩ = some (.int .u32 (un s.f : Int)) := B0'.cell rfl
  have c6 : w2.cell? ⟨w.heap.size, 6, none⟩ = some (.int .u32 (un s.g : Int)) := B0'.cell rfl
  have c7 : w2.cell? ⟨w.heap.size, 7, none⟩ = some (.int .u32 (un s.h : Int)) := B0'.cell rfl
  have ar0 := run_arrayAt (P := Tryd.prog) 73 29 4 Tryd.underlying73 (some ⟨w.heap.size, 0, none⟩) 4 8 (by omega)
  have ar4 := run_arrayAt (P := Tryd.prog) 73 29 4 Tryd.underlying73 (some ⟨w.heap.size, 4, none⟩) 4 4 (by omega)
  have l1 : w.heap.size < w2.heap.size := by omega
  have l2 : w.heap.size < w2.heap.size + 1 := by omega
  have Z2 := Lib.hid z2
  clear z2
  simp only [Act.put]
  go_cut [6, 7] (fun sv se wx => ∃ gv ge : Nat, sv = .pointer (some ⟨gv, 0, none⟩) ∧ se = .pointer (some ⟨ge, 0, none⟩) ∧ CW w wx (s.l.map W4) b gW gv ge (V4 s) (E4 s))
  case first =>
    go_region
    all_goals
      go_wp2_with fail
      go_meet
      have Z3 := Z2.out
      first
        | exact ⟨w2.heap.size, w2.heap.size + 1, rfl, rfl, ⟨((B0'.alloc _).alloc _).drew, ((B1'.alloc _).alloc _).drew, ((BW.alloc _).alloc _).drew, ((Blk.new (xs := V4 s) rfl).alloc _).drew, (Blk.newAt (xs := E4 s) rfl (by simp)).drew, z1, by omega, by omega, by omega, ((b2.alloc b2.size _).alloc (by have := b2.size; simp; omega) _).drew⟩⟩
        | exact ⟨w2.heap.size + 1, w2.heap.size, rfl, rfl, ⟨((B0'.alloc _).alloc _).drew, ((B1'.alloc _).alloc _).drew, ((BW.alloc _).alloc _).drew, (Blk.newAt (xs := V4 s) rfl (by simp)).drew, ((Blk.new (xs := E4 s) rfl).alloc _).drew, z1, by omega, by omega, by omega, ((b2.alloc b2.size _).alloc (by have := b2.size; simp; omega) _).drew⟩⟩
  case rest =>
    obtain ⟨gv, ge, rfl, rfl, hC⟩ := hcut
    have hK1 := hK.below hC.bel hK.1
    go_wp2_with ((with_reducible show wpList _ _ _ _ _ _); refine op_load_agg rfl 63 (.global 1) rfl 1 0 rfl _ Tryd.underlying63 rfl (kk.map W4) hK1.2 (by rw [kk_len]; exact size_w64) ?_)
    have hIall : ∀ t : Nat, t < 64 → ∀ W : World, (Instr.index 63 (.agg (kk.map W4).toArray) (.int .i64 (t : Int))).run Tryd.prog W = .ok (.int .u32 (un (kk.getD t 0) : Int)) W := fun t hlt => run_index_arr (P := Tryd.prog) 63 29 64 Tryd.underlying63 size_u32 ⟨_, Tryd.underlying29, rfl⟩ (kk.map W4) t (.int .u32 (un (kk.getD t 0) : Int)) (kk_get hlt) hlt
    have HI := Lib.hid hIall
    clear hIall hK1
    generalize (kk.map W4).toArray = KA at HI ⊢
    go_loopw [22] (fun i wr => ∃ t : Nat, t ≤ 64 ∧ i = .int .i64 (t : Int) ∧ CW w wr (s.l.map W4) b gW gv ge (V4 (rnds s (sw b 64) t)) (E4 (rnds s (sw b 64) t)))
      (fun i _ => 64 - (intOf i).toNat)
    case atStart => exact ⟨0, by omega, rfl, hC⟩
    case round =>
      obtain ⟨t, ht, rfl, hR⟩ := hrel
      by_cases hlt : t < 64
      · have hI := HI.out t hlt
        have cw : wr.cell? ⟨gW, t, none⟩ = some (.int .u32 (un ((sw b 64).getD t 0) : Int)) := hR.BW.cell (sw_get hlt)
        have HN : ∀ _ : Unit, rnds s (sw b 64) (t + 1) = rnd (rnds s (sw b 64) t) (kk.getD t 0) ((sw b 64).getD t 0) := fun _ => rfl
        have HN := Lib.hid HN
        generalize rnds s (sw b 64) t = st at hR HN
        generalize kk.getD t 0 = kt at hI HN
        generalize (sw b 64).getD t 0 = wt at cw HN
        have v0 : wr.cell? ⟨gv, 0, none⟩ = some (.int .u32 (un st.a : Int)) := hR.BV.cell rfl
        have v1 : wr.cell? ⟨gv, 1, none⟩ = some (.int .u32 (un st.b : Int)) := hR.BV.cell rfl
        have v2 : wr.cell? ⟨gv, 2, none⟩ = some (.int .u32 (un st.c : Int)) := hR.BV.cell rfl
        have v3 : wr.cell? ⟨gv, 3, none⟩ = some (.int .u32 (un st.d : Int)) := hR.BV.cell rfl
        have e0 : wr.cell? ⟨ge, 0, none⟩ = some (.int .u32 (un st.e : Int)) := hR.BE.cell rfl
        have e1 : wr.cell? ⟨ge, 1, none⟩ = some (.int .u32 (un st.f : Int)) := hR.BE.cell rfl
        have e2 : wr.cell? ⟨ge, 2, none⟩ = some (.int .u32 (un st.g : Int)) := hR.BE.cell rfl
        have e3 : wr.cell? ⟨ge, 3, none⟩ = some (.int .u32 (un st.h : Int)) := hR.BE.cell rfl
        have hx := xor32
        have ha := and32
        have hn := not32
        have hd := add32
        have hdw := add32w
        have hd3 := add32_3
        have hd4 := add32_4
        go_wp2
        go_quiet ((go_at_call 48; exact Calls.quiet_of_same (mixEq _ _)))
        as_aux_lemma =>
          have hR' := hR.drewN nq
          clear v0 v1 v2 v3 e0 e1 e2 e3 cw hI
          go_wp2
          generalize wr.drewN nq = wq at hR' ⊢
          have v0 : wq.cell? ⟨gv, 0, none⟩ = some (.int .u32 (un st.a : Int)) := hR'.BV.cell rfl
          have v1 : wq.cell? ⟨gv, 1, none⟩ = some (.int .u32 (un st.b : Int)) := hR'.BV.cell rfl
          have v2 : wq.cell? ⟨gv, 2, none⟩ = some (.int .u32 (un st.c : Int)) := hR'.BV.cell rfl
          have v3 : wq.cell? ⟨gv, 3, none⟩ = some (.int .u32 (un st.d : Int)) := hR'.BV.cell rfl
          have e0 : wq.cell? ⟨ge, 0, none⟩ = some (.int .u32 (un st.e : Int)) := hR'.BE.cell rfl
          have e1 : wq.cell? ⟨ge, 1, none⟩ = some (.int .u32 (un st.f : Int)) := hR'.BE.cell rfl
          have e2 : wq.cell? ⟨ge, 2, none⟩ = some (.int .u32 (un st.g : Int)) := hR'.BE.cell rfl
          go_quiet ((go_at_call 48; exact Calls.quiet_of_same (mixAq _ _)))
          as_aux_lemma =>
            have hS := hR'.drewN nq
            clear v0 v1 v2 v3 e0 e1 e2
            generalize wq.drewN nq = wz at hS ⊢
            have v3 : wz.cell? ⟨gv, 3, none⟩ = some (.int .u32 (un st.d : Int)) := hS.BV.cell rfl
            have e0 : wz.cell? ⟨ge, 0, none⟩ = some (.int .u32 (un st.e : Int)) := hS.BE.cell rfl
            have e1 : wz.cell? ⟨ge, 1, none⟩ = some (.int .u32 (un st.f : Int)) := hS.BE.cell rfl
            have e2 : wz.cell? ⟨ge, 2, none⟩ = some (.int .u32 (un st.g : Int)) := hS.BE.cell rfl
            go_wp2_with (first
              | ((with_reducible show wpList _ _ _ _ _ _); refine op_store_blk rfl 73 (.tmp 7) (.tmp 82) rfl ge 73 _ hS.BE rfl (E4 (rnd st kt wt)) (congrArg Value.agg (E4_rnd st kt wt).symm) ((E4_len _).trans (E4_len _).symm) (E4_one _) (by rw [E4_len]; exact size_w4) ?_; intro w3 hE3 hoth3 hbel3 hsz3; have BV3 := hoth3 gv _ _ hS.d hS.BV; have y0 : w3.cell? ⟨gv, 0, none⟩ = some (.int .u32 (un st.a : Int)) := BV3.cell rfl; have y1 : w3.cell? ⟨gv, 1, none⟩ = some (.int .u32 (un st.b : Int)) := BV3.cell rfl; have y2 : w3.cell? ⟨gv, 2, none⟩ = some (.int .u32 (un st.c : Int)) := BV3.cell rfl)
              | ((with_reducible show wpList _ _ _ _ _ _); refine op_store_blk rfl 73 (.tmp 6) (.tmp 92) rfl gv 73 _ BV3 rfl (V4 (rnd st kt wt)) (congrArg Value.agg (V4_rnd st kt wt).symm) ((V4_len _).trans (V4_len _).symm) (V4_one _) (by rw [V4_len]; exact size_w4) ?_; intro w4 hV4 hoth4 hbel4 hsz4))
            go_roundw
            case rel =>
              have HN' := HN.out ()
              refine ⟨t + 1, by omega, by go_num, ?_⟩
              rw [HN']
              exact ⟨hoth4 _ _ _ (by have := hS.nv; have := hS.nW; omega) (hoth3 _ _ _ (by have := hS.ne; have := hS.nW; omega) hS.B0), hoth4 _ _ _ (by have := hS.nv; have := hS.nW; omega) (hoth3 _ _ _ (by have := hS.ne; have := hS.nW; omega) hS.B1),
                hoth4 _ _ _ (by have := hS.nv; omega) (hoth3 _ _ _ (by have := hS.ne; omega) hS.BW), hV4, hoth4 _ _ _ (Ne.symm hS.d) hE3, hS.nW, hS.nv, hS.ne, hS.d,
                hbel4 _ _ (hbel3 _ _ hS.bel (by have := hS.ne; have := hS.nW; omega)) (by have := hS.nv; have := hS.nW; omega)⟩
            case measure => simp [intOf]; omega
      · obtain rfl : t = 64 := by omega
        clear HI
        as_aux_lemma =>
          obtain ⟨r, hr⟩ : ∃ r, r = rnds s (sw b 64) 64 := ⟨_, rfl⟩
          have HQ : ∀ _ : Unit, comp s b = s.add r := fun _ => by rw [hr]; rfl
          have HQ := Lib.hid HQ
          rw [← hr] at hR
          clear hr
          obtain ⟨wo, rfl⟩ : ∃ wo : World, wo = wr := ⟨_, rfl⟩
          go_wp2
          go_loopw [94] (fun i wr => ∃ k : Int, 0 ≤ k ∧ k ≤ 4 ∧ i = .int .i64 k ∧ CW w wr ((addL s r k.toNat).map W4) b gW gv ge (V4 r) (E4 r)) (fun i _ => (4 - intOf i).toNat)
          case atStart => exact ⟨0, by omega, by omega, rfl, hR⟩
          case round =>
            obtain ⟨k, hk0, hk4, rfl, hX⟩ := hrel
            have hd := add32
            have hdw := add32w
            obtain rfl | rfl | rfl | rfl | rfl : k = 0 ∨ k = 1 ∨ k = 2 ∨ k = 3 ∨ k = 4 := by omega
            · have s0 : wr.cell? ⟨w.heap.size, 0, none⟩ = some (.int .u32 (un s.a : Int)) := hX.B0.cell rfl
              have f0 : wr.frozen? ⟨w.heap.size, 0, none⟩ = false := hX.B0.free _
              have v0 : wr.cell? ⟨gv, 0, none⟩ = some (.int .u32 (un r.a : Int)) := hX.BV.cell rfl
              go_wp2
              go_region
              have hY := hX.set 0 (.int .u32 (un (s.a + r.a) : Int))
              clear s0 f0 v0
              generalize (wr.setCell ⟨w.heap.size, 0, none⟩ (.int .u32 (un (s.a + r.a) : Int))).drew = wq at hY ⊢
              have s0 : wq.cell? ⟨w.heap.size, 4, none⟩ = some (.int .u32 (un s.e : Int)) := hY.B0.cell rfl
              have f0 : wq.frozen? ⟨w.heap.size, 4, none⟩ = false := hY.B0.free _
              have v0 : wq.cell? ⟨ge, 0, none⟩ = some (.int .u32 (un r.e : Int)) := hY.BE.cell rfl
              go_wp2
              go_region
              have hZ := hY.set 4 (.int .u32 (un (s.e + r.e) : Int))
              clear s0 f0 v0
              go_wp2
              go_roundw
              case rel => exact ⟨1, by omega, by omega, rfl, hZ⟩
              case measure => simp [intOf]
            · have s0 : wr.cell? ⟨w.heap.size, 1, none⟩ = some (.int .u32 (un s.b : Int)) := hX.B0.cell rfl
              have f0 : wr.frozen? ⟨w.heap.size, 1, none⟩ = false := hX.B0.free _
              have v0 : wr.cell? ⟨gv, 1, none⟩ = some (.int .u32 (un r.b : Int)) := hX.BV.cell rfl
              go_wp2
              go_region
              have hY := hX.set 1 (.int .u32 (un (s.b + r.b) : Int))
              clear s0 f0 v0
              generalize (wr.setCell ⟨w.heap.size, 1, none⟩ (.int .u32 (un (s.b + r.b) : Int))).drew = wq at hY ⊢
              have s0 : wq.cell? ⟨w.heap.size, 5, none⟩ = some (.int .u32 (un s.f : Int)) := hY.B0.cell rfl
              have f0 : wq.frozen? ⟨w.heap.size, 5, none⟩ = false := hY.B0.free _
              have v0 : wq.cell? ⟨ge, 1, none⟩ = some (.int .u32 (un r.f : Int)) := hY.BE.cell rfl
              go_wp2
              go_region
              have hZ := hY.set 5 (.int .u32 (un (s.f + r.f) : Int))
              clear s0 f0 v0
              go_wp2
              go_roundw
              case rel => exact ⟨2, by omega, by omega, rfl, hZ⟩
              case measure => simp [intOf]
            · have s0 : wr.cell? ⟨w.heap.size, 2, none⟩ = some (.int .u32 (un s.c : Int)) := hX.B0.cell rfl
              have f0 : wr.frozen? ⟨w.heap.size, 2, none⟩ = false := hX.B0.free _
              have v0 : wr.cell? ⟨gv, 2, none⟩ = some (.int .u32 (un r.c : Int)) := hX.BV.cell rfl
              go_wp2
              go_region
              have hY := hX.set 2 (.int .u32 (un (s.c + r.c) : Int))
              clear s0 f0 v0
              generalize (wr.setCell ⟨w.heap.size, 2, none⟩ (.int .u32 (un (s.c + r.c) : Int))).drew = wq at hY ⊢
              have s0 : wq.cell? ⟨w.heap.size, 6, none⟩ = some (.int .u32 (un s.g : Int)) := hY.B0.cell rfl
              have f0 : wq.frozen? ⟨w.heap.size, 6, none⟩ = false := hY.B0.free _
              have v0 : wq.cell? ⟨ge, 2, none⟩ = some (.int .u32 (un r.g : Int)) := hY.BE.cell rfl
              go_wp2
              go_region
              have hZ := hY.set 6 (.int .u32 (un (s.g + r.g) : Int))
              clear s0 f0 v0
              go_wp2
              go_roundw
              case rel => exact ⟨3, by omega, by omega, rfl, hZ⟩
              case measure => simp [intOf]
            · have s0 : wr.cell? ⟨w.heap.size, 3, none⟩ = some (.int .u32 (un s.d : Int)) := hX.B0.cell rfl
              have f0 : wr.frozen? ⟨w.heap.size, 3, none⟩ = false := hX.B0.free _
              have v0 : wr.cell? ⟨gv, 3, none⟩ = some (.int .u32 (un r.d : Int)) := hX.BV.cell rfl
              go_wp2
              go_region
              have hY := hX.set 3 (.int .u32 (un (s.d + r.d) : Int))
              clear s0 f0 v0
              generalize (wr.setCell ⟨w.heap.size, 3, none⟩ (.int .u32 (un (s.d + r.d) : Int))).drew = wq at hY ⊢
              have s0 : wq.cell? ⟨w.heap.size, 7, none⟩ = some (.int .u32 (un s.h : Int)) := hY.B0.cell rfl
              have f0 : wq.frozen? ⟨w.heap.size, 7, none⟩ = false := hY.B0.free _
              have v0 : wq.cell? ⟨ge, 3, none⟩ = some (.int .u32 (un r.h : Int)) := hY.BE.cell rfl
              go_wp2
              go_region
              have hZ := hY.set 7 (.int .u32 (un (s.h + r.h) : Int))
              clear s0 f0 v0
              go_wp2
              go_roundw
              case rel => exact ⟨4, by omega, by omega, rfl, hZ⟩
              case measure => simp [intOf]
            · go_wp2_with (first
                | ((with_reducible show wpList _ _ _ _ _ _); refine op_load_agg rfl 30 (.tmp 2) rfl w.heap.size 0 rfl _ Tryd.underlying30 rfl ((addL s r 4).map W4) hX.B0.cl (by rw [addL_len]; exact size_w8) ?_)
                | ((with_reducible show wpList _ _ _ _ _ _); refine op_store_blk rfl 30 (.tmp 4) (.tmp 115) rfl (w.heap.size + 1) 30 _ hX.B1 rfl ((addL s r 4).map W4) rfl (by rw [addL_len]; rfl) (W4s_one _) (by rw [addL_len]; exact size_w8) ?_; intro w9 hC9 hoth9 hbel9 hsz9))
              have hld := run_loadVar_cl (P := Tryd.prog) 30 _ (w.heap.size + 1) 0 ((addL s r 4).map W4) hC9.cl Tryd.underlying30 rfl (by rw [addL_len]; exact size_w8)
              have HQ' := HQ.out ()
              rw [HQ', ← addL_4]
              refine bodyPost_ret (v := .agg ((addL s r 4).map W4).toArray) ?_ rfl ⟨rfl, hbel9 _ _ hX.bel (by omega)⟩
              simp [results, Tryd.results38, asAddr, hld, Act.put]
end Go.Proofs.YtmmomcililideaaDoor
