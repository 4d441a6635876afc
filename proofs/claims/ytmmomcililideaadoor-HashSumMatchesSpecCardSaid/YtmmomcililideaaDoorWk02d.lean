/-
  Streams: Begin, Add.
-/
import Derived.Test.YtmmomcililideaaDoorWk02c
import Derived.Test.YtmmomcililideaaDoorPl02b
import Derived.Deep.RegionWith
import Derived.Test.YtmmomcililideaaDoorBlk2
set_option linter.unusedSimpArgs false
set_option linter.unusedVariables false
namespace Go.Proofs.YtmmomcililideaaDoor
open Go.RowKit

theorem size_st : (Tryd.prog.info? 34).map (·.size) = some 73 := by kernel_rfl
theorem size_u8 : (Tryd.prog.info? 5).map (·.size) = some 1 := by kernel_rfl

theorem isStr_nil : IsStr [] (.agg (strm iv (List.replicate 64 0) 0).toArray) := ⟨_, ⟨rfl, rfl⟩, rfl⟩

def z73 : List Value := strm ⟨0, 0, 0, 0, 0, 0, 0, 0⟩ (List.replicate 64 0) 0
def b73 : List Value := strm iv (List.replicate 64 0) 0
theorem z73_len : z73.length = 73 := strm_len rfl
theorem zeroSt : ∀ w : World, (zeroValue 34).run Tryd.prog w = .ok (.agg z73.toArray) w := fun _ => by kernel_rfl
theorem b73_one : ∀ u ∈ b73, u.oneCell' = true := strm_one _ _ _
theorem b73_len : b73.length = 73 := strm_len rfl

set_option maxRecDepth 100000 in
theorem beginC (w : World) : Calls Tryd.prog 16 #[] w fun e w' => ∃ v, e = .returned v ∧ IsStr [] v ∧ Below w.heap.size w w' := by
  have hz := zeroSt
  go_enter Tryd.func16, Tryd.ntmps16
  go_wp2_with (first
    | ((with_reducible show wpList _ _ _ _ _ _); refine op_val (o := ⟨some 2, _, _, _, _, _⟩) rfl (.agg b73.toArray) (by kernel_rfl) ?_)
    | ((with_reducible show wpList _ _ _ _ _ _); refine op_store_new w _ _ rfl 34 (.tmp 0) (.tmp 2) rfl rfl b73.toArray rfl (by simp [b73_len, z73_len]) (by simpa using b73_one) (by simp [b73_len, size_st]) ?_))
  have hld := run_loadVar_cl (P := Tryd.prog) 34 _ w.heap.size 0 b73 (Cl.new (w := w) (t := 34) rfl) Tryd.underlying34 rfl (by rw [b73_len]; exact size_st)
  refine bodyPost_ret (v := .agg b73.toArray) ?_ rfl ⟨_, rfl, isStr_nil, (Below.refl _ _).alloc (Nat.le_refl _) _⟩
  simp [results, Tryd.results16, asAddr, hld, Act.put]

theorem strm_s (s s' : S8) (blk : List UInt8) (n : Nat) : ((((((((strm s blk n).set 0 (W4 s'.a)).set 1 (W4 s'.b)).set 2 (W4 s'.c)).set 3 (W4 s'.d)).set 4 (W4 s'.e)).set 5 (W4 s'.f)).set 6 (W4 s'.g)).set 7 (W4 s'.h) = strm s' blk n := rfl
theorem blk_s {w : World} {g : Nat} {t : TypeId} {s : S8} (s' : S8) {blk : List UInt8} {n : Nat} (h : Blk w g t (strm s blk n)) :
    Blk ((((((((w.setCell ⟨g, 0, none⟩ (W4 s'.a)).setCell ⟨g, 1, none⟩ (W4 s'.b)).setCell ⟨g, 2, none⟩ (W4 s'.c)).setCell ⟨g, 3, none⟩ (W4 s'.d)).setCell ⟨g, 4, none⟩ (W4 s'.e)).setCell ⟨g, 5, none⟩ (W4 s'.f)).setCell ⟨g, 6, none⟩ (W4 s'.g)).setCell ⟨g, 7, none⟩ (W4 s'.h)) g t (strm s' blk n) := by
  rw [← strm_s s s']
  exact (((((((h.set 0 _).set 1 _).set 2 _).set 3 _).set 4 _).set 5 _).set 6 _).set 7 _
theorem oth_s {w : World} {g g' : Nat} {t : TypeId} {xs : List Value} (s' : S8) (h : Blk w g' t xs) (hne : g' ≠ g) :
    Blk ((((((((w.setCell ⟨g, 0, none⟩ (W4 s'.a)).setCell ⟨g, 1, none⟩ (W4 s'.b)).setCell ⟨g, 2, none⟩ (W4 s'.c)).setCell ⟨g, 3, none⟩ (W4 s'.d)).setCell ⟨g, 4, none⟩ (W4 s'.e)).setCell ⟨g, 5, none⟩ (W4 s'.f)).setCell ⟨g, 6, none⟩ (W4 s'.g)).setCell ⟨g, 7, none⟩ (W4 s'.h)) g' t xs :=
  (((((((h.other ⟨g, 0, none⟩ _ hne).other ⟨g, 1, none⟩ _ hne).other ⟨g, 2, none⟩ _ hne).other ⟨g, 3, none⟩ _ hne).other ⟨g, 4, none⟩ _ hne).other ⟨g, 5, none⟩ _ hne).other ⟨g, 6, none⟩ _ hne).other ⟨g, 7, none⟩ _ hne
theorem bel_s {w w0 : World} {B g : Nat} (s' : S8) (h : Below B w0 w) (hg : B ≤ g) :
    Below B w0 ((((((((w.setCell ⟨g, 0, none⟩ (W4 s'.a)).setCell ⟨g, 1, none⟩ (W4 s'.b)).setCell ⟨g, 2, none⟩ (W4 s'.c)).setCell ⟨g, 3, none⟩ (W4 s'.d)).setCell ⟨g, 4, none⟩ (W4 s'.e)).setCell ⟨g, 5, none⟩ (W4 s'.f)).setCell ⟨g, 6, none⟩ (W4 s'.g)).setCell ⟨g, 7, none⟩ (W4 s'.h)) :=
  (((((((h.setCell (p := ⟨g, 0, none⟩) hg _).setCell (p := ⟨g, 1, none⟩) hg _).setCell (p := ⟨g, 2, none⟩) hg _).setCell (p := ⟨g, 3, none⟩) hg _).setCell (p := ⟨g, 4, none⟩) hg _).setCell (p := ⟨g, 5, none⟩) hg _).setCell (p := ⟨g, 6, none⟩) hg _).setCell (p := ⟨g, 7, none⟩) hg _
theorem ext_str (r : List UInt8) (k : Nat) : (⟨r.toArray⟩ : ByteArray).extract k r.length = ⟨(r.drop k).toArray⟩ := by
  apply ByteArray.ext
  rw [ByteArray.data_extract]
  simp
  rw [List.take_of_length_le (by rw [List.length_drop]; omega)]
theorem compX (s : S8) (A : Option Addr) (c : Nat) (b : List UInt8) (w : World) (hl : b.length = 64) (hr : Rd w 1 (.slice A 64 c) 64 (b.map B8)) (hK : KK w) :
    Calls Tryd.prog 38 #[.agg #[.int .u32 (un s.a : Int), .int .u32 (un s.b : Int), .int .u32 (un s.c : Int), .int .u32 (un s.d : Int), .int .u32 (un s.e : Int), .int .u32 (un s.f : Int), .int .u32 (un s.g : Int), .int .u32 (un s.h : Int)], .slice A 64 c] w fun e w' =>
      ∃ s', Hid (∀ _ : Unit, s' = comp s b) ∧ e = .returned (.agg #[.int .u32 (un s'.a : Int), .int .u32 (un s'.b : Int), .int .u32 (un s'.c : Int), .int .u32 (un s'.d : Int), .int .u32 (un s'.e : Int), .int .u32 (un s'.f : Int), .int .u32 (un s'.g : Int), .int .u32 (un s'.h : Int)]) ∧ Below w.heap.size w w' :=
  (compC s A c b w hl hr hK).mono fun _ _ ⟨h1, h2⟩ => ⟨_, fun _ => rfl, h1, h2⟩

set_option maxRecDepth 100000 in
set_option maxHeartbeats 1600000 in
theorem addC (m t : List UInt8) (v : Value) (w : World) (hv : IsStr m v) (hl : m.length + t.length ≤ 1152921504606846976) (hK : KK w) :
    Calls Tryd.prog 17 #[v, .string ⟨t.toArray⟩] w fun e w' => ∃ v', e = .returned v' ∧ IsStr (m ++ t) v' ∧ Below w.heap.size w w' := by
  obtain ⟨blk, hT, rfl⟩ := hv
  have hz := zeroSt
  go_enter Tryd.func17, Tryd.ntmps17
  go_wp2
  have B0 : Blk ((w.alloc (.cells (strm (absorb iv m) blk m.length).toArray 34)).alloc (.cells z73.toArray 34)) w.heap.size 34 (strm (absorb iv m) blk m.length) := (Blk.new rfl).alloc _
  have B1 : Blk ((w.alloc (.cells (strm (absorb iv m) blk m.length).toArray 34)).alloc (.cells z73.toArray 34)) (w.heap.size + 1) 34 z73 := Blk.newAt rfl (by simp)
  have b1 : Below w.heap.size w ((w.alloc (.cells (strm (absorb iv m) blk m.length).toArray 34)).alloc (.cells z73.toArray 34)) := ((Below.refl w.heap.size w).alloc (Nat.le_refl _) _).alloc (by simp) _
  go_loopw [1] (fun x wr => ∃ (p r : List UInt8) (blk : List UInt8), Hid (p ++ r = m ++ t) ∧ p.length + r.length ≤ 1152921504606846976 ∧ x = .string ⟨r.toArray⟩ ∧ Tail p blk ∧ Blk wr w.heap.size 34 (strm (absorb iv p) blk p.length) ∧ Blk wr (w.heap.size + 1) 34 z73 ∧ Below w.heap.size w wr)
    (fun x _ => match x with | .string s => s.size | _ => 0)
  case atStart => exact ⟨m, t, blk, rfl, hl, rfl, hT, B0, B1, b1⟩
  case round =>
    clear B0 B1 b1 hT
    obtain ⟨p, r, blk, hpr, hlen, rfl, hT, hB0, hB1, hb⟩ := hrel
    by_cases hr : r = []
    · subst hr
      go_wp2_with (first
        | ((with_reducible show wpList _ _ _ _ _ _); refine op_load_agg rfl 34 (.tmp 2) rfl w.heap.size 0 rfl _ Tryd.underlying34 rfl (strm (absorb iv p) blk p.length) hB0.cl (by rw [strm_len hT.1]; exact size_st) ?_)
        | ((with_reducible show wpList _ _ _ _ _ _); refine op_store_blk rfl 34 (.tmp 4) (.tmp 37) rfl (w.heap.size + 1) 34 _ hB1 rfl (strm (absorb iv p) blk p.length) rfl (by rw [strm_len hT.1, z73_len]) (strm_one _ _ _) (by rw [strm_len hT.1]; exact size_st) ?_; intro w2 hC hoth hbel hsz))
      have hld := run_loadVar_cl (P := Tryd.prog) 34 _ (w.heap.size + 1) 0 (strm (absorb iv p) blk p.length) hC.cl Tryd.underlying34 rfl (by rw [strm_len hT.1]; exact size_st)
      refine bodyPost_ret (v := .agg (strm (absorb iv p) blk p.length).toArray) ?_ rfl ⟨_, rfl, ?_, hbel _ _ hb (by omega)⟩
      · simp [results, Tryd.results17, asAddr, hld, Act.put]
      · have := hpr.out
        rw [List.append_nil] at this
        rw [← this]
        exact ⟨blk, hT, rfl⟩
    · have hr1 : (!r.isEmpty) = true := by simp [hr]
      have hr0 : 0 < r.length := List.length_pos_iff.2 hr
      have hq : p.length % 64 < 64 := Nat.mod_lt _ (by omega)
      obtain ⟨q, hqe⟩ : ∃ q, q = p.length % 64 := ⟨_, rfl⟩
      have hqi : (p.length : Int) % 64 = (q : Int) := by omega
      rw [← hqe] at hq
      have HQ := Lib.hid hqe
      have hp2 : p.length ≤ 1152921504606846976 := by omega
      clear hqe
      have cn : wr.cell? ⟨w.heap.size, 72, none⟩ = some (.int .u64 (p.length : Int)) := hB0.cell (strm_at hT.1)
      have hsl := run_sliceAt_k (P := Tryd.prog) 31 5 64 Tryd.underlying31 size_u8 w.heap.size 8 q hq
      obtain ⟨k, hke⟩ : ∃ k, k = min r.length (64 - q) := ⟨_, rfl⟩
      have hk1 : k ≤ r.length := by omega
      have hk2 : q + k ≤ 64 := by omega
      have hk3 : q + k < 64 → k = r.length := fun h => by omega
      have hk0 : 0 < k := by omega
      have hgi : goInt ((min r.length (64 - q) : Nat) : Int) = .int .i64 (k : Int) := by rw [← hke]; rfl
      have HGI := Lib.hid hgi
      clear hgi
      have HKE := Lib.hid hke
      have HK3 := Lib.hid hk3
      clear hke hk3
      have hxl : (r.take k).length = k := by rw [List.length_take]; omega
      have hSP : (strm (absorb iv p) blk p.length).take (8 + q) ++ (r.take k).map B8 ++ (strm (absorb iv p) blk p.length).drop (8 + q + k) = strm (absorb iv p) (put blk q (r.take k)) p.length := by
        have := strm_put (s := absorb iv p) (blk := blk) (x := r.take k) (n := p.length) (q := q) hT.1 (by omega)
        rwa [hxl] at this
      have HSP := Lib.hid hSP
      have HXL := Lib.hid hxl
      have hPL : Hid ((put blk q (r.take k)).length = 64) := put_len hT.1 (by omega)
      clear hSP hxl
      by_cases hf : q + k = 64
      · have hf1 : (q : Int) + (k : Int) = 64 := by omega
        go_wp2_with ((with_reducible show wpList _ _ _ (⟨some 17, _, _, _, _, _⟩ :: _) _ _); refine op_copy_str rfl (.tmp 15) (.tmp 16) 22 9 5 rfl Tryd.underlying22 size_u8 w.heap.size (8 + q) (64 - q) (64 - q) 34 _ hB0 ?_ r ?_ ?_ ?_; rfl; rfl; (rw [strm_len hT.1]; omega); intro w3 hB3 hoth3 hbel3 hsz3; rw [HGI.out]; rw [← HKE.out, HSP.out] at hB3; have hN3 := hoth3 _ _ _ (by omega) hB1; have hb3 := hbel3 _ _ hb (Nat.le_refl _); have cn3 : w3.cell? ⟨w.heap.size, 72, none⟩ = some (.int .u64 (p.length : Int)) := hB3.cell (strm_at hPL.out); have cf3 := hB3.free 72)
        have hB4 := hB3.set 72 (.int .u64 ((p.length : Int) + (k : Int)))
        have e4 : Value.int .u64 ((p.length : Int) + (k : Int)) = .int .u64 ((p.length + k : Nat) : Int) := by congr 1
        rw [e4, strm_n hPL.out, ← e4] at hB4
        have hN4 := hN3.other ⟨w.heap.size, 72, none⟩ (.int .u64 ((p.length : Int) + (k : Int))) (by simp)
        have hb4 := hb3.setCell (p := ⟨w.heap.size, 72, none⟩) (Nat.le_refl _) (.int .u64 ((p.length : Int) + (k : Int)))
        clear cn3 cf3 hb3 hN3 hoth3 hbel3 hsz3 hB3 e4
        generalize w3.setCell ⟨w.heap.size, 72, none⟩ (.int .u64 ((p.length : Int) + (k : Int))) = w4 at hB4 hN4 hb4 ⊢
        obtain ⟨s0, hs0⟩ : ∃ s0, s0 = absorb iv p := ⟨_, rfl⟩
        obtain ⟨b0, hb0⟩ : ∃ b0, b0 = put blk q (r.take k) := ⟨_, rfl⟩
        have HS0 : Hid (∀ _ : Unit, s0 = absorb iv p) := fun _ => hs0
        have HB0 : Hid (∀ _ : Unit, b0 = put blk q (r.take k)) := fun _ => hb0
        have hl0 : b0.length = 64 := by rw [hb0]; exact hPL.out
        rw [← hs0, ← hb0] at hB4
        clear hs0 hb0 hsl cn
        have c0 : w4.cell? ⟨w.heap.size, 0, none⟩ = some (.int .u32 (un s0.a : Int)) := hB4.cell rfl
        have c1 : w4.cell? ⟨w.heap.size, 1, none⟩ = some (.int .u32 (un s0.b : Int)) := hB4.cell rfl
        have c2 : w4.cell? ⟨w.heap.size, 2, none⟩ = some (.int .u32 (un s0.c : Int)) := hB4.cell rfl
        have c3 : w4.cell? ⟨w.heap.size, 3, none⟩ = some (.int .u32 (un s0.d : Int)) := hB4.cell rfl
        have c4 : w4.cell? ⟨w.heap.size, 4, none⟩ = some (.int .u32 (un s0.e : Int)) := hB4.cell rfl
        have c5 : w4.cell? ⟨w.heap.size, 5, none⟩ = some (.int .u32 (un s0.f : Int)) := hB4.cell rfl
        have c6 : w4.cell? ⟨w.heap.size, 6, none⟩ = some (.int .u32 (un s0.g : Int)) := hB4.cell rfl
        have c7 : w4.cell? ⟨w.heap.size, 7, none⟩ = some (.int .u32 (un s0.h : Int)) := hB4.cell rfl
        have hRd : Rd w4 1 (.slice (some ⟨w.heap.size, 8, none⟩) 64 64) 64 (b0.map B8) := Rd.of_cl (fun j u hj => hB4.cell (strm_blk hl0 hj)) hB4.lt (by rw [List.length_map]; exact hl0) (Nat.le_refl _) (by unfold maxLen; omega)
        have hK4 := hK.below hb4 hK.1
        have HL0 := Lib.hid hl0
        clear hl0
        go_region_with ((go_at_call 38; refine (compX s0 _ _ b0 _ HL0.out hRd.drew hK4).mono ?_; rintro e w5 ⟨s1, hs1, rfl, hb5⟩; have hB5 := hB4.drew.below hb5 hB4.lt; have hN5 := hN4.drew.below hb5 hN4.lt; have hb6 := hb4.drew.trans (hb5.mono hb4.drew.size); have d0 : w5.cell? ⟨w.heap.size, 0, none⟩ = some (.int .u32 (un s0.a : Int)) := hB5.cell rfl; have f0 := hB5.free 0; have d1 : w5.cell? ⟨w.heap.size, 1, none⟩ = some (.int .u32 (un s0.b : Int)) := hB5.cell rfl; have f1 := hB5.free 1; have d2 : w5.cell? ⟨w.heap.size, 2, none⟩ = some (.int .u32 (un s0.c : Int)) := hB5.cell rfl; have f2 := hB5.free 2; have d3 : w5.cell? ⟨w.heap.size, 3, none⟩ = some (.int .u32 (un s0.d : Int)) := hB5.cell rfl; have f3 := hB5.free 3; have d4 : w5.cell? ⟨w.heap.size, 4, none⟩ = some (.int .u32 (un s0.e : Int)) := hB5.cell rfl; have f4 := hB5.free 4; have d5 : w5.cell? ⟨w.heap.size, 5, none⟩ = some (.int .u32 (un s0.f : Int)) := hB5.cell rfl; have f5 := hB5.free 5; have d6 : w5.cell? ⟨w.heap.size, 6, none⟩ = some (.int .u32 (un s0.g : Int)) := hB5.cell rfl; have f6 := hB5.free 6; have d7 : w5.cell? ⟨w.heap.size, 7, none⟩ = some (.int .u32 (un s0.h : Int)) := hB5.cell rfl; have f7 := hB5.free 7))
        all_goals
          clear d0 d1 d2 d3 d4 d5 d6 d7 f0 f1 f2 f3 f4 f5 f6 f7 c0 c1 c2 c3 c4 c5 c6 c7
          go_wp2
          go_roundw
          case rel =>
            have hq0 := HQ.out
            have hxl := HXL.out
            have hle : (r.take k).length + p.length % 64 = 64 := by omega
            obtain ⟨hT', hA⟩ := tail_full hT hle
            rw [← hq0] at hT' hA
            rw [← HB0.out (), ← HS0.out (), ← hs1.out ()] at hA
            rw [← HB0.out ()] at hT'
            refine ⟨p ++ r.take k, r.drop k, b0, ?_, ?_, ?_, hT', ?_, oth_s s1 hN5 (by omega), bel_s s1 hb6 (Nat.le_refl _)⟩
            · show _ = _
              rw [List.append_assoc, List.take_append_drop]
              exact hpr.out
            · rw [List.length_append, List.length_drop, hxl]; omega
            · rw [ext_str]
            · rw [hA, List.length_append, hxl]
              exact blk_s s1 hB5
          case measure => simp [ByteArray.size]; omega
      · have hf2 : ((q : Int) + (k : Int) == 64) = false := by simp; omega
        go_wp2_with ((with_reducible show wpList _ _ _ (⟨some 17, _, _, _, _, _⟩ :: _) _ _); refine op_copy_str rfl (.tmp 15) (.tmp 16) 22 9 5 rfl Tryd.underlying22 size_u8 w.heap.size (8 + q) (64 - q) (64 - q) 34 _ hB0 ?_ r ?_ ?_ ?_; rfl; rfl; (rw [strm_len hT.1]; omega); intro w3 hB3 hoth3 hbel3 hsz3; rw [HGI.out]; rw [← HKE.out, HSP.out] at hB3; have hN3 := hoth3 _ _ _ (by omega) hB1; have hb3 := hbel3 _ _ hb (Nat.le_refl _); have cn3 : w3.cell? ⟨w.heap.size, 72, none⟩ = some (.int .u64 (p.length : Int)) := hB3.cell (strm_at hPL.out); have cf3 := hB3.free 72)
        go_roundw
        case rel =>
          have hq0 := HQ.out
          have hxl := HXL.out
          have hle : (r.take k).length + p.length % 64 < 64 := by omega
          have hT' := tail_less hT hle
          rw [← hq0] at hT'
          refine ⟨p ++ r.take k, r.drop k, put blk q (r.take k), ?_, ?_, ?_, hT', ?_, hN3.other _ _ (by simp), hb3.setCell (Nat.le_refl _) _⟩
          · show _ = _
            rw [List.append_assoc, List.take_append_drop]
            exact hpr.out
          · rw [List.length_append, List.length_drop, hxl]; omega
          · rw [ext_str]
          · have h1 := hB3.set 72 (.int .u64 ((p.length + k : Nat) : Int))
            rw [strm_n hPL.out] at h1
            rw [absorb_same (by rw [List.length_append, hxl]; omega), List.length_append, hxl]
            have e : ((p.length : Int) + (k : Int)) = ((p.length + k : Nat) : Int) := by omega
            rw [e]
            exact h1
        case measure => simp [ByteArray.size]; omega
end Go.Proofs.YtmmomcililideaaDoor
