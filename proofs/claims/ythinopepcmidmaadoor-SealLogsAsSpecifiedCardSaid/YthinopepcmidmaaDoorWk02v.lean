/-
  The reference's block of a key.
-/
import Derived.Laws.MakeOwn
import Derived.Lib.SlBytesConst
import Derived.Deep.RegionLaw
import Derived.ArgAppend
import Derived.Test.YthinopepcmidmaaDoorWk02l
import Derived.Test.YthinopepcmidmaaDoorMA
import Derived.Test.YthinopepcmidmaaDoorWk02p
import Derived.Test.YthinopepcmidmaaDoorAp8
set_option linter.unusedSimpArgs false
set_option linter.unusedVariables false
set_option maxRecDepth 100000
set_option maxHeartbeats 1600000
namespace Go.Proofs.YthinopepcmidmaaDoor
open Go.RowKit
/-- The slice value lies at the head of a block from base on, no cell of which is frozen, and holds the bytes l. -/
def OwnF (w : World) (base : Nat) (v : Value) (l : List UInt8) : Prop :=
  ∃ g c cur k1 k2, v = .slice (some ⟨g, 0, none⟩) l.length c ∧ base ≤ g ∧ w.heap[g]? = some (.cells cur 5 (k1, k2)) ∧ l.length ≤ c ∧ c ≤ maxLen ∧ cur.size = c ∧ cur.toList.take l.length = l.map B8 ∧ (cur.size ≤ k1 ∨ k2 ≤ k1)
theorem OwnF.rd {w : World} {base : Nat} {v : Value} {l : List UInt8} (h : OwnF w base v l) : Rd w 1 v l.length (l.map B8) := by
  obtain ⟨g, c, cur, k1, k2, rfl, hb, hg, h1, h2, h3, h4, _⟩ := h
  refine ⟨by simp, _, _, rfl, h1, h2, (fun h => by cases h), fun _ => ⟨g, 0, rfl, (Array.getElem?_eq_some_iff.1 hg).1, fun j u hj => ?_⟩⟩
  rw [cell_of_row _ _ _ _ _ _ hg, Nat.zero_add]
  rw [← h4, List.getElem?_take] at hj
  split at hj
  · simpa using hj
  · cases hj
theorem OwnF.keep {w w' : World} {base : Nat} {v : Value} {l : List UInt8} (h : OwnF w base v l) (hb : Below w.heap.size w w') : OwnF w' base v l := by
  obtain ⟨g, c, cur, k1, k2, rfl, hg, hh, rest⟩ := h
  exact ⟨g, c, cur, k1, k2, rfl, hg, (hb.block g (Array.getElem?_eq_some_iff.1 hh).1).trans hh, rest⟩
theorem OwnF.of_own {w : World} {base n : Nat} {v : Value} {l : List UInt8} (h : w.ownsRow base 5 1 v n (l.map B8)) (hl : l.length = n) (hn : 0 < n) : OwnF w base v l := by
  obtain ⟨_, h | ⟨g, cap, cur, rfl, hb, hh, h1, h2, h3, h4⟩⟩ := h
  · omega
  · subst hl
    exact ⟨g, cap, cur, 0, 0, rfl, hb, hh, h1, h2, by omega, by simpa using h4, .inr (Nat.le_refl _)⟩
theorem OwnF.conv (w : World) (l : List UInt8) (hl : l.length ≤ 140737488355328) :
    ∃ v w1, (convert 9 69 (.string ⟨l.toArray⟩)).run Tryd.prog w = .ok v w1 ∧ OwnF w1 w.heap.size v l ∧ Below w.heap.size w w1 := by
  have hsz : (⟨l.toArray⟩ : ByteArray).size = l.length := by simp [ByteArray.size]
  have hr := Lib.run_convert_string_bytes (P := Tryd.prog) w 9 69 5 ⟨l.toArray⟩ Tryd.underlying9 Tryd.underlying69 Tryd.underlying5
  rw [hsz] at hr
  refine ⟨_, _, hr, ⟨w.heap.size, _, _, _, _, rfl, Nat.le_refl _, Lib.bytesWorld_at_new w 5 ⟨l.toArray⟩, grownCap_ge _ _ _ _, grownCap_le_maxLen _ _ _ _ (by unfold maxLen; omega), ?_, ?_, .inl (Nat.le_refl _)⟩, ?_⟩
  · have := grownCap_ge w l.length 0 5
    simp [Lib.bytesCells, hsz]
    omega
  · simp [Lib.bytesCells]
    intro a _
    rfl
  · exact ⟨rfl, rfl, rfl, by rw [Lib.bytesWorld_size]; omega, fun k hk => Lib.bytesWorld_at_old w 5 _ k hk⟩
/-- 'append(v, x)' of one byte. -/
theorem app_own {w : World} {ops : Array Oper} {rest : List Oper} {o : Oper} {a : Act} {Q : Exit → Act → World → Prop} {x : UInt8} {tb : TypeId} (hgd : o.guard = none) {s y : Operand}
    (ho : o.op = .call { callee := .builtin .append, args := #[s, y], argTypes := #[69, 69] })
    (base : Nat) (v : Value) (l : List UInt8) (hs : a.eval s = v) (hown : OwnF w base v l) (hy : a.eval y = .slice (some ⟨w.heap.size, 0, none⟩) 1 1) (hn : l.length + 1 ≤ 140737488355328) (hbase : base ≤ w.heap.size)
    (h : ∀ v' w', OwnF w' base v' (l ++ [x]) → Below base w w' → wpList Tryd.prog ops Q rest (a.put o.dst v') w') :
    wpList Tryd.prog ops Q (o :: rest) a (w.alloc (.cells #[B8 x] tb)) := by
  obtain ⟨i, hi', hz0, hsz, hby⟩ := info_parts info_u8
  obtain ⟨g, c, cur, k1, k2, rfl, hb, hg, h1, h2, h3, h4, h5⟩ := hown
  have hlt : g < w.heap.size := (Array.getElem?_eq_some_iff.1 hg).1
  have hgA : (w.alloc (.cells #[B8 x] tb)).heap[g]? = some (.cells cur 5 (k1, k2)) := (Below.heap_alloc w _ g hlt).trans hg
  have bA : Below base w (w.alloc (.cells #[B8 x] tb)) := (Below.refl base w).alloc hbase _
  have hnew : ∀ j u, ([B8 x] : List Value)[j]? = some u → (w.alloc (.cells #[B8 x] tb)).cell? ((⟨w.heap.size, 0, none⟩ : Addr).add j) = some u := by
    intro j u hj
    rw [add_zero_spot]
    exact Cl.new (w := w) (t := tb) (cs := #[B8 x]) (xs := [B8 x]) rfl j u hj
  by_cases hroom : l.length + 1 ≤ c
  · have hcell : ∀ j, j < c → (w.alloc (.cells #[B8 x] tb)).cell? ⟨g, j, none⟩ = cur[j]? := fun j _ => cell_of_row _ _ _ _ _ _ hgA
    have hr := run_append_room_cells (P := Tryd.prog) (w.alloc (.cells #[B8 x] tb)) 69 o.type 5 i Tryd.underlying69 hi' g 0 l.length c ⟨w.heap.size, 0, none⟩ 1 1 [B8 x] (by simp [hsz]) hnew (by intro u hu; simp at hu; subst hu; rfl) hroom
      (by intro j hj; simp at hj; subst hj; simp only [hsz, Nat.mul_one, Nat.zero_add, Nat.add_zero]; rw [hcell _ (by omega)]; simp; omega)
      (by intro j hj; simp at hj; subst hj; simp only [hsz, Nat.mul_one, Nat.zero_add, Nat.add_zero]; simp only [World.frozen?, hgA]; simp; omega)
    simp only [hsz, Nat.mul_one, Nat.zero_add, World.setCells] at hr
    refine wpList_plain hgd fun K hK => ?_
    unfold Oper.wp execOp
    simp only [ho, resolve, invoke, builtin, Sem.run_bind, Sem.run_pure, Result.andThen_ok, List.map_toArray, List.map_cons, List.map_nil, hs, hy, hr]
    refine hK _ _ (h _ _ ⟨g, c, cur.setIfInBounds l.length (B8 x), k1, k2, by simp, hb, Go.Joins.block_setCell hgA _, by simp; omega, h2, by simpa using h3, ?_, by simpa using h5⟩ (bA.setCell hb _))
    have hlc : l.length < cur.size := by omega
    rw [Array.toList_setIfInBounds, List.length_append, List.length_singleton, List.map_append, ← h4]
    apply List.ext_getElem?
    intro j
    rw [List.getElem?_take, List.getElem?_set]
    by_cases hj : j < l.length
    · rw [if_pos (by omega), if_neg (by omega), List.getElem?_append_left (by simp; omega), List.getElem?_take, if_pos hj]
    · by_cases hj2 : j = l.length
      · subst hj2
        rw [if_pos (by omega), if_pos rfl, if_pos (by simpa using hlc), List.getElem?_append_right (by simp; omega)]
        simp
        have : min l.length cur.size = l.length := by omega
        rw [this]
        simp
      · rw [if_neg (by omega), List.getElem?_eq_none (by simp; omega)]
  · obtain ⟨v', w', hr, how, hgr⟩ := run_append_arg_grows (P := Tryd.prog) (w.alloc (.cells #[B8 x] tb)) 69 o.type 5 i _ 1 1 Tryd.underlying69 hi' hz0 hsz hby rfl (by decide) ⟨g, 0, none⟩ l.length c (l.map B8) (by simp)
      (by
        intro j u hj
        rw [add_zero_spot, Nat.zero_add, cell_of_row _ _ _ _ _ _ hgA]
        rw [← h4, List.getElem?_take] at hj
        split at hj
        · simpa using hj
        · cases hj) ⟨w.heap.size, 0, none⟩ 1 1 [B8 x] rfl hnew (by omega) (by unfold maxLen; omega) (by omega)
    refine wpList_plain hgd fun K hK => ?_
    unfold Oper.wp execOp
    simp only [ho, resolve, invoke, builtin, Sem.run_bind, Sem.run_pure, Result.andThen_ok, List.map_toArray, List.map_cons, List.map_nil, hs, hy, hr]
    have e : l.map B8 ++ [B8 x] = (l ++ [x]).map B8 := by simp
    rw [e] at how
    refine hK _ _ (h _ _ (OwnF.of_own (ownsRow_mono how (by simp; omega)) (by simp) (by omega)) (bA.grown hgr (by simp; omega) (fun k hk => by cases hk)))
end Go.Proofs.YthinopepcmidmaaDoor
namespace Go.Proofs.YthinopepcmidmaaDoor
open Go.RowKit
theorem keyBlock_len (key : List UInt8) : (keyBlock key).length = 64 := by
  unfold keyBlock
  simp only [List.length_append, List.length_replicate]
  split
  · rw [sha_len]
  · omega
end Go.Proofs.YthinopepcmidmaaDoor
namespace Go.Proofs.YthinopepcmidmaaDoor
open Go.RowKit
/-- n bytes 0. -/
def zerosL (n : Nat) : List UInt8 := List.replicate n 0
theorem zerosL_len (n : Nat) : (zerosL n).length = n := List.length_replicate
end Go.Proofs.YthinopepcmidmaaDoor
namespace Go.Proofs.YthinopepcmidmaaDoor
open Go.RowKit
theorem blockC (key kb : List UInt8) (w : World) (hkb : kb = keyBlock key) (hn : key.length ≤ 1048576) (hK : KK0 w) :
    Calls Tryd.prog 51 #[.string ⟨key.toArray⟩] w fun e w' => ∃ A' c', e = .returned (.slice A' 64 c') ∧ Rd w' 1 (.slice A' 64 c') 64 (kb.map B8) ∧ Below w.heap.size w w' := by
  obtain ⟨v1, w1, hcv1, hO1, hb1⟩ := OwnF.conv w key (by omega)
  by_cases hl : 64 < key.length
  · obtain ⟨k, hk⟩ : ∃ k, k = sha key := ⟨_, rfl⟩
    have hkl : k.length = 32 := by rw [hk]; exact sha_len key
    have HKB : Hid (kb = k ++ zerosL (64 - k.length)) := by show _ = _; rw [hkb, hk]; unfold keyBlock zerosL; simp only; rw [if_pos hl]
    have HK : Hid (∀ _ : Unit, sha key = k) := fun _ => hk.symm
    have HKL := Lib.hid hkl
    clear hk hkb hkl
    have hkl2 : k.length ≤ 64 := by rw [HKL.out]; omega
    have hz2 := zero32'
    obtain ⟨c2, w2, hcv2, hR2, hb2⟩ := conv_bytes (P := Tryd.prog) w1 9 69 5 Tryd.underlying9 Tryd.underlying69 Tryd.underlying5 key (by omega)
    have b2 := bel_next hb1 hb2
    go_enter Tryd.func51, Tryd.ntmps51
    go_wp2_with fail
    refine (rsumC _ _ _ key _ hR2 (by omega) (hK.below b2 hK.1)).mono ?_
    rintro e w3 ⟨rfl, hb3⟩
    rw [HK.out ()]
    have b3 := bel_next b2 hb3
    clear hb1 hb2 hb3 hcv1 hcv2 hR2 hO1 b2
    go_wp2_with (first
      | ((with_reducible show wpList _ _ _ (⟨none, .store 74 _ _, _, _, _, _⟩ :: _) _ _); refine op_store_new w3 _ _ rfl 74 (.tmp 4) (.tmp 12) rfl rfl (k.map B8).toArray rfl (by simp [HKL.out, o32_len]) (by simpa using B8s_one k) (by simp [HKL.out, size_o32]) ?_)
      | ((with_reducible show wpList _ _ _ (⟨some 13, _, _, _, _, _⟩ :: _) _ _); refine op_load_agg rfl 74 (.tmp 4) rfl w3.heap.size 0 rfl _ Tryd.underlying74 rfl (k.map B8) (Blk.new (w := w3) (t := 74) (xs := k.map B8) rfl).cl (by rw [List.length_map, HKL.out]; exact size_o32) ?_))
    refine (b32C k _ HKL.out).mono ?_
    rintro e w5 ⟨rfl, hb5⟩
    have b5 := bel_next (bel_alloc b3 _) hb5
    clear hb5 b3
    obtain ⟨v, w6, hcv, hO, hb6⟩ := OwnF.conv w5 k (by omega)
    have hbO := bel_next b5 hb6
    have hO : OwnF w6 w.heap.size v k := by
      obtain ⟨g, c, cur, k1, k2, h1, h2, rest⟩ := hO
      exact ⟨g, c, cur, k1, k2, h1, Nat.le_trans b5.size h2, rest⟩
    have hv0 := hO.rd.form
    obtain ⟨A0, c0, rfl, _, _⟩ := hv0
    clear hb6 b5
    go_wp2
    go_loopw [3] (fun v wr => ∃ j : Nat, j ≤ 64 - k.length ∧ OwnF wr w.heap.size v (k ++ zerosL j) ∧ Below w.heap.size w wr)
      (fun v _ => match v with | .slice _ n _ => 64 - n | _ => 0)
    case atStart => exact ⟨0, by omega, by simpa [zerosL] using hO, hbO⟩
    case round =>
      clear hO hbO
      obtain ⟨j, hj, hO, hb⟩ := hrel
      have hR := hO.rd
      have hlen : (k ++ zerosL j).length = k.length + j := by rw [List.length_append, zerosL_len]
      rw [hlen] at hR
      obtain ⟨A3, c3, hv3, hc1, hc2⟩ := hR.form
      subst hv3
      have HLEN := Lib.hid hlen
      clear hlen
      by_cases hlt : k.length + j < 64
      · go_wp2_with (at_builtin; refine app_own (x := 0) rfl rfl w.heap.size _ (k ++ zerosL j) rfl hO rfl (by rw [HLEN.out]; omega) hb.size ?_; intro v2 w2 hO2 hb2)
        have hR2 := hO2.rd
        obtain ⟨A4, c4, hv4, _, _⟩ := hR2.form
        have hl2 : ((k ++ zerosL j) ++ [0]).length = k.length + j + 1 := by rw [List.length_append, HLEN.out]; rfl
        rw [hl2] at hv4
        subst hv4
        have hz : (k ++ zerosL j) ++ [0] = k ++ zerosL (j + 1) := by unfold zerosL; rw [List.append_assoc, ← List.replicate_succ']
        rw [hz] at hO2
        clear hR hR2 hl2 hz
        go_roundw
        case rel => exact ⟨j + 1, by omega, hO2, hb.trans hb2⟩
        case measure => simp; omega
      · have hj2 : j = 64 - k.length := by omega
        have hkb : k ++ zerosL j = kb := by rw [HKB.out, hj2]
        have hn : k.length + j = 64 := by omega
        rw [hkb, hn] at hR
        clear hj2 hkb
        have HN := Lib.hid hn
        clear hn
        go_wp2
        go_ret
        exact ⟨A3, c3, by rw [← HN.out]; rfl, hR, hb⟩
  · obtain ⟨k, hk⟩ : ∃ k, k = key := ⟨_, rfl⟩
    have HKB : Hid (kb = k ++ zerosL (64 - k.length)) := by show _ = _; rw [hkb, hk]; unfold keyBlock zerosL; simp only; rw [if_neg hl]
    subst hk
    clear hkb
    have hO := hO1
    have hbO := hb1
    have hv0 := hO.rd.form
    obtain ⟨A0, c0, rfl, _, _⟩ := hv0
    clear hO1 hb1
    go_enter Tryd.func51, Tryd.ntmps51
    go_wp2
    go_loopw [3] (fun v wr => ∃ j : Nat, j ≤ 64 - k.length ∧ OwnF wr w.heap.size v (k ++ zerosL j) ∧ Below w.heap.size w wr)
      (fun v _ => match v with | .slice _ n _ => 64 - n | _ => 0)
    case atStart => exact ⟨0, by omega, by simpa [zerosL] using hO, hbO⟩
    case round =>
      clear hO hbO
      obtain ⟨j, hj, hO, hb⟩ := hrel
      have hR := hO.rd
      have hlen : (k ++ zerosL j).length = k.length + j := by rw [List.length_append, zerosL_len]
      rw [hlen] at hR
      obtain ⟨A3, c3, hv3, hc1, hc2⟩ := hR.form
      subst hv3
      have HLEN := Lib.hid hlen
      clear hlen
      by_cases hlt : k.length + j < 64
      · go_wp2_with (at_builtin; refine app_own (x := 0) rfl rfl w.heap.size _ (k ++ zerosL j) rfl hO rfl (by rw [HLEN.out]; omega) hb.size ?_; intro v2 w2 hO2 hb2)
        have hR2 := hO2.rd
        obtain ⟨A4, c4, hv4, _, _⟩ := hR2.form
        have hl2 : ((k ++ zerosL j) ++ [0]).length = k.length + j + 1 := by rw [List.length_append, HLEN.out]; rfl
        rw [hl2] at hv4
        subst hv4
        have hz : (k ++ zerosL j) ++ [0] = k ++ zerosL (j + 1) := by unfold zerosL; rw [List.append_assoc, ← List.replicate_succ']
        rw [hz] at hO2
        clear hR hR2 hl2 hz
        go_roundw
        case rel => exact ⟨j + 1, by omega, hO2, hb.trans hb2⟩
        case measure => simp; omega
      · have hj2 : j = 64 - k.length := by omega
        have hkb : k ++ zerosL j = kb := by rw [HKB.out, hj2]
        have hn : k.length + j = 64 := by omega
        rw [hkb, hn] at hR
        clear hj2 hkb
        have HN := Lib.hid hn
        clear hn
        go_wp2
        go_ret
        exact ⟨A3, c3, by rw [← HN.out]; rfl, hR, hb⟩
end Go.Proofs.YthinopepcmidmaaDoor
