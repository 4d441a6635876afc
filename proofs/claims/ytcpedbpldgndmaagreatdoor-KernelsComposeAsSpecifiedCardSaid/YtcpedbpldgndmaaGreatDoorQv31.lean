/-
  Layer 31: contracts over values, errors and all.
-/
import Derived.Test.YtcpedbpldgndmaaGreatDoorQe31
import Derived.Test.YtcpedbpldgndmaaGreatDoorKy
set_option linter.unusedSimpArgs false
set_option linter.unusedVariables false
set_option maxRecDepth 100000
set_option maxHeartbeats 1600000
namespace Go.Proofs.YtcpedbpldgndmaaGreatDoor
open Go.RowKit
theorem few_len {l : List Int} (hk : Kok l) (h : fewK l.length = true) : l.length ≤ 30 := by
 unfold fewK at h
 have h1 := hk.len2
 simp at h
 omega
end Go.Proofs.YtcpedbpldgndmaaGreatDoor
namespace Go.Proofs.YtcpedbpldgndmaaGreatDoor
open Go.RowKit
theorem load_rts (b k : Nat) (X : World) (v : Value) (h : X.cell? ⟨b, k, none⟩ = some v) : (loadVar 52 ⟨b, k, none⟩).run Tryz.prog X = .ok v X := by
 go_simp
theorem load_wts (b k : Nat) (X : World) (v : Value) (h : X.cell? ⟨b, k, none⟩ = some v) : (loadVar 59 ⟨b, k, none⟩).run Tryz.prog X = .ok v X := by
 go_simp
/-- A struct of a value with a law and an error. -/
def Sv (L : Value → World → Prop) (e : Int) (v : Value) (X : World) : Prop := ∃ u, v = .agg #[u, .int .i64 e] ∧ L u X
theorem Sv.lasts {L : Value → World → Prop} (hL : Lasts L) (e : Int) : Lasts (Sv L e) := by
 rintro v X Y ⟨u, h1, h2⟩ hS
 exact ⟨u, h1, hL _ _ _ h2 hS⟩
def cpEE (l m : List Int) : Int := if kcE l ≠ 0 then kcE l else if kcE m ≠ 0 then kcE m else cpE l m
def cpL (l m : List Int) : List Int := if cpEE l m = 0 then cpK l m else []
def rtEE (l : List Int) (xs : List Tr) : Int := if kcE l ≠ 0 then kcE l else if vds xs = true then 0 else 1
def rtL (l : List Int) (xs : List Tr) : List Rat := if rtEE l xs = 0 then rtl l (xs.map trq) else []
def arE (l : List Int) (f u : Int) : Int := if kcE l ≠ 0 then kcE l else if f < 0 ∨ u < f ∨ 1402560 < u then 3 else 0
def arL (l : List Int) (f u : Int) : List Wp := if arE l f u = 0 then (aR l f.toNat u.toNat (aN l f.toNat u.toNat)).1 else []
theorem few_szV {xs : List Tr} {m : Nat} (hs : fewS xs m = true) (hv : vds xs = true) : ∀ k, szR (yq (xs.map trq) k) 20 := fun k => by
 have h1 := (fewS_t hs).2 k
 have h2 : tr (yq (xs.map trq) k) = xt xs k := by rw [← xt_map, vds_tr hv]
 have h3 : tz (tr (yq (xs.map trq) k)).2.1 (tr (yq (xs.map trq) k)).2.2 20 := by rw [h2]; exact h1
 exact szR_tz (rq_rb _) h3
theorem pl_nil (t : Int) (X : World) : Pl [] t (.slice none 0 0) X := Rd.nil_ _ _
theorem cpU (va vb : Value) (l m : List Int) (w : World) (ha : Kn l va w) (hb : Kn m vb w) {z : Int} (hz : cpEE l m = z) : Calls Tryz.prog 19 #[va, vb] w fun e w' => ∃ v', e = .returned v' ∧ Tp (Kn (cpL l m)) z v' w' ∧ Since w w' := by
 obtain ⟨u, rfl, hu⟩ := ha;obtain ⟨t, rfl, ht⟩ := hb;subst hz
 by_cases hc : kcE l = 0
 ·by_cases hd : kcE m = 0
  ·have hk := kcE_ok.1 hc
   have hm := kcE_ok.1 hd
   have h9 : cpEE l m = cpE l m := by
    unfold cpEE
    rw [if_neg (fun h => h hc), if_neg (fun h => h hd)]
   by_cases he : cpE l m = 0
   ·rw [show cpL l m = cpK l m from if_pos (h9.trans he), h9, he]
    exact (cpo6 u t l m w hu ht hk hm he).mono fun e w' ⟨v', h1, h2, h3⟩ => ⟨_, h1, ⟨_, rfl, ⟨_, rfl, h2.ks⟩⟩, h3⟩
   ·rw [show cpL l m = [] from if_neg (fun h => he (h9.symm.trans h)), h9]
    exact (cpo5 u t l m w hu ht hk hm he).mono fun e w' ⟨h1, h3⟩ => ⟨_, h1, ⟨_, rfl, ⟨_, rfl, ks_nil w'⟩⟩, h3⟩
  ·have h9 : cpEE l m = kcE m := by
    unfold cpEE
    rw [if_neg (fun h => h hc), if_pos hd]
   rw [show cpL l m = [] from if_neg (fun h => hd (h9.symm.trans h)), h9]
   exact (cpo2 u t l m w hu ht (kcE_ok.1 hc) hd).mono fun e w' ⟨h1, h3⟩ => ⟨_, h1, ⟨_, rfl, ⟨_, rfl, ks_nil w'⟩⟩, h3⟩
 ·have h9 : cpEE l m = kcE l := by
   unfold cpEE
   rw [if_pos hc]
  rw [show cpL l m = [] from if_neg (fun h => hc (h9.symm.trans h)), h9]
  exact (cpo1 u t l m w hu ht hc).mono fun e w' ⟨h1, h3⟩ => ⟨_, h1, ⟨_, rfl, ⟨_, rfl, ks_nil w'⟩⟩, h3⟩
theorem rcpU (va vb : Value) (l m : List Int) (w : World) (ha : Kn l va w) (hb : Kn m vb w) {z : Int} (hz : cpEE l m = z) : Calls Tryz.prog 22 #[va, vb] w fun e w' => ∃ v', e = .returned v' ∧ Sv (Ks (cpL l m)) z v' w' ∧ Since w w' := by
 obtain ⟨u, rfl, hu⟩ := ha;obtain ⟨t, rfl, ht⟩ := hb;subst hz
 by_cases hc : kcE l = 0
 ·by_cases hd : kcE m = 0
  ·have hk := kcE_ok.1 hc
   have hm := kcE_ok.1 hd
   have h9 : cpEE l m = cpE l m := by
    unfold cpEE
    rw [if_neg (fun h => h hc), if_neg (fun h => h hd)]
   by_cases he : cpE l m = 0
   ·rw [show cpL l m = cpK l m from if_pos (h9.trans he), h9, he]
    exact (rcp6 u t l m w hu ht hk hm he).mono fun e w' ⟨v', h1, h2, h3⟩ => ⟨_, h1, ⟨_, rfl, h2.ks⟩, h3⟩
   ·rw [show cpL l m = [] from if_neg (fun h => he (h9.symm.trans h)), h9]
    exact (rcp5 u t l m w hu ht hk hm he).mono fun e w' ⟨h1, h3⟩ => ⟨_, h1, ⟨_, rfl, ks_nil w'⟩, h3⟩
  ·have h9 : cpEE l m = kcE m := by
    unfold cpEE
    rw [if_neg (fun h => h hc), if_pos hd]
   rw [show cpL l m = [] from if_neg (fun h => hd (h9.symm.trans h)), h9]
   exact (rcp2 u t l m w hu ht (kcE_ok.1 hc) hd).mono fun e w' ⟨h1, h3⟩ => ⟨_, h1, ⟨_, rfl, ks_nil w'⟩, h3⟩
 ·have h9 : cpEE l m = kcE l := by
   unfold cpEE
   rw [if_pos hc]
  rw [show cpL l m = [] from if_neg (fun h => hc (h9.symm.trans h)), h9]
  exact (rcp1 u t l m w hu ht hc).mono fun e w' ⟨h1, h3⟩ => ⟨_, h1, ⟨_, rfl, ks_nil w'⟩, h3⟩
theorem rteU (v vf : Value) (l : List Int) (xs : List Tr) (w : World) (h : Kn l v w) (hf : Rl xs vf w) (hS : fewS xs 60 = true) (h30 : kcE l = 0 → l.length ≤ 30) {z : Int} (hz : rtEE l xs = z) : Calls Tryz.prog 20 #[v, vf] w fun e w' => ∃ v', e = .returned v' ∧ Tp (Rq (rtL l xs)) z v' w' ∧ Since w w' := by
 subst hz;have h60 := (fewS_t hS).1
 by_cases hc : kcE l = 0
 ·have hk := kcE_ok.1 hc
  have hl := h30 hc
  rcases hv : vds xs with _ | _
  ·have h9 : rtEE l xs = 1 := by
    unfold rtEE
    rw [if_neg (fun h => h hc), hv]
    rfl
   rw [show rtL l xs = [] from if_neg (by rw [h9]; decide), h9]
   exact (rteVI v vf l xs w h hf hk (by omega) (fun k _ => ((fewS_t hS).2 k).mono (by decide)) hv).mono fun e w' ⟨h1, h3⟩ => ⟨_, h1, ⟨_, rfl, rq_nil w'⟩, h3⟩
  ·have h9 : rtEE l xs = 0 := by
    unfold rtEE
    rw [if_neg (fun h => h hc), if_pos hv]
   rw [show rtL l xs = rtl l (xs.map trq) from if_pos h9, h9];have hX : xs = (xs.map trq).map tr := (vds_tr hv).symm;have hB := few_szV hS hv;exact rteV v vf l (xs.map trq) w h (by show Rl ((xs.map trq).map tr) vf w; rw [← hX]; exact hf) hk (by rw [List.length_map]; omega) (by omega) 20 (by decide) hB
 ·have h9 : rtEE l xs = kcE l := by
   unfold rtEE
   rw [if_pos hc]
  rw [show rtL l xs = [] from if_neg (fun h => hc (h9.symm.trans h)), h9];obtain ⟨u, rfl, hu⟩ := h
  exact (rte0 u vf l xs w hu hf hc).mono fun e w' ⟨h1, h3⟩ => ⟨_, h1, ⟨_, rfl, rq_nil w'⟩, h3⟩
theorem rrteU (v vf : Value) (l : List Int) (xs : List Tr) (w : World) (h : Kn l v w) (hf : Rl xs vf w) (hS : fewS xs 60 = true) (h30 : kcE l = 0 → l.length ≤ 30) {z : Int} (hz : rtEE l xs = z) : Calls Tryz.prog 23 #[v, vf] w fun e w' => ∃ v', e = .returned v' ∧ Sv (Rq (rtL l xs)) z v' w' ∧ Since w w' := by
 subst hz;have h60 := (fewS_t hS).1
 by_cases hc : kcE l = 0
 ·have hk := kcE_ok.1 hc
  have hl := h30 hc
  rcases hv : vds xs with _ | _
  ·have h9 : rtEE l xs = 1 := by
    unfold rtEE
    rw [if_neg (fun h => h hc), hv]
    rfl
   rw [show rtL l xs = [] from if_neg (by rw [h9]; decide), h9];obtain ⟨u, rfl, hu⟩ := h
   exact (rrt2 u vf l xs w hu hf hk h60 (fun k => ((fewS_t hS).2 k).mono (by decide)) hv).mono fun e w' ⟨h1, h3⟩ => ⟨_, h1, ⟨_, rfl, rq_nil w'⟩, h3⟩
  ·have h9 : rtEE l xs = 0 := by
    unfold rtEE
    rw [if_neg (fun h => h hc), if_pos hv]
   rw [show rtL l xs = rtl l (xs.map trq) from if_pos h9, h9];have hX : xs = (xs.map trq).map tr := (vds_tr hv).symm;have hB := few_szV hS hv;obtain ⟨u, rfl, hu⟩ := h
   by_cases hn : xs = []
   ·have h8 : rtl l (xs.map trq) = [] := by
     subst hn;exact if_pos rfl
    rw [h8]
    exact (rrt3 u vf l xs w hu hf hk h60 (fun k => ((fewS_t hS).2 k).mono (by decide)) hv hn).mono fun e w' ⟨v', h1, h2, h3⟩ => ⟨_, h1, ⟨_, rfl, h2⟩, h3⟩
   ·exact (rrt4 u vf l xs w hu hf hk h60 (fun k => ((fewS_t hS).2 k).mono (by decide)) hv (xs.map trq) hX (by rw [List.length_map]; exact List.length_pos_iff.2 hn) hl hB).mono fun e w' ⟨v', h1, h2, h3⟩ => ⟨_, h1, ⟨_, rfl, h2⟩, h3⟩
 ·have h9 : rtEE l xs = kcE l := by
   unfold rtEE
   rw [if_pos hc]
  rw [show rtL l xs = [] from if_neg (fun h => hc (h9.symm.trans h)), h9];obtain ⟨u, rfl, hu⟩ := h
  exact (rrt0 u vf l xs w hu hf hc).mono fun e w' ⟨h1, h3⟩ => ⟨_, h1, ⟨_, rfl, rq_nil w'⟩, h3⟩
theorem arvU (v : Value) (l : List Int) (f u : Int) (w : World) (h : Kn l v w) (hd : u ≤ f + 60 ∨ f < 0 ∨ u < f ∨ 1402560 < u) {z : Int} (hz : arE l f u = z) : Calls Tryz.prog 21 #[v, .agg #[.int .i64 f, .int .i64 u]] w fun e w' => ∃ v', e = .returned v' ∧ Tp (Pl (arL l f u) (tot l)) z v' w' ∧ Since w w' := by
 obtain ⟨s, rfl, hs⟩ := h;subst hz
 by_cases hc : kcE l = 0
 ·have hk := kcE_ok.1 hc
  by_cases hb : f < 0 ∨ u < f ∨ 1402560 < u
  ·have h9 : arE l f u = 3 := by
    unfold arE
    rw [if_neg (fun h => h hc), if_pos hb]
   rw [show arL l f u = [] from if_neg (by rw [h9]; decide), h9]
   rcases (show f < 0 ∨ (0 ≤ f ∧ u < f) ∨ (0 ≤ f ∧ f ≤ u ∧ 1402560 < u) by omega) with h8 | h8 | h8
   ·exact (arv1 s l f u w hs hk h8).mono fun e w' ⟨h1, h3⟩ => ⟨_, h1, ⟨_, rfl, pl_nil _ w'⟩, h3⟩
   ·exact (arv2 s l f u w hs hk h8.1 h8.2).mono fun e w' ⟨h1, h3⟩ => ⟨_, h1, ⟨_, rfl, pl_nil _ w'⟩, h3⟩
   ·exact (arv3 s l f u w hs hk h8.1 h8.2.1 h8.2.2).mono fun e w' ⟨h1, h3⟩ => ⟨_, h1, ⟨_, rfl, pl_nil _ w'⟩, h3⟩
  ·have h9 : arE l f u = 0 := by
    unfold arE
    rw [if_neg (fun h => h hc), if_neg hb]
   obtain ⟨f, rfl⟩ : ∃ k : Nat, f = (k : Int) := ⟨f.toNat, by omega⟩;obtain ⟨u, rfl⟩ : ∃ k : Nat, u = (k : Int) := ⟨u.toNat, by omega⟩;rw [show arL l f u = (aR l f u (aN l f u)).1 from if_pos h9, h9]
   exact (arv4 s l f u w hs hk (by omega) (by omega)).mono fun e w' ⟨v', h1, h2, h3⟩ => ⟨_, h1, ⟨_, rfl, Rd.of_own h2⟩, h3⟩
 ·have h9 : arE l f u = kcE l := by
   unfold arE
   rw [if_pos hc]
  rw [show arL l f u = [] from if_neg (fun h => hc (h9.symm.trans h)), h9]
  exact (arv0 s l f u w hs hc).mono fun e w' ⟨h1, h3⟩ => ⟨_, h1, ⟨_, rfl, pl_nil _ w'⟩, h3⟩
theorem rarvU (v : Value) (l : List Int) (f u : Int) (w : World) (h : Kn l v w) (hd : u ≤ f + 60 ∨ f < 0 ∨ u < f ∨ 1402560 < u) {z : Int} (hz : arE l f u = z) : Calls Tryz.prog 24 #[v, .agg #[.int .i64 f, .int .i64 u]] w fun e w' => ∃ v', e = .returned v' ∧ Sv (Pl (arL l f u) (tot l)) z v' w' ∧ Since w w' := by
 obtain ⟨s, rfl, hs⟩ := h;subst hz
 by_cases hc : kcE l = 0
 ·have hk := kcE_ok.1 hc
  by_cases hb : f < 0 ∨ u < f ∨ 1402560 < u
  ·have h9 : arE l f u = 3 := by
    unfold arE
    rw [if_neg (fun h => h hc), if_pos hb]
   rw [show arL l f u = [] from if_neg (by rw [h9]; decide), h9]
   rcases (show f < 0 ∨ (0 ≤ f ∧ u < f) ∨ (0 ≤ f ∧ f ≤ u ∧ 1402560 < u) by omega) with h8 | h8 | h8
   ·exact (rar1 s l f u w hs hk h8).mono fun e w' ⟨h1, h3⟩ => ⟨_, h1, ⟨_, rfl, pl_nil _ w'⟩, h3⟩
   ·exact (rar2 s l f u w hs hk h8.1 h8.2).mono fun e w' ⟨h1, h3⟩ => ⟨_, h1, ⟨_, rfl, pl_nil _ w'⟩, h3⟩
   ·exact (rar3 s l f u w hs hk h8.1 h8.2.1 h8.2.2).mono fun e w' ⟨h1, h3⟩ => ⟨_, h1, ⟨_, rfl, pl_nil _ w'⟩, h3⟩
  ·have h9 : arE l f u = 0 := by
    unfold arE
    rw [if_neg (fun h => h hc), if_neg hb]
   obtain ⟨f, rfl⟩ : ∃ k : Nat, f = (k : Int) := ⟨f.toNat, by omega⟩;obtain ⟨u, rfl⟩ : ∃ k : Nat, u = (k : Int) := ⟨u.toNat, by omega⟩;rw [show arL l f u = (aR l f u (aN l f u)).1 from if_pos h9, h9]
   exact (rar4 s l f u w hs hk (by omega) (by omega) (by omega)).mono fun e w' ⟨v', h1, h2, h3⟩ => ⟨_, h1, ⟨_, rfl, h2⟩, h3⟩
 ·have h9 : arE l f u = kcE l := by
   unfold arE
   rw [if_pos hc]
  rw [show arL l f u = [] from if_neg (fun h => hc (h9.symm.trans h)), h9]
  exact (rar0 s l f u w hs hc).mono fun e w' ⟨h1, h3⟩ => ⟨_, h1, ⟨_, rfl, pl_nil _ w'⟩, h3⟩
end Go.Proofs.YtcpedbpldgndmaaGreatDoor
