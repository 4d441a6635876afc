/-
  Drawn regions that make variables of their own and lay into them what calls of the region handed back.
-/
import Derived.Test.YtcpedbpldgndmaaDoorMI
set_option linter.unusedSimpArgs false
set_option linter.unusedVariables false
set_option maxRecDepth 100000
set_option maxHeartbeats 1600000
namespace Go.Proofs.YtcpedbpldgndmaaDoor
open Go.RowKit
/-- A variable that a region makes: its type, what it holds at first, what is known of what is laid into it. -/
structure Vq where
 T : TypeId
 z : List Value
 p : List Value → World × Gh → Prop
/-- A block that stands, and is none of the region's own. -/
def Un (X : World × Gh) (b : Nat) : Prop := b < X.1.heap.size ∧ X.2 b = none
structure Qr (B : Nat) (X Y : World × Gh) : Prop where
 below : Below B X.1 Y.1
 un : ∀ b, Un X b → Un Y b ∧ Y.1.heap[b]? = X.1.heap[b]?
 tag : ∀ g i, X.2 g = some i → Y.2 g = some i
theorem Qr.trans {B : Nat} {X Y Z : World × Gh} (h : Qr B X Y) (h' : Qr B Y Z) : Qr B X Z :=
 ⟨h.below.trans h'.below, fun b hb => ⟨(h'.un b (h.un b hb).1).1, (h'.un b (h.un b hb).1).2.trans (h.un b hb).2⟩, fun g i hi => h'.tag g i (h.tag g i hi)⟩
theorem Qr.since {B : Nat} {X : World × Gh} (hB : B ≤ X.1.heap.size) {Y : World} (hS : Since X.1 Y) : Qr B X (Y, X.2) :=
 ⟨hS.mono hB, fun b hb => ⟨⟨Nat.lt_of_lt_of_le hb.1 hS.size, hb.2⟩, hS.block b hb.1⟩, fun _ _ h => h⟩
def LastQ (B : Nat) (p : World × Gh → Prop) : Prop := ∀ X Y, p X → Qr B X Y → p Y
def Laid (V : Nat → Vq) (i g : Nat) (X : World × Gh) : Prop := ∃ vs, Blk X.1 g (V i).T vs ∧ (V i).p vs X
structure Qok (V : Nat → Vq) (B : Nat) (X : World × Gh) : Prop where
 at_ : ∀ g i, X.2 g = some i → B ≤ g ∧ g < X.1.heap.size ∧ ∃ zs, Blk X.1 g (V i).T zs ∧ zs.length = (V i).z.length
 one : ∀ g g' i, X.2 g = some i → X.2 g' = some i → g = g'
 las : ∀ i vs, LastQ B ((V i).p vs)
structure Gq (V : Nat → Vq) (B : Nat) (X Y : World × Gh) : Prop where
 l : Qok V B X
 r : Qok V B Y
 q : Qr B X Y
 laid : ∀ g i, X.2 g = some i → Laid V i g X → Laid V i g Y
section
variable {V : Nat → Vq} {B : Nat}
theorem Gq.trans {X Y Z : World × Gh} (h : Gq V B X Y) (h' : Gq V B Y Z) : Gq V B X Z :=
 ⟨h.l, h'.r, h.q.trans h'.q, fun g i hi hl => h'.laid g i (h.q.tag g i hi) (h.laid g i hi hl)⟩
theorem Qok.since {X : World × Gh} (h : Qok V B X) {Y : World} (hS : Since X.1 Y) : Qok V B (Y, X.2) := ⟨fun g i hi => by
 obtain ⟨h1, h2, zs, h3, h4⟩ := h.at_ g i hi
 exact ⟨h1, Nat.lt_of_lt_of_le h2 hS.size, zs, h3.below hS h3.lt, h4⟩, h.one, h.las⟩
theorem Gq.since {X : World × Gh} (h : Qok V B X) (hB : B ≤ X.1.heap.size) {Y : World} (hS : Since X.1 Y) : Gq V B X (Y, X.2) :=
 ⟨h, h.since hS, Qr.since hB hS, fun g i _ ⟨vs, h1, h2⟩ => ⟨vs, h1.below hS h1.lt, h.las i vs _ _ h2 (Qr.since hB hS)⟩⟩
/-- The variable lies at v. -/
def Gaq (V : Nat → Vq) (B i : Nat) (v : Value) (X : World × Gh) : Prop := Qok V B X ∧ ∃ g, v = .pointer (some ⟨g, 0, none⟩) ∧ X.2 g = some i
theorem Gaq.lasts {i : Nat} (v : Value) (X Y : World × Gh) (h : Gaq V B i v X) (hR : Gq V B X Y) : Gaq V B i v Y := by
 obtain ⟨_, g, h1, h2⟩ := h;exact ⟨hR.r, g, h1, hR.q.tag g i h2⟩
/-- The variable is laid. -/
def Gsq (V : Nat → Vq) (i : Nat) (_ : Value) (X : World × Gh) : Prop := ∃ g, X.2 g = some i ∧ Laid V i g X
theorem Gsq.lasts {i : Nat} (u : Value) (X Y : World × Gh) (h : Gsq V i u X) (hR : Gq V B X Y) : Gsq V i u Y := by
 obtain ⟨g, h1, h2⟩ := h;exact ⟨g, hR.q.tag g i h1, hR.laid g i h1 h2⟩
theorem Gsq.at {i : Nat} {v u : Value} {X : World} {σ : Gh} (h : Gaq V B i v (X, σ)) (h' : Gsq V i u (X, σ)) : ∃ g vs, v = .pointer (some ⟨g, 0, none⟩) ∧ B ≤ g ∧ Blk X g (V i).T vs ∧ (V i).p vs (X, σ) ∧ σ g = some i := by
 obtain ⟨hk, g, h1, h2⟩ := h;obtain ⟨g', h4, vs, h5, h6⟩ := h';obtain rfl := hk.one g g' i h2 h4;exact ⟨g, vs, h1, (hk.at_ g i h2).1, h5, h6, h2⟩
/-- A slice that reads as xs, in no block of the region's own. -/
def Rdu (X : World × Gh) (m : Nat) (v : Value) (n : Nat) (xs : List Value) : Prop := Rd X.1 m v n xs ∧ ∀ b off k c, v = .slice (some ⟨b, off, none⟩) k c → 0 < n → X.2 b = none
theorem cell_same {X Y : World} {b k : Nat} (h : Y.heap[b]? = X.heap[b]?) : Y.cell? ⟨b, k, none⟩ = X.cell? ⟨b, k, none⟩ := World.cell?_of_block (w := X) (a := ⟨b, k, none⟩) h
theorem Rdu.q {X Y : World × Gh} {m n : Nat} {v : Value} {xs : List Value} (h : Rdu X m v n xs) (hq : Qr B X Y) : Rdu Y m v n xs := by
 obtain ⟨⟨hl, A, c, hv, hc, hm, hz, hr⟩, hu⟩ := h;refine ⟨⟨hl, A, c, hv, hc, hm, hz, fun hn => ?_⟩, fun b off k c' hv' hn => ?_⟩
 ·obtain ⟨b, off, hA, hb, hx⟩ := hr hn
  subst hA;obtain ⟨h1, h2⟩ := hq.un b ⟨hb, hu b off n c hv hn⟩;exact ⟨b, off, rfl, h1.1, fun j u hj => (cell_same h2).trans (hx j u hj)⟩
 ·obtain ⟨b2, off2, hA, hb, _⟩ := hr hn
  subst hA;rw [hv] at hv'
  injection hv' with e1 e2 e3
  injection e1 with e1
  injection e1 with e1 e4
  subst e1;exact ((hq.un b2 ⟨hb, hu b2 off2 n c hv hn⟩).1).2
/-- What was there before the region reads so in it. -/
theorem Rdu.old {X : World × Gh} {w : World} {m n : Nat} {v : Value} {xs : List Value} (h : Rd w m v n xs) (hk : Qok V w.heap.size X) (hS : Since w X.1) : Rdu X m v n xs := by
 refine ⟨h.below hS, fun b off k c hv hn => ?_⟩;obtain ⟨_, A, c', hv', _, _, _, hr⟩ := h;obtain ⟨b2, off2, hA, hb, _⟩ := hr hn;rw [hv', hA] at hv
 injection hv with e1 _ _
 injection e1 with e1
 injection e1 with e1 _
 subst e1
 cases hq : X.2 b2 with
 | none => rfl
 | some i =>
  have := (hk.at_ b2 i hq).1
  omega
/-- What a call of the region made reads so in it. -/
theorem Rdu.new {X : World × Gh} {Y : World} {m n : Nat} {v : Value} {xs : List Value} (h : Rd Y m v n xs) (hk : Qok V B X) (hf : ∀ b off k c, v = .slice (some ⟨b, off, none⟩) k c → 0 < n → X.1.heap.size ≤ b) : Rdu (Y, X.2) m v n xs := by
 refine ⟨h, fun b off k c hv hn => ?_⟩;have h1 := hf b off k c hv hn
 cases hq : X.2 b with
 | none => first | rfl | exact hq
 | some i =>
  have := (hk.at_ b i hq).2.1
  omega
end
/-- The walk that is left. -/
structure CertQ (P : Program) (ops : Array Oper) (V : Nat → Vq) (w : World) (Q : Act → World → Prop) (pre : Nat → Nat → Bool) (l : List (Nat × Oper × SpecG Gh)) (Fs : List (Nat × (World × Gh → Prop))) (a : Act) : Prop where
 out : CertG P ops (Gq V w.heap.size) (w, fun _ => none) (fun a X => Q a X.1) pre (fun k σ => ∀ g, σ g ≠ some k) l Fs a
section
variable {P : Program} {ops : Array Oper} {V : Nat → Vq} {w : World} {Q : Act → World → Prop} {pre : Nat → Nat → Bool} {a a' : Act} {k : Nat} {o : Oper} {l : List (Nat × Oper × SpecG Gh)} {Fs : List (Nat × (World × Gh → Prop))}
theorem Gq.ww {X : World × Gh} (h : Gq V w.heap.size (w, fun _ => none) X) : Since w X.1 := h.q.below
/-- One operation's value. -/
theorem qg (v : Value) (hq : ∀ (X : World) (σ : Gh), Since w X → Qok V w.heap.size (X, σ) → (∀ p F, (p, F) ∈ Fs → pre k p = true → F (X, σ)) → (execOp a.eval o).run P X = .ok (.value v) X) (h : CertQ P ops V w Q pre l Fs a') (hw : Region.wanted o (yielded ops a.tmps) = true := by rfl)
  (hp : a.put o.dst v = a' := by simp only [pX, st, rt, rz]; rfl) : CertQ P ops V w Q pre ((k, o, none) :: l) Fs a := by
 refine ⟨?_⟩
 unfold CertG
 rw [if_pos hw];refine ⟨v, fun X hX hF => ?_, hp ▸ h.out⟩
 unfold quietR
 rw [hq X.1 X.2 hX.ww hX.r hF];exact ⟨rfl, rfl⟩
theorem qv (v : Value) (hq : ∀ X : World, (execOp a.eval o).run P X = .ok (.value v) X) (h : CertQ P ops V w Q pre l Fs a') (hw : Region.wanted o (yielded ops a.tmps) = true := by rfl)
  (hp : a.put o.dst v = a' := by simp only [pX, st, rt, rz]; rfl) : CertQ P ops V w Q pre ((k, o, none) :: l) Fs a := qg v (fun X _ _ _ _ => hq X) h hw hp
end
end Go.Proofs.YtcpedbpldgndmaaDoor
