/-
  Drawn regions that make variables of their own and lay into them what calls of the region handed back.
-/
import Derived.Test.YthinopepcmidmaaDoorMI
set_option linter.unusedSimpArgs false
set_option linter.unusedVariables false
set_option maxRecDepth 100000
set_option maxHeartbeats 1600000
namespace Go.Proofs.YthinopepcmidmaaDoor
open Go.RowKit

/-- A variable that a region makes: its type, what it holds at first, what is known of what is laid into it. -/
structure Vq where
  T : TypeId
  z : List Value
  p : List Value → World × Gh → Prop
/-- A block that stands, and is none of the region's own. -/
def Un (X : World × Gh) (b : Nat) : Prop := b < X.1.heap.size ∧ X.2 b = none
structure Qr (B : Nat) (X Y : World × Gh) : Prop where
  below : Below B X.1 Y.1
  un : ∀ b, Un X b → Un Y b ∧ Y.1.heap[b]? = X.1.heap[b]?
  tag : ∀ g i, X.2 g = some i → Y.2 g = some i
theorem Qr.trans {B : Nat} {X Y Z : World × Gh} (h : Qr B X Y) (h' : Qr B Y Z) : Qr B X Z :=
  ⟨h.below.trans h'.below, fun b hb => ⟨(h'.un b (h.un b hb).1).1, (h'.un b (h.un b hb).1).2.trans (h.un b hb).2⟩, fun g i hi => h'.tag g i (h.tag g i hi)⟩
theorem Qr.since {B : Nat} {X : World × Gh} (hB : B ≤ X.1.heap.size) {Y : World} (hS : Since X.1 Y) : Qr B X (Y, X.2) :=
  ⟨hS.mono hB, fun b hb => ⟨⟨Nat.lt_of_lt_of_le hb.1 hS.size, hb.2⟩, hS.block b hb.1⟩, fun _ _ h => h⟩
def LastQ (B : Nat) (p : World × Gh → Prop) : Prop := ∀ X Y, p X → Qr B X Y → p Y
def Laid (V : Nat → Vq) (i g : Nat) (X : World × Gh) : Prop := ∃ vs, Blk X.1 g (V i).T vs ∧ (V i).p vs X
structure Qok (V : Nat → Vq) (B : Nat) (X : World × Gh) : Prop where
  at_ : ∀ g i, X.2 g = some i → B ≤ g ∧ g < X.1.heap.size ∧ ∃ zs, Blk X.1 g (V i).T zs ∧ zs.length = (V i).z.length
  one : ∀ g g' i, X.2 g = some i → X.2 g' = some i → g = g'
  las : ∀ i vs, LastQ B ((V i).p vs)
structure Gq (V : Nat → Vq) (B : Nat) (X Y : World × Gh) : Prop where
  l : Qok V B X
  r : Qok V B Y
  q : Qr B X Y
  laid : ∀ g i, X.2 g = some i → Laid V i g X → Laid V i g Y
section
variable {V : Nat → Vq} {B : Nat}
theorem Gq.trans {X Y Z : World × Gh} (h : Gq V B X Y) (h' : Gq V B Y Z) : Gq V B X Z :=
  ⟨h.l, h'.r, h.q.trans h'.q, fun g i hi hl => h'.laid g i (h.q.tag g i hi) (h.laid g i hi hl)⟩
theorem Qok.since {X : World × Gh} (h : Qok V B X) {Y : World} (hS : Since X.1 Y) : Qok V B (Y, X.2) := ⟨fun g i hi => by
  obtain ⟨h1, h2, zs, h3, h4⟩ := h.at_ g i hi
  exact ⟨h1, Nat.lt_of_lt_of_le h2 hS.size, zs, h3.below hS h3.lt, h4⟩, h.one, h.las⟩
theorem Gq.since {X : World × Gh} (h : Qok V B X) (hB : B ≤ X.1.heap.size) {Y : World} (hS : Since X.1 Y) : Gq V B X (Y, X.2) :=
  ⟨h, h.since hS, Qr.since hB hS, fun g i _ ⟨vs, h1, h2⟩ => ⟨vs, h1.below hS h1.lt, h.las i vs _ _ h2 (Qr.since hB hS)⟩⟩
/-- The variable lies at v. -/
def Gaq (V : Nat → Vq) (B i : Nat) (v : Value) (X : World × Gh) : Prop := Qok V B X ∧ ∃ g, v = .pointer (some ⟨g, 0, none⟩) ∧ X.2 g = some i
theorem Gaq.lasts {i : Nat} (v : Value) (X Y : World × Gh) (h : Gaq V B i v X) (hR : Gq V B X Y) : Gaq V B i v Y := by
  obtain ⟨_, g, h1, h2⟩ := h
  exact ⟨hR.r, g, h1, hR.q.tag g i h2⟩
/-- The variable is laid. -/
def Gsq (V : Nat → Vq) (i : Nat) (_ : Value) (X : World × Gh) : Prop := ∃ g, X.2 g = some i ∧ Laid V i g X
theorem Gsq.lasts {i : Nat} (u : Value) (X Y : World × Gh) (h : Gsq V i u X) (hR : Gq V B X Y) : Gsq V i u Y := by
  obtain ⟨g, h1, h2⟩ := h
  exact ⟨g, hR.q.tag g i h1, hR.laid g i h1 h2⟩
theorem Gsq.at {i : Nat} {v u : Value} {X : World} {σ : Gh} (h : Gaq V B i v (X, σ)) (h' : Gsq V i u (X, σ)) : ∃ g vs, v = .pointer (some ⟨g, 0, none⟩) ∧ B ≤ g ∧ Blk X g (V i).T vs ∧ (V i).p vs (X, σ) ∧ σ g = some i := by
  obtain ⟨hk, g, h1, h2⟩ := h
  obtain ⟨g', h4, vs, h5, h6⟩ := h'
  obtain rfl := hk.one g g' i h2 h4
  exact ⟨g, vs, h1, (hk.at_ g i h2).1, h5, h6, h2⟩
/-- A slice that reads as xs, in no block of the region's own. -/
def Rdu (X : World × Gh) (m : Nat) (v : Value) (n : Nat) (xs : List Value) : Prop := Rd X.1 m v n xs ∧ ∀ b off k c, v = .slice (some ⟨b, off, none⟩) k c → 0 < n → X.2 b = none
theorem cell_same {X Y : World} {b k : Nat} (h : Y.heap[b]? = X.heap[b]?) : Y.cell? ⟨b, k, none⟩ = X.cell? ⟨b, k, none⟩ := World.cell?_of_block (w := X) (a := ⟨b, k, none⟩) h
theorem Rdu.q {X Y : World × Gh} {m n : Nat} {v : Value} {xs : List Value} (h : Rdu X m v n xs) (hq : Qr B X Y) : Rdu Y m v n xs := by
  obtain ⟨⟨hl, A, c, hv, hc, hm, hz, hr⟩, hu⟩ := h
  refine ⟨⟨hl, A, c, hv, hc, hm, hz, fun hn => ?_⟩, fun b off k c' hv' hn => ?_⟩
  · obtain ⟨b, off, hA, hb, hx⟩ := hr hn
    subst hA
    obtain ⟨h1, h2⟩ := hq.un b ⟨hb, hu b off n c hv hn⟩
    exact ⟨b, off, rfl, h1.1, fun j u hj => (cell_same h2).trans (hx j u hj)⟩
  · obtain ⟨b2, off2, hA, hb, _⟩ := hr hn
    subst hA
    rw [hv] at hv'
    injection hv' with e1 e2 e3
    injection e1 with e1
    injection e1 with e1 e4
    subst e1
    exact ((hq.un b2 ⟨hb, hu b2 off2 n c hv hn⟩).1).2
/-- What was there before the region reads so in it. -/
theorem Rdu.old {X : World × Gh} {w : World} {m n : Nat} {v : Value} {xs : List Value} (h : Rd w m v n xs) (hk : Qok V w.heap.size X) (hS : Since w X.1) : Rdu X m v n xs := by
  refine ⟨h.below hS, fun b off k c hv hn => ?_⟩
  obtain ⟨_, A, c', hv', _, _, _, hr⟩ := h
  obtain ⟨b2, off2, hA, hb, _⟩ := hr hn
  rw [hv', hA] at hv
  injection hv with e1 _ _
  injection e1 with e1
  injection e1 with e1 _
  subst e1
  cases hq : X.2 b2 with
  | none => rfl
  | some i =>
    have := (hk.at_ b2 i hq).1
    omega
/-- What a call of the region made reads so in it. -/
theorem Rdu.new {X : World × Gh} {Y : World} {m n : Nat} {v : Value} {xs : List Value} (h : Rd Y m v n xs) (hk : Qok V B X) (hf : ∀ b off k c, v = .slice (some ⟨b, off, none⟩) k c → 0 < n → X.1.heap.size ≤ b) : Rdu (Y, X.2) m v n xs := by
  refine ⟨h, fun b off k c hv hn => ?_⟩
  have h1 := hf b off k c hv hn
  cases hq : X.2 b with
  | none => first | rfl | exact hq
  | some i =>
    have := (hk.at_ b i hq).2.1
    omega
end

/-- The walk that is left. -/
structure CertQ (P : Program) (ops : Array Oper) (V : Nat → Vq) (w : World) (Q : Act → World → Prop) (pre : Nat → Nat → Bool) (l : List (Nat × Oper × SpecG Gh)) (Fs : List (Nat × (World × Gh → Prop))) (a : Act) : Prop where
  out : CertG P ops (Gq V w.heap.size) (w, fun _ => none) (fun a X => Q a X.1) pre (fun k σ => ∀ g, σ g ≠ some k) l Fs a
section
variable {P : Program} {ops : Array Oper} {V : Nat → Vq} {w : World} {Q : Act → World → Prop} {pre : Nat → Nat → Bool} {a a' : Act} {k : Nat} {o : Oper} {l : List (Nat × Oper × SpecG Gh)} {Fs : List (Nat × (World × Gh → Prop))}
theorem Gq.start (hl : ∀ i vs, LastQ w.heap.size ((V i).p vs)) : Qok V w.heap.size (w, fun _ => none) := ⟨fun g i h => by simp at h, fun g g' i h => by simp at h, hl⟩
theorem Gq.ww {X : World × Gh} (h : Gq V w.heap.size (w, fun _ => none) X) : Since w X.1 := h.q.below
theorem lq_region {id : Nat} {L : List Oper} {Q' : Exit → Act → World → Prop} (V : Nat → Vq) (ss : List (SpecG Gh)) (hl : ∀ i vs, LastQ w.heap.size ((V i).p vs)) (hm : P.follows .mixedOrders = true) (hB : lxB L = true) (hst : ∀ S, some S ∈ ss → ∀ v X Y, S v X → Gq V w.heap.size X Y → S v Y)
    (h : CertQ P L.toArray V w (wpList P L.toArray Q' []) (inB (clo L)) (itg 0 L ss) [] a) : (Code.region id L.toArray true).wp P Q' a w :=
  certg_region (g0 := fun _ => none) ss hm hB (Gq.since (X := (w, fun _ => none)) (Gq.start hl) (Nat.le_refl _) ((Below.refl w.heap.size w).drew)) (fun k g h => by cases h) (fun _ _ h h' => h.trans h') hst h.out
theorem lq_plain {id : Nat} {L : List Oper} {Q' : Exit → Act → World → Prop} (V : Nat → Vq) (ss : List (SpecG Gh)) (hl : ∀ i vs, LastQ w.heap.size ((V i).p vs)) (hst : ∀ S, some S ∈ ss → ∀ v X Y, S v X → Gq V w.heap.size X Y → S v Y)
    (h : CertQ P L.toArray V w (wpList P L.toArray Q' []) (fun _ _ => true) (itg 0 L ss) [] a) : (Code.region id L.toArray false).wp P Q' a w :=
  certg_plain (g0 := fun _ => none) ss (Gq.since (X := (w, fun _ => none)) (Gq.start hl) (Nat.le_refl _) (Below.refl _ _)) (fun k g h => by cases h) (fun _ _ h h' => h.trans h') hst h.out
/-- One operation's value. -/
theorem qg (v : Value) (hq : ∀ (X : World) (σ : Gh), Since w X → Qok V w.heap.size (X, σ) → (∀ p F, (p, F) ∈ Fs → pre k p = true → F (X, σ)) → (execOp a.eval o).run P X = .ok (.value v) X) (h : CertQ P ops V w Q pre l Fs a') (hw : Region.wanted o (yielded ops a.tmps) = true := by rfl)
    (hp : a.put o.dst v = a' := by simp only [pX, st, rt, rz]; rfl) : CertQ P ops V w Q pre ((k, o, none) :: l) Fs a := by
  refine ⟨?_⟩
  unfold CertG
  rw [if_pos hw]
  refine ⟨v, fun X hX hF => ?_, hp ▸ h.out⟩
  unfold quietR
  rw [hq X.1 X.2 hX.ww hX.r hF]
  exact ⟨rfl, rfl⟩
theorem qv (v : Value) (hq : ∀ X : World, (execOp a.eval o).run P X = .ok (.value v) X) (h : CertQ P ops V w Q pre l Fs a') (hw : Region.wanted o (yielded ops a.tmps) = true := by rfl)
    (hp : a.put o.dst v = a' := by simp only [pX, st, rt, rz]; rfl) : CertQ P ops V w Q pre ((k, o, none) :: l) Fs a := qg v (fun X _ _ _ _ => hq X) h hw hp
theorem qm (v : Value) (h : CertQ P ops V w Q pre l Fs a') (hw : Region.wanted o (yielded ops a.tmps) = true := by rfl) (hq : ∀ X : World, (execOp a.eval o).run P X = .ok (.value v) X := by intro _; rfl)
    (hp : a.put o.dst v = a' := by simp only [pX, st, rt, rz]; rfl) : CertQ P ops V w Q pre ((k, o, none) :: l) Fs a := qg v (fun X _ _ _ _ => hq X) h hw hp
theorem qn (v : Value) (h : CertQ P ops V w Q pre l Fs a') (hw : Region.wanted o (yielded ops a.tmps) = true := by rfl) (hq : ∀ X : World, (execOp a.eval o).run P X = .ok (.value v) X := by intro _; unfold execOp; go_simp)
    (hp : a.put o.dst v = a' := by simp only [pX, st, rt, rz]; rfl) : CertQ P ops V w Q pre ((k, o, none) :: l) Fs a := qg v (fun X _ _ _ _ => hq X) h hw hp
theorem qs {s : SpecG Gh} (h : CertQ P ops V w Q pre l Fs a') (hw : Region.wanted o (yielded ops a.tmps) = false := by rfl) (hp : a.put o.dst undef = a' := by simp only [pX, st, rt, rz]; rfl) : CertQ P ops V w Q pre ((k, o, s) :: l) Fs a := by
  refine ⟨?_⟩
  unfold CertG
  rw [if_neg (by rw [hw]; exact Bool.false_ne_true)]
  exact hp ▸ h.out
/-- A call that hands back one value. -/
theorem qc {f : FuncId} {args : List Value} (v : Value) (hc : ∀ (X : World) (σ : Gh), Since w X → Qok V w.heap.size (X, σ) → (∀ p F, (p, F) ∈ Fs → pre k p = true → F (X, σ)) → Calls P f args.toArray X fun e X' => e = .returned v ∧ Since X X') (h : CertQ P ops V w Q pre l Fs a') (hw : Region.wanted o (yielded ops a.tmps) = true := by rfl)
    {xs : List Operand} {ts : Array TypeId} (ho : o.op = .call { callee := .value (.func f), args := xs.toArray, argTypes := ts } := by rfl) (he : xs.map a.eval = args := by rfl) (hi : P.inits.idxOf? f = none := by kernel_rfl) (hf : ∀ X : World, (callFunc f args.toArray).run P X = .ok (.enter f args.toArray) X := by intro _; go_simp)
    (hp : a.put o.dst v = a' := by simp only [pX, st, rt, rz]; rfl) : CertQ P ops V w Q pre ((k, o, none) :: l) Fs a := by
  refine ⟨?_⟩
  unfold CertG
  rw [if_pos hw]
  refine ⟨v, fun X hX hF => ?_, hp ▸ h.out⟩
  have hc := hc X.1 X.2 hX.ww hX.r hF
  have he2 : xs.toArray.map a.eval = args.toArray := by rw [List.map_toArray, he]
  have hrun : (execOp a.eval o).run P X.1 = .ok (.enter f args.toArray) X.1 := by
    unfold execOp
    rw [ho]
    have hfX := hf X.1
    go_simp
  unfold quietR
  rw [hrun]
  exact ⟨rfl, hi, hc.mono fun e X' ⟨h1, h2⟩ => ⟨h1, Gq.since hX.r hX.ww.size h2⟩⟩
/-- A call that hands back a value with a law. -/
theorem qk {S : Value → World × Gh → Prop} {f : FuncId} {args : List Value} (hc : ∀ (X : World) (σ : Gh), Since w X → Qok V w.heap.size (X, σ) → (∀ p F, (p, F) ∈ Fs → pre k p = true → F (X, σ)) → Calls P f args.toArray X fun e X' => ∃ v, e = .returned v ∧ S v (X', σ) ∧ Since X X') {b : Value → Act} (h : ∀ v, CertQ P ops V w Q pre l ((k, S v) :: Fs) (b v)) (hw : Region.wanted o (yielded ops a.tmps) = true := by rfl)
    {xs : List Operand} {ts : Array TypeId} (ho : o.op = .call { callee := .value (.func f), args := xs.toArray, argTypes := ts } := by rfl) (he : xs.map a.eval = args := by rfl) (hi : P.inits.idxOf? f = none := by kernel_rfl) (hf : ∀ X : World, (callFunc f args.toArray).run P X = .ok (.enter f args.toArray) X := by intro _; go_simp)
    (hp : ∀ v, a.put o.dst v = b v := by intro _; simp only [pX, st, rt, rz]; rfl) : CertQ P ops V w Q pre ((k, o, some S) :: l) Fs a := by
  refine ⟨?_⟩
  unfold CertG
  rw [if_pos hw]
  refine ⟨fun X hX _ hF => ?_, fun v => hp v ▸ (h v).out⟩
  have hc := hc X.1 X.2 hX.ww hX.r hF
  have he2 : xs.toArray.map a.eval = args.toArray := by rw [List.map_toArray, he]
  have hrun : (execOp a.eval o).run P X.1 = .ok (.enter f args.toArray) X.1 := by
    unfold execOp
    rw [ho]
    have hfX := hf X.1
    go_simp
  unfold runsR
  rw [hrun]
  exact hc.mono fun e X' ⟨v, h1, h2, h3⟩ => ⟨v, h1, X.2, h2, Gq.since hX.r hX.ww.size h3, fun _ _ h => h⟩
/-- A value with a law. -/
theorem qx {S : Value → World × Gh → Prop} (hc : ∀ (X : World) (σ : Gh), Since w X → Qok V w.heap.size (X, σ) → (∀ p F, (p, F) ∈ Fs → pre k p = true → F (X, σ)) → ∃ v X', (execOp a.eval o).run P X = .ok (.value v) X' ∧ S v (X', σ) ∧ Since X X') {b : Value → Act} (h : ∀ v, CertQ P ops V w Q pre l ((k, S v) :: Fs) (b v)) (hw : Region.wanted o (yielded ops a.tmps) = true := by rfl)
    (hp : ∀ v, a.put o.dst v = b v := by intro _; simp only [pX, st, rt, rz]; rfl) : CertQ P ops V w Q pre ((k, o, some S) :: l) Fs a := by
  refine ⟨?_⟩
  unfold CertG
  rw [if_pos hw]
  refine ⟨fun X hX _ hF => ?_, fun v => hp v ▸ (h v).out⟩
  obtain ⟨v, X', hr, h1, h2⟩ := hc X.1 X.2 hX.ww hX.r hF
  unfold runsR
  rw [hr]
  exact ⟨X.2, h1, Gq.since hX.r hX.ww.size h2, fun _ _ h => h⟩
theorem qf {T g t : Nat} {vs : List Value} (v : Value) (hB : Blk w g t vs) (j : Nat) (ld : ∀ (b k : Nat) (X : World) (u : Value), X.cell? ⟨b, k, none⟩ = some u → (loadVar T ⟨b, k, none⟩).run P X = .ok u X) (h : CertQ P ops V w Q pre l Fs a') (hw : Region.wanted o (yielded ops a.tmps) = true := by rfl)
    {x : Operand} (ho : o.op = .load T x := by rfl) (hx : a.eval x = .pointer (some ⟨g, j, none⟩) := by rfl) (hv : vs[j]? = some v := by rfl) (hp : a.put o.dst v = a' := by simp only [pX, st, rt, rz]; rfl) : CertQ P ops V w Q pre ((k, o, none) :: l) Fs a :=
  qg v (fun X _ hX _ _ => exec_ld T x ho g j hx v X ((hB.below hX hB.lt).cell hv) (fun X u hu => ld g j X u hu)) h hw hp
theorem qa {T g t : Nat} {vs : List Value} (hB : Blk w g t vs) {d : TypeDesc} (hu : P.underlying T = some d) (hag : (match d with | .struct _ | .array _ _ => true | _ => false) = true) (hi : (P.info? T).map (·.size) = some vs.length) (h : CertQ P ops V w Q pre l Fs a') (hw : Region.wanted o (yielded ops a.tmps) = true := by rfl)
    {x : Operand} (ho : o.op = .load T x := by rfl) (hx : a.eval x = .pointer (some ⟨g, 0, none⟩) := by rfl) (hp : a.put o.dst (.agg vs.toArray) = a' := by simp only [pX, st, rt, rz]; rfl) : CertQ P ops V w Q pre ((k, o, none) :: l) Fs a :=
  qg _ (fun X _ hX _ _ => by
    unfold execOp
    simp only [ho, hx, Instr.loadAt, Instr.sureAddr, Sem.run_bind, Sem.run_pure, Result.andThen_ok, run_loadVar_cl T d g 0 vs (hB.below hX hB.lt).cl hu hag hi]) h hw hp
/-- A variable is made. -/
theorem ql (hr : ∀ X : World, (execOp a.eval o).run P X = .ok (.value (.pointer (some ⟨X.heap.size, 0, none⟩))) (X.alloc (.cells (V k).z.toArray (V k).T))) {b : Value → Act} (h : ∀ v, CertQ P ops V w Q pre l ((k, Gaq V w.heap.size k v) :: Fs) (b v)) (hw : Region.wanted o (yielded ops a.tmps) = true := by rfl)
    (hp : ∀ v, a.put o.dst v = b v := by intro _; simp only [pX, st, rt, rz]; rfl) : CertQ P ops V w Q pre ((k, o, some (Gaq V w.heap.size k)) :: l) Fs a := by
  refine ⟨?_⟩
  unfold CertG
  rw [if_pos hw]
  refine ⟨fun X hX hN hF => ?_, fun v => hp v ▸ (h v).out⟩
  unfold runsR
  rw [hr]
  have hG := hX.r
  have hS : Since X.1 (X.1.alloc (.cells (V k).z.toArray (V k).T)) := (Below.refl X.1.heap.size X.1).alloc (Nat.le_refl _) _
  have hgk := hG.since hS
  have hne : ∀ g j, X.2 g = some j → g ≠ X.1.heap.size := fun g j hj => by
    have := (hG.at_ g j hj).2.1
    omega
  have hG' : Qok V w.heap.size (X.1.alloc (.cells (V k).z.toArray (V k).T), fun g => if g = X.1.heap.size then some k else X.2 g) := by
    refine ⟨fun g j hj => ?_, fun g g' j hj hj' => ?_, hG.las⟩
    · simp only at hj
      split at hj
      · rename_i h1
        subst h1
        injection hj with hj
        subst hj
        exact ⟨hX.ww.size, by simp, _, Blk.new rfl, rfl⟩
      · exact hgk.at_ g j hj
    · simp only at hj hj'
      split at hj <;> split at hj'
      · rename_i h1 h2
        rw [h1, h2]
      · injection hj with hj
        subst hj
        exact absurd hj' (hN g')
      · injection hj' with hj'
        subst hj'
        exact absurd hj (hN g)
      · exact hG.one g g' j hj hj'
  have hX2 : ∀ g j, X.2 g = some j → (fun g => if g = X.1.heap.size then some k else X.2 g) g = some j := fun g j hj => by
    simp only
    rw [if_neg (hne g j hj)]
    exact hj
  have hq : Qr w.heap.size X (X.1.alloc (.cells (V k).z.toArray (V k).T), fun g => if g = X.1.heap.size then some k else X.2 g) := by
    refine ⟨hS.mono hX.ww.size, fun b hb => ⟨⟨Nat.lt_of_lt_of_le hb.1 hS.size, ?_⟩, hS.block b hb.1⟩, hX2⟩
    have := hb.1
    simp only
    rw [if_neg (by omega)]
    exact hb.2
  refine ⟨fun g => if g = X.1.heap.size then some k else X.2 g, ⟨hG', X.1.heap.size, rfl, if_pos rfl⟩, ⟨hG, hG', hq, fun g j hj ⟨vs, h1, h2⟩ => ⟨vs, h1.below hS h1.lt, hG.las j vs _ _ h2 hq⟩⟩, fun m hm hn g hg => ?_⟩
  simp only at hg
  split at hg
  · injection hg with hg
    exact hm hg.symm
  · exact hn g hg
/-- What is known of a value is laid into it. -/
theorem qt (i p : Nat) (v : Value) (hmem : (p, Gaq V w.heap.size i v) ∈ Fs) {ty : TypeId} (hi : (P.info? ty).map (·.size) = some (V i).z.length)
    {x y : Operand} (hc : ∀ (X : World) (σ : Gh), Since w X → Qok V w.heap.size (X, σ) → (∀ p F, (p, F) ∈ Fs → pre k p = true → F (X, σ)) → ∃ vs, a.eval y = .agg vs.toArray ∧ vs.length = (V i).z.length ∧ (∀ u ∈ vs, u.oneCell' = true) ∧ (V i).p vs (X, σ))
    (h : CertQ P ops V w Q pre l ((k, Gsq V i undef) :: Fs) a) (hpre : pre k p = true := by rfl)
    (hw : Region.wanted o (yielded ops a.tmps) = true := by rfl) (ho : o.op = .store ty x y := by rfl) (hdst : o.dst = none := by rfl) (hx : a.eval x = v := by rfl) :
    CertQ P ops V w Q pre ((k, o, some (fun _ X => Gsq V i undef X)) :: l) Fs a := by
  refine ⟨?_⟩
  unfold CertG
  rw [if_pos hw]
  refine ⟨fun X hX _ hF => ?_, fun _ => by rw [hdst]; exact h.out⟩
  obtain ⟨hG, g, rfl, hg⟩ := hF _ _ hmem hpre
  obtain ⟨vs, hy, hvl, h1', hpv⟩ := hc X.1 X.2 hX.ww hX.r hF
  obtain ⟨hgB, hgl, zs, hz, hlz⟩ := hG.at_ g i hg
  have hr := run_storeVar_row (P := P) ty g (V i).T zs.toArray vs.toArray hz (by simp [hlz, hvl]) (by simpa using h1') (by simpa [hvl] using hi)
  have h9 : Blk (X.1.setRow g vs.toArray) g (V i).T vs := setRow_heap X.1 g zs.toArray vs.toArray (V i).T (0, 0) hz
  unfold runsR execOp
  simp only [ho, hx, hy, Instr.storeAt, Instr.sureAddr, Sem.run_bind, Sem.run_pure, Result.andThen_ok, hr]
  have hgr := setRow_grown X.1 g vs.toArray
  have hsz : (X.1.setRow g vs.toArray).heap.size = X.1.heap.size := by simp [World.setRow]
  have oth : ∀ g' t xs, g' ≠ g → Blk X.1 g' t xs → Blk (X.1.setRow g vs.toArray) g' t xs := fun g' t xs hne hb => (grown_block hgr hb.lt hne).trans hb
  have tag : ∀ j, X.2 g = some j → j = i := fun j hj => by
    rw [hg] at hj
    injection hj with hj
    exact hj.symm
  have hq : Qr w.heap.size X (X.1.setRow g vs.toArray, X.2) := by
    refine ⟨⟨rfl, rfl, rfl, Nat.le_of_eq hsz.symm, fun k hk => ?_⟩, fun b hb => ⟨⟨by simp only; rw [hsz]; exact hb.1, hb.2⟩, ?_⟩, fun _ _ h => h⟩
    · have h8 := hX.ww.size
      exact grown_block hgr (by omega) (by omega)
    · exact grown_block hgr hb.1 (fun h8 => by rw [← h8, hb.2] at hg; cases hg)
  have hok : Qok V w.heap.size (X.1.setRow g vs.toArray, X.2) := by
    refine ⟨fun g' j hj => ?_, hG.one, hG.las⟩
    obtain ⟨a1, a2, zs', a3, a4⟩ := hG.at_ g' j hj
    refine ⟨a1, by simp only; rw [hsz]; exact a2, ?_⟩
    by_cases hne : g' = g
    · subst hne
      obtain rfl := tag j hj
      exact ⟨vs, h9, hvl⟩
    · exact ⟨zs', oth g' _ _ hne a3, a4⟩
  refine ⟨X.2, ⟨g, hg, vs, h9, hG.las i vs _ _ hpv hq⟩, ⟨hG, hok, hq, fun g' j hj ⟨us, h1, h2⟩ => ?_⟩, fun _ _ h => h⟩
  by_cases hne : g' = g
  · subst hne
    obtain rfl := tag j hj
    exact ⟨vs, h9, hG.las j vs _ _ hpv hq⟩
  · exact ⟨us, oth g' _ _ hne h1, hG.las j us _ _ h2 hq⟩
theorem lq_nil {V : Nat → Vq} {B : Nat} : ∀ S, some S ∈ ([] : List (SpecG Gh)) → ∀ v X Y, S v X → Gq V B X Y → S v Y := fun _ h => by cases h
theorem lq_none {V : Nat → Vq} {B : Nat} {ss : List (SpecG Gh)} (h : ∀ S, some S ∈ ss → ∀ v X Y, S v X → Gq V B X Y → S v Y) : ∀ S, some S ∈ none :: ss → ∀ v X Y, S v X → Gq V B X Y → S v Y := fun S hS => by
  rcases List.mem_cons.1 hS with h9 | h9
  · cases h9
  · exact h S h9
theorem lq_some {V : Nat → Vq} {B : Nat} {ss : List (SpecG Gh)} {S0 : Value → World × Gh → Prop} (h0 : ∀ v X Y, S0 v X → Gq V B X Y → S0 v Y) (h : ∀ S, some S ∈ ss → ∀ v X Y, S v X → Gq V B X Y → S v Y) : ∀ S, some S ∈ some S0 :: ss → ∀ v X Y, S v X → Gq V B X Y → S v Y := fun S hS => by
  rcases List.mem_cons.1 hS with h9 | h9
  · injection h9 with h9
    exact h9 ▸ h0
  · exact h S h9
theorem qz (h : ∀ (X : World) (σ : Gh), Since w X → (∀ p F, (p, F) ∈ Fs → F (X, σ)) → Q a X) : CertQ P ops V w Q pre [] Fs a := ⟨fun X hX hF => h X.1 X.2 hX.ww hF⟩
end
end Go.Proofs.YthinopepcmidmaaDoor
