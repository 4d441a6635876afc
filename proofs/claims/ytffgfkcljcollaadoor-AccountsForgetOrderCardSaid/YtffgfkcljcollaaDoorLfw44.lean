/-
  law 44: AccountsForgetOrder: words.
-/
import Derived.Test.YtffgfkcljcollaaDoorBb
import Derived.Test.YtffgfkcljcollaaDoorS44
set_option linter.unusedSimpArgs false
set_option linter.unusedVariables false
set_option maxRecDepth 100000
set_option maxHeartbeats 1600000
namespace Go.Proofs.YtffgfkcljcollaaDoor
open Go.RowKit
theorem blE_in {c : Int} {l : List En} {a day : Int} (h : Ok44 c l) (h0 : 0 ≤ a) (h1 : a < c) (d0 : 0 ≤ day) (d1 : day ≤ 14609) : blE c l a day = 0 := by
 unfold blE
 rw [acE_ok.2 h, if_neg (by decide), if_neg (by omega)]
theorem blV_in {c : Int} {l : List En} {a day : Int} (h : Ok44 c l) (h0 : 0 ≤ a) (h1 : a < c) (d0 : 0 ≤ day) (d1 : day ≤ 14609) : blV c l a day = bal l a 0 day 0 := by
 unfold blV
 rw [if_pos (blE_in h h0 h1 d0 d1)]
theorem sz_snoc {l : List En} {x : En} {B : Nat} (h : ∀ k, tz (en l k).am.2.1 (en l k).am.2.2 B) (hx : tz x.am.2.1 x.am.2.2 B) : ∀ k, tz (en (l ++ [x]) k).am.2.1 (en (l ++ [x]) k).am.2.2 B := fun k => by
 rw [en_snoc]
 split
 ·exact h k
 ·split
  ·exact hx
  ·exact tz_nil
structure AjOk (c : Int) (l : List En) (q : Aj) : Prop where
 vl : vd q.am.1 q.am.2.1 q.am.2.2 = true
 rg : Rg c l.length (adj q)
 late : 0 < l.length → (en l (l.length - 1)).day ≤ q.day
 lim : l.length < 4000
end Go.Proofs.YtffgfkcljcollaaDoor
namespace Go.Proofs.YtffgfkcljcollaaDoor
open Go.RowKit
theorem and_one (x : Int) : IntKind.i64.wrap ((BitVec.ofInt IntKind.i64.bits x &&& BitVec.ofInt IntKind.i64.bits 1).toNat : Int) = x % 2 := by
 have h1 : (BitVec.ofInt IntKind.i64.bits x &&& BitVec.ofInt IntKind.i64.bits 1).toNat = (x % 18446744073709551616).toNat % 2 := by
  rw [BitVec.toNat_and, BitVec.toNat_ofInt, BitVec.toNat_ofInt]
  show (x % ((2 : Nat) ^ 64 : Nat)).toNat &&& ((1 : Int) % ((2 : Nat) ^ 64 : Nat)).toNat = _
  rw [show ((1 : Int) % ((2 : Nat) ^ 64 : Nat)).toNat = 1 by decide, Nat.and_one_is_mod]
  rfl
 rw [h1, IntWalk.i64_in _ (by omega)]
 omega
theorem exec_and1 {P : Program} {f : Operand → Value} {o : Oper} (t t' : TypeId) (x y : Operand) (ho : o.op = .binOp .and t x y t') (m : Int) (hx : f x = .int .i64 m) (hy : f y = .int .i64 1) (w : World) : (execOp f o).run P w = .ok (.value (.int .i64 (m % 2))) w := by
 refine exec_bin ho hx hy (by rfl) ?_
 have e : binOp .and t (.int .i64 m) (.int .i64 1) = Op.intBits .and .i64 m 1 := by simp [binOp]
 rw [e];exact congrArg (fun z => Result.ok (Value.int .i64 z) w) (and_one m)
theorem exec_ix3 {f : Operand → Value} {o : Oper} (x i : Operand) (ho : o.op = .indexAddr 27 x i) (g k j : Nat) (hk : k < 3) (hj : 0 + k * 2 = j) (hx : f x = .pointer (some ⟨g, 0, none⟩)) {z : Int} (hi : f i = .int .i64 z) (hz : z = (k : Int)) (w : World) : (execOp f o).run Tryd.prog w = .ok (.value (.pointer (some ⟨g, j, none⟩))) w := by
 subst hz;subst hj
 unfold execOp
 simp only [ho, hx, hi]
 go_simp
 intro h9;exact absurd h9 (by omega)
theorem exec_ix1s {P : Program} {f : Operand → Value} {o : Oper} {t e : TypeId} (hu : P.underlying t = some (.slice e)) {sz : Nat} (hs : (P.info? e).map (·.size) = some sz) (x i : Operand) (ho : o.op = .indexAddr t x i) (b n c k j : Nat) (hk : k < n) (hj : 0 + k * sz = j) (hx : f x = .slice (some ⟨b, 0, none⟩) n c) {z : Int} (hi : f i = .int .i64 z) (hz : z = (k : Int)) (w : World) : (execOp f o).run P w = .ok (.value (.pointer (some ⟨b, j, none⟩))) w := by
 subst hj;exact exec_ixv hu hs x i ho b 0 n c k hk hx hi hz w
/-- A slice of integers that was made. -/
def Avi (n B : Nat) (z : List Value) (v : Value) (X : World) : Prop := ∃ g, v = .slice (some ⟨g, 0, none⟩) n n ∧ B ≤ g ∧ Blk X g 3 z
theorem Avi.lasts (n B : Nat) (z : List Value) : Lasts (Avi n B z) := by
 rintro v X Y ⟨g, h1, h2, h3⟩ hS
 exact ⟨g, h1, h2, h3.bel hS⟩
theorem Avi.mk {P : Program} {f : Operand → Value} {o : Oper} (n B : Nat) (z : List Value) {X : World} (hB : B ≤ X.heap.size) (hr : (execOp f o).run P X = .ok (.value (.slice (some ⟨X.heap.size, 0, none⟩) n n)) (X.alloc (.cells z.toArray 3))) : ∃ v X', (execOp f o).run P X = .ok (.value v) X' ∧ Avi n B z v X' ∧ Since X X' :=
 ⟨_, _, hr, ⟨_, rfl, hB, Blk.new rfl⟩, since_alloc X _⟩
/-- The order in which the n-th book is kept. -/
def ord (len t n k : Nat) : Nat := if n = 0 then k else if n = 1 then len - 1 - k else (k + t) % len
theorem ord_lt {len t n k : Nat} (hk : k < len) : ord len t n k < len := by
 unfold ord
 split
 ·exact hk
 ·split
  ·omega
  ·exact Nat.mod_lt _ (by omega)
theorem ord_sm {len t n : Nat} (f : Nat → Rat) : sm len (fun i => f (ord len t n i)) = sm len f := by
 unfold ord
 by_cases h0 : n = 0
 ·simp only [if_pos h0]
 ·simp only [if_neg h0]
  by_cases h1 : n = 1
  ·simp only [if_pos h1]
   exact sm_rev len f
  ·simp only [if_neg h1]
   rcases Nat.eq_zero_or_pos len with h2 | h2
   ·rw [h2]
    rfl
   ·exact sm_rot len t h2 f
/-- A book after the passes of some days. -/
def bkp (l : List En) (t n : Nat) : Nat → List En
 | 0 => []
 | d + 1 => pas (bkp l t n d) (pick l d) (ord l.length t n) l.length
theorem bkp_succ (l : List En) (t n d : Nat) : bkp l t n (d + 1) = pas (bkp l t n d) (pick l d) (ord l.length t n) l.length := rfl
theorem bkp_bk {l : List En} {t n : Nat} (hl : l.length ≤ 16) : ∀ {d : Nat}, d ≤ 2 → Bk (bkp l t n d) (9 + (d : Int)) (d * l.length)
 | 0, _ => (Bk.nil _).mono (Int.le_refl _) (by omega)
 | d + 1, hd => by
  have h := (bkp_bk (t := t) (n := n) hl (d := d) (by omega)).mono (d' := 10 + (d : Int)) (m' := d * l.length) (by omega) (Nat.le_refl _)
  have h2 : d * l.length ≤ 16 := by
   rcases (show d = 0 ∨ d = 1 by omega) with rfl | rfl <;> omega
  have h3 := h.pas (g := pick l d) (fun i x hx => pick_day hx) (ord l.length t n) (k := l.length) (by omega);refine h3.mono (by omega) ?_;rw [Nat.succ_mul];exact Nat.le_refl _
/-- The state of a book inside a pass. -/
def stt (l : List En) (t d k n m : Nat) : List En := pas (bkp l t m d) (pick l d) (ord l.length t m) (if m < n then k + 1 else k)
theorem stt_bk {l : List En} {t d k n m : Nat} (hl : l.length ≤ 16) (hd : d < 2) (hk : k < l.length) : Bk (stt l t d k n m) (10 + (d : Int)) 64 := by
 have h := (bkp_bk (t := t) (n := m) hl (d := d) (by omega)).mono (d' := 10 + (d : Int)) (m' := d * l.length) (by omega) (Nat.le_refl _)
 have h2 : d * l.length ≤ 16 := by
  rcases (show d = 0 ∨ d = 1 by omega) with rfl | rfl <;> omega
 have h3 := h.pas (g := pick l d) (fun i x hx => pick_day hx) (ord l.length t m) (k := if m < n then k + 1 else k) (by split <;> omega);refine h3.mono (Int.le_refl _) (by split <;> omega)
theorem bal_bkp (l : List En) (t n : Nat) (a f T : Int) : ∀ d, bal (bkp l t n d) a f T 0 = bal (bkp l t 0 d) a f T 0
 | 0 => rfl
 | d + 1 => by
  rw [bkp_succ, bkp_succ];exact pas_same (bal_bkp l t n a f T d) _ _ (ord_sm fun i => con (pick l d i) a f T) (ord_sm fun i => con (pick l d i) a f T)
theorem con_10 (l : List En) (i : Nat) (a : Int) : con (pick l 0 i) a 0 11 = con (pick l 0 i) a 0 10 := by
 unfold con
 rcases hx : pick l 0 i with _ | x
 ·rfl
 ·have h1 : x.day = 10 := pick_day hx
  simp only
  unfold itm sel
  rw [h1]
  rfl
theorem bal_10 (l : List En) (t : Nat) (a : Int) : bal (bkp l t 0 1) a 0 11 0 = bal (bkp l t 0 1) a 0 10 0 := by
 rw [bkp_succ, bal_pas, bal_pas]
 congr 1
 exact sm_congr fun i _ => con_10 l _ a
/-- What a post does to a book. -/
theorem po_ok {L : List En} {day : Int} {x : En} (h : Bk L day 64) (hd : x.day = day) (hx : ok6 x = true) : poE 6 L x = 0 ∧ poL 6 L x = L ++ [x] := by
 have h0 : poE 6 L x = 0 := by
  unfold ok6 at hx
  rw [Bool.and_eq_true, decide_eq_true_eq] at hx
  unfold poE
  rw [acE_ok.2 h.ok, if_neg (by decide), if_neg (by
   rintro (h9 | h9)
   ·exact hx.1 h9
   ·rw [rgt_n (m := 0) hx.1, hx.2] at h9
    cases h9)]
  unfold wthE
  have hl := h.len;rw [if_neg, if_neg (by omega)]
  rintro ⟨h1, h2⟩
  have h3 := h.day (L.length - 1) (by omega)
  omega
 exact ⟨h0, by unfold poL; rw [if_pos h0]⟩
theorem po_no {L : List En} {day : Int} {x : En} (h : Bk L day 64) (hk : x.kd ≠ 4) (hx : ok6 x = false) : poE 6 L x = 1 ∧ poL 6 L x = [] := by
 have h0 : poE 6 L x = 1 := by
  unfold ok6 at hx
  rw [decide_eq_true hk, Bool.true_and] at hx
  unfold poE
  rw [acE_ok.2 h.ok, if_neg (by decide), if_pos (.inr (by rw [rgt_n (m := 0) hk]; exact hx))]
 exact ⟨h0, by unfold poL; rw [if_neg (by rw [h0]; decide)]⟩
theorem pst_ok {l : List En} {x : En} (h : ok6 x = true) : pst l x = l ++ [x] := by
 unfold pst
 rw [if_pos h]
theorem pst_no {l : List En} {x : En} (h : ok6 x = false) : pst l x = l := by
 unfold pst
 rw [if_neg (by rw [h]; decide)]
theorem stt_0 (l : List En) (t d k m : Nat) : stt l t d k 0 m = pas (bkp l t m d) (pick l d) (ord l.length t m) k := by
 unfold stt
 rw [if_neg (by omega)]
theorem stt_3 (l : List En) (t d k : Nat) {m : Nat} (hm : m < 3) : stt l t d k 3 m = pas (bkp l t m d) (pick l d) (ord l.length t m) (k + 1) := by
 unfold stt
 rw [if_pos hm]
theorem stt_o (l : List En) (t d k : Nat) {n m : Nat} (h : m ≠ n) : stt l t d k (n + 1) m = stt l t d k n m := by
 unfold stt
 by_cases h1 : m < n
 ·rw [if_pos h1, if_pos (by omega)]
 ·rw [if_neg h1, if_neg (by omega)]
theorem stt_none {l : List En} {t d k n : Nat} (h : pick l d (ord l.length t n k) = none) : stt l t d k (n + 1) n = stt l t d k n n := by
 unfold stt
 rw [if_pos (by omega), if_neg (by omega)];exact pas_none h
theorem stt_some {l : List En} {t d k n : Nat} {x : En} (h : pick l d (ord l.length t n k) = some x) : stt l t d k (n + 1) n = pst (stt l t d k n n) x := by
 unfold stt
 rw [if_pos (by omega), if_neg (by omega)];exact pas_some h
theorem stt_sz {l : List En} (hs : ∀ k, tz (en l k).am.2.1 (en l k).am.2.2 12) : ∀ {L : List En} (_ : ∀ k, tz (en L k).am.2.1 (en L k).am.2.2 12) (d : Nat) (s : Nat → Nat) (n : Nat), ∀ k, tz (en (pas L (pick l d) s n) k).am.2.1 (en (pas L (pick l d) s n) k).am.2.2 12
 | L, hL, d, s, 0 => hL
 | L, hL, d, s, n + 1 => by
  have ih := stt_sz hs hL d s n
  rcases hx : pick l d (s n) with _ | x
  ·rw [pas_none hx]
   exact ih
  ·rw [pas_some hx]
   unfold pst
   split
   ·refine sz_snoc ih ?_
    unfold pick at hx
    split at hx
    ·injection hx with hx
     rw [← hx];exact hs _
    ·cases hx
   ·exact ih
theorem bkp_sz {l : List En} (hs : ∀ k, tz (en l k).am.2.1 (en l k).am.2.2 12) (t n : Nat) : ∀ d k, tz (en (bkp l t n d) k).am.2.1 (en (bkp l t n d) k).am.2.2 12
 | 0 => fun k => tz_nil
 | d + 1 => stt_sz hs (bkp_sz hs t n d) d _ _
/-- The block of a number within a function's code. -/
def blkAt (n : Nat) : Code → Option Code
 | .block i c => if i = n then some (.block i c) else blkAt n c
 | .seq a b => match blkAt n a with
  | some c => some c
  | none => blkAt n b
 | .cond _ a b => match blkAt n a with
  | some c => some c
  | none => blkAt n b
 | .loop c => blkAt n c
 | .scope c => blkAt n c
 | _ => none
def blkOf (n : Nat) (f : Func) : Option Code := match f.body with
 | some c => blkAt n c
 | none => none
end Go.Proofs.YtffgfkcljcollaaDoor
