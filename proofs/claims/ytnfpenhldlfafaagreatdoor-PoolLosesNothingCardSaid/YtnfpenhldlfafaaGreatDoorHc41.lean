/- reservoir: pour. -/
import Derived.Test.YtnfpenhldlfafaaGreatDoorHb41
set_option linter.unusedSimpArgs false
set_option linter.unusedVariables false
set_option maxRecDepth 100000
set_option maxHeartbeats 1600000
namespace Go.Proofs.YtnfpenhldlfafaaGreatDoor
open Go.RowKit
theorem qZj {X:World} {g g' t t':Nat} {xs ys:List Value} (h:Blk X g t xs) (h':Blk X g' t' ys) (ht:(t == t')=false:=by rfl):g≠g':=fun h9=>by
 subst h9;have h5:X.heap[g]?=some (.cells xs.toArray t (0,0)):=h;have h6:X.heap[g]?=some (.cells ys.toArray t' (0,0)):=h';rw [h5] at h6
 injection h6 with h6
 injection h6 with _ h6 _
 rw [h6] at ht
 simp at ht
theorem wT (n:Nat):ptl n (fun _=>0)=List.replicate n 0:=by
 unfold ptl
 refine List.ext_getElem (by simp) fun k h1 h2=>?_;rw [List.getElem_map,List.getElem_replicate]
theorem oS {n k:Nat} (f g:Nat→Rat) (x:Rat) (hk:k<n) (h:∀ j,j<n→g j=if j=k then x else f j):(ptl n f).set k x=ptl n g:=by
 refine vW (by rw [List.length_set,bX,bX]) fun j hj=>?_;rw [List.length_set,bX] at hj;rw [qVv (by rw [bX];exact hk),eE g hj,eE f hj,h j hj]
theorem oE {k:Nat} (h:k≤1000):(Lit.int .i64 (k:Int)).wf=true:=by
 unfold Lit.wf
 simp only [Bool.and_eq_true,decide_eq_true_eq];exact ⟨Int.le_trans (show _≤(0:Int) by decide) (by omega),Int.le_trans (show (k:Int)≤1000 by omega) (by decide)⟩
def Pm (B:Nat) (p:Tr) (l:List Ho) (n:Nat) (v:Value) (X:World):Prop:=∃ u g,v=.agg #[.bool p.1,vS p.2.1,vS p.2.2,u,.slice (some ⟨g,0,none⟩) n n,.bool false,.string ⟨#[]⟩,.string ⟨#[]⟩]∧Oh B l u X∧B≤g∧Blk X g 23 (fl rc (List.replicate n 0))
theorem Pm.lasts (B:Nat) (p:Tr) (l:List Ho) (n:Nat):dJ (Pm B p l n):=by
 rintro v X Y ⟨u,g,h1,h2,h3,h4⟩ hS
 exact ⟨u,g,h1,Oh.lasts _ _ _ _ _ h2 hS,h3,h4.bel hS⟩
def Mpn (B:Nat) (v:Value) (X:World):Prop:=∃ m,v=.map (some m)∧B≤m∧Mpb 0 (fun _=>false) v X
theorem Mpn.lasts (B:Nat):dJ (Mpn B):=by
 rintro v X Y ⟨m,h1,h2,h3⟩ hS
 exact ⟨m,h1,h2,Mpb.lasts _ _ _ _ _ h3 hS⟩
theorem yI {f:Operand→Value} {o:Oper} (ho:o.op=.makeMap 103 none) {X:World} {B:Nat} (hB:B≤X.heap.size):∃ v X',(execOp f o).run Tryz.prog X=.ok (.value v) X'∧Mpn B v X'∧Since X X':=by
 refine ⟨_,_,?_,⟨_,rfl,hB,Mpb.made X⟩,(Below.refl X.heap.size X).alloc (Nat.le_refl _) _⟩
 unfold execOp
 simp only [ho,Option.map,Sem.run_bind,Sem.run_pure,Result.andThen_ok]
 rfl
theorem qR {F:Int→Bool} {b:Bool} {S:Nat→Prop} {k:Nat} (h:∀ j:Nat,j<k→(F (j:Int)=true↔S j)) (hb:b=true↔S k):∀ j:Nat,j<k+1→((fun j=>if j=(k:Int) then b else F j) (j:Int)=true↔S j):=by
 intro j hj
 by_cases h9:j=k
 ·subst h9
  show (if (j:Int)=(j:Int) then b else F j)=true↔_
  rw [if_pos rfl];exact hb
 ·show (if (j:Int)=(k:Int) then b else F (j:Int))=true↔_
  rw [if_neg (by omega)];exact h j (by omega)
def hit (l:List Ho) (F:Int→Bool) (bq:Rat) (j:Nat):Bool:=F (j:Int) && decide (rmh l j≤bq * sr l j)
theorem hit_t {l:List Ho} {F:Int→Bool} {bq:Rat} {j:Nat}:hit l F bq j=true↔F (j:Int)=true∧rmh l j≤bq * sr l j:=by
 unfold hit
 rw [Bool.and_eq_true,decide_eq_true_eq]
structure Hit4 (l:List Ho) (F:Int→Bool) (P:Nat→Rat) (left bq:Rat) (k:Nat) (F':Int→Bool) (P':Nat→Rat) (rest:Rat) (full:Bool):Prop where
 f:∀ j:Nat,F' (j:Int)=(F (j:Int) && !(decide (j<k) && hit l F bq j))
 p:∀ j,P' j=if j<k∧hit l F bq j=true then rmh l j else P j
 r:rest=left-sm k fun j=>if hit l F bq j=true then rmh l j else 0
 b:full=true↔∃ j,j<k∧hit l F bq j=true
section
variable {l:List Ho} {F F':Int→Bool} {P P':Nat→Rat} {left bq rest:Rat} {k:Nat} {full:Bool}
theorem Hit4.start:Hit4 l F P left bq 0 F P left false:=by
 refine ⟨fun j=>?_,fun j=>?_,?_,?_⟩
 ·rw [decide_eq_false (Nat.not_lt_zero j)]
  simp
 ·rw [if_neg (fun h=>Nat.not_lt_zero j h.1)]
 ·show left=left-0
  grind
 ·exact ⟨fun h=>(by cases h),fun ⟨j,hj,_⟩=>absurd hj (Nat.not_lt_zero j)⟩
theorem eF {j k:Nat} (h:j≠k):j<k+1↔j<k:=⟨fun h9=>by omega,fun h9=>by omega⟩
theorem Hit4.skip (h:Hit4 l F P left bq k F' P' rest full) (hk:hit l F bq k=false):Hit4 l F P left bq (k+1) F' P' rest full:=by
 refine ⟨fun j=>?_,fun j=>?_,?_,?_⟩
 ·rw [h.f j]
  by_cases hj:j=k
  ·subst hj
   rw [hk]
   simp
  ·rw [decide_eq_decide.2 (eF hj)]
 ·rw [h.p j]
  by_cases hj:j=k
  ·subst hj
   rw [hk]
   simp
  ·simp only [eF hj]
 ·rw [cB,hk,h.r]
  simp
  grind
 ·rw [h.b]
  constructor
  ·rintro ⟨j,h1,h2⟩
   exact ⟨j,by omega,h2⟩
  ·rintro ⟨j,h1,h2⟩
   refine ⟨j,?_,h2⟩
   rcases Nat.lt_or_ge j k with h3|h3
   ·exact h3
   ·rw [show j=k by omega,hk] at h2
    cases h2
theorem Hit4.take (h:Hit4 l F P left bq k F' P' rest full) (hk:hit l F bq k=true):Hit4 l F P left bq (k+1) (fun j=>if j=(k:Int) then false else F' j) (fun j=>if j=k then rmh l k else P' j) (rest-rmh l k) true:=by
 refine ⟨fun j=>?_,fun j=>?_,?_,?_⟩
 ·by_cases hj:j=k
  ·subst hj
   rw [if_pos rfl,hk,decide_eq_true (Nat.lt_succ_self j)]
   simp
  ·rw [if_neg (by omega),h.f j,decide_eq_decide.2 (eF hj)]
 ·by_cases hj:j=k
  ·subst hj
   rw [if_pos rfl,if_pos ⟨Nat.lt_succ_self j,hk⟩]
  ·rw [if_neg hj,h.p j]
   simp only [eF hj]
 ·rw [cB,if_pos hk,h.r]
  grind
 ·exact ⟨fun _=>⟨k,Nat.lt_succ_self k,hk⟩,fun _=>rfl⟩
theorem Hit4.at (h:Hit4 l F P left bq k F' P' rest full):F' (k:Int)=F (k:Int):=by
 rw [h.f k,decide_eq_false (Nat.lt_irrefl k)]
 simp
theorem Hit4.sz (h:Hit4 l F P left bq k F' P' rest full) (hs:Szp l 1000) (hl:szR left 26018) (hk:k≤8):szR rest 42036:=by
 rw [h.r];refine (cX hl (iJ (B:=2001) fun j _=>?_)).mono (show 26018+(k * (2001+1)+1)+1≤42036 by omega)
 split
 ·exact hs.rm (by decide) j
 ·exact szR_zero.mono (by decide)
theorem Hit4.cn (h:Hit4 l F P left bq k F' P' rest full) (hk:hit l F bq k=true) {n:Nat} (hn:k<n):cno (fun j=>(fun j=>if j=(k:Int) then false else F' j) (j:Int)) n+1≤cno (fun j=>F' (j:Int)) n:=by
 refine tH (fun j _ h9=>?_) hn (h.at.trans (hit_t.1 hk).1) (if_pos rfl);simp only at h9
 split at h9
 ·cases h9
 ·exact h9
end
theorem zS {l:List Ho} {M left:Rat} {P:Nat→Rat} (hs:Szp l 1000) (hn:l.length≤8) (hM:szR M 10000) (hP:∀ j,j<l.length→P j=0∨P j=rmh l j) (h:left+sm l.length P=M):szR left 26018:=by
 have e:left=M-sm l.length P:=by grind
 rw [e];refine (cX hM (iJ (B:=2001) fun j hj=>?_)).mono (show 10000+(l.length * (2001+1)+1)+1≤26018 by omega)
 rcases hP j hj with h9|h9
 ·rw [h9]
  exact szR_zero.mono (by decide)
 ·rw [h9]
  exact hs.rm (by decide) j
theorem qYg {X:World} {B n c g k:Nat} {L:List Ho} (h:X.ownsRow B 66 9 (.slice (some ⟨g,0,none⟩) n c) n (fl hoc L)) (hk:k<L.length):Cl X g (0+k * 9) (hoc (ho L k))∧g<X.heap.size:=by
 obtain ⟨h1,h2,_,_⟩:=wW h;have h3:=lE (g:=hoc) (m:=9) (l:=L) (fun x _=>iC x) (List.drop_eq_getElem_cons hk);rw [← gS hk] at h3;exact ⟨Cl.part h1 (k * 9) _ (by rw [iC];exact h3),h2⟩
def dO (n:Nat):Code→Option Code
 | .seq (.region i o d) b=>if i=n then some (.seq (.region i o d) b) else dO n b
 | .seq a b=>match dO n a with
  | some c=>some c
  | none=>dO n b
 | .block _ c=>dO n c
 | .cond _ a b=>match dO n a with
  | some c=>some c
  | none=>dO n b
 | .loop c=>dO n c
 | .scope c=>dO n c
 | _=>none
def fZ (n:Nat) (f:Func):Option Code:=match f.body with
 | some c=>dO n c
 | none=>none
theorem qQ {X:World} {B g n m:Nat} {e:TypeId} {xs:List Value} (h:Blk X g e xs) (hl:xs.length=n * m) (hn:n≤maxLen) (hB:B≤g):X.ownsRow B e m (.slice (some ⟨g,0,none⟩) n n) n xs :=
 ⟨hl,.inr ⟨g,n,xs.toArray,rfl,hB,h,Nat.le_refl _,hn,by simpa using hl,by simpa using List.take_of_length_le (by omega)⟩⟩
set_option maxHeartbeats 16000000 in
theorem t38 (p:Tr) (l:List Ho) (n c5 gz g5 g6:Nat) (A5:Option Addr) (PT:Nat→Rat) (r0 lf:Rat) (w wr:World) (hln:l.length=n) (hn9:n≤8) (hok:Okp p l) (hs':Szp l 1000) (hr0:szR r0 20001) (hlfz:szR lf 26018) (hpt:∀ j,j<n→szR (PT j) 36030) (hwB:w.heap.size+2<gz) (h5w:w.heap.size+2<g5) (h6w:w.heap.size+2<g6) (hne5:g5≠gz) (hne6:g5≠g6) (hB2:Blk wr (w.heap.size+2) 41 [.bool false,.string ⟨#[]⟩,.string ⟨#[]⟩,.slice none 0 0,.slice none 0 0,.bool false,.string ⟨#[]⟩,.string ⟨#[]⟩]) (hD5:Blk wr g5 41 [.bool p.1,vS p.2.1,vS p.2.2,.slice A5 n c5,.slice (some ⟨gz,0,none⟩) n n,.bool (rN r0),vS (rP r0),vS (rD r0)]) (hD6:Blk wr g6 23 [.bool (rN lf),vS (rP lf),vS (rD lf)]) (hBz:Blk wr gz 23 (fl rc (ptl n PT))) (hOu:wr.ownsRow (w.heap.size+3) 66 9 (.slice A5 n c5) n (fl hoc l)) (hb:Below w.heap.size w wr) (R9 C9:Code) (K9:Act→World→Prop) (Q:Exit→Act→World→Prop) (hKc:∀ a w,C9.wp Tryz.prog Q a w→K9 a w) (hC:fZ 38 Tryz.f41=some (.seq R9 C9)) (z0 z1 z2 z3 z7 z8 z9 z10 z11 z12 z13 z14 z15 z16 z17 z18 z19 z20 z21 z22 z23 z24 z25 z26 z27 z28 z29 z30 z31 z32 z33 z34 z35 z36 z37 z38 z39 z40 z41 z42 z43 z44 z45 z46 z47 z48 z49 z50 z51 z52 z53 z54 z55 z56 z57 z58 z59 z60 z61 z62 z63 z64 z65 z66 z67 z68 z69 z70 z71 z72 z73 z74 z75 z76 z77 z78 z79 z80 z81 z82 z83 z84 z85 z86 z87 z88 z89 z90 z91 z92 z93 z94 z95 z96 z97 z98 z99 z100 z101 z102 z103 z104 z105 z106 z107 z108 z109 z110 z111 z112 z113 z114 z115 z116 z117 z118 z119 z120 z121 z122 z123 z124 z125 z126 z127 z128 z129 z130 z131 z132 z133 z134 z135 z136 z137 z138 z139 z140 z141 z142 z143 z144 z145 z146 z147 z148 z149 z150 z151 z152 z153 z154 z155 z156 z157 z158 z159 z160 z161 z162 z163 z164 z165 z166 z167 z168 z169 z170 z171 z172 z173:Value) (hKt:∀ (r1:Rat) (y22 y23 y24 y145 y146 y147 y148 y149 y150 y151 y152 y153 y154 y155 y156 y157 y158 y159 y160 y161 y162 y163 y164 y165 y166 y167 y168 y169 y170 y171 y172 y173:Value) (W:World),r1=r0+lf→Blk W (w.heap.size+2) 41 [.bool p.1,vS p.2.1,vS p.2.2,.slice A5 n c5,.slice (some ⟨gz,0,none⟩) n n,.bool (rN r1),vS (rP r1),vS (rD r1)]→W.ownsRow (w.heap.size+3) 66 9 (.slice A5 n c5) n (fl hoc (upk l (fun j=>ct l j+PT j) n))→Blk W gz 23 (fl rc (ptl n PT))→Below w.heap.size w W→Q .ret ⟨#[z0,z1,z2,z3,.pointer (some ⟨(w.heap.size+2),0,none⟩),.pointer (some ⟨g5,0,none⟩),.pointer (some ⟨g6,0,none⟩),z7,z8,z9,z10,z11,z12,z13,z14,z15,z16,z17,z18,z19,z20,z21,y22,y23,y24,z25,z26,z27,z28,z29,z30,z31,z32,z33,z34,z35,z36,z37,z38,z39,z40,z41,z42,z43,z44,z45,z46,z47,z48,z49,z50,z51,z52,z53,z54,z55,z56,z57,z58,z59,z60,z61,z62,z63,z64,z65,z66,z67,z68,z69,z70,z71,z72,z73,z74,z75,z76,z77,z78,z79,z80,z81,z82,z83,z84,z85,z86,z87,z88,z89,z90,z91,z92,z93,z94,z95,z96,z97,z98,z99,z100,z101,z102,z103,z104,z105,z106,z107,z108,z109,z110,z111,z112,z113,z114,z115,z116,z117,z118,z119,z120,z121,z122,z123,z124,z125,z126,z127,z128,z129,z130,z131,z132,z133,z134,z135,z136,z137,z138,z139,z140,z141,z142,z143,z144,y145,y146,y147,y148,y149,y150,y151,y152,y153,y154,y155,y156,y157,y158,y159,y160,y161,y162,y163,y164,y165,y166,y167,y168,y169,y170,y171,y172,y173],[]⟩ W):R9.wp Tryz.prog (Exit.then K9 Q) ⟨#[z0,z1,z2,z3,.pointer (some ⟨(w.heap.size+2),0,none⟩),.pointer (some ⟨g5,0,none⟩),.pointer (some ⟨g6,0,none⟩),z7,z8,z9,z10,z11,z12,z13,z14,z15,z16,z17,z18,z19,z20,z21,z22,z23,z24,z25,z26,z27,z28,z29,z30,z31,z32,z33,z34,z35,z36,z37,z38,z39,z40,z41,z42,z43,z44,z45,z46,z47,z48,z49,z50,z51,z52,z53,z54,z55,z56,z57,z58,z59,z60,z61,z62,z63,z64,z65,z66,z67,z68,z69,z70,z71,z72,z73,z74,z75,z76,z77,z78,z79,z80,z81,z82,z83,z84,z85,z86,z87,z88,z89,z90,z91,z92,z93,z94,z95,z96,z97,z98,z99,z100,z101,z102,z103,z104,z105,z106,z107,z108,z109,z110,z111,z112,z113,z114,z115,z116,z117,z118,z119,z120,z121,z122,z123,z124,z125,z126,z127,z128,z129,z130,z131,z132,z133,z134,z135,z136,z137,z138,z139,z140,z141,z142,z143,z144,z145,z146,z147,z148,z149,z150,z151,z152,z153,z154,z155,z156,z157,z158,z159,z160,z161,z162,z163,z164,z165,z166,z167,z168,z169,z170,z171,z172,z173],[]⟩ wr:=by
 simp only [fZ,dO,Tryz.f41,reduceCtorEq,if_true,if_false,Nat.reduceEqDiff,Option.some.injEq,Code.seq.injEq] at hC;obtain ⟨rfl,rfl⟩:=hC;have HLN:=Lib.hid hln;have HOK:=Lib.hid hok;have hs:=Lib.hid hs';have hptz:=Lib.hid hpt;have HKT:=Lib.hid hKt;clear hKt hln hok hs' hpt;obtain ⟨r1,r9⟩:∃ r,r=r0+lf:=⟨_,rfl⟩;have HRR:=Lib.hid r9.symm;clear r9;refine jq 5 ?_;refine jn (vP g5 5) ?_;refine jg (rt (rN r0) (rP r0) (rD r0)) (fun X hX hF=>aK 23 _ (by rfl) g5 5 [.bool (rN r0),vS (rP r0),vS (rD r0)] (by rfl) Tryz.underlying23 rfl X (hD5.bel hX) (by rfl) aB) ?_;refine ja hD6 Tryz.underlying23 (by rfl) aB ?_;refine jc (rt (rN r1) (rP r1) (rD r1)) (fun X hX hF=>mo (pY (rN r0) (rP r0) (rD r0) (rN lf) (rP lf) (rD lf) (bH r0) (bH lf) X (tzR hr0 (by omega)) (tzR hlfz (by omega))) (by rw [HRR.out])) ?_;refine jn (vP g5 5) ?_;refine bD hb hB2 hD5 hD6 fun X1 hX1 hb hB2 hD5 hD6=>?_;replace hOu:=aC hOu hX1;replace hBz:=hBz.bel hX1;refine cZ rfl 23 (.tmp 149) (.tmp 148) rfl g5 41 _ hD5 5 rfl [.bool (rN r1),vS (rP r1),vS (rD r1)] rfl (by simp) (al3 rfl rfl rfl) aB ?_;intro w38s hR9 hG9 hs9
 change Blk w38s g5 41 [.bool p.1,vS p.2.1,vS p.2.2,.slice A5 n c5,.slice (some ⟨gz,0,none⟩) n n,.bool (rN r1),vS (rP r1),vS (rD r1)] at hR9
 have hb:=aN hG9 hb hb.size (by omega);have hB2:=aE hG9 hB2 (by omega);have hD6:=aE hG9 hD6 (by omega);have hBz:=aE hG9 hBz (by omega);have hOu:=aO hOu hG9 (fun g h h9=>bG hOu hD5 rfl (h9.trans h.symm));have hD5:=hR9;clear hR9 hG9 hs9;refine wpList_nil ?_;go_upto_region 39 with fail;refine jp ?_;refine jnf hD5 4 bA ?_;refine jv (vI n) (aJ Tryz.underlying27 _ (by rfl) (some ⟨gz,0,none⟩) n n (by rfl) _ rfl) ?_;refine jm (vI 0) ?_;refine bD hb hB2 hD5 hD6 fun X2 hX2 hb hB2 hD5 hD6=>?_;replace hOu:=aC hOu hX2;replace hBz:=hBz.bel hX2
 have hOu:X2.ownsRow (w.heap.size+3) 66 9 (.slice A5 n c5) n (fl hoc (upk l (fun j=>ct l j+PT j) 0)):=by rw [qF];exact hOu
 go_wp2
 go_loopw [153] (fun kv wr=>∃ k:Nat,k≤n∧kv=vI k∧Blk wr (w.heap.size+2) 41 [.bool false,.string ⟨#[]⟩,.string ⟨#[]⟩,.slice none 0 0,.slice none 0 0,.bool false,.string ⟨#[]⟩,.string ⟨#[]⟩]∧Blk wr g5 41 [.bool p.1,vS p.2.1,vS p.2.2,.slice A5 n c5,.slice (some ⟨gz,0,none⟩) n n,.bool (rN r1),vS (rP r1),vS (rD r1)]∧Blk wr gz 23 (fl rc (ptl n PT))∧wr.ownsRow (w.heap.size+3) 66 9 (.slice A5 n c5) n (fl hoc (upk l (fun j=>ct l j+PT j) k))∧Below w.heap.size w wr) (fun kv _=>n-(intOf kv).toNat)
 case atStart=>exact ⟨0,by omega,rfl,hB2,hD5,hBz,hOu,hb⟩
 case round =>
  clear hB2 hD5 hBz hOu hb hD6;obtain ⟨i,hi,rfl,hB2,hD5,hBz,hOu,hb⟩:=hrel
  rcases Nat.lt_or_ge i n with hlt6|hlt6
  ·obtain ⟨gh,rfl⟩:=jY hOu (show 0<n by omega)
   obtain ⟨hch,hbh⟩:=qYg hOu (k:=i) (by rw [dF,HLN.out];exact hlt6);rw [jQ l _ i (by rw [HLN.out];exact hlt6),if_neg (Nat.lt_irrefl i),HOK.out.ho_tr (by rw [HLN.out];exact hlt6)] at hch;rw [Nat.zero_add] at hch
   change Cl wr gh (i * 9) [.bool (rN (ct l i)),vS (rP (ct l i)),vS (rD (ct l i)),.bool (rN (mx l i)),vS (rP (mx l i)),vS (rD (mx l i)),.bool (rN (sr l i)),vS (rP (sr l i)),vS (rD (sr l i))] at hch
   have hcz:=qZi hBz (k:=i) (by rw [bX];exact hlt6);rw [eE _ hlt6] at hcz
   change Cl wr gz (0+i * 3) [.bool (rN (PT i)),vS (rP (PT i)),vS (rD (PT i))] at hcz
   have hbz:=hBz.lt;have LB0:szR (ct l i) 1000:=hs.out.ct (by decide) i;have LB1:szR (PT i) 36030:=hptz.out i hlt6;go_upto_region 40 with fail;refine jp ?_;refine fC (i:Int) (n:Int) (by omega) ?_;refine bV hb hB2 hD5 fun X1 hX1 hb hB2 hD5=>?_;replace hOu:=aC hOu hX1;replace hBz:=hBz.bel hX1;have hch:=hch.below hX1 hbh;have hcz:=hcz.below hX1 hbz;replace hbh:=Nat.lt_of_lt_of_le hbh (hX1).size;replace hbz:=Nat.lt_of_lt_of_le hbz (hX1).size;go_upto_region 41 with fail;refine jq 3 ?_;refine jm (vI i) ?_;refine jv (vP gz (0+i * 3)) (aY Tryz.underlying27 aB _ _ (by rfl) gz (0) n n i (by omega) (by rfl) (by rfl) rfl) ?_;refine jg (rt (rN (PT i)) (rP (PT i)) (rD (PT i))) (fun X hX hF=>bM 23 _ (by rfl) gz (0+i * 3) (by rfl) Tryz.underlying23 rfl [.bool (rN (PT i)),vS (rP (PT i)),vS (rD (PT i))] X (Cl.part (hcz.below hX hbz) 0 _ (by rfl)) aB) ?_;refine bV hb hB2 hD5 fun X2 hX2 hb hB2 hD5=>?_;replace hOu:=aC hOu hX2;replace hBz:=hBz.bel hX2;have hch:=hch.below hX2 hbh;have hcz:=hcz.below hX2 hbz;replace hbh:=Nat.lt_of_lt_of_le hbh (hX2).size;replace hbz:=Nat.lt_of_lt_of_le hbz (hX2).size;go_upto_region 42 with (refine osn 23 23 157 #[.bool (rN (PT i)),vS (rP (PT i)),vS (rD (PT i))] aB ?_);obtain ⟨Y2,hY9,hD23,hS9⟩:=aZ X2 23 [.bool (rN (PT i)),vS (rP (PT i)),vS (rD (PT i))]
   rw [← hY9];clear hY9;have hgs23:=hb.size;have hlt23x0:=hB2.lt;have hlt23x1:=hD5.lt;have hlt23x2:=hBz.lt;replace hOu:=aC hOu hS9;have hch:=hch.below hS9 hbh;have hcz:=hcz.below hS9 hbz;replace hbh:=Nat.lt_of_lt_of_le hbh (hS9).size;replace hbz:=Nat.lt_of_lt_of_le hbz (hS9).size;obtain ⟨hB2,hD5⟩:=bl2 hS9 hB2 hD5;have hBz:=hBz.bel hS9;have hb:=aG hb hS9;clear hS9;generalize X2.heap.size=g23 at *;refine jp ?_;refine jn (vP g5 0) ?_;refine jnf hD5 3 aR ?_;refine jm (vI i) ?_;refine jv (vP gh (0+i * 9)) (aY Tryz.underlying24 bF _ _ (by rfl) gh (0) n c5 i (by omega) (by rfl) (by rfl) rfl) ?_;refine jm (vP gh (0+i * 9)) ?_;refine bV hb hB2 hD5 fun X3 hX3 hb hB2 hD5=>?_;replace hOu:=aC hOu hX3;replace hBz:=hBz.bel hX3;replace hD23:=hD23.bel hX3;have hch:=hch.below hX3 hbh;have hcz:=hcz.below hX3 hbz;replace hbh:=Nat.lt_of_lt_of_le hbh (hX3).size;replace hbz:=Nat.lt_of_lt_of_le hbz (hX3).size;go_upto_region 43 with fail;refine aT [] (by kernel_rfl) (by kernel_rfl) (by kernel_rfl) rfl (aF) ?_;simp only [its,List.dropLast,Nat.zero_add,Nat.reduceAdd];refine eK (vP gh (i * 9)) (vP gh (i * 9)) (vP gh (i * 9)) ?_;refine jn (vP gh (i * 9)) ?_;refine jg (rt (rN (ct l i)) (rP (ct l i)) (rD (ct l i))) (fun X hX hF=>bM 23 _ (by rfl) gh (i * 9) (by rfl) Tryz.underlying23 rfl [.bool (rN (ct l i)),vS (rP (ct l i)),vS (rD (ct l i))] X (Cl.part (hch.below hX hbh) 0 _ (by rfl)) aB) ?_
   refine ja hD23 Tryz.underlying23 (by rfl) aB ?_;refine jc (rt (rN ((ct l i)+(PT i))) (rP ((ct l i)+(PT i))) (rD ((ct l i)+(PT i)))) (fun X hX hF=>pY (rN (ct l i)) (rP (ct l i)) (rD (ct l i)) (rN (PT i)) (rP (PT i)) (rD (PT i)) (bH (ct l i)) (bH (PT i)) X (tzR LB0 (by omega)) (tzR LB1 (by omega))) ?_;refine jnn (vP gh (i * 9)) (vP gh (i * 9)) ?_;refine bV hb hB2 hD5 fun X4 hX4 hb hB2 hD5=>?_;replace hOu:=aC hOu hX4;replace hBz:=hBz.bel hX4;replace hD23:=hD23.bel hX4;have hch:=hch.below hX4 hbh;have hcz:=hcz.below hX4 hbz;replace hbh:=Nat.lt_of_lt_of_le hbh (hX4).size;replace hbz:=Nat.lt_of_lt_of_le hbz (hX4).size;refine gF rfl 23 (.tmp 171) (.tmp 169) rfl hOu (i * 9) rfl (rc (ct l i+PT i)) rfl (by rw [pK,dF,eD,HLN.out];omega) (by intro u hu;simp only [rc,trc,List.mem_cons,List.not_mem_nil,or_false] at hu;rcases hu with rfl|rfl|rfl <;> rfl) aB ?_;intro w43 hR9 hG9;rw [uD (by rw [dF,HLN.out];exact hlt6),jQ l _ i (by rw [HLN.out];exact hlt6),if_neg (Nat.lt_irrefl i),tM (by rw [HLN.out];exact hlt6)] at hR9;have hgb:=bL hOu gh rfl;have hb:=aN hG9 hb hb.size (by omega);have hB2:=aE hG9 hB2 (by omega);have hD5:=aE hG9 hD5 (fun h9=>bG hOu hD5 rfl (by rw [h9];rfl));have hBz:=aE hG9 hBz (fun h9=>bG hOu hBz rfl (by rw [h9];rfl));have hOu:=hR9;clear hR9 hG9 hgb hD23;refine wpList_nil ?_
   go_upto_region 44 with fail;refine jp ?_;refine jv (vI ((i+1:Nat):Int)) (bB _ _ _ _ (by rfl) (i:Int) 1 ((i+1:Nat):Int) (by rfl) (by rfl) (by omega) (by omega) (by omega)) ?_;refine jm (vI ((i+1:Nat):Int)) ?_;refine bV hb hB2 hD5 fun X5 hX5 hb hB2 hD5=>?_;replace hOu:=aC hOu hX5;replace hBz:=hBz.bel hX5
   go_wp2
   go_roundw
   case rel=>exact ⟨i+1,by omega,rfl,hB2,hD5,hBz,hOu,hb⟩
   case measure=>simp [intOf];omega
  ·have hin:i=n:=by omega
   rw [hin] at hOu;go_upto_region 40 with fail;refine jp ?_;refine fD (i:Int) (n:Int) (by omega) ?_;refine bV hb hB2 hD5 fun X1 hX1 hb hB2 hD5=>?_;replace hOu:=aC hOu hX1;replace hBz:=hBz.bel hX1;go_upto_region 45 with fail;refine jq 1 ?_;refine ja hD5 Tryz.underlying41 (by rfl) aM ?_;refine bV hb hB2 hD5 fun X2 hX2 hb hB2 hD5=>?_;replace hOu:=aC hOu hX2;replace hBz:=hBz.bel hX2;refine aS rfl 41 (.tmp 4) (.tmp 173) rfl (w.heap.size+2) 41 _ hB2 rfl [.bool p.1,vS p.2.1,vS p.2.2,.slice A5 n c5,.slice (some ⟨gz,0,none⟩) n n,.bool (rN r1),vS (rP r1),vS (rD r1)] rfl (by rfl) (al8 rfl rfl rfl rfl rfl rfl rfl rfl) aM ?_;intro w9 hR9 hG9;have hb:=aN hG9 hb hb.size (by omega);have hOu:=aO hOu hG9 (fun g h h9=>by injection h with h;have h8:=(bL hOu _ h9).1;omega);have hBz:=aE hG9 hBz (by omega)
   go_wp2
   exact HKT.out r1 _ _ _ _ _ _ _ _ _ _ _ _ _ _ _ _ _ _ _ _ _ _ _ _ _ _ _ _ _ _ _ _ _ HRR.out.symm hR9 hOu hBz hb
set_option maxHeartbeats 16000000 in
theorem pouC (p:Tr) (v:Value) (l:List Ho) (a:Rat) (w:World) (hv:Hl l v w) (hs:Hid (Szp l 1000)) (HOK:Hid (Okp p l)) (hn8:l.length≤8) (hp:tz p.2.1 p.2.2 1000) (ha:0≤a) (haz:szR a 10000):Calls Tryz.prog 41 #[.agg #[.bool p.1,vS p.2.1,vS p.2.2,v],.agg #[.bool (rN a),vS (rP a),vS (rD a)]] w fun e w'=>∃ u,e=.returned u∧Pow w.heap.size (fiD p l a) u w'∧Since w w':=by
 obtain ⟨A,n,cp,rfl,hln,hn1,hr⟩:=hv.at;clear hv
 have HRX:Hid (∀ X,Since w X→Rd X 9 (.slice A n cp) n (fl hoc l)):=fun X h=>hr.below h
 have HLN:=Lib.hid hln
 have hn9:n≤8:=by omega
 have hs4:Hid (Szp l 40000):=hs.out.mono (by decide)
 have HES:Hid (∀ X,Since w X→Hl l (.slice A n cp) X):=fun X h=>by show Rd X 9 _ l.length _;rw [hln];exact hr.below h
 clear hr
 go_enter Tryz.func41,Tryz.ntmps41
 go_upto_region 1 with fail;obtain ⟨W0,hW0,hB0,hB1,hB2,hb⟩:=bS w 26 23 41 [.bool p.1,vS p.2.1,vS p.2.2,.slice A n cp] [.bool (rN a),vS (rP a),vS (rD a)] [.bool false,.string ⟨#[]⟩,.string ⟨#[]⟩,.slice none 0 0,.slice none 0 0,.bool false,.string ⟨#[]⟩,.string ⟨#[]⟩];rw [← hW0];clear hW0;have hwB:w.heap.size+2<W0.heap.size:=hB2.lt;refine aT [none,some (Pn W0.heap.size p l),none,none,none,some (Rm (List.replicate n 0) W0.heap.size),some (Pm W0.heap.size p l n),some (Av 41 [.bool false,.string ⟨#[]⟩,.string ⟨#[]⟩,.slice none 0 0,.slice none 0 0,.bool false,.string ⟨#[]⟩,.string ⟨#[]⟩] W0.heap.size)] (by kernel_rfl) (by kernel_rfl) (by kernel_rfl) rfl (aA (aD (Pn.lasts _ _ _) (aA (aA (aA (aD (Rm.lasts _ _) (aD (Pm.lasts _ _ _ _) (aD (Av.lasts _ _ _) (aF))))))))) ?_;simp only [its,List.dropLast,Nat.zero_add,Nat.reduceAdd];refine ja hB0 Tryz.underlying26 (by rfl) aL ?_;refine jk (fun X hX hF=>(clnC p _ l X (HES.out X (Since.next hb hX)) (by rw [HLN.out];omega)).mono fun e X' ⟨u,h1,⟨u',h2,h4⟩,h3⟩=>⟨u,h1,⟨u',h2,h4.mono hX.size⟩,h3⟩) ?_;intro v26;refine jnf hB0 3 aR ?_;refine jv (vI n) (aJ Tryz.underlying24 _ (by rfl) A n cp (by rfl) _ rfl) ?_;refine aW (by rfl) (fun X hX hF=>sX _ _ (by rfl) n W0.heap.size (by rfl) (by rfl) rfl (by omega) X hX.size) ?_
 intro v30;simp only [pX];refine aW (by rfl) (fun X hX hF=>by obtain ⟨u9,e9,h9⟩:=(hF _ _ (List.mem_cons_of_mem _ List.mem_cons_self) rfl);obtain ⟨A9,c9,rfl,_,_⟩:=(Rd.of_own h9).form;obtain ⟨g9,e8,h8,h7,h6⟩:=(hF _ _ List.mem_cons_self rfl);rw [List.length_replicate] at e8;subst e9 e8;exact ⟨_,X,by unfold execOp;go_simp,⟨_,g9,rfl,h9,h8,h6⟩,Below.refl _ _⟩) ?_;intro v31;simp only [pX];refine aW (by rfl) (fun X hX hF=>Av.mk 41 [.bool false,.string ⟨#[]⟩,.string ⟨#[]⟩,.slice none 0 0,.slice none 0 0,.bool false,.string ⟨#[]⟩,.string ⟨#[]⟩] W0.heap.size hX.size (by unfold execOp;go_simp)) ?_;intro v5;simp only [pX];refine aH ?_;intro X1 hX1 hF;have hv26:=hF _ _ (List.mem_cons_of_mem _ (List.mem_cons_of_mem _ (List.mem_cons_of_mem _ List.mem_cons_self)));have hv30:=hF _ _ (List.mem_cons_of_mem _ (List.mem_cons_of_mem _ List.mem_cons_self));have hv31:=hF _ _ (List.mem_cons_of_mem _ List.mem_cons_self);have hv5:=hF _ _ List.mem_cons_self;obtain ⟨hB0,hB1,hB2⟩:=bl3 hX1 hB0 hB1 hB2;have hb:=aG hb hX1;clear hF hX1;obtain ⟨u5,gz,rfl,hOu,hgz,hBz⟩:=hv31
 unfold Oh at hOu
 rw [HLN.out] at hOu;replace hOu:=bI hOu (show w.heap.size+3≤W0.heap.size by omega);obtain ⟨A5,c5,rfl,_,_⟩:=(Rd.of_own hOu).form;obtain ⟨g5,rfl,hge5,hD5⟩:=hv5;clear hv26 hv30;rw [← wT] at hBz;have hne5:=qZj hD5 hBz;have hlz:=hBz.lt;refine aS rfl 41 (.tmp 5) (.tmp 31) rfl g5 41 _ hD5 rfl [.bool p.1,vS p.2.1,vS p.2.2,.slice A5 n c5,.slice (some ⟨gz,0,none⟩) n n,.bool false,.string ⟨#[]⟩,.string ⟨#[]⟩] rfl (by rfl) (al8 rfl rfl rfl rfl rfl rfl rfl rfl) aM ?_;intro w1s hR9 hG9;have hb:=aN hG9 hb hb.size (by omega);have hB0:=aE hG9 hB0 (by omega);have hB1:=aE hG9 hB1 (by omega);have hB2:=aE hG9 hB2 (by omega);have hBz:=aE hG9 hBz (by omega);have hOu:=aO hOu hG9 (fun g h h9=>bG hOu hD5 rfl (h9.trans h.symm));have hD5:=hR9;clear hR9 hG9;refine wpList_nil ?_;have hlz:=hBz.lt;have hl5:=hD5.lt;have LB0:szR (thr l) 8009:=hs.out.thr (by decide) (n:=l.length) (by rw [HLN.out];exact hn9);have LB1:szR a 10000:=haz;have LB3:szR (trq p) 1000:=cV rfl hp;have LB2:szR ((trq p)-(thr l)) 9010:=cX LB3 LB0;go_upto_region 2 with fail;refine aT [none,none,none,none,none,none,none,none,some (Av 23 [.bool false,.string ⟨#[]⟩,.string ⟨#[]⟩] w1s.heap.size)] (by kernel_rfl) (by kernel_rfl) (by kernel_rfl) rfl (aA (aA (aA (aA (aA (aA (aA (aA (aD (Av.lasts _ _ _) (aF)))))))))) ?_
 simp only [its,List.dropLast,Nat.zero_add,Nat.reduceAdd];refine ja hB1 Tryz.underlying23 (by rfl) aB ?_;refine jn (vP w.heap.size 0) ?_;refine jg (.agg #[.bool p.1,st p.2.1,st p.2.2]) (fun X hX hF=>aK 23 _ (by rfl) w.heap.size 0 [.bool p.1,vS p.2.1,vS p.2.2] (by rfl) Tryz.underlying23 rfl X (hB0.bel hX) (by rfl) aB) ?_;refine jnf hB0 3 aR ?_;refine jc (rt (rN (thr l)) (rP (thr l)) (rD (thr l))) (fun X hX hF=>wJ _ l X (HES.out X (Since.next hb hX)) hs4 (by rw [HLN.out];omega)) ?_;refine jc (rt (rN ((trq p)-(thr l))) (rP ((trq p)-(thr l))) (rD ((trq p)-(thr l)))) (fun X hX hF=>oM p.1 p.2.1 p.2.2 (rN (thr l)) (rP (thr l)) (rD (thr l)) rfl (bH (thr l)) X (hp.mono (by omega)) (tzR LB0 (by omega))) ?_;refine jc (.agg #[.bool (rN (bP a ((trq p)-(thr l)))),st (rP (bP a ((trq p)-(thr l)))),st (rD (bP a ((trq p)-(thr l))))]) (fun X hX hF=>qYl (rN a) (rP a) (rD a) (rN ((trq p)-(thr l))) (rP ((trq p)-(thr l))) (rD ((trq p)-(thr l))) (bH a) (bH ((trq p)-(thr l))) X (tzR LB1 (by omega)) (tzR LB2 (by omega))) ?_;refine aW (by rfl) (fun X hX hF=>Av.mk 23 [.bool false,.string ⟨#[]⟩,.string ⟨#[]⟩] w1s.heap.size hX.size (by unfold execOp;go_simp)) ?_;intro v6;simp only [pX];refine aH ?_;intro X2 hX2 hF;have hv6:=hF _ _ List.mem_cons_self;replace hOu:=aC hOu hX2;obtain ⟨hB0,hB1,hB2,hD5⟩:=bl4 hX2 hB0 hB1 hB2 hD5;replace hBz:=hBz.bel hX2
 have hb:=aG hb hX2;clear hF hX2;obtain ⟨g6,rfl,hge6,hD6⟩:=hv6;obtain ⟨M,M9⟩:∃ M,M=bP a (trq p-thr l):=⟨_,rfl⟩
 have HM:Hid (M=gn p l a):=by
  show _=_
  rw [M9,kD]
  rfl
 have hMz:szR M 10000:=by
  rw [M9];exact gL haz (cX (cV rfl hp (by decide)) (hs.out.thr (by decide) (n:=l.length) (by rw [HLN.out];exact hn9))) (by decide) (by decide)
 rw [← M9];clear M9
 have hM0:0≤M:=by rw [HM.out];exact HOK.out.g0 ha
 refine aS rfl 23 (.tmp 6) (.tmp 39) rfl g6 23 _ hD6 rfl [.bool (rN M),vS (rP M),vS (rD M)] rfl (by rfl) (al3 rfl rfl rfl) aB ?_;intro w2s hR9 hG9;have hb:=aN hG9 hb hb.size (by omega);have hB0:=aE hG9 hB0 (by omega);have hB1:=aE hG9 hB1 (by omega);have hB2:=aE hG9 hB2 (by omega);have hD5:=aE hG9 hD5 (by omega);have hBz:=aE hG9 hBz (by omega);have hOu:=aO hOu hG9 (fun g h h9=>bG hOu hD6 rfl (h9.trans h.symm));have hD6:=hR9;clear hR9 hG9;refine wpList_nil ?_;have LB0:szR a 10000:=haz;have LB1:szR M 10000:=hMz;go_upto_region 3 with fail;refine jq 4 ?_;refine ja hB1 Tryz.underlying23 (by rfl) aB ?_;refine ja hD6 Tryz.underlying23 (by rfl) aB ?_;refine jc (rt (rN (a-M)) (rP (a-M)) (rD (a-M))) (fun X hX hF=>oM (rN a) (rP a) (rD a) (rN M) (rP M) (rD M) (bH a) (bH M) X (tzR LB0 (by omega)) (tzR LB1 (by omega))) ?_;refine jn (vP g5 5) ?_;refine hH hb hB0 hB1 hB2 hD5 fun X3 hX3 hb hB0 hB1 hB2 hD5=>?_;replace hOu:=aC hOu hX3;replace hBz:=hBz.bel hX3;replace hD6:=hD6.bel hX3;obtain ⟨r0,r9⟩:∃ r,r=a-M:=⟨_,rfl⟩;have HR0:=Lib.hid r9
 have hr0:szR r0 20001:=by rw [r9];exact cX haz hMz
 rw [← r9];clear r9;refine cZ rfl 23 (.tmp 43) (.tmp 42) rfl g5 41 _ hD5 5 rfl [.bool (rN r0),vS (rP r0),vS (rD r0)] rfl (by simp) (al3 rfl rfl rfl) aB ?_;intro w3s hR9 hG9 hs9
 change Blk w3s g5 41 [.bool p.1,vS p.2.1,vS p.2.2,.slice A5 n c5,.slice (some ⟨gz,0,none⟩) n n,.bool (rN r0),vS (rP r0),vS (rD r0)] at hR9
 have hb:=aN hG9 hb hb.size (by omega);have hB0:=aE hG9 hB0 (by omega);have hB1:=aE hG9 hB1 (by omega);have hB2:=aE hG9 hB2 (by omega);have hBz:=aE hG9 hBz (by omega);have hD6:=aE hG9 hD6 (by omega);have hOu:=aO hOu hG9 (fun g h h9=>bG hOu hD5 rfl (h9.trans h.symm));have hD5:=hR9;clear hR9 hG9 hs9;refine wpList_nil ?_;have hub:=bL hOu;have hl5:=hD5.lt;have hl6:=hD6.lt;have hlz:=hBz.lt;go_upto_region 4 with fail;refine bC [some (Mpn w3s.heap.size)] (aD (Mpn.lasts _) (aF)) ?_;simp only [iX,Nat.reduceAdd];refine aW (by rfl) (fun X hX hF=>yI (by rfl) hX.size) ?_;intro v44;simp only [pX];refine jm (v44) ?_;refine aH ?_;intro X4 hX4 hF;have hv44:=hF _ _ List.mem_cons_self;replace hOu:=aC hOu hX4;obtain ⟨hB0,hB1,hB2,hD5⟩:=bl4 hX4 hB0 hB1 hB2 hD5;replace hBz:=hBz.bel hX4;replace hD6:=hD6.bel hX4;have hb:=aG hb hX4;clear hF hX4;obtain ⟨mp,rfl,hmp,hMp⟩:=hv44
 have hum:∀ g,(Value.slice A5 n c5).ownBlock=some g→g<mp:=fun g h=>by
  have:=(hub g h).2
  omega
 clear hub;go_upto_region 5 with fail;refine jp ?_;refine jnf hB0 3 aR ?_;refine jv (vI n) (aJ Tryz.underlying24 _ (by rfl) A n cp (by rfl) _ rfl) ?_;refine jm (vI 0) ?_;refine hH hb hB0 hB1 hB2 hD5 fun X5 hX5 hb hB0 hB1 hB2 hD5=>?_;replace hMp:=(Mpb.lasts _ _) _ _ _ hMp hX5;replace hOu:=aC hOu hX5;replace hBz:=hBz.bel hX5;replace hD6:=hD6.bel hX5
 go_wp2
 go_loopw [48] (fun kv wr=>∃ (k:Nat) (F:Int→Bool),k≤n∧kv=vI k∧Hid (∀ j:Nat,j<k→(F (j:Int)=true↔sr l j≠0))∧Blk wr w.heap.size 26 [.bool p.1,vS p.2.1,vS p.2.2,.slice A n cp]∧Blk wr (w.heap.size+1) 23 [.bool (rN a),vS (rP a),vS (rD a)]∧Blk wr (w.heap.size+2) 41 [.bool false,.string ⟨#[]⟩,.string ⟨#[]⟩,.slice none 0 0,.slice none 0 0,.bool false,.string ⟨#[]⟩,.string ⟨#[]⟩]∧Blk wr g5 41 [.bool p.1,vS p.2.1,vS p.2.2,.slice A5 n c5,.slice (some ⟨gz,0,none⟩) n n,.bool (rN r0),vS (rP r0),vS (rD r0)]∧Blk wr g6 23 [.bool (rN M),vS (rP M),vS (rD M)]∧Blk wr gz 23 (fl rc (ptl n (fun _=>0)))∧wr.ownsRow (w.heap.size+3) 66 9 (.slice A5 n c5) n (fl hoc l)∧Mpb k F (.map (some mp)) wr∧Below w.heap.size w wr) (fun kv _=>n-(intOf kv).toNat)
 case atStart=>exact ⟨0,fun _=>false,by omega,rfl,(fun j hj=>by omega),hB0,hB1,hB2,hD5,hD6,hBz,hOu,hMp,hb⟩
 case round =>
  clear hB0 hB1 hB2 hD5 hD6 hBz hOu hMp hb;obtain ⟨k,F,hk,rfl,HF0,hB0,hB1,hB2,hD5,hD6,hBz,hOu,hMp,hb⟩:=hrel
  rcases Nat.lt_or_ge k n with hlt|hlt
  ·obtain ⟨b,off,rfl,hbb,hcx⟩:=iR (HRX.out _ hb) HLN.out hlt
   rw [HOK.out.ho_tr (by rw [HLN.out];exact hlt)] at hcx
   change Cl wr b (off+k * 9) [.bool (rN (ct l k)),vS (rP (ct l k)),vS (rD (ct l k)),.bool (rN (mx l k)),vS (rP (mx l k)),vS (rD (mx l k)),.bool (rN (sr l k)),vS (rP (sr l k)),vS (rD (sr l k))] at hcx
   go_upto_region 6 with fail;refine jp ?_;refine fC (k:Int) (n:Int) (by omega) ?_;refine cC hb hB0 hB1 hB2 hD5 hD6 fun X1 hX1 hb hB0 hB1 hB2 hD5 hD6=>?_;replace hMp:=(Mpb.lasts _ _) _ _ _ hMp hX1;replace hOu:=aC hOu hX1;have hml:=Mpb.lt hMp;replace hBz:=hBz.bel hX1;have hcx:=hcx.below hX1 hbb;replace hbb:=Nat.lt_of_lt_of_le hbb (hX1).size;have hwf:=oE (show k≤1000 by omega);go_upto_region 7 with fail;refine jq 3 ?_;refine jm (vI k) ?_;refine jv (vP b (off+k * 9)) (aY Tryz.underlying24 bF _ _ (by rfl) b (off) n cp k (by omega) (by rfl) (by rfl) rfl) ?_;refine jg (.agg #[.bool (rN (ct l k)),st (rP (ct l k)),st (rD (ct l k)),.bool (rN (mx l k)),st (rP (mx l k)),st (rD (mx l k)),.bool (rN (sr l k)),st (rP (sr l k)),st (rD (sr l k))]) (fun X hX hF=>bM 66 _ (by rfl) b (off+k * 9) (by rfl) Tryz.underlying66 rfl [.bool (rN (ct l k)),vS (rP (ct l k)),vS (rD (ct l k)),.bool (rN (mx l k)),vS (rP (mx l k)),vS (rD (mx l k)),.bool (rN (sr l k)),vS (rP (sr l k)),vS (rD (sr l k))] X (Cl.part (hcx.below hX hbb) 0 _ (by rfl)) bF) ?_;refine cC hb hB0 hB1 hB2 hD5 hD6 fun X2 hX2 hb hB0 hB1 hB2 hD5 hD6=>?_;replace hMp:=(Mpb.lasts _ _) _ _ _ hMp hX2;replace hOu:=aC hOu hX2;have hml:=Mpb.lt hMp;replace hBz:=hBz.bel hX2;have hcx:=hcx.below hX2 hbb;replace hbb:=Nat.lt_of_lt_of_le hbb (hX2).size
   go_upto_region 8 with (refine osn 66 9 52 #[.bool (rN (ct l k)),vS (rP (ct l k)),vS (rD (ct l k)),.bool (rN (mx l k)),vS (rP (mx l k)),vS (rD (mx l k)),.bool (rN (sr l k)),vS (rP (sr l k)),vS (rD (sr l k))] bF ?_);obtain ⟨Y2,hY9,hD9,hS9⟩:=aZ X2 66 [.bool (rN (ct l k)),vS (rP (ct l k)),vS (rD (ct l k)),.bool (rN (mx l k)),vS (rP (mx l k)),vS (rD (mx l k)),.bool (rN (sr l k)),vS (rP (sr l k)),vS (rD (sr l k))];rw [← hY9];clear hY9;have hgs9:=hb.size;have hlt9x0:=hB0.lt;have hlt9x1:=hB1.lt;have hlt9x2:=hB2.lt;have hlt9x3:=hD5.lt;have hlt9x4:=hD6.lt;have hlt9x5:=hBz.lt;replace hOu:=aC hOu hS9;have hml:=Mpb.lt hMp;have hcx:=hcx.below hS9 hbb;replace hbb:=Nat.lt_of_lt_of_le hbb (hS9).size;obtain ⟨hB0,hB1,hB2,hD5,hD6⟩:=bl5 hS9 hB0 hB1 hB2 hD5 hD6;have hBz:=hBz.bel hS9;have hMp:=(Mpb.lasts _ _) _ _ _ hMp hS9;have hb:=aG hb hS9;clear hS9;generalize X2.heap.size=g9 at *
   by_cases hz:sr l k=0
   ·refine jq 6 ?_
    refine eK (.map (some mp)) (vI k) (vP g9 6) ?_;refine jg (rt (rN (sr l k)) (rP (sr l k)) (rD (sr l k))) (fun X hX hF=>aK 23 _ (by rfl) g9 6 [.bool (rN (sr l k)),vS (rP (sr l k)),vS (rD (sr l k))] (by rfl) Tryz.underlying23 rfl X (hD9.bel hX) (by rfl) aB) ?_;refine jn (rz) ?_;refine jv (.bool false) (cJ _ _ (by rfl) (rN (sr l k)) (rP (sr l k)) (rD (sr l k)) false [] [] (by rfl) (by rfl) false (nU hz)) ?_;refine cC hb hB0 hB1 hB2 hD5 hD6 fun X3 hX3 hb hB0 hB1 hB2 hD5 hD6=>?_;replace hMp:=(Mpb.lasts _ _) _ _ _ hMp hX3;replace hOu:=aC hOu hX3;have hml:=Mpb.lt hMp;replace hBz:=hBz.bel hX3;replace hD9:=hD9.bel hX3;refine sI rfl (.tmp 53) (.tmp 54) _ rfl (b:=mp) (k:=(k:Int)) (y:=false) rfl rfl rfl hwf hMp (by unfold maxLen;omega) ?_;intro w8 hM2 hG9;have hb:=aN hG9 hb hb.size (by omega);have hB0:=aE hG9 hB0 (by omega);have hB1:=aE hG9 hB1 (by omega);have hB2:=aE hG9 hB2 (by omega);have hD5:=aE hG9 hD5 (by omega);have hD6:=aE hG9 hD6 (by omega);have hBz:=aE hG9 hBz (by omega);have hD9:=aE hG9 hD9 (by omega);have hOu:=aO hOu hG9 (fun g h h9=>by injection h with h;have h8:=hum g h9;omega);have hMp:=hM2;clear hM2 hG9;refine wpList_nil ?_;have HF2:Hid (∀ j:Nat,j<k+1→((fun j=>if j=(k:Int) then false else F j) (j:Int)=true↔sr l j≠0)):=qR (S:=fun j=>sr l j≠0) HF0.out ⟨fun h8=>(by cases h8),fun h8=>absurd hz h8⟩
    go_upto_region 9 with fail;refine jp ?_;refine jv (vI ((k+1:Nat):Int)) (bB _ _ _ _ (by rfl) (k:Int) 1 ((k+1:Nat):Int) (by rfl) (by rfl) (by omega) (by omega) (by omega)) ?_;refine jm (vI ((k+1:Nat):Int)) ?_;refine cC hb hB0 hB1 hB2 hD5 hD6 fun X4 hX4 hb hB0 hB1 hB2 hD5 hD6=>?_;replace hMp:=(Mpb.lasts _ _) _ _ _ hMp hX4;replace hOu:=aC hOu hX4;have hml:=Mpb.lt hMp;replace hBz:=hBz.bel hX4
    go_wp2
    go_roundw
    case rel=>exact ⟨k+1,fun j=>if j=(k:Int) then false else F j,by omega,rfl,HF2,hB0,hB1,hB2,hD5,hD6,hBz,hOu,hMp,hb⟩
    case measure=>simp [intOf];omega
   ·refine jq 6 ?_
    refine eK (.map (some mp)) (vI k) (vP g9 6) ?_;refine jg (rt (rN (sr l k)) (rP (sr l k)) (rD (sr l k))) (fun X hX hF=>aK 23 _ (by rfl) g9 6 [.bool (rN (sr l k)),vS (rP (sr l k)),vS (rD (sr l k))] (by rfl) Tryz.underlying23 rfl X (hD9.bel hX) (by rfl) aB) ?_;refine jn (rz) ?_;refine jv (.bool true) (cJ _ _ (by rfl) (rN (sr l k)) (rP (sr l k)) (rD (sr l k)) false [] [] (by rfl) (by rfl) true (qQs hz)) ?_;refine cC hb hB0 hB1 hB2 hD5 hD6 fun X3 hX3 hb hB0 hB1 hB2 hD5 hD6=>?_;replace hMp:=(Mpb.lasts _ _) _ _ _ hMp hX3;replace hOu:=aC hOu hX3;have hml:=Mpb.lt hMp;replace hBz:=hBz.bel hX3;replace hD9:=hD9.bel hX3;refine sI rfl (.tmp 53) (.tmp 54) _ rfl (b:=mp) (k:=(k:Int)) (y:=true) rfl rfl rfl hwf hMp (by unfold maxLen;omega) ?_;intro w8 hM2 hG9;have hb:=aN hG9 hb hb.size (by omega);have hB0:=aE hG9 hB0 (by omega);have hB1:=aE hG9 hB1 (by omega);have hB2:=aE hG9 hB2 (by omega);have hD5:=aE hG9 hD5 (by omega);have hD6:=aE hG9 hD6 (by omega);have hBz:=aE hG9 hBz (by omega);have hD9:=aE hG9 hD9 (by omega);have hOu:=aO hOu hG9 (fun g h h9=>by injection h with h;have h8:=hum g h9;omega);have hMp:=hM2;clear hM2 hG9;refine wpList_nil ?_;have HF2:Hid (∀ j:Nat,j<k+1→((fun j=>if j=(k:Int) then true else F j) (j:Int)=true↔sr l j≠0)):=qR (S:=fun j=>sr l j≠0) HF0.out ⟨fun _=>hz,fun _=>rfl⟩
    go_upto_region 9 with fail;refine jp ?_;refine jv (vI ((k+1:Nat):Int)) (bB _ _ _ _ (by rfl) (k:Int) 1 ((k+1:Nat):Int) (by rfl) (by rfl) (by omega) (by omega) (by omega)) ?_;refine jm (vI ((k+1:Nat):Int)) ?_;refine cC hb hB0 hB1 hB2 hD5 hD6 fun X4 hX4 hb hB0 hB1 hB2 hD5 hD6=>?_;replace hMp:=(Mpb.lasts _ _) _ _ _ hMp hX4;replace hOu:=aC hOu hX4;have hml:=Mpb.lt hMp;replace hBz:=hBz.bel hX4
    go_wp2
    go_roundw
    case rel=>exact ⟨k+1,fun j=>if j=(k:Int) then true else F j,by omega,rfl,HF2,hB0,hB1,hB2,hD5,hD6,hBz,hOu,hMp,hb⟩
    case measure=>simp [intOf];omega
  ·have hkn:k=n:=by omega
   have HF1:Hid (∀ j:Nat,j<l.length→(F (j:Int)=true↔sr l j≠0)):=fun j hj=>HF0.out j (by rw [HLN.out] at hj;omega)
   go_upto_region 6 with fail;refine jp ?_;refine fD (k:Int) (n:Int) (by omega) ?_;refine cC hb hB0 hB1 hB2 hD5 hD6 fun X1 hX1 hb hB0 hB1 hB2 hD5 hD6=>?_;replace hMp:=(Mpb.lasts _ _) _ _ _ hMp hX1;replace hOu:=aC hOu hX1;have hml:=Mpb.lt hMp;replace hBz:=hBz.bel hX1
   go_wp2
   go_loopw [] (fun wr=>∃ (N:Nat) (F:Int→Bool) (P:Nat→Rat) (left lv0:Rat),Hid (Puq l.length (rmh l) (sr l) M (fun j=>F (j:Int)) P left lv0)∧Hid (∀ j,j<l.length→P j=0∨P j=rmh l j)∧N+cno (fun j=>F (j:Int)) n≤16∧Blk wr w.heap.size 26 [.bool p.1,vS p.2.1,vS p.2.2,.slice A n cp]∧Blk wr (w.heap.size+1) 23 [.bool (rN a),vS (rP a),vS (rD a)]∧Blk wr (w.heap.size+2) 41 [.bool false,.string ⟨#[]⟩,.string ⟨#[]⟩,.slice none 0 0,.slice none 0 0,.bool false,.string ⟨#[]⟩,.string ⟨#[]⟩]∧Blk wr g5 41 [.bool p.1,vS p.2.1,vS p.2.2,.slice A5 n c5,.slice (some ⟨gz,0,none⟩) n n,.bool (rN r0),vS (rP r0),vS (rD r0)]∧Blk wr g6 23 [.bool (rN left),vS (rP left),vS (rD left)]∧Blk wr gz 23 (fl rc (ptl n P))∧wr.ownsRow (w.heap.size+3) 66 9 (.slice A5 n c5) n (fl hoc l)∧Mpb N F (.map (some mp)) wr∧Below w.heap.size w wr) (fun wr=>mpn (.map (some mp)) n wr)
   case atStart=>exact ⟨k,F,fun _=>0,M,0,Puq.start hM0 HF1.out (fun _ _=>rfl),(fun _ _=>.inl rfl),(by have:=yR (fun j:Nat=>F (j:Int)) n;omega),hB0,hB1,hB2,hD5,hD6,hBz,hOu,hMp,hb⟩
   case round =>
    clear hB0 hB1 hB2 hD5 hD6 hBz hOu hMp hb HF0 HF1 hk hlt hkn;obtain ⟨N,F,P,left,lv0,HQ,HP0,hN,hB0,hB1,hB2,hD5,hD6,hBz,hOu,hMp,hb⟩:=hrel;have HM0:=Lib.hid (xC hMp (show n≤1000 by omega));have hlfz:szR left 26018:=zS hs.out (by rw [HLN.out];exact hn9) hMz HP0.out HQ.out.sum;go_upto_region 10 with fail;refine jq 1 ?_;refine jn (rz) ?_;refine cC hb hB0 hB1 hB2 hD5 hD6 fun X1 hX1 hb hB0 hB1 hB2 hD5 hD6=>?_;replace hMp:=(Mpb.lasts _ _) _ _ _ hMp hX1;replace hOu:=aC hOu hX1;have hml:=Mpb.lt hMp;replace hBz:=hBz.bel hX1;go_upto_region 11 with (refine osn 23 10 60 #[.bool false,.string ⟨#[]⟩,.string ⟨#[]⟩] aB ?_);obtain ⟨Y1,hY9,hD10,hS9⟩:=aZ X1 23 [.bool false,.string ⟨#[]⟩,.string ⟨#[]⟩];rw [← hY9];clear hY9;have hgs10:=hb.size;have hlt10x0:=hB0.lt;have hlt10x1:=hB1.lt;have hlt10x2:=hB2.lt;have hlt10x3:=hD5.lt;have hlt10x4:=hD6.lt;have hlt10x5:=hBz.lt;replace hOu:=aC hOu hS9;have hml:=Mpb.lt hMp;obtain ⟨hB0,hB1,hB2,hD5,hD6⟩:=bl5 hS9 hB0 hB1 hB2 hD5 hD6;have hBz:=hBz.bel hS9;have hMp:=(Mpb.lasts _ _) _ _ _ hMp hS9;have hb:=aG hb hS9;clear hS9;generalize X1.heap.size=g10 at *;refine jp ?_;refine jnf hB0 3 aR ?_;refine jv (vI n) (aJ Tryz.underlying24 _ (by rfl) A n cp (by rfl) _ rfl) ?_;refine jm (vI 0) ?_;refine cC hb hB0 hB1 hB2 hD5 hD6 fun X2 hX2 hb hB0 hB1 hB2 hD5 hD6=>?_;replace hMp:=(Mpb.lasts _ _) _ _ _ hMp hX2;replace hOu:=aC hOu hX2
    have hml:=Mpb.lt hMp;replace hBz:=hBz.bel hX2;replace hD10:=hD10.bel hX2;have hgs10:=hgs10
    go_wp2
    go_loopw [64] (fun kv w3=>∃ (k:Nat) (s:Rat),k≤n∧kv=vI k∧Hid (s=sm k fun j=>if F (j:Int)=true then sr l j else 0)∧Blk w3 g10 23 [.bool (rN s),vS (rP s),vS (rD s)]∧Blk w3 w.heap.size 26 [.bool p.1,vS p.2.1,vS p.2.2,.slice A n cp]∧Blk w3 (w.heap.size+1) 23 [.bool (rN a),vS (rP a),vS (rD a)]∧Blk w3 (w.heap.size+2) 41 [.bool false,.string ⟨#[]⟩,.string ⟨#[]⟩,.slice none 0 0,.slice none 0 0,.bool false,.string ⟨#[]⟩,.string ⟨#[]⟩]∧Blk w3 g5 41 [.bool p.1,vS p.2.1,vS p.2.2,.slice A5 n c5,.slice (some ⟨gz,0,none⟩) n n,.bool (rN r0),vS (rP r0),vS (rD r0)]∧Blk w3 g6 23 [.bool (rN left),vS (rP left),vS (rD left)]∧Blk w3 gz 23 (fl rc (ptl n P))∧w3.ownsRow (w.heap.size+3) 66 9 (.slice A5 n c5) n (fl hoc l)∧Mpb N F (.map (some mp)) w3∧Below w.heap.size w w3) (fun kv _=>n-(intOf kv).toNat)
    case atStart=>exact ⟨0,0,by omega,rfl,rfl,hD10,hB0,hB1,hB2,hD5,hD6,hBz,hOu,hMp,hb⟩
    case round =>
     clear hB0 hB1 hB2 hD5 hD6 hBz hOu hMp hb hD10;obtain ⟨k,s,hk,rfl,HS,hD10,hB0,hB1,hB2,hD5,hD6,hBz,hOu,hMp,hb⟩:=hrel
     have hsz:szR s 8009:=by
      rw [HS.out];refine (iJ (B:=1000) fun j _=>?_).mono (show k * (1000+1)+1≤8009 by omega)
      split
      ·exact hs.out.sr (by decide) j
      ·exact szR_zero.mono (by decide)
     rcases Nat.lt_or_ge k n with hlt|hlt
     ·obtain ⟨b,off,rfl,hbb,hcx⟩:=iR (HRX.out _ hb) HLN.out hlt
      rw [HOK.out.ho_tr (by rw [HLN.out];exact hlt)] at hcx
      change Cl wr b (off+k * 9) [.bool (rN (ct l k)),vS (rP (ct l k)),vS (rD (ct l k)),.bool (rN (mx l k)),vS (rP (mx l k)),vS (rD (mx l k)),.bool (rN (sr l k)),vS (rP (sr l k)),vS (rD (sr l k))] at hcx
      have hwf:=oE (show k≤1000 by omega);obtain ⟨fb,fb9⟩:∃ b,F (k:Int)=b:=⟨_,rfl⟩;have HFB:=Lib.hid fb9;clear fb9;go_upto_region 12 with fail;refine jp ?_;refine fC (k:Int) (n:Int) (by omega) ?_;refine cC hb hB0 hB1 hB2 hD5 hD6 fun X1 hX1 hb hB0 hB1 hB2 hD5 hD6=>?_;replace hMp:=(Mpb.lasts _ _) _ _ _ hMp hX1;replace hOu:=aC hOu hX1;have hml:=Mpb.lt hMp;replace hBz:=hBz.bel hX1;replace hD10:=hD10.bel hX1;have hcx:=hcx.below hX1 hbb;replace hbb:=Nat.lt_of_lt_of_le hbb (hX1).size;go_upto_region 13 with fail;refine jq 3 ?_;refine jm (vI k) ?_;refine jv (vP b (off+k * 9)) (aY Tryz.underlying24 bF _ _ (by rfl) b (off) n cp k (by omega) (by rfl) (by rfl) rfl) ?_;refine jg (.agg #[.bool (rN (ct l k)),st (rP (ct l k)),st (rD (ct l k)),.bool (rN (mx l k)),st (rP (mx l k)),st (rD (mx l k)),.bool (rN (sr l k)),st (rP (sr l k)),st (rD (sr l k))]) (fun X hX hF=>bM 66 _ (by rfl) b (off+k * 9) (by rfl) Tryz.underlying66 rfl [.bool (rN (ct l k)),vS (rP (ct l k)),vS (rD (ct l k)),.bool (rN (mx l k)),vS (rP (mx l k)),vS (rD (mx l k)),.bool (rN (sr l k)),vS (rP (sr l k)),vS (rD (sr l k))] X (Cl.part (hcx.below hX hbb) 0 _ (by rfl)) bF) ?_;refine cC hb hB0 hB1 hB2 hD5 hD6 fun X2 hX2 hb hB0 hB1 hB2 hD5 hD6=>?_;replace hMp:=(Mpb.lasts _ _) _ _ _ hMp hX2;replace hOu:=aC hOu hX2
      have hml:=Mpb.lt hMp;replace hBz:=hBz.bel hX2;replace hD10:=hD10.bel hX2;have hcx:=hcx.below hX2 hbb;replace hbb:=Nat.lt_of_lt_of_le hbb (hX2).size;go_upto_region 14 with (refine osn 66 12 68 #[.bool (rN (ct l k)),vS (rP (ct l k)),vS (rD (ct l k)),.bool (rN (mx l k)),vS (rP (mx l k)),vS (rD (mx l k)),.bool (rN (sr l k)),vS (rP (sr l k)),vS (rD (sr l k))] bF ?_);obtain ⟨Y2,hY9,hD12,hS9⟩:=aZ X2 66 [.bool (rN (ct l k)),vS (rP (ct l k)),vS (rD (ct l k)),.bool (rN (mx l k)),vS (rP (mx l k)),vS (rD (mx l k)),.bool (rN (sr l k)),vS (rP (sr l k)),vS (rD (sr l k))];rw [← hY9];clear hY9;have hgs12:=hb.size;have hlt12x0:=hB0.lt;have hlt12x1:=hB1.lt;have hlt12x2:=hB2.lt;have hlt12x3:=hD5.lt;have hlt12x4:=hD6.lt;have hlt12x5:=hBz.lt;have hlt12x6:=hD10.lt;replace hOu:=aC hOu hS9;have hml:=Mpb.lt hMp;have hcx:=hcx.below hS9 hbb;replace hbb:=Nat.lt_of_lt_of_le hbb (hS9).size;obtain ⟨hB0,hB1,hB2,hD5,hD6⟩:=bl5 hS9 hB0 hB1 hB2 hD5 hD6;have hBz:=hBz.bel hS9;have hD10:=hD10.bel hS9;have hMp:=(Mpb.lasts _ _) _ _ _ hMp hS9;have hb:=aG hb hS9;clear hS9;generalize X2.heap.size=g12 at *
      rcases fb with _|_
      ·refine jp ?_
       refine jmm (.map (some mp)) (vI k) ?_;refine jg (.bool false) (fun X hX hF=>by simpa only [HFB.out] using fV _ _ (by rfl) (by rfl) (by rfl) hwf X ((Mpb.lasts _ _) _ _ _ hMp hX)) ?_;refine cC hb hB0 hB1 hB2 hD5 hD6 fun X3 hX3 hb hB0 hB1 hB2 hD5 hD6=>?_;replace hMp:=(Mpb.lasts _ _) _ _ _ hMp hX3;replace hOu:=aC hOu hX3;have hml:=Mpb.lt hMp;replace hBz:=hBz.bel hX3;obtain ⟨hD10,hD12⟩:=bl2 hX3 hD10 hD12
       have HS2:Hid (s=sm (k+1) fun j=>if F (j:Int)=true then sr l j else 0):=by
        show _=_
        rw [cB,if_neg (by rw [HFB.out];decide),← HS.out,Rat.add_zero]
       go_upto_region 16 with fail;refine jp ?_;refine jv (vI ((k+1:Nat):Int)) (bB _ _ _ _ (by rfl) (k:Int) 1 ((k+1:Nat):Int) (by rfl) (by rfl) (by omega) (by omega) (by omega)) ?_;refine jm (vI ((k+1:Nat):Int)) ?_;refine cC hb hB0 hB1 hB2 hD5 hD6 fun X4 hX4 hb hB0 hB1 hB2 hD5 hD6=>?_;replace hMp:=(Mpb.lasts _ _) _ _ _ hMp hX4;replace hOu:=aC hOu hX4;have hml:=Mpb.lt hMp;replace hBz:=hBz.bel hX4;obtain ⟨hD10,hD12⟩:=bl2 hX4 hD10 hD12
       go_wp2
       go_roundw
       case rel=>exact ⟨k+1,s,by omega,rfl,HS2,hD10,hB0,hB1,hB2,hD5,hD6,hBz,hOu,hMp,hb⟩
       case measure=>simp [intOf];omega
      ·refine jp ?_
       refine jmm (.map (some mp)) (vI k) ?_;refine jg (.bool true) (fun X hX hF=>by simpa only [HFB.out] using fV _ _ (by rfl) (by rfl) (by rfl) hwf X ((Mpb.lasts _ _) _ _ _ hMp hX)) ?_;refine cC hb hB0 hB1 hB2 hD5 hD6 fun X3 hX3 hb hB0 hB1 hB2 hD5 hD6=>?_;replace hMp:=(Mpb.lasts _ _) _ _ _ hMp hX3;replace hOu:=aC hOu hX3;have hml:=Mpb.lt hMp;replace hBz:=hBz.bel hX3;obtain ⟨hD10,hD12⟩:=bl2 hX3 hD10 hD12;have LB0:szR s 8009:=hsz;have LB1:szR (sr l k) 1000:=hs.out.sr (by decide) k;go_upto_region 15 with fail;refine jq 4 ?_;refine ja hD10 Tryz.underlying23 (by rfl) aB ?_;refine jn (vP g12 6) ?_;refine jg (rt (rN (sr l k)) (rP (sr l k)) (rD (sr l k))) (fun X hX hF=>aK 23 _ (by rfl) g12 6 [.bool (rN (sr l k)),vS (rP (sr l k)),vS (rD (sr l k))] (by rfl) Tryz.underlying23 rfl X (hD12.bel hX) (by rfl) aB) ?_;refine jc (rt (rN (s+(sr l k))) (rP (s+(sr l k))) (rD (s+(sr l k)))) (fun X hX hF=>pY (rN s) (rP s) (rD s) (rN (sr l k)) (rP (sr l k)) (rD (sr l k)) (bH s) (bH (sr l k)) X (tzR LB0 (by omega)) (tzR LB1 (by omega))) ?_;refine cC hb hB0 hB1 hB2 hD5 hD6 fun X4 hX4 hb hB0 hB1 hB2 hD5 hD6=>?_;replace hMp:=(Mpb.lasts _ _) _ _ _ hMp hX4;replace hOu:=aC hOu hX4;have hml:=Mpb.lt hMp;replace hBz:=hBz.bel hX4;obtain ⟨hD10,hD12⟩:=bl2 hX4 hD10 hD12;obtain ⟨s',hs'⟩:∃ s',s'=s+sr l k:=⟨_,rfl⟩
       have HS2:Hid (s'=sm (k+1) fun j=>if F (j:Int)=true then sr l j else 0):=by
        show _=_
        rw [cB,if_pos HFB.out,← HS.out,hs']
       rw [← hs'];clear hs';refine aS rfl 23 (.tmp 10) (.tmp 75) rfl g10 23 _ hD10 rfl [.bool (rN s'),vS (rP s'),vS (rD s')] rfl (by rfl) (al3 rfl rfl rfl) aB ?_;intro w15s hR9 hG9;have hb:=aN hG9 hb hb.size (by omega);have hB0:=aE hG9 hB0 (by omega);have hB1:=aE hG9 hB1 (by omega);have hB2:=aE hG9 hB2 (by omega);have hD5:=aE hG9 hD5 (by omega);have hD6:=aE hG9 hD6 (by omega);have hBz:=aE hG9 hBz (by omega);have hD12:=aE hG9 hD12 (by omega);have hOu:=aO hOu hG9 (fun g h h9=>bG hOu hD10 rfl (h9.trans h.symm));have hMp:=Mpb.grown hMp hG9 (fun h9=>by injection h9 with h9;omega);have hD10:=hR9;clear hR9 hG9;refine wpList_nil ?_;go_upto_region 16 with fail;refine jp ?_;refine jv (vI ((k+1:Nat):Int)) (bB _ _ _ _ (by rfl) (k:Int) 1 ((k+1:Nat):Int) (by rfl) (by rfl) (by omega) (by omega) (by omega)) ?_;refine jm (vI ((k+1:Nat):Int)) ?_;refine cC hb hB0 hB1 hB2 hD5 hD6 fun X5 hX5 hb hB0 hB1 hB2 hD5 hD6=>?_;replace hMp:=(Mpb.lasts _ _) _ _ _ hMp hX5;replace hOu:=aC hOu hX5;have hml:=Mpb.lt hMp;replace hBz:=hBz.bel hX5;obtain ⟨hD10,hD12⟩:=bl2 hX5 hD10 hD12
       go_wp2
       go_roundw
       case rel=>exact ⟨k+1,s',by omega,rfl,HS2,hD10,hB0,hB1,hB2,hD5,hD6,hBz,hOu,hMp,hb⟩
       case measure=>simp [intOf];omega
     ·have hkn:k=n:=by omega
      have HSS:Hid (s=sm l.length fun j=>if F (j:Int)=true then sr l j else 0):=by
       show _=_
       rw [HLN.out,← hkn];exact HS.out
      go_upto_region 12 with fail;refine jp ?_;refine fD (k:Int) (n:Int) (by omega) ?_;refine cC hb hB0 hB1 hB2 hD5 hD6 fun X1 hX1 hb hB0 hB1 hB2 hD5 hD6=>?_;replace hMp:=(Mpb.lasts _ _) _ _ _ hMp hX1;replace hOu:=aC hOu hX1;have hml:=Mpb.lt hMp;replace hBz:=hBz.bel hX1;replace hD10:=hD10.bel hX1
      by_cases hz:s=0
      ·have hS0:Hid (sm l.length (fun j=>if F (j:Int)=true then sr l j else 0)=0):=by show _=_;rw [← HSS.out];exact hz
       have HPU:Hid (Pur l.length (rmh l) (sr l) M P left):=HQ.out.done0 HOK.out.holds hS0.out;have LB0:szR left 26018:=hlfz;have LB1:szR s 8009:=hsz;go_upto_region 17 with fail;refine jq 6 ?_;refine ja hD6 Tryz.underlying23 (by rfl) aB ?_;refine ja hD10 Tryz.underlying23 (by rfl) aB ?_;refine jc (.tuple #[rz,vI 1]) (fun X hX hF=>qVr (rN left) (rP left) (rD left) (rN s) (rP s) (rD s) (bH left) (bH s) X (tzR LB0 (by omega)) (tzR LB1 (by omega)) hz) ?_;refine bY (.tuple #[rz,vI 1]) (rz) (vI 1) ?_;refine cC hb hB0 hB1 hB2 hD5 hD6 fun X2 hX2 hb hB0 hB1 hB2 hD5 hD6=>?_;replace hMp:=(Mpb.lasts _ _) _ _ _ hMp hX2;replace hOu:=aC hOu hX2;have hml:=Mpb.lt hMp;replace hBz:=hBz.bel hX2;replace hD10:=hD10.bel hX2;go_upto_region 18 with (refine osn 23 13 81 #[.bool false,.string ⟨#[]⟩,.string ⟨#[]⟩] aB ?_);obtain ⟨Y2,hY9,hD13,hS9⟩:=aZ X2 23 [.bool false,.string ⟨#[]⟩,.string ⟨#[]⟩];rw [← hY9];clear hY9;have hgs13:=hb.size;have hlt13x0:=hB0.lt;have hlt13x1:=hB1.lt;have hlt13x2:=hB2.lt;have hlt13x3:=hD5.lt;have hlt13x4:=hD6.lt;have hlt13x5:=hBz.lt;have hlt13x6:=hD10.lt;replace hOu:=aC hOu hS9;have hml:=Mpb.lt hMp;obtain ⟨hB0,hB1,hB2,hD5,hD6⟩:=bl5 hS9 hB0 hB1 hB2 hD5 hD6;have hBz:=hBz.bel hS9;have hD10:=hD10.bel hS9;have hMp:=(Mpb.lasts _ _) _ _ _ hMp hS9;have hb:=aG hb hS9;clear hS9;generalize X2.heap.size=g13 at *;refine jp ?_;refine jm (vI 1) ?_
       refine jv (.bool true) (bE _ _ _ _ (by rfl) .i64 1 0 (by rfl) (by rfl) true (by rw [decide_eq_false (by omega)];rfl)) ?_;refine cC hb hB0 hB1 hB2 hD5 hD6 fun X3 hX3 hb hB0 hB1 hB2 hD5 hD6=>?_;replace hMp:=(Mpb.lasts _ _) _ _ _ hMp hX3;replace hOu:=aC hOu hX3;have hml:=Mpb.lt hMp;replace hBz:=hBz.bel hX3;obtain ⟨hD10,hD13⟩:=bl2 hX3 hD10 hD13
       have HPT:Hid (∀ j,j<l.length→P j=pou l (gn p l a) j):=fun j hj=>by
        have h9:=HPU.out;rw [HM.out] at h9;exact oT HOK.out.holds h9 j hj
       have hptz:Hid (∀ j,j<l.length→szR (P j) 36030):=fun j hj=>HPU.out.sz HOK.out.holds (by rw [HLN.out];exact hn9) (B:=1000) (C:=10000) (fun j _=>hs.out.rm (by decide) j) (fun j _=>hs.out.sr (by decide) j) hMz (by decide) hj
       go_upto_region 38 with fail;refine t38 p l n c5 gz g5 g6 A5 P r0 left w X3 HLN.out hn9 HOK.out hs.out hr0 hlfz (fun j hj=>hptz.out j (by rw [HLN.out];exact hj)) (by omega) (by omega) (by omega) hne5 (by omega) hB2 hD5 hD6 hBz hOu hb _ _ _ _ (by assumption) (by kernel_rfl) _ _ _ _ _ _ _ _ _ _ _ _ _ _ _ _ _ _ _ _ _ _ _ _ _ _ _ _ _ _ _ _ _ _ _ _ _ _ _ _ _ _ _ _ _ _ _ _ _ _ _ _ _ _ _ _ _ _ _ _ _ _ _ _ _ _ _ _ _ _ _ _ _ _ _ _ _ _ _ _ _ _ _ _ _ _ _ _ _ _ _ _ _ _ _ _ _ _ _ _ _ _ _ _ _ _ _ _ _ _ _ _ _ _ _ _ _ _ _ _ _ _ _ _ _ _ _ _ _ _ _ _ _ _ _ _ _ _ _ _ _ _ _ _ _ _ _ _ _ _ _ _ _ _ _ _ _ _ _ _ _ _ _ _ _ _ _ _ _ _ _ ?_;intro r1 y22 y23 y24 y145 y146 y147 y148 y149 y150 y151 y152 y153 y154 y155 y156 y157 y158 y159 y160 y161 y162 y163 y164 y165 y166 y167 y168 y169 y170 y171 y172 y173 W9 HR8 hR9 hOu hBz hb
       have HR1:Hid (r1=(fiD p l a).r):=by
        show r1=a-sm l.length (pou l (gn p l a))
        rw [← cP HPT.out,HR8,HR0.out];have h9:=HPU.out.sum
        grind
       clear HR8;refine aX rfl rfl (by rfl) Tryz.underlying41 rfl hR9 aM ⟨_,rfl,⟨.slice A5 n c5,.slice (some ⟨gz,0,none⟩) n n,by rw [HR1.out];rfl,?_,?_⟩,hb⟩
       ·show World.ownsRow _ _ _ _ _ (stc l _).length (fl hoc (stc l _))
        rw [dP,HLN.out,← kX (l:=l) (fun j hj=>congrArg (ct l j+·) (HPT.out j hj)),← oG,HLN.out];exact bI hOu (by omega)
       ·show World.ownsRow _ _ _ _ _ (ptl l.length _).length (fl rc (ptl l.length _))
        rw [bX,← eV HPT.out,HLN.out];exact qQ hBz (by rw [iZ,bX]) (by unfold maxLen;omega) (by omega)
      ·obtain ⟨bq,bq9⟩:∃ b,left / s=b:=⟨_,rfl⟩
       have HBQ:=Lib.hid bq9
       have hbqz:szR bq 34027:=by rw [← bq9];exact lR hlfz hsz
       clear bq9
       have hS0:Hid (sm l.length (fun j=>if F (j:Int)=true then sr l j else 0)≠0):=by show _≠_;rw [← HSS.out];exact hz
       have HBY:Hid (lv0≤bq∧bq * sm l.length (fun j=>if F (j:Int)=true then sr l j else 0)=left):=by
        have h9:=HQ.out.by_ HOK.out.holds hS0.out;rw [← HSS.out,HBQ.out] at h9;rw [← HSS.out];exact h9
       have LB0:szR left 26018:=hlfz;have LB1:szR s 8009:=hsz;go_upto_region 17 with fail;refine jq 6 ?_;refine ja hD6 Tryz.underlying23 (by rfl) aB ?_;refine ja hD10 Tryz.underlying23 (by rfl) aB ?_;refine jc (.tuple #[rt (rN bq) (rP bq) (rD bq),vI 0]) (fun X hX hF=>mo (divG (rN left) (rP left) (rD left) (rN s) (rP s) (rD s) (bH left) (bH s) X (tzR LB0 (by omega)) (tzR LB1 (by omega)) hz) (by rw [HBQ.out])) ?_;refine bY (.tuple #[rt (rN bq) (rP bq) (rD bq),vI 0]) (rt (rN bq) (rP bq) (rD bq)) (vI 0) ?_;refine cC hb hB0 hB1 hB2 hD5 hD6 fun X2 hX2 hb hB0 hB1 hB2 hD5 hD6=>?_;replace hMp:=(Mpb.lasts _ _) _ _ _ hMp hX2;replace hOu:=aC hOu hX2;have hml:=Mpb.lt hMp;replace hBz:=hBz.bel hX2;replace hD10:=hD10.bel hX2;go_upto_region 18 with (refine osn 23 13 81 #[.bool (rN bq),vS (rP bq),vS (rD bq)] aB ?_);obtain ⟨Y2,hY9,hD13,hS9⟩:=aZ X2 23 [.bool (rN bq),vS (rP bq),vS (rD bq)];rw [← hY9];clear hY9;have hgs13:=hb.size;have hlt13x0:=hB0.lt;have hlt13x1:=hB1.lt;have hlt13x2:=hB2.lt;have hlt13x3:=hD5.lt;have hlt13x4:=hD6.lt;have hlt13x5:=hBz.lt;have hlt13x6:=hD10.lt;replace hOu:=aC hOu hS9;have hml:=Mpb.lt hMp;obtain ⟨hB0,hB1,hB2,hD5,hD6⟩:=bl5 hS9 hB0 hB1 hB2 hD5 hD6;have hBz:=hBz.bel hS9;have hD10:=hD10.bel hS9;have hMp:=(Mpb.lasts _ _) _ _ _ hMp hS9;have hb:=aG hb hS9;clear hS9;generalize X2.heap.size=g13 at *
       refine jp ?_;refine jm (vI 0) ?_;refine jv (.bool false) (bE _ _ _ _ (by rfl) .i64 0 0 (by rfl) (by rfl) false (by rw [decide_eq_true (by omega)];rfl)) ?_;refine cC hb hB0 hB1 hB2 hD5 hD6 fun X3 hX3 hb hB0 hB1 hB2 hD5 hD6=>?_;replace hMp:=(Mpb.lasts _ _) _ _ _ hMp hX3;replace hOu:=aC hOu hX3;have hml:=Mpb.lt hMp;replace hBz:=hBz.bel hX3;obtain ⟨hD10,hD13⟩:=bl2 hX3 hD10 hD13;go_upto_region 19 with fail;refine jp ?_;refine jm (.bool false) ?_;refine cC hb hB0 hB1 hB2 hD5 hD6 fun X4 hX4 hb hB0 hB1 hB2 hD5 hD6=>?_;replace hMp:=(Mpb.lasts _ _) _ _ _ hMp hX4;replace hOu:=aC hOu hX4;have hml:=Mpb.lt hMp;replace hBz:=hBz.bel hX4;obtain ⟨hD10,hD13⟩:=bl2 hX4 hD10 hD13;go_upto_region 20 with fail;refine jq 1 ?_;refine ja hD6 Tryz.underlying23 (by rfl) aB ?_;refine cC hb hB0 hB1 hB2 hD5 hD6 fun X5 hX5 hb hB0 hB1 hB2 hD5 hD6=>?_;replace hMp:=(Mpb.lasts _ _) _ _ _ hMp hX5;replace hOu:=aC hOu hX5;have hml:=Mpb.lt hMp;replace hBz:=hBz.bel hX5;obtain ⟨hD10,hD13⟩:=bl2 hX5 hD10 hD13;go_upto_region 21 with (refine osn 23 16 85 #[.bool (rN left),vS (rP left),vS (rD left)] aB ?_);obtain ⟨Y5,hY9,hD16,hS9⟩:=aZ X5 23 [.bool (rN left),vS (rP left),vS (rD left)];rw [← hY9];clear hY9;have hgs16:=hb.size;have hlt16x0:=hB0.lt;have hlt16x1:=hB1.lt;have hlt16x2:=hB2.lt;have hlt16x3:=hD5.lt;have hlt16x4:=hD6.lt;have hlt16x5:=hBz.lt
       have hlt16x6:=hD10.lt;have hlt16x7:=hD13.lt;replace hOu:=aC hOu hS9;have hml:=Mpb.lt hMp;obtain ⟨hB0,hB1,hB2,hD5,hD6⟩:=bl5 hS9 hB0 hB1 hB2 hD5 hD6;have hBz:=hBz.bel hS9;obtain ⟨hD10,hD13⟩:=bl2 hS9 hD10 hD13;have hMp:=(Mpb.lasts _ _) _ _ _ hMp hS9;have hb:=aG hb hS9;clear hS9;generalize X5.heap.size=g16 at *;refine jp ?_;refine jnf hB0 3 aR ?_;refine jv (vI n) (aJ Tryz.underlying24 _ (by rfl) A n cp (by rfl) _ rfl) ?_;refine jm (vI 0) ?_;refine cC hb hB0 hB1 hB2 hD5 hD6 fun X6 hX6 hb hB0 hB1 hB2 hD5 hD6=>?_;replace hMp:=(Mpb.lasts _ _) _ _ _ hMp hX6;replace hOu:=aC hOu hX6;have hml:=Mpb.lt hMp;replace hBz:=hBz.bel hX6;obtain ⟨hD10,hD13,hD16⟩:=bl3 hX6 hD10 hD13 hD16;clear hD10
       go_wp2
       go_loopw [15,89] (fun fv kv w4=>∃ (k N':Nat) (F':Int→Bool) (P':Nat→Rat) (rest:Rat) (full:Bool),k≤n∧fv=.bool full∧kv=vI k∧Hid (Hit4 l F P left bq k F' P' rest full)∧N'+cno (fun j=>F' (j:Int)) n≤16∧Blk w4 g16 23 [.bool (rN rest),vS (rP rest),vS (rD rest)]∧Blk w4 g13 23 [.bool (rN bq),vS (rP bq),vS (rD bq)]∧Blk w4 w.heap.size 26 [.bool p.1,vS p.2.1,vS p.2.2,.slice A n cp]∧Blk w4 (w.heap.size+1) 23 [.bool (rN a),vS (rP a),vS (rD a)]∧Blk w4 (w.heap.size+2) 41 [.bool false,.string ⟨#[]⟩,.string ⟨#[]⟩,.slice none 0 0,.slice none 0 0,.bool false,.string ⟨#[]⟩,.string ⟨#[]⟩]∧Blk w4 g5 41 [.bool p.1,vS p.2.1,vS p.2.2,.slice A5 n c5,.slice (some ⟨gz,0,none⟩) n n,.bool (rN r0),vS (rP r0),vS (rD r0)]∧Blk w4 g6 23 [.bool (rN left),vS (rP left),vS (rD left)]∧Blk w4 gz 23 (fl rc (ptl n P'))∧w4.ownsRow (w.heap.size+3) 66 9 (.slice A5 n c5) n (fl hoc l)∧Mpb N' F' (.map (some mp)) w4∧Below w.heap.size w w4) (fun _ kv _=>n-(intOf kv).toNat)
       case atStart=>exact ⟨0,N,F,P,left,false,by omega,rfl,rfl,Hit4.start,hN,hD16,hD13,hB0,hB1,hB2,hD5,hD6,hBz,hOu,hMp,hb⟩
       case round =>
        clear hB0 hB1 hB2 hD5 hD6 hBz hOu hMp hb hD16 hD13;obtain ⟨k,N',F',P',rest,full,hk,rfl,rfl,H4,hN2,hD16,hD13,hB0,hB1,hB2,hD5,hD6,hBz,hOu,hMp,hb⟩:=hrel;have hrz:szR rest 42036:=H4.out.sz hs.out hlfz (by omega)
        rcases Nat.lt_or_ge k n with hlt|hlt
        ·obtain ⟨b,off,rfl,hbb,hcx⟩:=iR (HRX.out _ hb) HLN.out hlt
         rw [HOK.out.ho_tr (by rw [HLN.out];exact hlt)] at hcx
         change Cl wr b (off+k * 9) [.bool (rN (ct l k)),vS (rP (ct l k)),vS (rD (ct l k)),.bool (rN (mx l k)),vS (rP (mx l k)),vS (rD (mx l k)),.bool (rN (sr l k)),vS (rP (sr l k)),vS (rD (sr l k))] at hcx
         have hwf:=oE (show k≤1000 by omega);obtain ⟨fb,fb9⟩:∃ b,F' (k:Int)=b:=⟨_,rfl⟩;have HFB:=Lib.hid fb9
         have HFK:Hid (F (k:Int)=fb):=by show _=_;rw [← H4.out.at];exact fb9
         clear fb9;have LB0:szR (mx l k) 1000:=hs.out.mx (by decide) k;have LB1:szR (ct l k) 1000:=hs.out.ct (by decide) k;have LB2:szR bq 34027:=hbqz;have LB3:szR (sr l k) 1000:=hs.out.sr (by decide) k;have LB4:szR ((mx l k)-(ct l k)) 2001:=cX LB0 LB1;have LB5:szR (bq * (sr l k)) 35027:=gX LB2 LB3;have LB6:szR rest 42036:=hrz;go_upto_region 22 with fail;refine jp ?_;refine fC (k:Int) (n:Int) (by omega) ?_;refine cC hb hB0 hB1 hB2 hD5 hD6 fun X1 hX1 hb hB0 hB1 hB2 hD5 hD6=>?_;replace hMp:=(Mpb.lasts _ _) _ _ _ hMp hX1;replace hOu:=aC hOu hX1;have hml:=Mpb.lt hMp;replace hBz:=hBz.bel hX1;obtain ⟨hD16,hD13⟩:=bl2 hX1 hD16 hD13;have hcx:=hcx.below hX1 hbb;replace hbb:=Nat.lt_of_lt_of_le hbb (hX1).size;go_upto_region 23 with fail;refine jq 3 ?_;refine jm (vI k) ?_;refine jv (vP b (off+k * 9)) (aY Tryz.underlying24 bF _ _ (by rfl) b (off) n cp k (by omega) (by rfl) (by rfl) rfl) ?_;refine jg (.agg #[.bool (rN (ct l k)),st (rP (ct l k)),st (rD (ct l k)),.bool (rN (mx l k)),st (rP (mx l k)),st (rD (mx l k)),.bool (rN (sr l k)),st (rP (sr l k)),st (rD (sr l k))]) (fun X hX hF=>bM 66 _ (by rfl) b (off+k * 9) (by rfl) Tryz.underlying66 rfl [.bool (rN (ct l k)),vS (rP (ct l k)),vS (rD (ct l k)),.bool (rN (mx l k)),vS (rP (mx l k)),vS (rD (mx l k)),.bool (rN (sr l k)),vS (rP (sr l k)),vS (rD (sr l k))] X (Cl.part (hcx.below hX hbb) 0 _ (by rfl)) bF) ?_
         refine cC hb hB0 hB1 hB2 hD5 hD6 fun X2 hX2 hb hB0 hB1 hB2 hD5 hD6=>?_;replace hMp:=(Mpb.lasts _ _) _ _ _ hMp hX2;replace hOu:=aC hOu hX2;have hml:=Mpb.lt hMp;replace hBz:=hBz.bel hX2;obtain ⟨hD16,hD13⟩:=bl2 hX2 hD16 hD13;have hcx:=hcx.below hX2 hbb;replace hbb:=Nat.lt_of_lt_of_le hbb (hX2).size;go_upto_region 24 with (refine osn 66 18 93 #[.bool (rN (ct l k)),vS (rP (ct l k)),vS (rD (ct l k)),.bool (rN (mx l k)),vS (rP (mx l k)),vS (rD (mx l k)),.bool (rN (sr l k)),vS (rP (sr l k)),vS (rD (sr l k))] bF ?_);obtain ⟨Y2,hY9,hD18,hS9⟩:=aZ X2 66 [.bool (rN (ct l k)),vS (rP (ct l k)),vS (rD (ct l k)),.bool (rN (mx l k)),vS (rP (mx l k)),vS (rD (mx l k)),.bool (rN (sr l k)),vS (rP (sr l k)),vS (rD (sr l k))];rw [← hY9];clear hY9;have hgs18:=hb.size;have hlt18x0:=hB0.lt;have hlt18x1:=hB1.lt;have hlt18x2:=hB2.lt;have hlt18x3:=hD5.lt;have hlt18x4:=hD6.lt;have hlt18x5:=hBz.lt;have hlt18x6:=hD16.lt;have hlt18x7:=hD13.lt;replace hOu:=aC hOu hS9;have hml:=Mpb.lt hMp;have hcx:=hcx.below hS9 hbb;replace hbb:=Nat.lt_of_lt_of_le hbb (hS9).size;obtain ⟨hB0,hB1,hB2,hD5,hD6⟩:=bl5 hS9 hB0 hB1 hB2 hD5 hD6;have hBz:=hBz.bel hS9;obtain ⟨hD16,hD13⟩:=bl2 hS9 hD16 hD13;have hMp:=(Mpb.lasts _ _) _ _ _ hMp hS9;have hb:=aG hb hS9
         clear hS9;generalize X2.heap.size=g18 at *;refine jq 5 ?_;refine jn (vP g18 3) ?_;refine jg (rt (rN (mx l k)) (rP (mx l k)) (rD (mx l k))) (fun X hX hF=>aK 23 _ (by rfl) g18 3 [.bool (rN (mx l k)),vS (rP (mx l k)),vS (rD (mx l k))] (by rfl) Tryz.underlying23 rfl X (hD18.bel hX) (by rfl) aB) ?_;refine jn (vP g18 0) ?_;refine jg (rt (rN (ct l k)) (rP (ct l k)) (rD (ct l k))) (fun X hX hF=>aK 23 _ (by rfl) g18 0 [.bool (rN (ct l k)),vS (rP (ct l k)),vS (rD (ct l k))] (by rfl) Tryz.underlying23 rfl X (hD18.bel hX) (by rfl) aB) ?_;refine jc (rt (rN ((mx l k)-(ct l k))) (rP ((mx l k)-(ct l k))) (rD ((mx l k)-(ct l k)))) (fun X hX hF=>oM (rN (mx l k)) (rP (mx l k)) (rD (mx l k)) (rN (ct l k)) (rP (ct l k)) (rD (ct l k)) (bH (mx l k)) (bH (ct l k)) X (tzR LB0 (by omega)) (tzR LB1 (by omega))) ?_;refine cC hb hB0 hB1 hB2 hD5 hD6 fun X3 hX3 hb hB0 hB1 hB2 hD5 hD6=>?_;replace hMp:=(Mpb.lasts _ _) _ _ _ hMp hX3;replace hOu:=aC hOu hX3;have hml:=Mpb.lt hMp;replace hBz:=hBz.bel hX3;obtain ⟨hD16,hD13,hD18⟩:=bl3 hX3 hD16 hD13 hD18;go_upto_region 25 with (refine osn 23 19 98 #[.bool (rN ((mx l k)-(ct l k))),.string ⟨(rP ((mx l k)-(ct l k))).toArray⟩,.string ⟨(rD ((mx l k)-(ct l k))).toArray⟩] aB ?_);obtain ⟨Y3,hY9,hD19,hS9⟩:=aZ X3 23 [.bool (rN ((mx l k)-(ct l k))),.string ⟨(rP ((mx l k)-(ct l k))).toArray⟩,.string ⟨(rD ((mx l k)-(ct l k))).toArray⟩]
         rw [← hY9];clear hY9;have hgs19:=hb.size;have hlt19x0:=hB0.lt;have hlt19x1:=hB1.lt;have hlt19x2:=hB2.lt;have hlt19x3:=hD5.lt;have hlt19x4:=hD6.lt;have hlt19x5:=hBz.lt;have hlt19x6:=hD16.lt;have hlt19x7:=hD13.lt;have hlt19x8:=hD18.lt;replace hOu:=aC hOu hS9;have hml:=Mpb.lt hMp;obtain ⟨hB0,hB1,hB2,hD5,hD6⟩:=bl5 hS9 hB0 hB1 hB2 hD5 hD6;have hBz:=hBz.bel hS9;obtain ⟨hD16,hD13,hD18⟩:=bl3 hS9 hD16 hD13 hD18;have hMp:=(Mpb.lasts _ _) _ _ _ hMp hS9;have hb:=aG hb hS9;clear hS9;generalize X3.heap.size=g19 at *
         rcases fb with _|_
         ·have H42:Hid (Hit4 l F P left bq (k+1) F' P' rest full):=H4.out.skip (by
           rcases h9:hit l F bq k with _|_
           ·rfl
           ·exact absurd (hit_t.1 h9).1 (by rw [HFK.out];decide))
          have hN3:=hN2;refine jd ?_;refine jmm (.map (some mp)) (vI k) ?_;refine jg (.bool false) (fun X hX hF=>by simpa only [HFB.out] using fV _ _ (by rfl) (by rfl) (by rfl) hwf X ((Mpb.lasts _ _) _ _ _ hMp hX)) ?_;refine jm (.bool false) ?_;refine hI ?_;refine jss ?_;refine js ?_;refine jm (.bool false) ?_;refine cC hb hB0 hB1 hB2 hD5 hD6 fun X4 hX4 hb hB0 hB1 hB2 hD5 hD6=>?_;replace hMp:=(Mpb.lasts _ _) _ _ _ hMp hX4;replace hOu:=aC hOu hX4;have hml:=Mpb.lt hMp;replace hBz:=hBz.bel hX4;obtain ⟨hD16,hD13,hD18,hD19⟩:=bl4 hX4 hD16 hD13 hD18 hD19;go_upto_region 28 with fail;refine jp ?_;refine jv (vI ((k+1:Nat):Int)) (bB _ _ _ _ (by rfl) (k:Int) 1 ((k+1:Nat):Int) (by rfl) (by rfl) (by omega) (by omega) (by omega)) ?_;refine jm (vI ((k+1:Nat):Int)) ?_;refine cC hb hB0 hB1 hB2 hD5 hD6 fun X5 hX5 hb hB0 hB1 hB2 hD5 hD6=>?_;replace hMp:=(Mpb.lasts _ _) _ _ _ hMp hX5;replace hOu:=aC hOu hX5;have hml:=Mpb.lt hMp;replace hBz:=hBz.bel hX5;obtain ⟨hD16,hD13,hD18,hD19⟩:=bl4 hX5 hD16 hD13 hD18 hD19
          go_wp2
          go_roundw
          case rel=>exact ⟨k+1,N',F',P',rest,full,by omega,rfl,rfl,H42,hN3,hD16,hD13,hB0,hB1,hB2,hD5,hD6,hBz,hOu,hMp,hb⟩
          case measure=>simp [intOf];omega
         ·by_cases h9:mx l k-ct l k≤bq * sr l k
          ·have hht:hit l F bq k=true:=hit_t.2 ⟨HFK.out,h9⟩
           have H42:=Lib.hid (H4.out.take hht)
           have hN3:N'+1+cno (fun j=>(fun j=>if j=(k:Int) then false else F' j) (j:Int)) n≤16:=by
            have:=H4.out.cn hht hlt
            omega
           have hc:=cmpR_le.2 h9;refine jd ?_;refine jmm (.map (some mp)) (vI k) ?_;refine jg (.bool true) (fun X hX hF=>by simpa only [HFB.out] using fV _ _ (by rfl) (by rfl) (by rfl) hwf X ((Mpb.lasts _ _) _ _ _ hMp hX)) ?_;refine jm (.bool true) ?_;refine ja hD19 Tryz.underlying23 (by rfl) aB ?_;refine ja hD13 Tryz.underlying23 (by rfl) aB ?_;refine jn (vP g18 6) ?_;refine jg (rt (rN (sr l k)) (rP (sr l k)) (rD (sr l k))) (fun X hX hF=>aK 23 _ (by rfl) g18 6 [.bool (rN (sr l k)),vS (rP (sr l k)),vS (rD (sr l k))] (by rfl) Tryz.underlying23 rfl X (hD18.bel hX) (by rfl) aB) ?_;refine jc (rt (rN (bq * (sr l k))) (rP (bq * (sr l k))) (rD (bq * (sr l k)))) (fun X hX hF=>uX (rN bq) (rP bq) (rD bq) (rN (sr l k)) (rP (sr l k)) (rD (sr l k)) (bH bq) (bH (sr l k)) X (tzR LB2 (by omega)) (tzR LB3 (by omega))) ?_;refine jc (vI (cA ((mx l k)-(ct l k)) (bq * (sr l k)))) (fun X hX hF=>iE (rN ((mx l k)-(ct l k))) (rP ((mx l k)-(ct l k))) (rD ((mx l k)-(ct l k))) (rN (bq * (sr l k))) (rP (bq * (sr l k))) (rD (bq * (sr l k))) (bH ((mx l k)-(ct l k))) (bH (bq * (sr l k))) X (tzR LB4 (by omega)) (tzR LB5 (by omega))) ?_;refine vF (cA ((mx l k)-(ct l k)) (bq * (sr l k))) 0 (by omega) ?_;refine jm (.bool true) ?_;refine cC hb hB0 hB1 hB2 hD5 hD6 fun X4 hX4 hb hB0 hB1 hB2 hD5 hD6=>?_;replace hMp:=(Mpb.lasts _ _) _ _ _ hMp hX4;replace hOu:=aC hOu hX4
           have hml:=Mpb.lt hMp;replace hBz:=hBz.bel hX4;obtain ⟨hD16,hD13,hD18,hD19⟩:=bl4 hX4 hD16 hD13 hD18 hD19;go_upto_region 26 with fail;refine xG 2 [] (by kernel_rfl) (by kernel_rfl) (by kernel_rfl) (aF) ?_;simp only [its,List.length_cons,List.length_nil,Nat.zero_add,Nat.reduceAdd,Nat.reduceSub,List.take_succ_cons,List.take_zero,List.drop_succ_cons,List.drop_zero];refine jnf hD5 4 bA ?_;refine jm (vI k) ?_;refine ja hD19 Tryz.underlying23 (by rfl) aB ?_;refine ja hD16 Tryz.underlying23 (by rfl) aB ?_;refine ja hD19 Tryz.underlying23 (by rfl) aB ?_;refine jc (.agg #[.bool (rN (rest-((mx l k)-(ct l k)))),st (rP (rest-((mx l k)-(ct l k)))),st (rD (rest-((mx l k)-(ct l k))))]) (fun X hX hF=>oM (rN rest) (rP rest) (rD rest) (rN ((mx l k)-(ct l k))) (rP ((mx l k)-(ct l k))) (rD ((mx l k)-(ct l k))) (bH rest) (bH ((mx l k)-(ct l k))) X (tzR LB6 (by omega)) (tzR LB4 (by omega))) ?_;refine jv (vP gz (0+k * 3)) (aY Tryz.underlying27 aB _ _ (by rfl) gz (0) n n k (by omega) (by rfl) (by rfl) rfl) ?_;refine cC hb hB0 hB1 hB2 hD5 hD6 fun X5 hX5 hb hB0 hB1 hB2 hD5 hD6=>?_;replace hMp:=(Mpb.lasts _ _) _ _ _ hMp hX5;replace hOu:=aC hOu hX5;have hml:=Mpb.lt hMp;replace hBz:=hBz.bel hX5;obtain ⟨hD16,hD13,hD18,hD19⟩:=bl4 hX5 hD16 hD13 hD18 hD19;refine lL rfl (.tmp 118) (.tmp 114) rfl gz (ptl n P') hBz k (by rw [bX];omega) rfl ((mx l k)-(ct l k)) rfl ?_
           intro w26 hR9 hG9;rw [oS P' (fun j=>if j=k then rmh l k else P' j) ((mx l k)-(ct l k)) (by omega) (fun j _=>rfl)] at hR9;have hb:=aN hG9 hb hb.size (by omega);have hB0:=aE hG9 hB0 (by omega);have hB1:=aE hG9 hB1 (by omega);have hB2:=aE hG9 hB2 (by omega);have hD5:=aE hG9 hD5 (by omega);have hD6:=aE hG9 hD6 (by omega);have hD16:=aE hG9 hD16 (by omega);have hD13:=aE hG9 hD13 (by omega);have hD18:=aE hG9 hD18 (by omega);have hD19:=aE hG9 hD19 (by omega);have hOu:=aO hOu hG9 (fun g h h9=>bG hOu hBz rfl (h9.trans h.symm));have hMp:=Mpb.grown hMp hG9 (fun h9=>by injection h9 with h9;omega);have hBz:=hR9;clear hR9 hG9;refine aS rfl 23 (.tmp 16) (.tmp 117) rfl g16 23 _ hD16 rfl [.bool (rN (rest-((mx l k)-(ct l k)))),.string ⟨(rP (rest-((mx l k)-(ct l k)))).toArray⟩,.string ⟨(rD (rest-((mx l k)-(ct l k)))).toArray⟩] rfl (by rfl) (al3 rfl rfl rfl) aB ?_;intro w26s hR9 hG9;have hb:=aN hG9 hb hb.size (by omega);have hB0:=aE hG9 hB0 (by omega);have hB1:=aE hG9 hB1 (by omega);have hB2:=aE hG9 hB2 (by omega);have hD5:=aE hG9 hD5 (by omega);have hD6:=aE hG9 hD6 (by omega);have hBz:=aE hG9 hBz (by omega);have hD13:=aE hG9 hD13 (by omega);have hD18:=aE hG9 hD18 (by omega);have hD19:=aE hG9 hD19 (by omega);have hOu:=aO hOu hG9 (fun g h h9=>bG hOu hD16 rfl (h9.trans h.symm))
           have hMp:=Mpb.grown hMp hG9 (fun h9=>by injection h9 with h9;omega);have hD16:=hR9;clear hR9 hG9;refine wpList_nil ?_;go_upto_region 27 with fail;refine jq 2 ?_;refine jmm (.map (some mp)) (vI k) ?_;refine cC hb hB0 hB1 hB2 hD5 hD6 fun X6 hX6 hb hB0 hB1 hB2 hD5 hD6=>?_;replace hMp:=(Mpb.lasts _ _) _ _ _ hMp hX6;replace hOu:=aC hOu hX6;have hml:=Mpb.lt hMp;replace hBz:=hBz.bel hX6;obtain ⟨hD16,hD13,hD18,hD19⟩:=bl4 hX6 hD16 hD13 hD18 hD19;refine sI rfl (.tmp 119) (.tmp 120) _ rfl (b:=mp) (k:=(k:Int)) (y:=false) rfl rfl rfl hwf hMp (by unfold maxLen;omega) ?_;intro w27 hM2 hG9;have hb:=aN hG9 hb hb.size (by omega);have hB0:=aE hG9 hB0 (by omega);have hB1:=aE hG9 hB1 (by omega);have hB2:=aE hG9 hB2 (by omega);have hD5:=aE hG9 hD5 (by omega);have hD6:=aE hG9 hD6 (by omega);have hBz:=aE hG9 hBz (by omega);have hD16:=aE hG9 hD16 (by omega);have hD13:=aE hG9 hD13 (by omega);have hD18:=aE hG9 hD18 (by omega);have hD19:=aE hG9 hD19 (by omega);have hOu:=aO hOu hG9 (fun g h h9=>by injection h with h;have h8:=hum g h9;omega);have hMp:=hM2;clear hM2 hG9;refine sG rfl (.bool true) (by rfl) ?_;refine wpList_nil ?_;go_upto_region 28 with fail;refine jp ?_;refine jv (vI ((k+1:Nat):Int)) (bB _ _ _ _ (by rfl) (k:Int) 1 ((k+1:Nat):Int) (by rfl) (by rfl) (by omega) (by omega) (by omega)) ?_
           refine jm (vI ((k+1:Nat):Int)) ?_;refine cC hb hB0 hB1 hB2 hD5 hD6 fun X7 hX7 hb hB0 hB1 hB2 hD5 hD6=>?_;replace hMp:=(Mpb.lasts _ _) _ _ _ hMp hX7;replace hOu:=aC hOu hX7;have hml:=Mpb.lt hMp;replace hBz:=hBz.bel hX7;obtain ⟨hD16,hD13,hD18,hD19⟩:=bl4 hX7 hD16 hD13 hD18 hD19
           go_wp2
           go_roundw
           case rel=>exact ⟨k+1,N'+1,fun j=>if j=(k:Int) then false else F' j,fun j=>if j=k then rmh l k else P' j,(rest-((mx l k)-(ct l k))),true,by omega,rfl,rfl,H42,hN3,hD16,hD13,hB0,hB1,hB2,hD5,hD6,hBz,hOu,hMp,hb⟩
           case measure=>simp [intOf];omega
          ·have hc:0<cA (mx l k-ct l k) (bq * sr l k):=Int.not_le.1 fun h8=>h9 (cmpR_le.1 h8)
           have H42:Hid (Hit4 l F P left bq (k+1) F' P' rest full):=H4.out.skip (by
            rcases h9:hit l F bq k with _|_
            ·rfl
            ·exact absurd (hit_t.1 h9).2 (by assumption))
           have hN3:=hN2;refine jd ?_;refine jmm (.map (some mp)) (vI k) ?_;refine jg (.bool true) (fun X hX hF=>by simpa only [HFB.out] using fV _ _ (by rfl) (by rfl) (by rfl) hwf X ((Mpb.lasts _ _) _ _ _ hMp hX)) ?_;refine jm (.bool true) ?_;refine ja hD19 Tryz.underlying23 (by rfl) aB ?_;refine ja hD13 Tryz.underlying23 (by rfl) aB ?_;refine jn (vP g18 6) ?_;refine jg (rt (rN (sr l k)) (rP (sr l k)) (rD (sr l k))) (fun X hX hF=>aK 23 _ (by rfl) g18 6 [.bool (rN (sr l k)),vS (rP (sr l k)),vS (rD (sr l k))] (by rfl) Tryz.underlying23 rfl X (hD18.bel hX) (by rfl) aB) ?_;refine jc (rt (rN (bq * (sr l k))) (rP (bq * (sr l k))) (rD (bq * (sr l k)))) (fun X hX hF=>uX (rN bq) (rP bq) (rD bq) (rN (sr l k)) (rP (sr l k)) (rD (sr l k)) (bH bq) (bH (sr l k)) X (tzR LB2 (by omega)) (tzR LB3 (by omega))) ?_;refine jc (vI (cA ((mx l k)-(ct l k)) (bq * (sr l k)))) (fun X hX hF=>iE (rN ((mx l k)-(ct l k))) (rP ((mx l k)-(ct l k))) (rD ((mx l k)-(ct l k))) (rN (bq * (sr l k))) (rP (bq * (sr l k))) (rD (bq * (sr l k))) (bH ((mx l k)-(ct l k))) (bH (bq * (sr l k))) X (tzR LB4 (by omega)) (tzR LB5 (by omega))) ?_;refine vG (cA ((mx l k)-(ct l k)) (bq * (sr l k))) 0 (by omega) ?_;refine jm (.bool false) ?_;refine cC hb hB0 hB1 hB2 hD5 hD6 fun X4 hX4 hb hB0 hB1 hB2 hD5 hD6=>?_;replace hMp:=(Mpb.lasts _ _) _ _ _ hMp hX4;replace hOu:=aC hOu hX4
           have hml:=Mpb.lt hMp;replace hBz:=hBz.bel hX4;obtain ⟨hD16,hD13,hD18,hD19⟩:=bl4 hX4 hD16 hD13 hD18 hD19;go_upto_region 28 with fail;refine jp ?_;refine jv (vI ((k+1:Nat):Int)) (bB _ _ _ _ (by rfl) (k:Int) 1 ((k+1:Nat):Int) (by rfl) (by rfl) (by omega) (by omega) (by omega)) ?_;refine jm (vI ((k+1:Nat):Int)) ?_;refine cC hb hB0 hB1 hB2 hD5 hD6 fun X5 hX5 hb hB0 hB1 hB2 hD5 hD6=>?_;replace hMp:=(Mpb.lasts _ _) _ _ _ hMp hX5;replace hOu:=aC hOu hX5;have hml:=Mpb.lt hMp;replace hBz:=hBz.bel hX5;obtain ⟨hD16,hD13,hD18,hD19⟩:=bl4 hX5 hD16 hD13 hD18 hD19
           go_wp2
           go_roundw
           case rel=>exact ⟨k+1,N',F',P',rest,full,by omega,rfl,rfl,H42,hN3,hD16,hD13,hB0,hB1,hB2,hD5,hD6,hBz,hOu,hMp,hb⟩
           case measure=>simp [intOf];omega
        ·have hkn:k=n:=by omega
         rw [hkn] at H4;go_upto_region 22 with fail;refine jp ?_;refine fD (k:Int) (n:Int) (by omega) ?_;refine cC hb hB0 hB1 hB2 hD5 hD6 fun X1 hX1 hb hB0 hB1 hB2 hD5 hD6=>?_;replace hMp:=(Mpb.lasts _ _) _ _ _ hMp hX1;replace hOu:=aC hOu hX1;have hml:=Mpb.lt hMp;replace hBz:=hBz.bel hX1;obtain ⟨hD16,hD13⟩:=bl2 hX1 hD16 hD13;go_upto_region 29 with fail;refine jq 1 ?_;refine ja hD16 Tryz.underlying23 (by rfl) aB ?_;refine cC hb hB0 hB1 hB2 hD5 hD6 fun X2 hX2 hb hB0 hB1 hB2 hD5 hD6=>?_;replace hMp:=(Mpb.lasts _ _) _ _ _ hMp hX2;replace hOu:=aC hOu hX2;have hml:=Mpb.lt hMp;replace hBz:=hBz.bel hX2;obtain ⟨hD16,hD13⟩:=bl2 hX2 hD16 hD13;refine aS rfl 23 (.tmp 6) (.tmp 122) rfl g6 23 _ hD6 rfl [.bool (rN rest),vS (rP rest),vS (rD rest)] rfl (by rfl) (al3 rfl rfl rfl) aB ?_;intro w29s hR9 hG9;have hb:=aN hG9 hb hb.size (by omega);have hB0:=aE hG9 hB0 (by omega);have hB1:=aE hG9 hB1 (by omega);have hB2:=aE hG9 hB2 (by omega);have hD5:=aE hG9 hD5 (by omega);have hBz:=aE hG9 hBz (by omega);have hD16:=aE hG9 hD16 (by omega);have hD13:=aE hG9 hD13 (by omega);have hOu:=aO hOu hG9 (fun g h h9=>bG hOu hD6 rfl (h9.trans h.symm));have hMp:=Mpb.grown hMp hG9 (fun h9=>by injection h9 with h9;omega);have hD6:=hR9;clear hR9 hG9;refine wpList_nil ?_
         rcases full with _|_
         ·have HNO:Hid (∀ j:Nat,j<n→hit l F bq j=false):=fun j hj=>by
           rcases h9:hit l F bq j with _|_
           ·rfl
           ·exact absurd (H4.out.b.2 ⟨j,hj,h9⟩) (by decide)
          have HF5:Hid (∀ j:Nat,j<n→F' (j:Int)=F (j:Int)):=fun j hj=>by
           rw [H4.out.f j,HNO.out j hj]
           simp
          have HP5:Hid (∀ j,j<n→P' j=P j):=fun j hj=>by
           rw [H4.out.p j,HNO.out j hj]
           simp
          go_upto_region 30 with fail;refine jp ?_;refine jm (.bool false) ?_;refine cC hb hB0 hB1 hB2 hD5 hD6 fun X3 hX3 hb hB0 hB1 hB2 hD5 hD6=>?_;replace hMp:=(Mpb.lasts _ _) _ _ _ hMp hX3;replace hOu:=aC hOu hX3;have hml:=Mpb.lt hMp;replace hBz:=hBz.bel hX3;obtain ⟨hD16,hD13⟩:=bl2 hX3 hD16 hD13;go_upto_region 31 with fail;refine jp ?_;refine jnf hB0 3 aR ?_;refine jv (vI n) (aJ Tryz.underlying24 _ (by rfl) A n cp (by rfl) _ rfl) ?_;refine jm (vI 0) ?_;refine cC hb hB0 hB1 hB2 hD5 hD6 fun X4 hX4 hb hB0 hB1 hB2 hD5 hD6=>?_;replace hMp:=(Mpb.lasts _ _) _ _ _ hMp hX4;replace hOu:=aC hOu hX4;have hml:=Mpb.lt hMp;replace hBz:=hBz.bel hX4;obtain ⟨hD16,hD13⟩:=bl2 hX4 hD16 hD13;clear hD16
          have hBz:Blk X4 gz 23 (fl rc (ptl n (fun j=>if j<0∧F' (j:Int)=true then bq * sr l j else P' j))):=by
           rw [eV (g:=P') (fun j _=>if_neg (fun h9=>Nat.not_lt_zero j h9.1))];exact hBz
          go_wp2
          go_loopw [127] (fun kv w5=>∃ i:Nat,i≤n∧kv=vI i∧Blk w5 g13 23 [.bool (rN bq),vS (rP bq),vS (rD bq)]∧Blk w5 w.heap.size 26 [.bool p.1,vS p.2.1,vS p.2.2,.slice A n cp]∧Blk w5 (w.heap.size+1) 23 [.bool (rN a),vS (rP a),vS (rD a)]∧Blk w5 (w.heap.size+2) 41 [.bool false,.string ⟨#[]⟩,.string ⟨#[]⟩,.slice none 0 0,.slice none 0 0,.bool false,.string ⟨#[]⟩,.string ⟨#[]⟩]∧Blk w5 g5 41 [.bool p.1,vS p.2.1,vS p.2.2,.slice A5 n c5,.slice (some ⟨gz,0,none⟩) n n,.bool (rN r0),vS (rP r0),vS (rD r0)]∧Blk w5 g6 23 [.bool (rN rest),vS (rP rest),vS (rD rest)]∧Blk w5 gz 23 (fl rc (ptl n (fun j=>if j<i∧F' (j:Int)=true then bq * sr l j else P' j)))∧w5.ownsRow (w.heap.size+3) 66 9 (.slice A5 n c5) n (fl hoc l)∧Mpb N' F' (.map (some mp)) w5∧Below w.heap.size w w5) (fun kv _=>n-(intOf kv).toNat)
          case atStart=>exact ⟨0,by omega,rfl,hD13,hB0,hB1,hB2,hD5,hD6,hBz,hOu,hMp,hb⟩
          case round =>
           clear hB0 hB1 hB2 hD5 hD6 hBz hOu hMp hb hD13;obtain ⟨i,hi,rfl,hD13,hB0,hB1,hB2,hD5,hD6,hBz,hOu,hMp,hb⟩:=hrel
           rcases Nat.lt_or_ge i n with hlt5|hlt5
           ·obtain ⟨b,off,rfl,hbb,hcx⟩:=iR (HRX.out _ hb) HLN.out hlt5
            rw [HOK.out.ho_tr (by rw [HLN.out];exact hlt5)] at hcx
            change Cl wr b (off+i * 9) [.bool (rN (ct l i)),vS (rP (ct l i)),vS (rD (ct l i)),.bool (rN (mx l i)),vS (rP (mx l i)),vS (rD (mx l i)),.bool (rN (sr l i)),vS (rP (sr l i)),vS (rD (sr l i))] at hcx
            have hwf:=oE (show i≤1000 by omega);obtain ⟨fb,fb9⟩:∃ b,F' (i:Int)=b:=⟨_,rfl⟩;have HFB:=Lib.hid fb9;clear fb9;go_upto_region 32 with fail;refine jp ?_;refine fC (i:Int) (n:Int) (by omega) ?_;refine cC hb hB0 hB1 hB2 hD5 hD6 fun X1 hX1 hb hB0 hB1 hB2 hD5 hD6=>?_;replace hMp:=(Mpb.lasts _ _) _ _ _ hMp hX1;replace hOu:=aC hOu hX1;have hml:=Mpb.lt hMp;replace hBz:=hBz.bel hX1;replace hD13:=hD13.bel hX1;have hcx:=hcx.below hX1 hbb;replace hbb:=Nat.lt_of_lt_of_le hbb (hX1).size;go_upto_region 33 with fail;refine jq 3 ?_;refine jm (vI i) ?_;refine jv (vP b (off+i * 9)) (aY Tryz.underlying24 bF _ _ (by rfl) b (off) n cp i (by omega) (by rfl) (by rfl) rfl) ?_;refine jg (.agg #[.bool (rN (ct l i)),st (rP (ct l i)),st (rD (ct l i)),.bool (rN (mx l i)),st (rP (mx l i)),st (rD (mx l i)),.bool (rN (sr l i)),st (rP (sr l i)),st (rD (sr l i))]) (fun X hX hF=>bM 66 _ (by rfl) b (off+i * 9) (by rfl) Tryz.underlying66 rfl [.bool (rN (ct l i)),vS (rP (ct l i)),vS (rD (ct l i)),.bool (rN (mx l i)),vS (rP (mx l i)),vS (rD (mx l i)),.bool (rN (sr l i)),vS (rP (sr l i)),vS (rD (sr l i))] X (Cl.part (hcx.below hX hbb) 0 _ (by rfl)) bF) ?_;refine cC hb hB0 hB1 hB2 hD5 hD6 fun X2 hX2 hb hB0 hB1 hB2 hD5 hD6=>?_;replace hMp:=(Mpb.lasts _ _) _ _ _ hMp hX2;replace hOu:=aC hOu hX2
            have hml:=Mpb.lt hMp;replace hBz:=hBz.bel hX2;replace hD13:=hD13.bel hX2;have hcx:=hcx.below hX2 hbb;replace hbb:=Nat.lt_of_lt_of_le hbb (hX2).size;go_upto_region 34 with (refine osn 66 21 131 #[.bool (rN (ct l i)),vS (rP (ct l i)),vS (rD (ct l i)),.bool (rN (mx l i)),vS (rP (mx l i)),vS (rD (mx l i)),.bool (rN (sr l i)),vS (rP (sr l i)),vS (rD (sr l i))] bF ?_);obtain ⟨Y2,hY9,hD21,hS9⟩:=aZ X2 66 [.bool (rN (ct l i)),vS (rP (ct l i)),vS (rD (ct l i)),.bool (rN (mx l i)),vS (rP (mx l i)),vS (rD (mx l i)),.bool (rN (sr l i)),vS (rP (sr l i)),vS (rD (sr l i))];rw [← hY9];clear hY9;have hgs21:=hb.size;have hlt21x0:=hB0.lt;have hlt21x1:=hB1.lt;have hlt21x2:=hB2.lt;have hlt21x3:=hD5.lt;have hlt21x4:=hD6.lt;have hlt21x5:=hBz.lt;have hlt21x6:=hD13.lt;replace hOu:=aC hOu hS9;have hml:=Mpb.lt hMp;have hcx:=hcx.below hS9 hbb;replace hbb:=Nat.lt_of_lt_of_le hbb (hS9).size;obtain ⟨hB0,hB1,hB2,hD5,hD6⟩:=bl5 hS9 hB0 hB1 hB2 hD5 hD6;have hBz:=hBz.bel hS9;have hD13:=hD13.bel hS9;have hMp:=(Mpb.lasts _ _) _ _ _ hMp hS9;have hb:=aG hb hS9;clear hS9;generalize X2.heap.size=g21 at *
            rcases fb with _|_
            ·refine jp ?_
             refine jmm (.map (some mp)) (vI i) ?_;refine jg (.bool false) (fun X hX hF=>by simpa only [HFB.out] using fV _ _ (by rfl) (by rfl) (by rfl) hwf X ((Mpb.lasts _ _) _ _ _ hMp hX)) ?_;refine cC hb hB0 hB1 hB2 hD5 hD6 fun X3 hX3 hb hB0 hB1 hB2 hD5 hD6=>?_;replace hMp:=(Mpb.lasts _ _) _ _ _ hMp hX3;replace hOu:=aC hOu hX3;have hml:=Mpb.lt hMp;replace hBz:=hBz.bel hX3;obtain ⟨hD13,hD21⟩:=bl2 hX3 hD13 hD21
             rw [eV (g:=(fun j=>if j<(i+1)∧F' (j:Int)=true then bq * sr l j else P' j)) (fun j _=>by
              by_cases h9:j=i
              ·subst h9
               rw [if_neg (fun h8=>by rw [HFB.out] at h8;cases h8.2),if_neg (fun h8=>by rw [HFB.out] at h8;cases h8.2)]
              ·simp only [eF h9])] at hBz
             go_upto_region 36 with fail;refine jp ?_;refine jv (vI ((i+1:Nat):Int)) (bB _ _ _ _ (by rfl) (i:Int) 1 ((i+1:Nat):Int) (by rfl) (by rfl) (by omega) (by omega) (by omega)) ?_;refine jm (vI ((i+1:Nat):Int)) ?_;refine cC hb hB0 hB1 hB2 hD5 hD6 fun X4 hX4 hb hB0 hB1 hB2 hD5 hD6=>?_;replace hMp:=(Mpb.lasts _ _) _ _ _ hMp hX4;replace hOu:=aC hOu hX4;have hml:=Mpb.lt hMp;replace hBz:=hBz.bel hX4;obtain ⟨hD13,hD21⟩:=bl2 hX4 hD13 hD21
             go_wp2
             go_roundw
             case rel=>exact ⟨i+1,by omega,rfl,hD13,hB0,hB1,hB2,hD5,hD6,hBz,hOu,hMp,hb⟩
             case measure=>simp [intOf];omega
            ·refine jp ?_
             refine jmm (.map (some mp)) (vI i) ?_;refine jg (.bool true) (fun X hX hF=>by simpa only [HFB.out] using fV _ _ (by rfl) (by rfl) (by rfl) hwf X ((Mpb.lasts _ _) _ _ _ hMp hX)) ?_;refine cC hb hB0 hB1 hB2 hD5 hD6 fun X3 hX3 hb hB0 hB1 hB2 hD5 hD6=>?_;replace hMp:=(Mpb.lasts _ _) _ _ _ hMp hX3;replace hOu:=aC hOu hX3;have hml:=Mpb.lt hMp;replace hBz:=hBz.bel hX3;obtain ⟨hD13,hD21⟩:=bl2 hX3 hD13 hD21;have LB0:szR bq 34027:=hbqz;have LB1:szR (sr l i) 1000:=hs.out.sr (by decide) i;go_upto_region 35 with fail;refine aT [] (by kernel_rfl) (by kernel_rfl) (by kernel_rfl) rfl (aF) ?_;simp only [its,List.dropLast,Nat.zero_add,Nat.reduceAdd];refine jnf hD5 4 bA ?_;refine jm (vI i) ?_;refine ja hD13 Tryz.underlying23 (by rfl) aB ?_;refine jn (vP g21 6) ?_;refine jg (rt (rN (sr l i)) (rP (sr l i)) (rD (sr l i))) (fun X hX hF=>aK 23 _ (by rfl) g21 6 [.bool (rN (sr l i)),vS (rP (sr l i)),vS (rD (sr l i))] (by rfl) Tryz.underlying23 rfl X (hD21.bel hX) (by rfl) aB) ?_;refine jc (rt (rN (bq * (sr l i))) (rP (bq * (sr l i))) (rD (bq * (sr l i)))) (fun X hX hF=>uX (rN bq) (rP bq) (rD bq) (rN (sr l i)) (rP (sr l i)) (rD (sr l i)) (bH bq) (bH (sr l i)) X (tzR LB0 (by omega)) (tzR LB1 (by omega))) ?_;refine jv (vP gz (0+i * 3)) (aY Tryz.underlying27 aB _ _ (by rfl) gz (0) n n i (by omega) (by rfl) (by rfl) rfl) ?_
             refine cC hb hB0 hB1 hB2 hD5 hD6 fun X4 hX4 hb hB0 hB1 hB2 hD5 hD6=>?_;replace hMp:=(Mpb.lasts _ _) _ _ _ hMp hX4;replace hOu:=aC hOu hX4;have hml:=Mpb.lt hMp;replace hBz:=hBz.bel hX4;obtain ⟨hD13,hD21⟩:=bl2 hX4 hD13 hD21;refine lL rfl (.tmp 142) (.tmp 141) rfl gz (ptl n (fun j=>if j<i∧F' (j:Int)=true then bq * sr l j else P' j)) hBz i (by rw [bX];omega) rfl (bq * (sr l i)) rfl ?_;intro w35 hR9 hG9
             rw [oS (fun j=>if j<i∧F' (j:Int)=true then bq * sr l j else P' j) (fun j=>if j<(i+1)∧F' (j:Int)=true then bq * sr l j else P' j) (bq * (sr l i)) (by omega) (fun j _=>by
              by_cases h9:j=i
              ·subst h9
               rw [if_pos ⟨Nat.lt_succ_self j,HFB.out⟩,if_pos rfl]
              ·rw [if_neg h9]
               simp only [eF h9])] at hR9
             have hb:=aN hG9 hb hb.size (by omega);have hB0:=aE hG9 hB0 (by omega);have hB1:=aE hG9 hB1 (by omega);have hB2:=aE hG9 hB2 (by omega);have hD5:=aE hG9 hD5 (by omega);have hD6:=aE hG9 hD6 (by omega);have hD13:=aE hG9 hD13 (by omega);have hD21:=aE hG9 hD21 (by omega);have hOu:=aO hOu hG9 (fun g h h9=>bG hOu hBz rfl (h9.trans h.symm));have hMp:=Mpb.grown hMp hG9 (fun h9=>by injection h9 with h9;omega);have hBz:=hR9;clear hR9 hG9;refine wpList_nil ?_;go_upto_region 36 with fail;refine jp ?_;refine jv (vI ((i+1:Nat):Int)) (bB _ _ _ _ (by rfl) (i:Int) 1 ((i+1:Nat):Int) (by rfl) (by rfl) (by omega) (by omega) (by omega)) ?_;refine jm (vI ((i+1:Nat):Int)) ?_;refine cC hb hB0 hB1 hB2 hD5 hD6 fun X5 hX5 hb hB0 hB1 hB2 hD5 hD6=>?_;replace hMp:=(Mpb.lasts _ _) _ _ _ hMp hX5;replace hOu:=aC hOu hX5;have hml:=Mpb.lt hMp;replace hBz:=hBz.bel hX5;obtain ⟨hD13,hD21⟩:=bl2 hX5 hD13 hD21
             go_wp2
             go_roundw
             case rel=>exact ⟨i+1,by omega,rfl,hD13,hB0,hB1,hB2,hD5,hD6,hBz,hOu,hMp,hb⟩
             case measure=>simp [intOf];omega
           ·have hin5:i=n:=by omega
            rw [hin5] at hBz;obtain ⟨Pf,Pf9⟩:∃ P9:Nat→Rat,P9=(fun j=>if j<n∧F' (j:Int)=true then bq * sr l j else P' j):=⟨_,rfl⟩;rw [← Pf9] at hBz
            have HPU:Hid (Pur l.length (rmh l) (sr l) M Pf 0):=HQ.out.done1 HOK.out.holds HBY.out.1 HBY.out.2 (fun j hj h9=>by
             rw [HLN.out] at hj;refine Rat.not_le.1 fun h8=>?_;have h7:=HNO.out j hj;rw [hit_t.2 ⟨h9,h8⟩] at h7
             cases h7) (fun j hj=>by
             rw [HLN.out] at hj;rw [Pf9];simp only [hj,true_and]
             rw [HF5.out j hj,HP5.out j hj])
            clear Pf9;go_upto_region 32 with fail;refine jp ?_;refine fD (i:Int) (n:Int) (by omega) ?_;refine cC hb hB0 hB1 hB2 hD5 hD6 fun X1 hX1 hb hB0 hB1 hB2 hD5 hD6=>?_;replace hMp:=(Mpb.lasts _ _) _ _ _ hMp hX1;replace hOu:=aC hOu hX1;have hml:=Mpb.lt hMp;replace hBz:=hBz.bel hX1;replace hD13:=hD13.bel hX1;go_upto_region 37 with fail;refine jq 1 ?_;refine jn (rz) ?_;refine cC hb hB0 hB1 hB2 hD5 hD6 fun X2 hX2 hb hB0 hB1 hB2 hD5 hD6=>?_;replace hMp:=(Mpb.lasts _ _) _ _ _ hMp hX2;replace hOu:=aC hOu hX2;have hml:=Mpb.lt hMp;replace hBz:=hBz.bel hX2;replace hD13:=hD13.bel hX2;refine aS rfl 23 (.tmp 6) (.tmp 144) rfl g6 23 _ hD6 rfl [.bool false,.string ⟨#[]⟩,.string ⟨#[]⟩] rfl (by rfl) (al3 rfl rfl rfl) aB ?_;intro w37s hR9 hG9;have hb:=aN hG9 hb hb.size (by omega);have hB0:=aE hG9 hB0 (by omega);have hB1:=aE hG9 hB1 (by omega);have hB2:=aE hG9 hB2 (by omega);have hD5:=aE hG9 hD5 (by omega);have hBz:=aE hG9 hBz (by omega);have hD13:=aE hG9 hD13 (by omega);have hOu:=aO hOu hG9 (fun g h h9=>bG hOu hD6 rfl (h9.trans h.symm));have hMp:=Mpb.grown hMp hG9 (fun h9=>by injection h9 with h9;omega);have hD6:=hR9;clear hR9 hG9;refine wpList_nil ?_
            have HPT:Hid (∀ j,j<l.length→Pf j=pou l (gn p l a) j):=fun j hj=>by
             have h9:=HPU.out;rw [HM.out] at h9;exact oT HOK.out.holds h9 j hj
            have hptz:Hid (∀ j,j<l.length→szR (Pf j) 36030):=fun j hj=>HPU.out.sz HOK.out.holds (by rw [HLN.out];exact hn9) (B:=1000) (C:=10000) (fun j _=>hs.out.rm (by decide) j) (fun j _=>hs.out.sr (by decide) j) hMz (by decide) hj
            go_upto_region 38 with fail;refine t38 p l n c5 gz g5 g6 A5 Pf r0 0 w w37s HLN.out hn9 HOK.out hs.out hr0 (szR_zero.mono (by decide)) (fun j hj=>hptz.out j (by rw [HLN.out];exact hj)) (by omega) (by omega) (by omega) hne5 (by omega) hB2 hD5 hD6 hBz hOu hb _ _ _ _ (by assumption) (by kernel_rfl) _ _ _ _ _ _ _ _ _ _ _ _ _ _ _ _ _ _ _ _ _ _ _ _ _ _ _ _ _ _ _ _ _ _ _ _ _ _ _ _ _ _ _ _ _ _ _ _ _ _ _ _ _ _ _ _ _ _ _ _ _ _ _ _ _ _ _ _ _ _ _ _ _ _ _ _ _ _ _ _ _ _ _ _ _ _ _ _ _ _ _ _ _ _ _ _ _ _ _ _ _ _ _ _ _ _ _ _ _ _ _ _ _ _ _ _ _ _ _ _ _ _ _ _ _ _ _ _ _ _ _ _ _ _ _ _ _ _ _ _ _ _ _ _ _ _ _ _ _ _ _ _ _ _ _ _ _ _ _ _ _ _ _ _ _ _ _ _ _ _ _ ?_;intro r1 y22 y23 y24 y145 y146 y147 y148 y149 y150 y151 y152 y153 y154 y155 y156 y157 y158 y159 y160 y161 y162 y163 y164 y165 y166 y167 y168 y169 y170 y171 y172 y173 W9 HR8 hR9 hOu hBz hb
            have HR1:Hid (r1=(fiD p l a).r):=by
             show r1=a-sm l.length (pou l (gn p l a))
             rw [← cP HPT.out,HR8,HR0.out];have h9:=HPU.out.sum
             grind
            clear HR8;refine aX rfl rfl (by rfl) Tryz.underlying41 rfl hR9 aM ⟨_,rfl,⟨.slice A5 n c5,.slice (some ⟨gz,0,none⟩) n n,by rw [HR1.out];rfl,?_,?_⟩,hb⟩
            ·show World.ownsRow _ _ _ _ _ (stc l _).length (fl hoc (stc l _))
             rw [dP,HLN.out,← kX (l:=l) (fun j hj=>congrArg (ct l j+·) (HPT.out j hj)),← oG,HLN.out];exact bI hOu (by omega)
            ·show World.ownsRow _ _ _ _ _ (ptl l.length _).length (fl rc (ptl l.length _))
             rw [bX,← eV HPT.out,HLN.out];exact qQ hBz (by rw [iZ,bX]) (by unfold maxLen;omega) (by omega)
         ·obtain ⟨j0,hj0,hj1⟩:=H4.out.b.1 rfl
          have HQ2:Hid (Puq l.length (rmh l) (sr l) M (fun j=>F' (j:Int)) P' rest bq):=HQ.out.next HOK.out.holds HBY.out.1 HBY.out.2 (hit:=hit l F bq) (fun j _ h9=>hit_t.1 h9) (fun j hj=>by
           rw [H4.out.f j,decide_eq_true (show j<n by rw [← HLN.out];exact hj),Bool.true_and]) (fun j hj=>by
           rw [H4.out.p j]
           have h8:j<n:=by rw [← HLN.out];exact hj
           simp only [h8,true_and]) (by rw [HLN.out];exact H4.out.r)
          have HP2:Hid (∀ j,j<l.length→P' j=0∨P' j=rmh l j):=fun j hj=>by
           rw [H4.out.p j]
           split
           ·exact .inr rfl
           ·exact HP0.out j hj
          have hdec:cno (fun j=>F' (j:Int)) n<cno (fun j=>F (j:Int)) n:=tH (fun j _ h9=>by
           rw [H4.out.f j,Bool.and_eq_true] at h9
           exact h9.1) hj0 (hit_t.1 hj1).1 (by rw [H4.out.f j0,decide_eq_true hj0,hj1];simp)
          go_upto_region 30 with fail;refine jp ?_;refine jm (.bool true) ?_;refine cC hb hB0 hB1 hB2 hD5 hD6 fun X3 hX3 hb hB0 hB1 hB2 hD5 hD6=>?_;replace hMp:=(Mpb.lasts _ _) _ _ _ hMp hX3;replace hOu:=aC hOu hX3;have hml:=Mpb.lt hMp;replace hBz:=hBz.bel hX3;obtain ⟨hD16,hD13⟩:=bl2 hX3 hD16 hD13;have hME:=xC hMp (show n≤1000 by omega);rw [← hME,← HM0.out] at hdec
          go_wp2
          go_roundw
          case rel=>exact ⟨N',F',P',rest,bq,HQ2,HP2,hN2,hB0,hB1,hB2,hD5,hD6,hBz,hOu,hMp,hb⟩
          case measure=>exact hdec
end Go.Proofs.YtnfpenhldlfafaaGreatDoor
