/- Division digit by digit: what the loops keep. Clean: a numbe -/
import Derived.Laws.CopyOwn
import Derived.WalkSpells
import Derived.Lib.SliceRun
import Derived.Test.YtnfpenhldlfafaaGreatDoorMD
set_option linter.unusedSimpArgs false
set_option linter.unusedVariables false
set_option maxRecDepth 100000
set_option maxHeartbeats 1600000
namespace Go.Proofs.YtnfpenhldlfafaaGreatDoor
theorem eJ {l:List UInt32} {j:Nat} (h:j<l.length):lw (l.drop j)=(l.getD j 0).toNat+4294967296 * lw (l.drop (j+1)):=by
 rw [List.drop_eq_getElem_cons h,fH]
 simp [List.getD,h]
theorem fQ (l:List UInt32) (k:Nat):lw (l.take k)<4294967296 ^ k:=by
 have h1:=fF (l.take k);have h2:(l.take k).length≤k:=List.length_take_le _ _;exact Nat.lt_of_lt_of_le h1 (Nat.pow_le_pow_right (by omega) h2)
theorem lM (l:List UInt32) {k:Nat} (h:k≤l.length):lw l=lw (l.take k)+4294967296 ^ k * lw (l.drop k):=by
 have h1:=mT l k
 have h2:(l.take k).length=k:=by rw [List.length_take];omega
 rw [h2] at h1;exact h1
theorem top2 {l:List UInt32} {n:Nat} (hl:l.length=n) (hn:2≤n):lw l=((l.getD (n-1) 0).toNat * 4294967296+(l.getD (n-2) 0).toNat) * 4294967296 ^ (n-2)+lw (l.take (n-2)):=by
 have h1:=lM l (k:=n-2) (by omega);have h2:=eJ (l:=l) (j:=n-2) (by omega);have h3:=eJ (l:=l) (j:=n-1) (by omega);rw [show n-2+1=n-1 by omega] at h2;rw [show n-1+1=n by omega,List.drop_eq_nil_of_le (show l.length≤n by omega),fR] at h3;rw [h2,h3] at h1;rw [h1,Nat.mul_comm (4294967296 ^ (n-2)),Nat.mul_zero,Nat.add_zero,Nat.add_comm (lw _),Nat.mul_comm 4294967296,Nat.add_comm ((l.getD (n-2) 0).toNat)]
theorem top3 {S:List UInt32} {n V:Nat} (hl:n+1≤S.length) (hn:2≤n) (hV:V≤4294967296 ^ n) (hlt:lw S<V * 4294967296) :
  lw S=(((S.getD n 0).toNat * 4294967296+(S.getD (n-1) 0).toNat) * 4294967296+(S.getD (n-2) 0).toNat) * 4294967296 ^ (n-2)+lw (S.take (n-2))∧lw (S.take (n+1))=lw S:=by
 have h0:=lM S (k:=n+1) hl
 have h1:lw (S.drop (n+1))=0:=by
  rcases Nat.eq_zero_or_pos (lw (S.drop (n+1))) with h|h
  ·exact h
  ·exfalso
   have h2:4294967296 ^ (n+1)≤4294967296 ^ (n+1) * lw (S.drop (n+1)):=Nat.le_mul_of_pos_right _ h;have h3:V * 4294967296≤4294967296 ^ n * 4294967296:=Nat.mul_le_mul_right _ hV;rw [← Nat.pow_succ] at h3
   omega
 have ht:lw (S.take (n+1))=lw S:=by rw [h0,h1];omega
 refine ⟨?_,ht⟩;have a1:=lM S (k:=n-2) (by omega);have a2:=eJ (l:=S) (j:=n-2) (by omega);have a3:=eJ (l:=S) (j:=n-1) (by omega);have a4:=eJ (l:=S) (j:=n) (by omega);rw [show n-2+1=n-1 by omega] at a2;rw [show n-1+1=n by omega] at a3;rw [h1,Nat.mul_zero,Nat.add_zero] at a4;rw [a2,a3,a4] at a1;generalize (S.getD n 0).toNat=p at *;generalize (S.getD (n-1) 0).toNat=q at *;generalize (S.getD (n-2) 0).toNat=r at *;rw [a1,Nat.mul_comm (4294967296 ^ (n-2)),Nat.add_comm (lw _)]
 congr 2
 omega
theorem wZ {y n b t:Nat} (hn:n=(ld y).length) (h2:2≤n) (hb:b≤31) (ht:t=((ld y).getD (n-1) 0).toNat) (h31:2147483648≤t * 2 ^ b) (h32:t * 2 ^ b<4294967296) :
  (ld (y * 2 ^ b)).length=n∧2147483648 * 4294967296 ^ (n-1)≤y * 2 ^ b∧y * 2 ^ b<4294967296 ^ n:=by
 have hl:=dT y;have h1:=lM (ld y) (k:=n-1) (by omega);have h3:=eJ (l:=ld y) (j:=n-1) (by omega);rw [show n-1+1=n by omega,List.drop_eq_nil_of_le (show (ld y).length≤n by omega),fR,← ht,Nat.mul_zero,Nat.add_zero] at h3;rw [hl,h3] at h1;have h4:=fQ (ld y) (n-1)
 have hpow:4294967296 ^ n=4294967296 ^ (n-1) * 4294967296:=by rw [← Nat.pow_succ];congr 1;omega
 generalize lw ((ld y).take (n-1))=r at h1 h4;obtain ⟨E,hEd⟩:∃ E,E=4294967296 ^ (n-1):=⟨_,rfl⟩;rw [← hEd] at h1 h4 hpow ⊢
 have hlow:2147483648 * E≤y * 2 ^ b:=by
  have:E * t * 2 ^ b≤y * 2 ^ b:=Nat.mul_le_mul_right _ (by omega)
  have e1:E * t * 2 ^ b=t * 2 ^ b * E:=by rw [Nat.mul_assoc,Nat.mul_comm]
  have e2:2147483648 * E≤t * 2 ^ b * E:=Nat.mul_le_mul_right _ h31
  omega
 have hhigh:y * 2 ^ b<4294967296 ^ n:=by
  have hp:0<2 ^ b:=Nat.pow_pos (by omega)
  have hd:4294967296=2 ^ (32-b) * 2 ^ b:=by rw [← Nat.pow_add,show 32-b+b=32 by omega]
  have ht2:t<2 ^ (32-b):=by
   rw [hd] at h32;exact Nat.lt_of_mul_lt_mul_right h32
  have e1:(t+1) * 2 ^ b≤4294967296:=by
   rw [hd];exact Nat.mul_le_mul_right _ ht2
  have e2:y * 2 ^ b<(E * (t+1)) * 2 ^ b:=by
   refine Nat.mul_lt_mul_of_pos_right ?_ hp;rw [Nat.mul_add,Nat.mul_one]
   omega
  have e3:(E * (t+1)) * 2 ^ b=E * ((t+1) * 2 ^ b):=Nat.mul_assoc _ _ _;have e4:E * ((t+1) * 2 ^ b)≤E * 4294967296:=Nat.mul_le_mul_left _ e1;rw [hpow];exact Nat.lt_of_lt_of_le e2 (Nat.le_trans (Nat.le_of_eq e3) e4)
 refine ⟨?_,hlow,hhigh⟩;have u1:=gH hhigh
 have hE:0<2147483648:=by omega
 have u2:n-1<(ld (y * 2 ^ b)).length:=by
  refine vB ?_;rw [← hEd]
  omega
 omega
def rp (R:List UInt32) (j n m:Nat):List UInt32:=R.take j++((ld m++List.replicate (n+1-(ld m).length) 0)++R.drop (j+(n+1)))
theorem wN {R:List UInt32} {j n m:Nat} (h:j+n+1≤R.length) (hm:(ld m).length≤n+1):(rp R j n m).length=R.length:=by
 unfold rp
 simp only [List.length_append,List.length_take,List.length_drop,List.length_replicate]
 omega
theorem rp_lw {R:List UInt32} {j n m P:Nat} (h:j+n+1≤R.length) (hm:(ld m).length≤n+1) (hP:lw (R.drop j)=P) (hz:lw (R.drop (j+(n+1)))=0):lw (rp R j n m)=lw (R.take j)+4294967296 ^ j * m:=by
 unfold rp
 have e:(R.take j).length=j:=by rw [List.length_take];omega
 rw [eI,e,eI,hz,eI,dT,mA]
 simp
theorem nG {R Q:List UInt32} {V X j n g:Nat} (hR:j+n+1≤R.length) (hX:V * 4294967296 ^ (j+1) * lw (Q.drop (j+1))+lw R=X) (hP:lw (R.drop j)<V * 4294967296) (hV0:0<V) (hVn:V≤4294967296 ^ n) (hV2:(ld V).length≤n) (hz:lw (R.drop (j+(n+1)))=0)
  (hQ:j<Q.length) (hg:g=lw (R.drop j) / V) (hg2:g<4294967296) :
  V * 4294967296 ^ j * lw ((Q.set j (UInt32.ofNat g)).drop j)+lw (rp R j n (lw (R.drop j) % V))=X∧lw (rp R j n (lw (R.drop j) % V))<V * 4294967296 ^ j∧(ld (lw (R.drop j) % V)).length≤n:=by
 have hmod:lw (R.drop j) % V<V:=Nat.mod_lt _ hV0;have hml:(ld (lw (R.drop j) % V)).length≤n:=Nat.le_trans (gZ (Nat.le_of_lt hmod)) hV2;have h1:=rp_lw (m:=lw (R.drop j) % V) hR (by omega) rfl hz;have h2:=lM R (k:=j) (by omega)
 have h3:lw ((Q.set j (UInt32.ofNat g)).drop j)=g+4294967296 * lw (Q.drop (j+1)):=by
  rw [List.drop_eq_getElem_cons (by rw [List.length_set];exact hQ),fH,List.getElem_set_self,List.drop_set_of_lt (by omega),iH,Nat.mod_eq_of_lt hg2]
 have h4:=fQ R j;have h5:=Nat.mod_add_div (lw (R.drop j)) V;rw [← hg] at h5;rw [h1,h3];generalize lw (R.drop j) % V=r at *;generalize lw (R.drop j)=P at *;generalize lw (R.take j)=T at *;generalize lw (Q.drop (j+1))=q at *;rw [Nat.pow_succ] at hX;generalize 4294967296 ^ j=E at *;refine ⟨?_,?_,hml⟩
 ·rw [← hX,h2,← h5]
  have e1:V * E * (g+4294967296 * q)=V * E * g+V * E * (4294967296 * q):=Nat.mul_add _ _ _
  have e2:V * (E * 4294967296) * q=V * E * (4294967296 * q):=by rw [← Nat.mul_assoc V E,Nat.mul_assoc (V * E)]
  have e3:E * (r+V * g)=E * r+V * E * g:=by rw [Nat.mul_add,← Nat.mul_assoc,Nat.mul_comm E V]
  rw [e1,e2,e3]
  omega
 ·have e1:E * (r+1)≤E * V:=Nat.mul_le_mul_left _ hmod
  rw [Nat.mul_add,Nat.mul_comm E V] at e1
  omega
theorem nF {R Q:List UInt32} {V X j:Nat} (hR:j≤R.length) (hX:V * 4294967296 ^ (j+1) * lw (Q.drop (j+1))+lw R=X) (hP:lw (R.drop j)<V) (hQ:Q.getD j 0=0) :
  V * 4294967296 ^ j * lw (Q.drop j)+lw R=X∧lw R<V * 4294967296 ^ j:=by
 have h2:=lM R (k:=j) hR;have h4:=fQ R j
 have h3:lw (Q.drop j)=4294967296 * lw (Q.drop (j+1)):=by
  rcases Nat.lt_or_ge j Q.length with h|h
  ·rw [eJ h,hQ]
   simp
  ·rw [List.drop_eq_nil_of_le h,List.drop_eq_nil_of_le (by omega:Q.length≤j+1),fR]
 rw [h3];generalize lw (R.drop j)=P at *;generalize lw (R.take j)=T at *;generalize lw (Q.drop (j+1))=q at *;rw [Nat.pow_succ] at hX;generalize 4294967296 ^ j=E at *
 constructor
 ·rw [← hX]
  have e2:V * (E * 4294967296) * q=V * E * (4294967296 * q):=by rw [← Nat.mul_assoc V E,Nat.mul_assoc (V * E)]
  rw [e2]
 ·rw [h2]
  have e1:E * (P+1)≤E * V:=Nat.mul_le_mul_left _ hP;rw [Nat.mul_add,Nat.mul_comm E V] at e1
  omega
theorem zA {R:List UInt32} {V j:Nat} (hR:j+1≤R.length) (h:lw R<V * 4294967296 ^ (j+1)):lw (R.drop j)<V * 4294967296:=by
 have h2:=lM R (k:=j) (by omega);rw [Nat.pow_succ] at h;have hE:0<4294967296 ^ j:=Nat.pow_pos (by omega);generalize 4294967296 ^ j=E at *;generalize lw (R.drop j)=P at *
 rcases Nat.lt_or_ge P (V * 4294967296) with h'|h'
 ·exact h'
 ·exfalso
  have e1:E * (V * 4294967296)≤E * P:=Nat.mul_le_mul_left _ h'
  have e2:E * (V * 4294967296)=V * (E * 4294967296):=by rw [Nat.mul_left_comm]
  omega
theorem tK {R:List UInt32} {V j n:Nat} (hR:j+(n+1)≤R.length) (hV:V≤4294967296 ^ n) (h:lw (R.drop j)<V * 4294967296):lw (R.drop (j+(n+1)))=0:=by
 have h0:=lM (R.drop j) (k:=n+1) (by rw [List.length_drop];omega);rw [List.drop_drop] at h0
 rcases Nat.eq_zero_or_pos (lw (R.drop (j+(n+1)))) with h1|h1
 ·exact h1
 ·exfalso
  have h2:4294967296 ^ (n+1)≤4294967296 ^ (n+1) * lw (R.drop (j+(n+1))):=Nat.le_mul_of_pos_right _ h1;have h3:V * 4294967296≤4294967296 ^ n * 4294967296:=Nat.mul_le_mul_right _ hV;rw [← Nat.pow_succ] at h3
  omega
theorem qQd {x y b V X q r:Nat} (hV:V=y * 2 ^ b) (hX:X=x * 2 ^ b) (h:V * q+r=X) (hr:r<V) (hy:0<y):q=x / y∧r / 2 ^ b=x % y:=by
 have hp:0<2 ^ b:=Nat.pow_pos (by omega)
 have hq:q=X / V:=by
  rw [← h];rw [Nat.mul_add_div (by omega),Nat.div_eq_of_lt hr,Nat.add_zero]
 have hr2:r=X % V:=by
  rw [← h,Nat.mul_add_mod,Nat.mod_eq_of_lt hr]
 constructor
 ·rw [hq,hX,hV,Nat.mul_div_mul_right _ _ hp]
 ·rw [hr2,hX,hV,Nat.mul_mod_mul_right,Nat.mul_div_cancel _ hp]
open Go.RowKit
theorem zN (l:List UInt8) (k:Nat):(⟨l.toArray⟩:ByteArray).extract k l.length=⟨(l.drop k).toArray⟩:=by
 rw [xE,List.take_of_length_le (by rw [List.length_drop];omega)]
theorem vN {P:Program} {f:Operand→Value} {o:Oper} (t:TypeId) (hu:P.underlying t=some .string) (x lo:Operand) (ho:o.op=.slice t x (some lo) none none) (l:List UInt8) (k:Nat) (hx:f x=vS l) {z:Int} (hlo:f lo=vI z) (hz:z=(k:Int)) (hk:k≤l.length) (w:World) :
  (execOp f o).run P w=.ok (.value (vS (l.drop k))) w:=by
 have h:=zN l k;subst hz
 have h2:(⟨l.toArray⟩:ByteArray).size=l.length:=by simp [ByteArray.size]
 unfold execOp
 simp only [ho,hx,hlo,Option.map]
 go_simp
theorem nE (b:UInt8) (r:List UInt8):(b :: r).dropWhile (· == 0)=if b.toNat=0 then r.dropWhile (· == 0) else b :: r:=by
 by_cases h:b=0
 ·subst h;rfl
 ·have h2:¬ b.toNat=0:=fun h'=>h (UInt8.toNat_inj.1 h')
  rw [if_neg h2,List.dropWhile_cons_of_neg (by simpa using h)]
theorem uQ (l:List UInt8) (w:World) :
  Calls Tryz.prog 136 #[vS l,.int .u8 0] w fun e w'=>e=.returned (vS (l.dropWhile (· == 0)))∧w=w':=by
 go_enter Tryz.func136,Tryz.ntmps136
 go_wp2
 go_loop [0] (fun v=>∃ m:List UInt8,v=vS m∧m.dropWhile (· == 0)=l.dropWhile (· == 0)) (fun v=>match v with|.string s=>s.size|_=>0)
 case atStart=>exact ⟨l,rfl,rfl⟩
 case round =>
  obtain ⟨m,rfl,hd⟩:=hrel;have HD:=Lib.hid hd;clear hd
  cases m with
  | nil =>
   go_upto_region 1 with fail;refine aU ?_;simp only [iX,Nat.reduceAdd];refine je (st []) (by rfl) ?_;refine je (vI ([].length:Int)) (dR Tryz.underlying9 _ (by rfl) ([]:List UInt8) (by rfl) _ rfl _) ?_;refine je (.bool false) (fX _ _ _ _ (by rfl) .i64 (([]:List UInt8).length:Int) 0 (by rfl) (by rfl) false (by simp) _) ?_;refine je (.bool false) (by rfl) ?_;refine hI ?_;refine je (.bool false) (by rfl) ?_;refine aH ?_
   rintro _ rfl _
   go_wp2
   go_ret
   exact ⟨by rw [← HD.out];rfl,rfl⟩
  | cons b r =>
   have HC:=Lib.hid (nE b r)
   by_cases hb:b.toNat=0
   ·go_upto_region 1 with fail
    refine aU ?_;simp only [iX,Nat.reduceAdd];refine je (st (b :: r)) (by rfl) ?_;refine je (vI ((b :: r).length:Int)) (dR Tryz.underlying9 _ (by rfl) (b :: r) (by rfl) _ rfl _) ?_;refine je (.bool true) (fX _ _ _ _ (by rfl) .i64 ((b :: r).length:Int) 0 (by rfl) (by rfl) true (decide_eq_true (by rw [List.length_cons];omega)) _) ?_;refine je (.bool true) (by rfl) ?_;refine je (st (b :: r)) (by rfl) ?_;refine je (.int .u8 (b.toNat:Int)) (gT _ Tryz.underlying9 _ _ (by rfl) (b :: r) 0 (by rfl) (by rfl) rfl (by rw [List.length_cons];omega) _) ?_;refine je (.int .u8 0) (by rfl) ?_;refine je (.bool true) (eO _ _ _ _ (by rfl) .u8 (b.toNat:Int) 0 (by rfl) (by rfl) true (decide_eq_true (by omega)) _) ?_;refine je (.bool true) (by rfl) ?_;refine aH ?_
    rintro _ rfl _
    go_upto_region 2 with fail;refine aU ?_;simp only [iX,Nat.reduceAdd];refine je (st (b :: r)) (by rfl) ?_;refine je (st r) (vN _ Tryz.underlying9 _ _ (by rfl) (b :: r) 1 (by rfl) (by rfl) rfl (by rw [List.length_cons];omega) _) ?_;refine je (st r) (by rfl) ?_;refine aH ?_
    rintro _ rfl _
    have HR:Hid (r.dropWhile (· == 0)=l.dropWhile (· == 0)):=by
     show _=_
     rw [← HD.out,HC.out,if_pos hb]
    clear hb
    go_wp2
    go_round
    case rel=>exact ⟨r,rfl,HR.out⟩
    case measure=>simp [ByteArray.size]
   ·go_upto_region 1 with fail
    refine aU ?_;simp only [iX,Nat.reduceAdd];refine je (st (b :: r)) (by rfl) ?_;refine je (vI ((b :: r).length:Int)) (dR Tryz.underlying9 _ (by rfl) (b :: r) (by rfl) _ rfl _) ?_;refine je (.bool true) (fX _ _ _ _ (by rfl) .i64 ((b :: r).length:Int) 0 (by rfl) (by rfl) true (decide_eq_true (by rw [List.length_cons];omega)) _) ?_;refine je (.bool true) (by rfl) ?_;refine je (st (b :: r)) (by rfl) ?_;refine je (.int .u8 (b.toNat:Int)) (gT _ Tryz.underlying9 _ _ (by rfl) (b :: r) 0 (by rfl) (by rfl) rfl (by rw [List.length_cons];omega) _) ?_;refine je (.int .u8 0) (by rfl) ?_;refine je (.bool false) (eO _ _ _ _ (by rfl) .u8 (b.toNat:Int) 0 (by rfl) (by rfl) false (decide_eq_false (by omega)) _) ?_;refine je (.bool false) (by rfl) ?_;refine aH ?_
    rintro _ rfl _
    have HR:Hid (b :: r=l.dropWhile (· == 0)):=by
     show _=_
     rw [← HD.out,HC.out,if_neg hb]
    clear hb
    go_wp2
    go_ret
    exact ⟨by rw [← HR.out];rfl,rfl⟩
theorem uP (l:List UInt8) (w:World) :
  Calls Tryz.prog 133 #[vS l,.string ⟨#[0]⟩] w fun e w'=>e=.returned (vS (l.dropWhile (· == 0)))∧w=w':=by
 cases l with
 | nil =>
  go_enter Tryz.func133,Tryz.ntmps133
  go_upto_region 1 with fail;refine aU ?_;simp only [iX,Nat.reduceAdd];refine je (st []) (by rfl) ?_;refine je (.bool true) ((fun X=>(fY _ _ _ _ (by rfl) _ [] (by rfl) (by rfl) X).trans (by rfl)) _) ?_;refine je (.bool true) (by rfl) ?_;refine jss ?_;refine je (.bool true) (by rfl) ?_;refine aH ?_
  rintro _ rfl _
  go_wp2
  go_ret
  exact ⟨rfl,rfl⟩
 | cons b r =>
  go_enter Tryz.func133,Tryz.ntmps133
  go_upto_region 1 with fail;refine aU ?_;simp only [iX,Nat.reduceAdd];refine je (st (b :: r)) (by rfl) ?_;refine je (.bool false) ((fun X=>(fY _ _ _ _ (by rfl) (b :: r) [] (by rfl) (by rfl) X).trans (by rfl)) _) ?_;refine je (.bool false) (by rfl) ?_;refine je (st ([0]:List UInt8)) (by rfl) ?_;refine je (.bool false) ((fun X=>(fY _ _ _ _ (by rfl) [0] [] (by rfl) (by rfl) X).trans (by rfl)) _) ?_;refine je (.bool false) (by rfl) ?_;refine aH ?_
  rintro _ rfl _
  go_upto_region 3 with fail;refine aU ?_;simp only [iX,Nat.reduceAdd];refine je (st ([0]:List UInt8)) (by rfl) ?_;refine je (vI (([0]:List UInt8).length:Int)) (dR Tryz.underlying9 _ (by rfl) ([0]:List UInt8) (by rfl) _ rfl _) ?_;refine je (.bool true) (eO _ _ _ _ (by rfl) .i64 (([0]:List UInt8).length:Int) 1 (by rfl) (by rfl) true (by decide) _) ?_;refine je (.bool true) (by rfl) ?_;refine je (st ([0]:List UInt8)) (by rfl) ?_;refine je (.int .u8 0) (gT _ Tryz.underlying9 _ _ (by rfl) [0] 0 (by rfl) (by rfl) rfl (by decide) _) ?_;refine je (.bool true) (cU _ _ _ _ (by rfl) .u8 0 128 (by rfl) (by rfl) true (by decide) _) ?_;refine je (.bool true) (by rfl) ?_;refine aH ?_
  rintro _ rfl _
  go_upto_region 4 with fail;refine bW 3 ?_;simp only [its,List.take,List.drop,Nat.zero_add,Nat.reduceAdd];refine je (st (b :: r)) (by rfl) ?_;refine je (st ([0]:List UInt8)) (by rfl) ?_;refine je (.int .u8 0) (gT _ Tryz.underlying9 _ _ (by rfl) [0] 0 (by rfl) (by rfl) rfl (by decide) _) ?_;refine aH ?_
  rintro _ rfl _
  go_wp2_with fail
  refine (uQ (b :: r) _).mono ?_
  rintro e w1 ⟨rfl,rfl⟩
  go_wp2
  go_ret
  exact ⟨rfl,rfl⟩
theorem qZe (l:List UInt8) (w:World) :
  Calls Tryz.prog 128 #[vS l] w fun e w'=>e=.returned (vS (be (val l)))∧w=w':=by
 have H:=Lib.hid (rQ l)
 go_enter Tryz.func128,Tryz.ntmps128
 go_wp2_with fail
 refine (uP l _).mono ?_
 rintro e w1 ⟨rfl,rfl⟩
 go_wp2
 go_ret
 exact ⟨by rw [H.out];rfl,rfl⟩
theorem Blk.of_own {w:World} {base n c:Nat} {A:Option Addr} {e:TypeId} {xs:List Value} (h:w.ownsRow base e 1 (.slice A n c) n xs) (hn:0<n) :
  ∃ g tl,A=some ⟨g,0,none⟩∧base≤g∧c≤maxLen∧n≤c∧tl.length=c-n∧Blk w g e (xs++tl):=by
 obtain ⟨hl,hr⟩:=h
 rcases hr with ⟨h1,h2⟩|⟨g,cap,cur,hv,hb,hg,hnc,hm,hs,ht⟩
 ·injection h1 with _ h3 _
  omega
 ·injection hv with h1 h2 h3
  subst h1 h3;rw [Nat.mul_one] at hs ht;refine ⟨g,cur.toList.drop n,rfl,hb,hm,hnc,by rw [List.length_drop,Array.length_toList];omega,?_⟩
  unfold Blk
  rw [hg,← ht,List.take_append_drop]
theorem sF {w:World} {base g n c:Nat} {e:TypeId} {xs tl:List Value} (h:Blk w g e (xs++tl)) (hb:base≤g) (hx:xs.length=n) (htl:tl.length=c-n) (hn:n≤c) (hm:c≤maxLen):w.ownsRow base e 1 (.slice (some ⟨g,0,none⟩) n c) n xs :=
 ⟨by rw [hx,Nat.mul_one],.inr ⟨g,c,(xs++tl).toArray,rfl,hb,h,hn,hm,by simp;omega,by rw [Nat.mul_one];simp [hx]⟩⟩
def rv (xs:List UInt8) (k:Nat):List UInt8:=(List.range xs.length).map fun i=>if i<k∨xs.length≤i+k then xs.getD (xs.length-1-i) 0 else xs.getD i 0
theorem gD (xs:List UInt8) (k:Nat):(rv xs k).length=xs.length:=by simp [rv]
theorem nS (xs:List UInt8) (k:Nat) {i:Nat} (h:i<xs.length):(rv xs k)[i]'(by rw [gD];exact h)=if i<k∨xs.length≤i+k then xs.getD (xs.length-1-i) 0 else xs.getD i 0:=by simp [rv]
theorem rv_0 (xs:List UInt8):rv xs 0=xs:=by
 refine List.ext_getElem (gD _ _) fun i h1 h2=>?_;rw [nS xs 0 h2,if_neg (by omega)]
 simp [List.getD,h2]
theorem qXx (xs:List UInt8) {k:Nat} (h:xs.length≤2 * k+1):rv xs k=xs.reverse:=by
 refine List.ext_getElem (by rw [gD,List.length_reverse]) fun i h1 h2=>?_
 have h3:i<xs.length:=by rw [gD] at h1;exact h1
 rw [nS xs k h3,List.getElem_reverse]
 by_cases hc:i<k∨xs.length≤i+k
 ·rw [if_pos hc]
  have:xs.length-1-i<xs.length:=by omega
  simp [List.getD,this]
 ·rw [if_neg hc]
  have:xs.length-1-i=i:=by omega
  simp [List.getD,h3,this]
theorem zJ (xs:List UInt8) {k:Nat} (h:2 * k+1<xs.length):((rv xs k).set k (xs.getD (xs.length-1-k) 0)).set (xs.length-1-k) (xs.getD k 0)=rv xs (k+1)∧((rv xs k).set (xs.length-1-k) (xs.getD k 0)).set k (xs.getD (xs.length-1-k) 0)=rv xs (k+1):=by
 have hA:((rv xs k).set k (xs.getD (xs.length-1-k) 0)).set (xs.length-1-k) (xs.getD k 0)=rv xs (k+1):=by
  refine List.ext_getElem (by simp [gD]) fun i h1 h2=>?_
  have h3:i<xs.length:=by rw [gD] at h2;exact h2
  rw [nS xs (k+1) h3,List.getElem_set,List.getElem_set]
  by_cases e1:xs.length-1-k=i
  ·rw [if_pos e1,if_pos (by omega)]
   congr 1
   omega
  ·rw [if_neg e1]
   by_cases e2:k=i
   ·rw [if_pos e2,if_pos (by omega),e2]
   ·rw [if_neg e2,nS xs k h3]
    by_cases hc:i<k∨xs.length≤i+k
    ·rw [if_pos hc,if_pos (by omega)]
    ·rw [if_neg hc,if_neg (by omega)]
 refine ⟨hA,?_⟩;rw [List.set_comm _ _ (by omega)];exact hA
theorem wQ (base:Nat) (A:Option Addr) (n c:Nat) (xs:List UInt8) (w:World) (hown:w.ownsRow base 5 1 (.slice A n c) n (xs.map B8)) (hbs:base≤w.heap.size) :
  Calls Tryz.prog 127 #[.slice A n c] w fun e w'=>e=.returned (.tuple #[])∧w'.ownsRow base 5 1 (.slice A n c) n (xs.reverse.map B8)∧Below base w w':=by
 have hxl:xs.length=n:=by have:=hown.1;simpa using this
 rcases Nat.eq_zero_or_pos n with h0|hpos
 ·subst h0
  have hx0:xs=[]:=List.eq_nil_of_length_eq_zero hxl;subst hx0;clear hxl;have HO:=Lib.hid hown;clear hown
  go_enter Tryz.func127,Tryz.ntmps127
  go_wp2
  refine wp_loop_rounds 1 ?_;rw [rounds_succ]
  go_wp2
  go_end0
  exact ⟨rfl,HO.out,Below.refl _ _⟩
 ·obtain ⟨g,tl,rfl,hgb,hcm,hnc,htl,hB⟩:=Blk.of_own hown hpos
  unfold maxLen at hcm
  rw [← rv_0 xs] at hB;have HX:=Lib.hid hxl;have HT:=Lib.hid htl;clear hxl htl hown
  go_enter Tryz.func127,Tryz.ntmps127
  go_wp2
  go_loopw [2,3] (fun iv jv wr=>∃ k:Nat,2 * k≤n+1∧iv=vI k∧jv=vI ((n:Int)-1-(k:Int))∧Blk wr g 5 ((rv xs k).map B8++tl)∧Below base w wr) (fun iv _ _=>n+1-(intOf iv).toNat)
  case atStart=>exact ⟨0,by omega,rfl,eX (by omega),hB,Below.refl _ _⟩
  case round =>
   clear hB;obtain ⟨k,hk,rfl,rfl,hB,hb⟩:=hrel
   by_cases hlt:2 * k+1<n
   ·obtain ⟨m,hm⟩:∃ m,m=n-1-k:=⟨_,rfl⟩
    have em:((n:Int)-1-(k:Int))=(m:Int):=by omega
    rw [em]
    have hmn:m<n:=by omega
    have hkm:k<m:=by omega
    have hst:=zJ xs (k:=k) (by rw [HX.out];exact hlt);rw [HX.out,← hm] at hst;have HST:=Lib.hid hst
    have a1:((rv xs k).map B8++tl)[k]?=some (.int .u8 ((xs.getD k 0).toNat:Int)):=by
     have h1:k<(rv xs k).length:=by rw [gD,HX.out];omega
     rw [List.getElem?_append_left (by rw [List.length_map];exact h1),List.getElem?_map,List.getElem?_eq_getElem h1,nS xs k (by rw [HX.out];omega),if_neg (by rw [HX.out];omega)]
     rfl
    have a2:((rv xs k).map B8++tl)[m]?=some (.int .u8 ((xs.getD m 0).toNat:Int)):=by
     have h1:m<(rv xs k).length:=by rw [gD,HX.out];omega
     rw [List.getElem?_append_left (by rw [List.length_map];exact h1),List.getElem?_map,List.getElem?_eq_getElem h1,nS xs k (by rw [HX.out];omega),if_neg (by rw [HX.out];omega)]
     rfl
    have c1:=hB.cell a1;have c2:=hB.cell a2;have f1:=hB.free k;have f2:=hB.free m
    have HA:Hid (∀ u:UInt8,((rv xs k).map B8++tl).set k (.int .u8 (u.toNat:Int))=((rv xs k).set k u).map B8++tl):=fun u=>by
     rw [List.set_append_left _ _ (by rw [List.length_map,gD,HX.out];omega),List.map_set];rfl
    have HB:Hid (∀ (r:List UInt8) (u:UInt8),r.length=xs.length→(r.map B8++tl).set m (.int .u8 (u.toNat:Int))=(r.set m u).map B8++tl):=fun r u hr=>by
     rw [List.set_append_left _ _ (by rw [List.length_map,hr,HX.out];omega),List.map_set];rfl
    have hm1:m+k+1≤n:=by omega
    have hm2:n≤m+k+1:=by omega
    clear hst hm em a1 a2
    have hne:k≠m:=by omega
    have hni:¬ (k:Int)=(m:Int):=by omega
    have i1:(0:Int)≤(k:Int):=by omega
    have i2:(k:Int)<(n:Int):=by omega
    have i3:(0:Int)≤(m:Int):=by omega
    have i4:(m:Int)<(n:Int):=by omega
    have hq1:=hB.lt;go_upto_region 3 with fail;generalize xs.getD k 0=u at c1 HST;generalize xs.getD m 0=v at c2 HST
    go_region
    have h9:=(hB.set k (.int .u8 (v.toNat:Int))).set m (.int .u8 (u.toNat:Int));rw [HA.out v,HB.out ((rv xs k).set k v) u (by rw [List.length_set,gD]),HST.out.1] at h9;have h8:=((hb.setCell (p:=⟨g,k,none⟩) (by simpa using hgb) (.int .u8 (v.toNat:Int))).setCell (p:=⟨g,m,none⟩) (by simpa using hgb) (.int .u8 (u.toNat:Int))).drew;have h7:=h9.drew;clear h9;generalize ((wr.setCell ⟨g,k,none⟩ (.int .u8 (v.toNat:Int))).setCell ⟨g,m,none⟩ (.int .u8 (u.toNat:Int))).drew=W9 at h7 h8 ⊢
    go_wp2
    go_roundw
    case rel=>exact ⟨k+1,by omega,by go_num,eX (by omega),h7,h8⟩
    case measure=>simp [intOf];omega
   ·have hfin:rv xs k=xs.reverse:=qXx xs (by rw [HX.out];omega)
    rw [hfin] at hB;have ho:=sF (n:=n) (c:=c) hB hgb (by rw [List.length_map,List.length_reverse];exact HX.out) HT.out hnc (by unfold maxLen;omega);have HO:=Lib.hid ho;clear ho hfin
    go_wp2
    go_end0
    exact ⟨rfl,HO.out,hb⟩
theorem u8n (n:Nat):(UInt8.ofNat n).toNat=n % 256:=UInt8.toNat_ofNat'
def b4 (x:Nat):List UInt8:=[UInt8.ofNat x,UInt8.ofNat (x / 256),UInt8.ofNat (x / 65536),UInt8.ofNat (x / 16777216)]
def bb (l:List UInt32):List UInt8:=(l.map fun x=>b4 x.toNat).flatten
theorem qQl (l:List UInt32) {k:Nat} (h:k<l.length):bb (l.take (k+1))=bb (l.take k)++b4 (l.getD k 0).toNat:=by
 rw [gK h]
 unfold bb
 rw [List.map_append,List.flatten_append]
 simp [List.getD,h]
theorem qXh {x:Nat} (h:x<4294967296):val (b4 x).reverse=x:=by
 have e:(b4 x).reverse=[UInt8.ofNat (x / 16777216),UInt8.ofNat (x / 65536),UInt8.ofNat (x / 256),UInt8.ofNat x]:=rfl;rw [e,iI,iI,iI,iI,tL,u8n,u8n,u8n,u8n];simp only [List.length_cons,List.length_nil]
 omega
theorem qXg (l:List UInt32):val (bb l).reverse=lw l:=by
 induction l with
 | nil=>rfl
 | cons x l ih =>
  have:bb (x :: l)=b4 x.toNat++bb l:=rfl;rw [this,List.reverse_append,gV,ih,qXh (dI x),fH];have h4:(b4 x.toNat).reverse.length=4:=rfl;rw [h4]
  omega
theorem B8n (n:Nat):B8 (UInt8.ofNat n)=.int .u8 ((n % 256:Nat):Int):=by unfold B8;rw [u8n]
theorem mE (v:Value) (x0:Nat) (w:World) (hr:Lm x0 v w) (hx:(ld x0).length≤16777216) :
  Calls Tryz.prog 116 #[v] w fun e w'=>e=.returned (vS (be x0))∧Below w.heap.size w w':=by
 obtain ⟨A,c0,rfl,hr⟩:=hr;have hL:=dT x0;generalize ld x0=l at hr hx hL ⊢;obtain ⟨n,hn⟩:∃ n,n=l.length:=⟨_,rfl⟩;rw [← hn] at hr hx ⊢;have HLL:=Lib.hid hn;have HL:=Lib.hid hL
 have hrX:∀ X,Below w.heap.size w X→Rd X 1 (.slice A n c0) n (l.map W32):=fun X h=>hr.below h
 have hrX:=Lib.hid hrX;clear hn hL
 go_enter Tryz.func116,Tryz.ntmps116
 go_wp2
 go_loopw [3,8] (fun ov kv wr=>∃ k:Nat,k≤n∧kv=vI k∧wr.ownsRow w.heap.size 5 1 ov (4 * k) ((bb (l.take k)).map B8)∧Below w.heap.size w wr) (fun _ kv _=>n-(intOf kv).toNat)
 case atStart=>exact ⟨0,by omega,rfl,jZ _ _ _,Below.refl _ _⟩
 case round =>
  obtain ⟨k,hk,rfl,hown,hb⟩:=hrel;have hR:=Rd.of_own hown;obtain ⟨A1,c2,rfl,hc2,hc3⟩:=hR.form
  by_cases hlt:k<n
  ·obtain ⟨b1,o1,rfl,hb1,hc1⟩:=(hrX.out _ hb).digit hlt
   obtain ⟨x,hx2⟩:∃ x,x=(l.getD k 0).toNat:=⟨_,rfl⟩;rw [← hx2] at hc1;have bx:x<4294967296:=hx2 ▸ dI _;have hsn:=qQl l (k:=k) (by rw [← HLL.out];exact hlt);rw [← hx2] at hsn;have HS:=Lib.hid hsn;clear hsn hx2 hR;go_upto_region 4 with fail;refine aU ?_;simp only [iX,Nat.reduceAdd];refine je (vP b1 (o1+k)) (cS Tryz.underlying133 bT _ _ (by rfl) b1 (o1) n c0 k (by omega) (by rfl) (by rfl) (by omega) _) ?_;refine je (.int .u32 (x:Int)) (bN 141 _ (by rfl) b1 (o1+k) (by rfl) _ _ (hc1) (fun X u h=>cG b1 (o1+k) X u h)) ?_;refine je (.int .u32 (x:Int)) (by rfl) ?_;refine aH ?_
   rintro _ rfl _
   go_upto_region 5 with fail;refine bW 12 ?_;simp only [its,List.take,List.drop,Nat.zero_add,Nat.reduceAdd];refine je (.slice A1 (4 * k) c2) (by rfl) ?_;refine je (.int .u32 (x:Int)) (by rfl) ?_;refine je (.int .u8 ((x:Int) % 256)) (bQ _ _ .u32 .u8 Tryz.underlying141 Tryz.underlying5 _ (by rfl) (x:Int) ((x:Int) % 256) (by rfl) (by rw [IntKind.wrap_u8]) _) ?_;refine je (.int .u32 (x:Int)) (by rfl) ?_;refine je (.int .u32 ((x:Int) / 256)) (iT _ _ _ _ (by rfl) .u32 .u64 (x:Int) ((x:Int) / 256) 8 (by rfl) (by rfl) rfl (by decide) (by omega) _) ?_;refine je (.int .u8 ((x:Int) / 256 % 256)) (bQ _ _ .u32 .u8 Tryz.underlying141 Tryz.underlying5 _ (by rfl) ((x:Int) / 256) ((x:Int) / 256 % 256) (by rfl) (by rw [IntKind.wrap_u8]) _) ?_;refine je (.int .u32 (x:Int)) (by rfl) ?_;refine je (.int .u32 ((x:Int) / 65536)) (iT _ _ _ _ (by rfl) .u32 .u64 (x:Int) ((x:Int) / 65536) 16 (by rfl) (by rfl) rfl (by decide) (by omega) _) ?_;refine je (.int .u8 ((x:Int) / 65536 % 256)) (bQ _ _ .u32 .u8 Tryz.underlying141 Tryz.underlying5 _ (by rfl) ((x:Int) / 65536) ((x:Int) / 65536 % 256) (by rfl) (by rw [IntKind.wrap_u8]) _) ?_;refine je (.int .u32 (x:Int)) (by rfl) ?_;refine je (.int .u32 ((x:Int) / 16777216)) (iT _ _ _ _ (by rfl) .u32 .u64 (x:Int) ((x:Int) / 16777216) 24 (by rfl) (by rfl) rfl (by decide) (by omega) _) ?_;refine je (.int .u8 ((x:Int) / 16777216 % 256)) (bQ _ _ .u32 .u8 Tryz.underlying141 Tryz.underlying5 _ (by rfl) ((x:Int) / 16777216) ((x:Int) / 16777216 % 256) (by rfl) (by rw [IntKind.wrap_u8]) _) ?_
   refine aH ?_
   rintro _ rfl _
   have HD:Hid (#[Value.int .u8 ((x:Int) % 256),.int .u8 ((x:Int) / 256 % 256),.int .u8 ((x:Int) / 65536 % 256),.int .u8 ((x:Int) / 16777216 % 256)]=((b4 x).map B8).toArray):=by
    show _=_
    unfold b4
    simp only [List.map_cons,List.map_nil,B8n]
    have e1:((x % 256:Nat):Int)=(x:Int) % 256:=by omega
    have e2:((x / 256 % 256:Nat):Int)=(x:Int) / 256 % 256:=by omega
    have e3:((x / 65536 % 256:Nat):Int)=(x:Int) / 65536 % 256:=by omega
    have e4:((x / 16777216 % 256:Nat):Int)=(x:Int) / 16777216 % 256:=by omega
    rw [e1,e2,e3,e4]
   clear hc1
   go_wp2_with (at_builtin;refine kR rfl rfl Tryz.underlying144 zY rfl (w.heap.size) _ (4 * k) _ ((b4 x).map B8) HD.out rfl hown (m:=4) rfl rfl (qQn _) (by omega) (by omega) hb.size ?_;intro A3 c3 w3 hown3 hc4 hc5 hb3)
   go_roundw
   case rel=>exact ⟨k+1,by omega,by go_num,by rw [HS.out,List.map_append,Nat.mul_add];exact hown3,hb.trans hb3⟩
   case measure=>simp [intOf];omega
  ·obtain rfl:k=n:=by omega
   have ht:l.take k=l:=List.take_of_length_le (by rw [← HLL.out];omega);rw [ht] at hown
   have hv:val (bb l).reverse=x0:=by rw [qXg,HL.out]
   have HV:=Lib.hid hv;clear ht hv hR
   go_wp2_with fail
   refine (wQ w.heap.size A1 (4 * k) c2 (bb l) _ hown hb.size).mono ?_
   rintro e w2 ⟨rfl,hown2,hb2⟩
   have hs1:=zK 144 9 5 Tryz.underlying144 Tryz.underlying5 Tryz.underlying9 (Rd.of_own hown2);have bb2:=hb.trans hb2;clear hown hown2 hb hb2
   go_wp2_with fail
   refine (qZe (bb l).reverse _).mono ?_
   rintro e w3 ⟨rfl,rfl⟩
   rw [HV.out];clear hs1
   go_wp2
   go_ret
   exact ⟨rfl,bb2⟩
theorem uT {k n:Nat} (h:k≤n):256 ^ k≤4294967296 ^ n:=Nat.le_trans (Nat.pow_le_pow_right (by omega) h) (Nat.pow_le_pow_left (by omega) n)
theorem fB (a:List UInt8):(ld (val a)).length≤a.length:=gH (Nat.lt_of_lt_of_le (rR a) (uT (Nat.le_refl _)))
theorem qYp {x y m:Nat} (hx:(ld x).length≤m) (hy:(ld y).length≤m):(ld (x+y)).length≤m+1:=by
 refine gH ?_;have h1:=fF (ld x);have h2:=fF (ld y);rw [dT] at h1 h2;have h3:4294967296 ^ (ld x).length≤4294967296 ^ m:=Nat.pow_le_pow_right (by omega) hx;have h4:4294967296 ^ (ld y).length≤4294967296 ^ m:=Nat.pow_le_pow_right (by omega) hy;rw [Nat.pow_succ]
 omega
theorem qYn (x y:Nat):(ld (x * y)).length≤(ld x).length+(ld y).length:=by
 refine gH ?_;have h1:=fF (ld x);have h2:=fF (ld y);rw [dT] at h1 h2;rw [Nat.pow_add];exact Nat.mul_lt_mul'' h1 h2
theorem qW {x y:Nat} (h:x≤y):(ld x).length≤(ld y).length:=gZ h
def cn (l:List UInt8):Bool:=be (val l) == l
theorem qQg (b:UInt8) (r:List UInt8):cn (b :: r)=decide (¬ b.toNat=0):=by
 unfold cn
 rw [rQ,nE]
 by_cases h:b.toNat=0
 ·rw [if_pos h,decide_eq_false (fun h'=>h' h)]
  have:((r.dropWhile (· == 0)) == b :: r)=false:=by
   rw [beq_eq_false_iff_ne];intro h2;have h3:=congrArg List.length h2;have h4:(r.dropWhile (· == 0)).length≤r.length:=(List.dropWhile_sublist _).length_le;rw [List.length_cons] at h3
   omega
  exact this
 ·rw [if_neg h,decide_eq_true h,beq_self_eq_true]
theorem jK (l:List UInt8) (w:World):Calls Tryz.prog 90 #[vS l] w fun e w'=>e=.returned (.bool (cn l))∧w=w':=by
 cases l with
 | nil =>
  go_enter Tryz.func90,Tryz.ntmps90
  go_upto_region 1 with fail;refine aU ?_;simp only [iX,Nat.reduceAdd];refine je (st []) (by rfl) ?_;refine je (.bool true) ((fun X=>(fY _ _ _ _ (by rfl) [] [] (by rfl) (by rfl) X).trans (by rfl)) _) ?_;refine je (.bool true) (by rfl) ?_;refine jss ?_;refine js ?_;refine je (.bool true) (by rfl) ?_;refine je (.bool true) (by rfl) ?_;refine aH ?_
  rintro _ rfl _
  go_wp2
  go_ret
  exact ⟨rfl,rfl⟩
 | cons b r =>
  have HC:=Lib.hid (qQg b r)
  by_cases hz:b.toNat=0
  ·have HV:Hid (cn (b :: r)=false):=by show _=_;rw [HC.out,decide_eq_false (fun h=>h hz)]
   go_enter Tryz.func90,Tryz.ntmps90
   go_upto_region 1 with fail;refine aU ?_;simp only [iX,Nat.reduceAdd];refine je (st (b :: r)) (by rfl) ?_;refine je (.bool false) ((fun X=>(fY _ _ _ _ (by rfl) (b :: r) [] (by rfl) (by rfl) X).trans (by rfl)) _) ?_;refine je (.bool false) (by rfl) ?_;refine je (st (b :: r)) (by rfl) ?_;refine je (.int .u8 (b.toNat:Int)) (gT _ Tryz.underlying9 _ _ (by rfl) (b :: r) 0 (by rfl) (by rfl) rfl (by rw [List.length_cons];omega) _) ?_;refine je (.bool false) (bE _ _ _ _ (by rfl) .u8 (b.toNat:Int) 0 (by rfl) (by rfl) false (by rw [decide_eq_true (by omega)];rfl) _) ?_;refine je (.bool false) (by rfl) ?_;refine je (.bool false) (by rfl) ?_;refine aH ?_
   rintro _ rfl _
   go_wp2
   go_ret
   exact ⟨by rw [HV.out];rfl,rfl⟩
  ·have HV:Hid (cn (b :: r)=true):=by show _=_;rw [HC.out,decide_eq_true hz]
   go_enter Tryz.func90,Tryz.ntmps90
   go_upto_region 1 with fail;refine aU ?_;simp only [iX,Nat.reduceAdd];refine je (st (b :: r)) (by rfl) ?_;refine je (.bool false) ((fun X=>(fY _ _ _ _ (by rfl) (b :: r) [] (by rfl) (by rfl) X).trans (by rfl)) _) ?_;refine je (.bool false) (by rfl) ?_;refine je (st (b :: r)) (by rfl) ?_;refine je (.int .u8 (b.toNat:Int)) (gT _ Tryz.underlying9 _ _ (by rfl) (b :: r) 0 (by rfl) (by rfl) rfl (by rw [List.length_cons];omega) _) ?_;refine je (.bool true) (bE _ _ _ _ (by rfl) .u8 (b.toNat:Int) 0 (by rfl) (by rfl) true (by rw [decide_eq_false (by omega)];rfl) _) ?_;refine je (.bool true) (by rfl) ?_;refine je (.bool true) (by rfl) ?_;refine aH ?_
   rintro _ rfl _
   go_wp2
   go_ret
   exact ⟨by rw [HV.out];rfl,rfl⟩
theorem tV (a b:List UInt8) (w:World) (ha:a.length≤4194304) (hb:b.length≤4194304):Calls Tryz.prog 100 #[vS a,vS b] w fun e w'=>e=.returned (vI (cD (val a) (val b)))∧Below w.heap.size w w':=by
 have la:=fB a;have lb:=fB b
 go_enter Tryz.func100,Tryz.ntmps100
 go_upto_region 1 with fail;refine bC [none,some (Lm (val a)),none,some (Lm (val b))] (aA (aD (Dg.lasts _) (aA (aD (Dg.lasts _) (aF))))) ?_;simp only [iX,Nat.reduceAdd];refine jg (st a) (fun X _ _=>by rfl) ?_;refine jk (fun X hX hF=>iG a X (by omega)) ?_;intro v6;refine jg (st b) (fun X _ _=>by rfl) ?_;refine jk (fun X hX hF=>iG b X (by omega)) ?_;intro v8;refine jc (vI (cD (val a) (val b))) (fun X hX hF=>eP v6 v8 _ _ X (hF _ _ (List.mem_cons_of_mem _ List.mem_cons_self) rfl) (hF _ _ List.mem_cons_self rfl) (by omega) (by omega)) ?_;refine jg (vI (cD (val a) (val b))) (fun X _ _=>by rfl) ?_;refine aH ?_;intro X9 hX9 hF9
 go_wp2
 go_ret
 exact ⟨rfl,hX9⟩
theorem qVa (a b:List UInt8) (w:World) (ha:a.length≤4194304) (hb:b.length≤4194304):Calls Tryz.prog 99 #[vS a,vS b] w fun e w'=>e=.returned (vS (be (val a+val b)))∧Below w.heap.size w w':=by
 have la:=fB a;have lb:=fB b;have ls:=qYp (x:=val a) (y:=val b) (m:=4194304) (by omega) (by omega)
 go_enter Tryz.func99,Tryz.ntmps99
 go_upto_region 1 with fail;refine bC [none,some (Lm (val a)),none,some (Lm (val b)),some (Lm (val a+val b))] (aA (aD (Dg.lasts _) (aA (aD (Dg.lasts _) (aD (Dg.lasts _) (aF)))))) ?_;simp only [iX,Nat.reduceAdd];refine jg (st a) (fun X _ _=>by rfl) ?_;refine jk (fun X hX hF=>iG a X (by omega)) ?_;intro v6;refine jg (st b) (fun X _ _=>by rfl) ?_;refine jk (fun X hX hF=>iG b X (by omega)) ?_;intro v8;refine jk (fun X hX hF=>plusC v6 v8 _ _ X (hF _ _ (List.mem_cons_of_mem _ List.mem_cons_self) rfl) (hF _ _ List.mem_cons_self rfl) (by omega) (by omega)) ?_;intro v9;refine jc (st (be (val a+val b))) (fun X hX hF=>mE v9 _ X (hF _ _ List.mem_cons_self rfl) (by omega)) ?_;refine jg (st (be (val a+val b))) (fun X _ _=>by rfl) ?_;refine aH ?_;intro X9 hX9 hF9
 go_wp2
 go_ret
 exact ⟨rfl,hX9⟩
theorem dE (a b:List UInt8) (w:World) (ha:a.length≤4194304) (hb:b.length≤4194304):Calls Tryz.prog 98 #[vS a,vS b] w fun e w'=>e=.returned (vS (be (val a * val b)))∧Below w.heap.size w w':=by
 have la:=fB a;have lb:=fB b;have ls:=qYn (val a) (val b)
 go_enter Tryz.func98,Tryz.ntmps98
 go_upto_region 1 with fail;refine bC [none,some (Lm (val a)),none,some (Lm (val b)),some (Lm (val a * val b))] (aA (aD (Dg.lasts _) (aA (aD (Dg.lasts _) (aD (Dg.lasts _) (aF)))))) ?_;simp only [iX,Nat.reduceAdd];refine jg (st a) (fun X _ _=>by rfl) ?_;refine jk (fun X hX hF=>iG a X (by omega)) ?_;intro v6;refine jg (st b) (fun X _ _=>by rfl) ?_;refine jk (fun X hX hF=>iG b X (by omega)) ?_;intro v8;refine jk (fun X hX hF=>oH v6 v8 _ _ X (hF _ _ (List.mem_cons_of_mem _ List.mem_cons_self) rfl) (hF _ _ List.mem_cons_self rfl) (by omega) (by omega)) ?_;intro v9;refine jc (st (be (val a * val b))) (fun X hX hF=>mE v9 _ X (hF _ _ List.mem_cons_self rfl) (by omega)) ?_;refine jg (st (be (val a * val b))) (fun X _ _=>by rfl) ?_;refine aH ?_;intro X9 hX9 hF9
 go_wp2
 go_ret
 exact ⟨rfl,hX9⟩
theorem tU (a b:List UInt8) (w:World) (ha:a.length≤4194304) (hb:b.length≤4194304) (hle:val b≤val a):Calls Tryz.prog 101 #[vS a,vS b] w fun e w'=>e=.returned (.tuple #[vS (be (val a-val b)),vI 0])∧Below w.heap.size w w':=by
 have la:=fB a;have lb:=fB b;have ls:=qW (Nat.sub_le (val a) (val b))
 go_enter Tryz.func101,Tryz.ntmps101
 go_upto_region 1 with fail;refine bC [none,some (Lm (val a)),none,some (Lm (val b))] (aA (aD (Dg.lasts _) (aA (aD (Dg.lasts _) (aF))))) ?_;simp only [iX,Nat.reduceAdd];refine jg (st a) (fun X _ _=>by rfl) ?_;refine jk (fun X hX hF=>iG a X (by omega)) ?_;intro v9;refine jg (st b) (fun X _ _=>by rfl) ?_;refine jk (fun X hX hF=>iG b X (by omega)) ?_;intro v11;refine jg (v9) (fun X _ _=>by rfl) ?_;refine jg (v11) (fun X _ _=>by rfl) ?_;refine aH ?_;intro X9 hX9 hF9;have hA:=hF9 _ _ (List.mem_cons_of_mem _ List.mem_cons_self);have hB:=hF9 _ _ List.mem_cons_self;go_upto_region 2 with fail;refine aV 3 [] aF ?_;simp only [its,List.take,List.drop,Nat.zero_add,Nat.reduceAdd];refine jg (v9) (fun X _ _=>by rfl) ?_;refine jg (v11) (fun X _ _=>by rfl) ?_;refine jc (vI (cD (val a) (val b))) (fun X hX hF=>eP v9 v11 _ _ X (hA.bel hX) (hB.bel hX) (by omega) (by omega)) ?_;refine aH ?_;intro X8 hX8 _;have hA:=hA.bel hX8;have hB:=hB.bel hX8;have hX9:=Since.next hX9 hX8
 have hcmp:0≤cD ((val a:Nat):Int) ((val b:Nat):Int):=by unfold cD;rw [if_neg (by omega)];split <;> omega
 generalize cD ((val a:Nat):Int) ((val b:Nat):Int)=cc at hcmp ⊢;go_upto_region 4 with fail;refine bC [none,none,some (Lm (val a-val b))] (aA (aA (aD (Dg.lasts _) (aF)))) ?_;simp only [iX,Nat.reduceAdd];refine jg (v9) (fun X _ _=>by rfl) ?_;refine jg (v11) (fun X _ _=>by rfl) ?_;refine jk (fun X hX hF=>sN v9 v11 _ _ X (hA.bel hX) (hB.bel hX) (by omega) hle) ?_;intro v18;refine jc (st (be (val a-val b))) (fun X hX hF=>mE v18 _ X (hF _ _ List.mem_cons_self rfl) (by omega)) ?_;refine jg (st (be (val a-val b))) (fun X _ _=>by rfl) ?_;refine jg (vI 0) (fun X _ _=>by rfl) ?_;refine aH ?_;intro X7 hX7 _;have hX9:=Since.next hX9 hX7
 go_wp2
 go_ret2
 exact ⟨rfl,hX9⟩
theorem yW (A:Option Addr) (n c:Nat) (l:List UInt32) (w:World) (hr:Rd w 1 (.slice A n c) n (l.map W32)) (hn:n≤33554432) :
  Calls Tryz.prog 126 #[.slice A n c] w fun e w'=>∃ A' c',e=.returned (.slice A' n c')∧w'.ownsRow w.heap.size 141 1 (.slice A' n c') n (l.map W32)∧Below w.heap.size w w':=by
 cases A with
 | none =>
  have hq:c=0:=by
   obtain ⟨_,A',c',hv,_,_,hz,_⟩:=hr
   injection hv with h1 _ h3
   rw [h3];exact hz h1.symm
  have hn0:n=0:=by have:=hr.cap;omega
  subst hq hn0;have hl0:l=[]:=List.eq_nil_of_length_eq_zero hr.n_dg;subst hl0;have he:=Lib.run_eql_slice_nil (P:=Tryz.prog) (w:=w) 133 141 none 0 0 0 0 Tryz.underlying133
  go_enter Tryz.func126,Tryz.ntmps126
  go_wp2
  go_ret
  exact ⟨none,0,rfl,jZ _ _ _,Below.refl _ _⟩
 | some ad =>
  have he:=Lib.run_eql_slice_nil (P:=Tryz.prog) (w:=w) 133 141 (some ad) n c 0 0 Tryz.underlying133
  have ho0:(w.alloc (.cells #[] 141)).ownsRow w.heap.size 141 1 (.slice (some ⟨w.heap.size,0,none⟩) 0 0) 0 [] :=
   ⟨rfl,.inr ⟨w.heap.size,0,#[],rfl,Nat.le_refl _,heap_alloc_new w _,Nat.le_refl _,by unfold maxLen;omega,rfl,rfl⟩⟩
  have hr0:=hr.alloc (.cells #[] 141);have hb0:=(Below.refl w.heap.size w).alloc (Nat.le_refl _) (.cells #[] 141)
  go_enter Tryz.func126,Tryz.ntmps126
  go_wp2_with (at_builtin;refine oC rfl (.tmp 5) (.tmp 6) 133 rfl w.heap.size 141 _ 1 4 Tryz.underlying133 gR rfl (by decide) _ _ _ rfl ho0 _ _ _ rfl hr0 (nJ _) (by omega) (by unfold maxLen;omega) hb0.size ?_;intro v4 w4 hown4 hg4 hb4)
  rw [List.nil_append,Nat.zero_add] at hown4;obtain ⟨A4,c4,rfl,_,_⟩:=(Rd.of_own hown4).form;have HO:=Lib.hid hown4;clear hown4
  go_wp2
  go_ret
  exact ⟨A4,c4,rfl,HO.out,hb0.trans hb4⟩
theorem Blk.mid {w:World} {g:Nat} {t:TypeId} {l:List UInt32} {tl:List Value} (h:Blk w g t (l.map W32++tl)) {j k c:Nat} (hj:j+k≤l.length) (hk:k≤c) (hc:c≤maxLen):Rd w 1 (.slice (some ⟨g,j,none⟩) k c) k (((l.drop j).take k).map W32):=by
 refine ⟨by rw [List.length_map,List.length_take,List.length_drop];omega,_,c,rfl,hk,hc,(fun h=>by cases h),fun _=>⟨g,j,rfl,h.lt,fun i u hi=>?_⟩⟩;rw [List.getElem?_map,List.getElem?_take] at hi
 split at hi
 ·rw [List.getElem?_drop] at hi
  refine h.cell ?_
  have hil:j+i<l.length:=by omega
  rw [List.getElem?_append_left (by rw [List.length_map];exact hil),List.getElem?_map];exact hi
 ·cases hi
theorem Blk.digit2 {w:World} {g:Nat} {t:TypeId} {l:List UInt32} {tl:List Value} (h:Blk w g t (l.map W32++tl)) {j:Nat} (hj:j<l.length):w.cell? ⟨g,j,none⟩=some (.int .u32 ((l.getD j 0).toNat:Int)):=by
 have:=h.cell (j:=j) (u:=W32 l[j]) (by rw [List.getElem?_append_left (by rw [List.length_map];exact hj)];simp [hj]);rw [this]
 simp [W32,List.getD,hj]
theorem qT {w:World} {ops:Array Oper} {rest:List Oper} {o:Oper} {a:Act} {Q:Exit→Act→World→Prop} (hgd:o.guard=none) (x:Operand) (ho:o.op=.call { callee:=.builtin .clear,args:=#[x],argTypes:=#[133] })
  (g off n c:Nat) (hn:0<n) (t:TypeId) (xs:List Value) (hB:Blk w g t xs) (hx:a.eval x=.slice (some ⟨g,off,none⟩) n c) (hfit:off+n≤xs.length)
  (h:∀ w',Blk w' g t (xs.take off++List.replicate n (Value.int .u32 0)++xs.drop (off+n))→w.grownBy w' (some g)→wpList Tryz.prog ops Q rest (a.put o.dst (.tuple #[])) w') :
  wpList Tryz.prog ops Q (o :: rest) a w:=by
 refine wpList_plain hgd fun K hK=>?_
 have h1:∀ v∈List.replicate n (Value.int .u32 0),v.oneCell'=true:=fun v hv=>by rw [List.eq_of_mem_replicate hv];rfl
 have hst:=run_storeCells_at Tryz.prog g off t (List.replicate n (Value.int .u32 0)) 0 xs.toArray w hB (by rw [List.length_replicate];simpa using hfit) h1;simp only [Nat.add_zero,List.length_replicate] at hst
 have hzc:(Builtin.zeroCells (Value.int .u32 0).cells n).toList=List.replicate n (Value.int .u32 0):=by
  simp [Builtin.zeroCells,Value.cells]
  apply List.ext_getElem
  ·simp
  ·intro i h1 h2
   simp [Nat.mod_one]
 have hv:∀ w,(zeroValue 141).run Tryz.prog w=.ok (.int .u32 0) w:=fun _=>by kernel_rfl
 have hr:(Builtin.clear_ #[133] o.type #[.slice (some ⟨g,off,none⟩) n c]).run Tryz.prog w=.ok (.tuple #[]) (w.setRow g (xs.take off++List.replicate n (Value.int .u32 0)++xs.drop (off+n)).toArray):=by
  obtain ⟨m,rfl⟩:∃ m,n=m+1:=⟨n-1,by omega⟩
  simp [Builtin.clear_,run_underlying Tryz.underlying133,hv]
  rw [hzc,hst]
  simp [Result.andThen]
 have h2:=setRow_heap w g xs.toArray (xs.take off++List.replicate n (Value.int .u32 0)++xs.drop (off+n)).toArray t (0,0) hB;have h3:=dQ w g (xs.take off++List.replicate n (Value.int .u32 0)++xs.drop (off+n)).toArray
 unfold Oper.wp
 rw [show execOp a.eval o=builtin .clear #[133] o.type _ (#[x].map a.eval) from kM ho,BigFrame.builtin_clear];simp only [List.map_toArray,List.map_cons,List.map_nil,hx,Sem.run_bind,hr,Result.andThen_ok,Sem.run_pure,Oper.upon];exact hK _ _ (h _ h2 h3)
theorem jG (l:List UInt32) (v:Value) (w:World) (h:Dg l v w) (hn:l.length≤33554432) :
  Calls Tryz.prog 123 #[v] w fun e w'=>∃ u,e=.returned u∧Lm (lw l) u w'∧Since w w':=by
 obtain ⟨A,c,rfl,hr⟩:=h;refine (nR A l.length c l w hr (by omega)).mono ?_
 rintro e w' ⟨rfl,ht,rfl⟩
 have hpre:=hr.pre1 (k:=(ld (lw l)).length) (by have:=congrArg List.length ht;rw [List.length_take] at this;omega);rw [ht] at hpre;exact ⟨_,rfl,⟨A,c,rfl,hpre⟩,Below.refl _ _⟩
theorem lI (l:List UInt32) (v:Value) (w:World) (h:Dg l v w) (hn:l.length≤33554432) :
  Calls Tryz.prog 126 #[v] w fun e w'=>∃ u,e=.returned u∧Dg l u w'∧Since w w':=by
 obtain ⟨A,c,rfl,hr⟩:=h;refine (yW A l.length c l w hr hn).mono ?_
 rintro e w' ⟨A',c',rfl,ho,hb⟩
 exact ⟨_,rfl,⟨A',c',rfl,Rd.of_own ho⟩,hb⟩
theorem Dg.grown {l:List UInt32} {v:Value} {X Y:World} {g base:Nat} (h:Dg l v X) (hf:Fr base v) (hg:g<base) (hgr:X.grownBy Y (some g)):Dg l v Y:=by
 obtain ⟨A,c,rfl,hr⟩:=h;refine ⟨A,c,rfl,?_⟩;obtain ⟨hl,A',c',hv,hc,hm,hz,hcell⟩:=hr
 injection hv with h1 h2 h3
 subst h1 h3;refine ⟨hl,A,c,rfl,hc,hm,hz,fun hn=>?_⟩;obtain ⟨b,off,hA,hb,hx⟩:=hcell hn
 have hbg:b≠g:=by
  obtain ⟨A2,n2,c2,hv2,hor⟩:=hf
  injection hv2 with e1 _ _
  subst e1
  rcases hor with h0|⟨g',h0,hle⟩
  ·rw [h0] at hA
   cases hA
  ·rw [h0] at hA
   injection hA with hA
   injection hA with hA _ _
   omega
 refine ⟨b,off,hA,Nat.lt_of_lt_of_le hb hgr.size,fun j u hj=>?_⟩;rw [World.cell?_of_block (hgr.block b hb (fun e=>hbg (by injection e)))];exact hx j u hj
theorem qS {w:World} {ops:Array Oper} {rest:List Oper} {o:Oper} {a:Act} {Q:Exit→Act→World→Prop} (hgd:o.guard=none) (d x:Operand) (ho:o.op=.call { callee:=.builtin .copy,args:=#[d,x],argTypes:=#[133,133] })
  (g off n c:Nat) (xs:List Value) (hB:Blk w g 141 xs) (hd:a.eval d=.slice (some ⟨g,off,none⟩) n c) (l:List UInt32) (v:Value) (hx:a.eval x=v) (hD:Dg l v w) (hln:l.length≤n) (hfit:off+n≤xs.length)
  (h:∀ w',Blk w' g 141 (xs.take off++(l.map W32++xs.drop (off+l.length)))→w.grownBy w' (some g)→wpList Tryz.prog ops Q rest (a.put o.dst (goInt (l.length:Int))) w') :
  wpList Tryz.prog ops Q (o :: rest) a w:=by
 obtain ⟨A,cv,rfl,hr⟩:=hD;have hmin:Nat.min l.length n=l.length:=Nat.min_eq_left hln
 rcases Nat.eq_zero_or_pos l.length with h0|hpos
 ·have hl0:l=[]:=List.eq_nil_of_length_eq_zero h0
  subst hl0;refine wpList_copy_nothing hgd d x 133 133 ho 141 Tryz.underlying133 bT _ _ _ _ _ _ hd hx (by simp) ?_;have:=h w (by simpa using hB) (pN _ _)
  simpa using this
 ·obtain ⟨b,o2,rfl,hb,hc⟩:=hr.cellAt hpos
  have:=h (w.setRow g (xs.take off++(l.map W32++xs.drop (off+(l.map W32).length))).toArray) (by
   have:=setRow_heap w g xs.toArray (xs.take off++(l.map W32++xs.drop (off+(l.map W32).length))).toArray 141 (0,0) hB;rw [List.length_map] at this ⊢
   exact this) (dQ _ _ _)
  refine wpList_copy_own hgd d x 133 133 ho 141 Tryz.underlying133 bT g off n c ⟨b,o2,none⟩ l.length cv hd hx xs.toArray 141 hB (l.map W32) (by rw [List.length_map,hmin]) ?_ (by rw [List.length_map];simp;omega) (nJ l) ?_
  ·intro j u hj
   rw [kS];exact hc j u hj
  ·rw [List.length_map] at this ⊢
   exact this
theorem qN {R:List UInt32} {tl:List Value} {j n m:Nat} (hR:j+n+1≤R.length) (hm:(ld m).length≤n) :
  ((R.map W32++tl).take j++List.replicate (n+1) (Value.int .u32 0)++(R.map W32++tl).drop (j+(n+1))).take j++((ld m).map W32++((R.map W32++tl).take j++List.replicate (n+1) (Value.int .u32 0)++(R.map W32++tl).drop (j+(n+1))).drop (j+(ld m).length))=(rp R j n m).map W32++tl:=by
 have e1:(R.map W32++tl).take j=(R.take j).map W32:=by rw [List.take_append_of_le_length (by rw [List.length_map];omega),List.map_take]
 have e2:(R.map W32++tl).drop (j+(n+1))=(R.drop (j+(n+1))).map W32++tl:=by rw [List.drop_append_of_le_length (by rw [List.length_map];omega),List.map_drop]
 have l1:((R.take j).map W32).length=j:=by rw [List.length_map,List.length_take];omega
 rw [e1,e2,List.append_assoc,List.take_left' l1];rw [List.drop_append,l1,List.drop_eq_nil_of_le (by omega),List.nil_append,show j+(ld m).length-j=(ld m).length by omega];rw [List.drop_append_of_le_length (by rw [List.length_replicate];omega),List.drop_replicate]
 unfold rp
 rw [List.map_append,List.map_append,List.map_append,List.map_replicate];have e3:W32 0=Value.int .u32 0:=rfl;rw [e3];simp only [List.append_assoc]
theorem vM {P:Program} {f:Operand→Value} {o:Oper} {t e:TypeId} (hu:P.underlying t=some (.slice e)) (hs:(P.info? e).map (·.size)=some 1) (x lo hi:Operand) (ho:o.op=.slice t x (some lo) (some hi) none) (b off n c p q:Nat) (hx:f x=.slice (some ⟨b,off,none⟩) n c) {y z:Int} (hlo:f lo=vI y) (hy:y=(p:Int)) (hh:f hi=vI z) (hz:z=(q:Int)) (hpq:p≤q) (hk:q≤c) (hpc:p<c) (w:World) :
  (execOp f o).run P w=.ok (.value (.slice (some ⟨b,off+p,none⟩) (q-p) (c-p))) w:=by
 subst hy hz
 unfold execOp
 simp only [ho,hx,hlo,hh,Option.map]
 cases hq:P.info? e with
 | none=>simp [hq] at hs
 | some i =>
  have hs1:i.size=1:=by simpa [hq] using hs
  have h1:(0:Int)≤(p:Int)∧(p:Int)≤(q:Int):=⟨by omega,by omega⟩;have h2:(0:Int)≤(q:Int)∧(q:Int)≤(c:Int):=⟨by omega,by omega⟩
  have h3:¬ c=p:=by omega
  have h4:p≤q:=hpq;have h5:q≤c:=hk
  simp [Instr.sliceAt,Instr.slice,Instr.sliceBounds,Instr.sliceBound,asIntOf,run_underlying hu,sizeOf,typeInfo,hq,hs1,h3,h4,h5,kS]
end Go.Proofs.YtnfpenhldlfafaaGreatDoor
