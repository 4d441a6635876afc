/- Natural numbers as digits: big-endian bytes and little-endia -/
import Derived.Test.YtnfpenhldlfafaaGreatDoorMA
set_option linter.unusedSimpArgs false
set_option linter.unusedVariables false
namespace Go.Proofs.YtnfpenhldlfafaaGreatDoor
open Go.RowKit
def lvN (B:Nat):List Nat→Nat
 | []=>0
 | d :: l=>d+B * lvN B l
def dgF (B:Nat):Nat→Nat→List Nat
 | 0,_=>[]
 | f+1,n=>if n=0 then [] else n % B :: dgF B f (n / B)
def dg (B n:Nat):List Nat:=dgF B (n.log2+1) n
theorem fS (B:Nat):∀ (l m:List Nat),lvN B (l++m)=lvN B l+B ^ l.length * lvN B m
 | [],m=>by simp [lvN]
 | d :: l,m=>by
  simp only [List.cons_append,lvN,List.length_cons,fS B l m,Nat.mul_add,Nat.pow_succ];rw [Nat.mul_comm (B ^ l.length) B,Nat.mul_assoc]
  omega
theorem mU {B:Nat} (hB:0<B):∀ {l:List Nat},(∀ d∈l,d<B)→lvN B l<B ^ l.length
 | [],_=>by simp [lvN]
 | d :: l,h=>by
  have h1:=mU hB (l:=l) (fun x hx=>h x (by simp [hx]));have h2:=h d (by simp);simp only [lvN,List.length_cons,Nat.pow_succ];have h3:B * (lvN B l+1)≤B * B ^ l.length:=Nat.mul_le_mul_left _ h1;rw [Nat.mul_comm (B ^ l.length)];rw [Nat.mul_add] at h3
  omega
theorem nZ (B:Nat):∀ n,lvN B (List.replicate n 0)=0
 | 0=>rfl
 | n+1=>by simp [List.replicate_succ,lvN,nZ B n]
theorem tE {B:Nat} (hB:1<B):∀ (f n:Nat),n<2 ^ f→lvN B (dgF B f n)=n
 | 0,n,h=>by simp at h;subst h;rfl
 | f+1,n,h=>by
  unfold dgF
  split
  ·rename_i h0;subst h0;rfl
  ·simp only [lvN]
   have hd:n / B<2 ^ f:=by
    have h1:n / B≤n / 2:=Nat.div_le_div_left (by omega) (by omega);rw [Nat.pow_succ] at h
    omega
   rw [tE hB f _ hd];have:=Nat.mod_add_div n B
   omega
theorem xN (n:Nat):n<2 ^ (n.log2+1):=Nat.lt_log2_self
theorem rL {B:Nat} (hB:1<B) (n:Nat):lvN B (dg B n)=n:=tE hB _ _ (xN n)
theorem nH {B:Nat} (hB:1<B):∀ (f n:Nat),∀ d∈dgF B f n,d<B
 | 0,_,d,h=>by simp [dgF] at h
 | f+1,n,d,h=>by
  unfold dgF at h
  split at h
  ·simp at h
  ·rcases List.mem_cons.1 h with rfl|h
   ·exact Nat.mod_lt _ (by omega)
   ·exact nH hB f _ d h
theorem fM {B:Nat} (hB:1<B) {n d:Nat} (h:d∈dg B n):d<B:=nH hB _ _ d h
def Top (l:List Nat):Prop:=∀ d,l.getLast?=some d→d≠0
theorem Top.nil:Top []:=fun d h=>by simp at h
theorem mD {d:Nat} {l:List Nat} (h:Top (d :: l)):Top l:=by
 intro x hx
 cases l with
 | nil=>simp at hx
 | cons y l=>exact h x (by rw [List.getLast?_cons_cons];exact hx)
theorem uI {B:Nat} (hB:1<B):∀ (f n:Nat),n<2 ^ f→Top (dgF B f n)
 | 0,n,_=>Top.nil
 | f+1,n,h=>by
  unfold dgF
  split
  ·exact Top.nil
  ·rename_i h0
   have hd:n / B<2 ^ f:=by
    have h1:n / B≤n / 2:=Nat.div_le_div_left (by omega) (by omega);rw [Nat.pow_succ] at h
    omega
   have ih:=uI hB f _ hd;intro x hx
   cases hl:dgF B f (n / B) with
   | nil =>
    rw [hl] at hx
    simp at hx
    subst hx;have h1:=tE hB f _ hd;rw [hl] at h1;simp only [lvN] at h1;have:=Nat.mod_add_div n B;rw [← h1] at this
    omega
   | cons y l =>
    rw [hl,List.getLast?_cons_cons] at hx;rw [hl] at ih;exact ih x hx
theorem tD {B:Nat} (hB:1<B) (n:Nat):Top (dg B n):=uI hB _ _ (xN n)
theorem pC {B:Nat} (hB:0<B):∀ {l:List Nat},Top l→l≠[]→0<lvN B l
 | [],_,h=>absurd rfl h
 | [d],h,_=>by
  have:=h d (by simp)
  simp [lvN];omega
 | d :: e :: l,h,_=>by
  have:=pC hB (l:=e :: l) (mD h) (by simp);simp only [lvN] at this ⊢;have:=Nat.mul_pos hB this
  omega
theorem tX {B:Nat} (hB:1<B):∀ {l m:List Nat},(∀ d∈l,d<B)→(∀ d∈m,d<B)→Top l→Top m→lvN B l=lvN B m→l=m
 | [],[],_,_,_,_,_=>rfl
 | [],e :: m,_,_,_,hm,h=>by
  have:=pC (B:=B) (by omega) hm (by simp);rw [← h] at this
  simp [lvN] at this
 | d :: l,[],_,_,hl,_,h=>by
  have:=pC (B:=B) (by omega) hl (by simp);rw [h] at this
  simp [lvN] at this
 | d :: l,e :: m,h1,h2,hl,hm,h=>by
  have hd:=h1 d (by simp);have he:=h2 e (by simp);simp only [lvN] at h
  have e1:d=e:=by
   have:=congrArg (· % B) h
   simpa [Nat.add_mul_mod_self_left,Nat.mod_eq_of_lt hd,Nat.mod_eq_of_lt he] using this
  subst e1;have e2:lvN B l=lvN B m:=Nat.eq_of_mul_eq_mul_left (show 0<B by omega) (by omega);rw [tX hB (fun x hx=>h1 x (by simp [hx])) (fun x hx=>h2 x (by simp [hx])) (mD hl) (mD hm) e2]
theorem qVs {B:Nat} (hB:1<B) {l:List Nat} (h:∀ d∈l,d<B) (ht:Top l):dg B (lvN B l)=l :=
 tX hB (fun _ hd=>fM hB hd) h (tD hB _) ht (rL hB _)
theorem yO {B n k:Nat} (hB:1<B) (h:n<B ^ k):(dg B n).length≤k:=by
 rcases Nat.lt_or_ge k (dg B n).length with hlt|hge
 ·exfalso
  have h1:=rL hB n;have ht:=tD hB n
  have hd:∀ d∈dg B n,d<B:=fun _ h=>fM hB h
  generalize dg B n=l at *
  have hne:l≠[]:=by rintro rfl;simp at hlt
  have hcut:=List.dropLast_concat_getLast hne;have hlast:=ht (l.getLast hne) (List.getLast?_eq_some_getLast hne);rw [← hcut,fS] at h1;simp only [lvN,List.length_dropLast] at h1;have hk:B ^ k≤B ^ (l.length-1):=Nat.pow_le_pow_right (by omega) (by omega);have:B ^ (l.length-1)≤B ^ (l.length-1) * (l.getLast hne+B * 0):=Nat.le_mul_of_pos_right _ (by omega)
  omega
 ·exact hge
theorem vC {B n k:Nat} (hB:1<B) (h:B ^ k≤n):k<(dg B n).length:=by
 rcases Nat.lt_or_ge k (dg B n).length with hlt|hge
 ·exact hlt
 ·have h1:=mU (B:=B) (by omega) (l:=dg B n) (fun _ h=>fM hB h)
  rw [rL hB] at h1;have:=Nat.pow_le_pow_right (n:=B) (by omega) hge
  omega
theorem nO {B:Nat} (l:List Nat) (k:Nat):lvN B (l.take (k+1))=lvN B (l.take k)+B ^ k * l.getD k 0:=by
 rcases Nat.lt_or_ge k l.length with h|h
 ·rw [← List.take_append_getElem h,fS]
  simp only [lvN,List.length_take,Nat.min_eq_left (Nat.le_of_lt h),Nat.mul_zero,Nat.add_zero]
  congr 2
  simp [List.getD,List.getElem?_eq_getElem h]
 ·rw [List.take_of_length_le h,List.take_of_length_le (by omega)]
  simp [List.getD,List.getElem?_eq_none h]
def be (n:Nat):List UInt8:=((dg 256 n).map UInt8.ofNat).reverse
def val (l:List UInt8):Nat:=lvN 256 (l.map (·.toNat)).reverse
def ld (n:Nat):List UInt32:=(dg 4294967296 n).map UInt32.ofNat
def lw (l:List UInt32):Nat:=lvN 4294967296 (l.map (·.toNat))
theorem map8 {l:List Nat} (h:∀ d∈l,d<256):(l.map UInt8.ofNat).map (·.toNat)=l:=by
 rw [List.map_map];refine (List.map_congr_left fun d hd=>?_).trans (List.map_id l);simp only [Function.comp,UInt8.toNat_ofNat',id];exact Nat.mod_eq_of_lt (h d hd)
theorem map32 {l:List Nat} (h:∀ d∈l,d<4294967296):(l.map UInt32.ofNat).map (·.toNat)=l:=by
 rw [List.map_map];refine (List.map_congr_left fun d hd=>?_).trans (List.map_id l);simp only [Function.comp,UInt32.toNat_ofNat',id];exact Nat.mod_eq_of_lt (h d hd)
theorem aP (n:Nat):val (be n)=n:=by
 unfold val be
 rw [List.map_reverse,List.reverse_reverse,map8 (fun d hd=>fM (by decide) hd),rL (by decide)]
theorem dT (n:Nat):lw (ld n)=n:=by
 unfold lw ld
 rw [map32 (fun d hd=>fM (by decide) hd),rL (by decide)]
theorem yY {m n:Nat} (h:be m=be n):m=n:=by rw [← aP m,h,aP]
theorem qYo {m n:Nat} (h:ld m=ld n):m=n:=by rw [← dT m,h,dT]
theorem be_zero:be 0=[]:=rfl
theorem ld_zero:ld 0=[]:=rfl
theorem be_nil {n:Nat}:be n=[]↔n=0:=⟨fun h=>yY (h.trans be_zero.symm),fun h=>by rw [h];rfl⟩
theorem xS {n:Nat}:ld n=[]↔n=0:=⟨fun h=>qYo (h.trans ld_zero.symm),fun h=>by rw [h];rfl⟩
theorem nI {n k:Nat} (h:n<256 ^ k):(be n).length≤k:=by
 unfold be
 rw [List.length_reverse,List.length_map];exact yO (by decide) h
theorem gH {n k:Nat} (h:n<4294967296 ^ k):(ld n).length≤k:=by
 unfold ld
 rw [List.length_map];exact yO (by decide) h
theorem vB {n k:Nat} (h:4294967296 ^ k≤n):k<(ld n).length:=by
 unfold ld
 rw [List.length_map];exact vC (by decide) h
theorem gQ (n:Nat):n<256 ^ (be n).length:=by
 have h:=mU (B:=256) (by decide) (l:=(be n).reverse.map (·.toNat)) (fun d hd=>by
  obtain ⟨x,_,rfl⟩:=List.mem_map.1 hd
  exact x.toNat_lt)
 have e:=aP n
 unfold val at e
 rw [← List.map_reverse] at e;rw [e] at h
 simpa using h
theorem fF (l:List UInt32):lw l<4294967296 ^ l.length:=by
 have h:=mU (B:=4294967296) (by decide) (l:=l.map (·.toNat)) (fun d hd=>by
  obtain ⟨x,_,rfl⟩:=List.mem_map.1 hd
  exact x.toNat_lt)
 simpa [lw] using h
theorem rR (l:List UInt8):val l<256 ^ l.length:=by
 have h:=mU (B:=256) (by decide) (l:=(l.map (·.toNat)).reverse) (fun d hd=>by
  obtain ⟨x,_,rfl⟩:=List.mem_map.1 (List.mem_reverse.1 hd)
  exact x.toNat_lt)
 simpa [val] using h
theorem tL:val []=0:=rfl
theorem gV (l m:List UInt8):val (l++m)=val l * 256 ^ m.length+val m:=by
 unfold val
 rw [List.map_append,List.reverse_append,fS]
 simp [Nat.mul_comm,Nat.add_comm]
theorem iI (b:UInt8) (l:List UInt8):val (b :: l)=b.toNat * 256 ^ l.length+val l:=by
 have:=gV [b] l
 simpa [val,lvN] using this
theorem vZ (l:List UInt8) (b:UInt8):val (l++[b])=val l * 256+b.toNat:=by
 rw [gV]
 simp [val,lvN]
theorem eI (l m:List UInt32):lw (l++m)=lw l+4294967296 ^ l.length * lw m:=by
 unfold lw
 rw [List.map_append,fS,List.length_map]
theorem fR:lw []=0:=rfl
theorem fH (d:UInt32) (l:List UInt32):lw (d :: l)=d.toNat+4294967296 * lw l:=rfl
theorem oZ (d:UInt32):lw [d]=d.toNat:=by simp [lw,lvN]
theorem lW (l:List UInt32) (d:UInt32):lw (l++[d])=lw l+4294967296 ^ l.length * d.toNat:=by rw [eI,oZ]
theorem xL (n:Nat):lw (List.replicate n 0)=0:=by
 unfold lw
 rw [List.map_replicate];exact nZ 4294967296 n
theorem cO (l:List UInt32) (k:Nat):lw (l.take (k+1))=lw (l.take k)+4294967296 ^ k * (l.getD k 0).toNat:=by
 unfold lw
 rw [List.map_take,nO,List.map_take]
 congr 2
 rcases Nat.lt_or_ge k l.length with h|h
 ·simp [List.getD,List.getElem?_eq_getElem h]
 ·simp [List.getD,List.getElem?_eq_none h]
theorem qVe {l:List UInt32} (h:l.getLast?≠some 0):ld (lw l)=l:=by
 unfold ld lw
 rw [qVs (by decide) (fun d hd=>by obtain ⟨x,_,rfl⟩:=List.mem_map.1 hd;exact x.toNat_lt)]
 ·rw [List.map_map]
  refine (List.map_congr_left fun d _=>?_).trans (List.map_id l)
  simp
 ·intro d hd
  rw [List.getLast?_map] at hd;obtain ⟨x,hx,rfl⟩:=Option.map_eq_some_iff.1 hd;intro h0;have:x=0:=UInt32.toNat_inj.1 (by simpa using h0);subst this;exact h hx
theorem zV (n:Nat):(ld n).getLast?≠some 0:=by
 intro h
 unfold ld at h
 rw [List.getLast?_map] at h;obtain ⟨x,hx,h0⟩:=Option.map_eq_some_iff.1 h;have h1:=tD (B:=4294967296) (by decide) n x hx;have h2:x<4294967296:=fM (by decide) (List.mem_of_getLast? hx);have h3:=congrArg UInt32.toNat h0;rw [UInt32.toNat_ofNat',Nat.mod_eq_of_lt h2] at h3;exact h1 h3
theorem qVu {l:List UInt8} (h:l.head?≠some 0):be (val l)=l:=by
 unfold be val
 rw [qVs (by decide) (fun d hd=>by obtain ⟨x,_,rfl⟩:=List.mem_map.1 (List.mem_reverse.1 hd);exact x.toNat_lt)]
 ·rw [List.map_reverse,List.reverse_reverse,List.map_map]
  refine (List.map_congr_left fun d _=>?_).trans (List.map_id l)
  simp
 ·intro d hd
  rw [List.getLast?_reverse,List.head?_map] at hd;obtain ⟨x,hx,rfl⟩:=Option.map_eq_some_iff.1 hd;intro h0;have:x=0:=UInt8.toNat_inj.1 (by simpa using h0);subst this;exact h hx
theorem pV {l:List UInt8}:be (val (0 :: l))=be (val l):=by rw [iI];simp
theorem rQ (l:List UInt8):be (val l)=l.dropWhile (· == 0):=by
 induction l with
 | nil=>rfl
 | cons b l ih =>
  rw [List.dropWhile_cons]
  split
  ·rename_i h
   have:b=0:=by simpa using h
   subst this;rw [pV,ih]
  ·rename_i h
   exact qVu (by simpa using h)
theorem xZ {B V P E vt vr top pr:Nat} (hV:V=vt * E+vr) (hP:P=top * E+pr) (hpr:pr<E) (hlt:P<V * B) (hvt:0<vt):P / V≤min (top / vt) (B-1):=by
 have hV0:0<V:=by
  have:0<E:=by omega
  have:=Nat.mul_pos hvt this
  omega
 have h1:P / V<B:=(Nat.div_lt_iff_lt_mul hV0).2 (by rw [Nat.mul_comm];exact hlt);refine Nat.le_min.2 ⟨?_,by omega⟩;rw [Nat.le_div_iff_mul_le hvt];have h2:P / V * V≤P:=Nat.div_mul_le_self P V
 have h3:P / V * vt * E≤P:=by
  refine Nat.le_trans ?_ h2;rw [Nat.mul_assoc];exact Nat.mul_le_mul_left _ (by omega)
 rcases Nat.lt_or_ge top (P / V * vt) with hc|hc
 ·exfalso
  have:(top+1) * E≤P / V * vt * E:=Nat.mul_le_mul_right _ hc;rw [Nat.add_mul] at this
  omega
 ·exact hc
theorem vK {B V P F vt v2 top p2 vr pr g left:Nat} (hV:V=(vt * B+v2) * F+vr) (hP:P=(top * B+p2) * F+pr) (hpr:pr<F) (hg:P / V≤g) (hl:left+g * vt=top) (hgt:left * B+p2<g * v2):P / V≤g-1:=by
 rcases Nat.lt_or_ge (P / V) g with h|h
 ·omega
 ·exfalso
  have he:P / V=g:=by omega
  have h2:P / V * V≤P:=Nat.div_mul_le_self P V;rw [he,hV] at h2;have h3:g * ((vt * B+v2) * F)≤P:=Nat.le_trans (Nat.mul_le_mul_left _ (by omega)) h2;rw [← Nat.mul_assoc] at h3
  have h4:top * B+p2+1≤g * (vt * B+v2):=by
   rw [← hl,Nat.add_mul,Nat.mul_add,Nat.mul_assoc g vt B]
   omega
  have h5:(top * B+p2+1) * F≤g * (vt * B+v2) * F:=Nat.mul_le_mul_right _ h4;rw [Nat.add_mul] at h5
  omega
theorem rE {V P g:Nat} (hV:0<V) (hg:P / V≤g) (hle:V * g≤P):g=P / V:=by
 have:g≤P / V:=(Nat.le_div_iff_mul_le hV).2 (by rw [Nat.mul_comm];exact hle)
 omega
theorem nB {V P g:Nat} (hV:0<V) (hg:P / V≤g) (hlt:P<V * g):P / V≤g-1∧V * g=V * (g-1)+V∧0<g:=by
 have:P / V<g:=(Nat.div_lt_iff_lt_mul hV).2 (by rw [Nat.mul_comm];exact hlt);generalize P / V=q at *;refine ⟨by omega,?_,by omega⟩;obtain ⟨k,rfl⟩:∃ k,g=k+1:=⟨g-1,by omega⟩;rw [Nat.add_sub_cancel,Nat.mul_add]
 omega
end Go.Proofs.YtnfpenhldlfafaaGreatDoor
