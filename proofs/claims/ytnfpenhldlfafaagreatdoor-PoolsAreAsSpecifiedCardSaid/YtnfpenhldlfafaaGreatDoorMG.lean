/- The references: Clean, Valid, digit. The references: number, -/
import Derived.Test.YtnfpenhldlfafaaGreatDoorMC
import Derived.Test.YtnfpenhldlfafaaGreatDoorME
import Derived.Test.YtnfpenhldlfafaaGreatDoorMB
import Derived.Test.YtnfpenhldlfafaaGreatDoorMF
set_option linter.unusedSimpArgs false
set_option linter.unusedVariables false
set_option maxRecDepth 100000
set_option maxHeartbeats 1600000
namespace Go.Proofs.YtnfpenhldlfafaaGreatDoor
open Go.RowKit
theorem qH (l:List UInt8) {k:Nat} (hk:k<l.length) (h:(l.getD k 0).toNat=0):val (l.drop (k+1))=val (l.drop k):=by
 rw [List.drop_eq_getElem_cons hk,gE]
 have:l[k].toNat=0:=by
  rw [List.getD,List.getElem?_eq_getElem hk] at h;exact h
 rw [this]
 omega
theorem xP (l:List UInt8) {k:Nat} (hk:k≤l.length) (hv:val (l.drop k)=val l) (h:k<l.length→¬ (l.getD k 0).toNat=0):be (val l)=l.drop k:=by
 rw [← hv];refine qYb ?_
 rcases Nat.lt_or_ge k l.length with h1|h1
 ·rw [List.drop_eq_getElem_cons h1,List.head?_cons]
  intro h2
  injection h2 with h2
  have:=h h1;rw [List.getD,List.getElem?_eq_getElem h1] at this;exact this (by show l[k].toNat=0;rw [h2];rfl)
 ·rw [List.drop_eq_nil_of_le h1]
  exact fun h2=>by cases h2
theorem dG (l:List UInt8) (w:World) (hl:l.length≤140737488355328):Calls Tryz.prog 109 #[vS l] w fun e w'=>e=.returned (vS (be (val l)))∧Since w w':=by
 go_enter Tryz.func109,Tryz.ntmps109
 go_wp2
 go_loopw [3] (fun kv wr=>∃ k:Nat,k≤l.length∧kv=vI k∧val (l.drop k)=val l∧Since w wr) (fun kv _=>l.length-(intOf kv).toNat)
 case atStart=>exact ⟨0,by omega,rfl,by rw [List.drop_zero],Below.refl _ _⟩
 case round =>
  obtain ⟨k,hk,rfl,hv,hb⟩:=hrel;have HV:=Lib.hid hv;clear hv
  rcases Nat.lt_or_ge k l.length with hlt|hlt
  ·by_cases h0:(l.getD k 0).toNat=0
   ·have HV2:Hid (val (l.drop (k+1))=val l):=(qH l hlt h0).trans HV.out
    have h0':(l.getD k 0).toNat≤0:=by omega
    clear h0;go_upto_region 2 with fail;refine jp ?_;refine jmm (vI k) (st l) ?_;refine jv (vI (l.length:Int)) (bI G9 _ (by rfl) l (by rfl) _ rfl) ?_;refine dP (k:Int) (l.length:Int) (by omega) ?_;refine bZ (.bool true) (st l) (vI k) ?_;refine jv (.int .u8 ((l.getD k 0).toNat:Int)) (fR _ G9 _ _ (by rfl) l k (by rfl) (by rfl) (by omega) hlt) ?_;refine jv (.bool true) (eL _ _ _ _ (by rfl) .u8 ((l.getD k 0).toNat:Int) 0 (by rfl) (by rfl) true (decide_eq_true (by omega))) ?_;refine jm (.bool true) ?_;refine jzb hb fun X1 hX1 hb=>?_
    go_wp2
    go_roundw
    case rel=>exact ⟨k+1,by omega,by go_num,HV2.out,hb⟩
    case measure=>simp [intOf];omega
   ·have HB:Hid (be (val l)=l.drop k):=xP l hk HV.out (fun _=>h0)
    have h0':0<(l.getD k 0).toNat:=by omega
    clear h0;go_upto_region 2 with fail;refine jp ?_;refine jmm (vI k) (st l) ?_;refine jv (vI (l.length:Int)) (bI G9 _ (by rfl) l (by rfl) _ rfl) ?_;refine dP (k:Int) (l.length:Int) (by omega) ?_;refine bZ (.bool true) (st l) (vI k) ?_;refine jv (.int .u8 ((l.getD k 0).toNat:Int)) (fR _ G9 _ _ (by rfl) l k (by rfl) (by rfl) (by omega) hlt) ?_;refine jv (.bool false) (eL _ _ _ _ (by rfl) .u8 ((l.getD k 0).toNat:Int) 0 (by rfl) (by rfl) false (decide_eq_false (by omega))) ?_;refine jm (.bool false) ?_;refine jzb hb fun X1 hX1 hb=>?_;go_upto_region 4 with fail;refine jp ?_;refine jmm (st l) (vI k) ?_;refine jv (st (l.drop k)) (uA _ G9 _ _ (by rfl) l k (by rfl) (by rfl) (by omega) hk) ?_;refine jm (st (l.drop k)) ?_;refine jzb hb fun X2 hX2 hb=>?_
    go_wp2
    go_ret
    exact ⟨by rw [HB.out];rfl,hb⟩
  ·have HB:Hid (be (val l)=l.drop k):=xP l hk HV.out (fun h=>absurd h (by omega))
   go_upto_region 2 with fail;refine jp ?_;refine jmm (vI k) (st l) ?_;refine jv (vI (l.length:Int)) (bI G9 _ (by rfl) l (by rfl) _ rfl) ?_;refine dJ (k:Int) (l.length:Int) (by omega) ?_;refine jm (.bool false) ?_;refine jL ?_;refine jm (.bool false) ?_;refine jzb hb fun X1 hX1 hb=>?_;go_upto_region 4 with fail;refine jp ?_;refine jmm (st l) (vI k) ?_;refine jv (st (l.drop k)) (uA _ G9 _ _ (by rfl) l k (by rfl) (by rfl) (by omega) hk) ?_;refine jm (st (l.drop k)) ?_;refine jzb hb fun X2 hX2 hb=>?_
   go_wp2
   go_ret
   exact ⟨by rw [HB.out];rfl,hb⟩
theorem qYa (l:List UInt8):(l == be (val l))=cn l:=by
 unfold cn
 rw [Bool.eq_iff_iff,beq_iff_eq,beq_iff_eq];exact ⟨Eq.symm,Eq.symm⟩
theorem tB (l:List UInt8) (w:World) (hl:l.length≤140737488355328) (hc:cn l=true):Calls Tryz.prog 92 #[vS l] w fun e w'=>e=.returned (.bool (cn l))∧Since w w':=by
 have HC:=Lib.hid hc;clear hc
 go_enter Tryz.func92,Tryz.ntmps92
 go_upto_region 1 with fail;refine jp ?_;refine jmm (st l) (st l) ?_;refine jc (st (be (val l))) (fun X hX hF=>dG l X (by omega)) ?_;refine jv (.bool true) (bF _ _ _ _ (by rfl) l (be (val l)) (by rfl) (by rfl) true ((qYa l).trans HC.out)) ?_;refine jm (.bool true) ?_;refine jz fun X1 hX1=>?_;have hb:Below w.heap.size w X1:=hX1
 go_wp2
 go_ret
 exact ⟨by rw [HC.out];rfl,hb⟩
theorem rL (l:List UInt8) (w:World) (hl:l.length≤140737488355328) (hc:cn l=false):Calls Tryz.prog 92 #[vS l] w fun e w'=>e=.returned (.bool (cn l))∧Since w w':=by
 have HC:=Lib.hid hc;clear hc
 go_enter Tryz.func92,Tryz.ntmps92
 go_upto_region 1 with fail;refine jp ?_;refine jmm (st l) (st l) ?_;refine jc (st (be (val l))) (fun X hX hF=>dG l X (by omega)) ?_;refine jv (.bool false) (bF _ _ _ _ (by rfl) l (be (val l)) (by rfl) (by rfl) false ((qYa l).trans HC.out)) ?_;refine jm (.bool false) ?_;refine jz fun X1 hX1=>?_;have hb:Below w.heap.size w X1:=hX1
 go_wp2
 go_ret
 exact ⟨by rw [HC.out];rfl,hb⟩
theorem gC (l:List UInt8) (w:World) (hl:l.length≤140737488355328):Calls Tryz.prog 92 #[vS l] w fun e w'=>e=.returned (.bool (cn l))∧Since w w':=by
 rcases h:cn l with _|_
 ·rw [← h]
  exact rL l w hl h
 ·rw [← h]
  exact tB l w hl h
def dgt (l:List UInt8) (k:Nat):Nat:=(l.reverse.getD k 0).toNat
theorem lP (l:List UInt8) (k:Nat):dgt l k<256:=wH _
theorem yX {l:List UInt8} {k:Nat} (h:l.length≤k):dgt l k=0:=by
 unfold dgt
 rw [List.getD,List.getElem?_eq_none (by rw [List.length_reverse];exact h)]
 rfl
theorem vZl {l:List UInt8} {k:Nat} (h:k<l.length):dgt l k=(l.getD (l.length-1-k) 0).toNat:=by
 unfold dgt
 rw [List.getD,List.getD,List.getElem?_reverse h]
theorem yE (l:List UInt8) (k:Nat) (w:World) (hl:l.length≤140737488355328) (hk:l.length≤k):Calls Tryz.prog 111 #[vS l,vI k] w fun e w'=>e=.returned (vI (dgt l k:Int))∧Since w w':=by
 have HD:=Lib.hid (yX hk)
 go_enter Tryz.func111,Tryz.ntmps111
 go_upto_region 1 with fail;refine jp ?_;refine jmm (vI k) (st l) ?_;refine jv (vI (l.length:Int)) (bI G9 _ (by rfl) l (by rfl) _ rfl) ?_;refine pI (k:Int) (l.length:Int) (by omega) ?_;refine jz fun X1 hX1=>?_;have hb:Below w.heap.size w X1:=hX1
 go_wp2
 go_ret
 exact ⟨by rw [HD.out];rfl,hb⟩
theorem yD (l:List UInt8) (k:Nat) (w:World) (hl:l.length≤140737488355328) (hk:k<l.length):Calls Tryz.prog 111 #[vS l,vI k] w fun e w'=>e=.returned (vI (dgt l k:Int))∧Since w w':=by
 have HD:=Lib.hid (vZl hk);have hd2:=lP l k
 go_enter Tryz.func111,Tryz.ntmps111
 go_upto_region 1 with fail;refine jp ?_;refine jmm (vI k) (st l) ?_;refine jv (vI (l.length:Int)) (bI G9 _ (by rfl) l (by rfl) _ rfl) ?_;refine tP (k:Int) (l.length:Int) (by omega) ?_;refine jz fun X1 hX1=>?_;have hb:Below w.heap.size w X1:=hX1;go_upto_region 3 with fail;refine jp ?_;refine jmm (st l) (st l) ?_;refine jv (vI (l.length:Int)) (bI G9 _ (by rfl) l (by rfl) _ rfl) ?_;refine jv (vI ((l.length:Int)-1)) (cM _ _ _ _ (by rfl) (l.length:Int) 1 ((l.length:Int)-1) (by rfl) (by rfl) (by omega) (by omega) (by omega)) ?_;refine jm (vI k) ?_;refine jv (vI (((l.length:Int)-1)-(k:Int))) (cM _ _ _ _ (by rfl) ((l.length:Int)-1) (k:Int) (((l.length:Int)-1)-(k:Int)) (by rfl) (by rfl) (by omega) (by omega) (by omega)) ?_;refine jv (.int .u8 (dgt l k:Int)) (fun X=>(fR _ G9 _ _ (by rfl) l (l.length-1-k) (by rfl) (by rfl) (by omega) (by omega) X).trans (by rw [HD.out])) ?_;refine jv (vI (dgt l k:Int)) (bX _ _ .u8 .i64 G5 G3 _ (by rfl) (dgt l k:Int) (dgt l k:Int) (by rfl) (by rw [IntWalk.i64_in _ (by omega)])) ?_;refine jm (vI (dgt l k:Int)) ?_;refine jzb hb fun X2 hX2 hb=>?_
 go_wp2
 go_ret
 exact ⟨rfl,hb⟩
theorem iE (l:List UInt8) (k:Nat) (w:World) (hl:l.length≤140737488355328):Calls Tryz.prog 111 #[vS l,vI k] w fun e w'=>e=.returned (vI (dgt l k:Int))∧Since w w':=by
 rcases Nat.lt_or_ge k l.length with h|h
 ·exact yD l k w hl h
 ·exact yE l k w hl h
def Ni (d:Nat):Value:=vI d
def Is (l:List Nat) (v:Value) (w:World):Prop:=∃ A c,v=.slice A l.length c∧Rd w 1 (.slice A l.length c) l.length (l.map Ni)
theorem Rd.ni {w:World} {A:Option Addr} {n c:Nat} {l:List Nat} (h:Rd w 1 (.slice A n c) n (l.map Ni)) {k:Nat} (hk:k<n) :
  ∃ b off,A=some ⟨b,off,none⟩∧b<w.heap.size∧w.cell? ⟨b,off+k,none⟩=some (vI (l.getD k 0:Int)):=by
 have hl:l.length=n:=by have:=h.1;simpa using this
 obtain ⟨b,off,hA,hb,hc⟩:=h.cellAt (by omega);refine ⟨b,off,hA,hb,?_⟩
 have hkl:k<l.length:=by omega
 have:=hc k (Ni l[k]) (by simp [hkl]);rw [this]
 simp [Ni,List.getD,hkl]
theorem mF:(Tryz.prog.info? 3).map (fun i=>(i.zero,i.size,i.bytes))=some (some (vI 0),1,8):=by kernel_rfl
theorem oU:(Tryz.prog.info? 3).map (·.size)=some 1:=by kernel_rfl
theorem pH (b k:Nat) (X:World) (v:Value) (h:X.cell? ⟨b,k,none⟩=some v):(loadVar 3 ⟨b,k,none⟩).run Tryz.prog X=.ok v X:=by
 go_simp
def u8s (l:List Nat):List UInt8:=l.map UInt8.ofNat
theorem qYf {l:List Nat} (h:∀ d∈l,d<256):val (u8s l).reverse=lvN 256 l:=by
 unfold val u8s
 rw [List.map_reverse,List.reverse_reverse,map8 h]
theorem zN (l:List Nat) {k:Nat} (hk:k<l.length):(u8s (l.drop k)).reverse=(u8s (l.drop (k+1))).reverse++[UInt8.ofNat (l.getD k 0)]:=by
 rw [List.drop_eq_getElem_cons hk]
 unfold u8s
 rw [List.map_cons,List.reverse_cons]
 simp [List.getD,hk]
theorem oW (v:Value) (ds:List Nat) (w:World) (hv:Is ds v w) (hd:∀ d∈ds,d<256) (hn:ds.length≤16777216) :
  Calls Tryz.prog 112 #[v] w fun e w'=>e=.returned (vS (be (lvN 256 ds)))∧Since w w':=by
 obtain ⟨A,c,rfl,hR⟩:=hv;obtain ⟨n,hnn⟩:∃ n,n=ds.length:=⟨_,rfl⟩;rw [← hnn] at hR hn ⊢;have HN:=Lib.hid hnn;have HDS:Hid (∀ d∈ds,d<256):=hd
 have hRX:∀ X,Since w X→Rd X 1 (.slice A n c) n (ds.map Ni):=fun X h=>hR.below h
 have HRX:=Lib.hid hRX;clear hnn hd hRX hR
 go_enter Tryz.func112,Tryz.ntmps112
 go_upto_region 2 with fail;refine jp ?_;refine jm (.slice A n c) ?_;refine jv (vI n) (aM G99 _ (by rfl) A n c (by rfl) _ rfl) ?_;refine jv (vI ((n:Int)-1)) (cM _ _ _ _ (by rfl) (n:Int) 1 ((n:Int)-1) (by rfl) (by rfl) (by omega) (by omega) (by omega)) ?_;refine jm (vI ((n:Int)-1)) ?_;refine jz fun X1 hX1=>?_;have hb:Below w.heap.size w X1:=hX1
 go_wp2
 go_loopw [3,4] (fun ov kv wr=>∃ j:Nat,j≤n∧kv=vI ((j:Int)-1)∧wr.ownsRow w.heap.size 5 1 ov (n-j) ((u8s (ds.drop j)).reverse.map B8)∧Below w.heap.size w wr) (fun _ kv _=>(intOf kv+1).toNat)
 case atStart=>exact ⟨n,by omega,rfl,by rw [Nat.sub_self,List.drop_eq_nil_of_le (by rw [← HN.out];exact Nat.le_refl _)];exact iF _ _ _,hb⟩
 case round =>
  clear hb;obtain ⟨j,hj,rfl,hown,hb⟩:=hrel;obtain ⟨A1,c1,rfl,hc1,hc1'⟩:=(Rd.of_own hown).form
  rcases Nat.eq_zero_or_pos j with hj0|hj0
  ·subst hj0
   have hb8:val (u8s ds).reverse=lvN 256 ds:=qYf HDS.out;have HB8:=Lib.hid hb8
   have hul:(u8s ds).reverse.length=n:=by unfold u8s;rw [List.length_reverse,List.length_map,← HN.out]
   rw [List.drop_zero] at hown
   have hul2:(u8s ds).reverse.length≤16777216:=by omega
   have HUL:=Lib.hid hul;clear hb8 hul;go_upto_region 3 with fail;refine jp ?_;refine jm (vI (((0:Nat):Int)-1)) ?_;refine tP (((0:Nat):Int)-1) 0 (by omega) ?_;refine jzb hb fun X1 hX1 hb=>?_;have hown:=cD hown hX1;go_upto_region 6 with fail;refine jp ?_;refine jm (.slice A1 (n-0) c1) ?_;refine jg (st ((u8s ds).reverse)) (fun X hX hF=>pS _ _ 5 zH G5 G9 _ (by rfl) (by rfl) ((Rd.of_own hown).below hX)) ?_;refine jc (st (be (val (u8s ds).reverse))) (fun X hX hF=>dG (u8s ds).reverse X (by omega)) ?_;refine jm (st (be (val (u8s ds).reverse))) ?_;refine jzb hb fun X2 hX2 hb=>?_;have hown:=cD hown hX2;rw [HB8.out]
   go_wp2
   go_ret
   exact ⟨rfl,hb⟩
  ·obtain ⟨k,rfl⟩:∃ k,j=k+1:=⟨j-1,by omega⟩
   rw [show (((k+1:Nat):Int)-1)=(k:Int) by omega];obtain ⟨b,off,rfl,hbb,hc⟩:=(HRX.out _ hb).ni (k:=k) (by omega);obtain ⟨y,hy⟩:∃ y,y=ds.getD k 0:=⟨_,rfl⟩;rw [← hy] at hc
   have hkl:k<ds.length:=by rw [← HN.out];omega
   have hy2:y<256:=by
    rw [hy]
    have:ds.getD k 0=ds[k]:=by simp [List.getD,hkl]
    rw [this];exact HDS.out _ (List.getElem_mem hkl)
   have HS:Hid ((u8s (ds.drop k)).reverse=(u8s (ds.drop (k+1))).reverse++[UInt8.ofNat y]):=by show _=_;rw [hy];exact zN ds hkl
   have HD:Hid (#[Value.int .u8 (y:Int)]=[B8 (UInt8.ofNat y)].toArray):=by
    show _=_
    rw [B8n,Nat.mod_eq_of_lt hy2]
   clear hy hkl
   have e3:n-(k+1)+1=n-k:=by omega
   have E3:=Lib.hid e3;clear e3;go_upto_region 3 with fail;refine jp ?_;refine jm (vI k) ?_;refine pI (k:Int) 0 (by omega) ?_;refine jzb hb fun X1 hX1 hb=>?_;have hown:=cD hown hX1;have hc:=(Below.cell hX1 (p:=⟨b,off+k,none⟩) hbb).trans hc;have hbb:=Nat.lt_of_lt_of_le hbb (hX1).size;go_upto_region 5 with fail;refine jq 6 ?_;refine bZ (.slice A1 (n-(k+1)) c1) (.slice (some ⟨b,off,none⟩) n c) (vI k) ?_;refine jv (vP b (off+k)) (dK G99 oU _ _ (by rfl) b (off) n c k (by omega) (by rfl) (by rfl) (by omega)) ?_;refine jg (vI y) (fun X hX hF=>cA 3 _ (by rfl) b (off+k) (by rfl) _ X ((Below.cell hX (p:=⟨b,off+k,none⟩) hbb).trans hc) (fun X u h=>pH b (off+k) X u h)) ?_;refine jv (.int .u8 (y:Int)) (bX _ _ .i64 .u8 G3 G5 _ (by rfl) (y:Int) (y:Int) (by rfl) (by rw [w8 (by omega) (by omega)])) ?_;refine jzb hb fun X2 hX2 hb=>?_;have hown:=cD hown hX2;have hc:=(Below.cell hX2 (p:=⟨b,off+k,none⟩) hbb).trans hc;have hbb:=Nat.lt_of_lt_of_le hbb (hX2).size
   go_wp2_with (at_builtin;refine jR rfl rfl zH xB rfl (w.heap.size) _ (n-(k+1)) _ [B8 (UInt8.ofNat y)] HD.out rfl hown (m:=1) rfl rfl (fun u hu=>by rw [List.mem_singleton.1 hu];rfl) (by omega) (by omega) hb.size ?_;intro A3 c3 w3 hown3 hc4 hc5 hb3)
   go_roundw
   case rel=>exact ⟨k,by omega,rfl,by rw [HS.out,List.map_append,← E3.out];exact hown3,hb.trans hb3⟩
   case measure=>simp [intOf] <;> omega
theorem lD:∀ {l m:List UInt8},l.length=m.length→Op.bytesLess l m=decide (val l<val m)
 | [],[],_=>rfl
 | [],_ :: _,h=>by simp at h
 | _ :: _,[],h=>by simp at h
 | a :: l,b :: m,h=>by
  have hl:l.length=m.length:=by simpa using h
  have h1:=gJ l;have h2:=gJ m;rw [hl] at h1
  show (decide (a<b) || (a == b && Op.bytesLess l m))=_
  rw [lD hl,gE,gE,hl];generalize 256 ^ m.length=E at h1 h2;rw [Bool.eq_iff_iff];simp only [Bool.or_eq_true,decide_eq_true_eq,Bool.and_eq_true,beq_iff_eq]
  constructor
  ·rintro (h3|⟨rfl,h3⟩)
   ·have h4:a.toNat+1≤b.toNat:=h3
    have h5:=Nat.mul_le_mul_right E h4;rw [Nat.add_mul,Nat.one_mul] at h5
    omega
   ·omega
  ·intro h3
   rcases Nat.lt_trichotomy a.toNat b.toNat with h4|h4|h4
   ·exact .inl h4
   ·exact .inr ⟨UInt8.toNat_inj.1 h4,by rw [h4] at h3;omega⟩
   ·exfalso
    have h5:=Nat.mul_le_mul_right E (show b.toNat+1≤a.toNat from h4);rw [Nat.add_mul,Nat.one_mul] at h5
    omega
theorem gT {x y:Nat} (h:x≤y):(be x).length≤(be y).length:=iQ (Nat.lt_of_le_of_lt h (iZ y))
theorem xO {x y:Nat} (h:(be x).length=(be y).length):Op.bytesLess (be x) (be y)=decide (x<y):=by
 rw [lD h,aL,aL]
theorem cV (a:List UInt8):(be (val a)).length≤a.length:=iQ (gJ a)
theorem rcmpE (a b:List UInt8) (w:World) (ha:a.length≤4194304) (hb0:b.length≤4194304) (h:val a=val b):Calls Tryz.prog 96 #[vS a,vS b] w fun e w'=>e=.returned (vI (cB (val a) (val b)))∧Since w w':=by
 have la:=cV a;have lb:=cV b
 have HC:Hid (cB (val a) (val b)=0):=by show _=_;rw [h];exact kX _
 have HE:Hid (be (val a)=be (val b)):=by show _=_;rw [h]
 clear h
 go_enter Tryz.func96,Tryz.ntmps96
 go_upto_region 1 with fail;refine jp ?_;refine jm (st a) ?_;refine jc (st (be (val a))) (fun X hX hF=>dG a X (by omega)) ?_;refine jm (st (be (val a))) ?_;refine jz fun X1 hX1=>?_;have hb:Below w.heap.size w X1:=hX1;go_upto_region 2 with fail;refine jp ?_;refine jm (st b) ?_;refine jc (st (be (val b))) (fun X hX hF=>dG b X (by omega)) ?_;refine jm (st (be (val b))) ?_;refine jzb hb fun X2 hX2 hb=>?_;go_upto_region 3 with fail;refine jp ?_;refine jmm (st (be (val a))) (st (be (val b))) ?_;refine jv (.bool true) (bF _ _ _ _ (by rfl) (be (val a)) (be (val b)) (by rfl) (by rfl) true (iC HE.out)) ?_;refine jzb hb fun X3 hX3 hb=>?_
 go_wp2
 go_ret
 exact ⟨by rw [HC.out];rfl,hb⟩
theorem vXu (a b:List UInt8) (w:World) (ha:a.length≤4194304) (hb0:b.length≤4194304) (h:val a<val b) (hl:(be (val a)).length<(be (val b)).length):Calls Tryz.prog 96 #[vS a,vS b] w fun e w'=>e=.returned (vI (cB (val a) (val b)))∧Since w w':=by
 have la:=cV a;have lb:=cV b;have HC:Hid (cB (val a) (val b)=-1):=eE (by omega)
 have HNE:Hid (be (val a)≠be (val b)):=fun h9=>by have:=lQ h9;omega
 have hm:=gT (Nat.le_of_lt h);clear h
 go_enter Tryz.func96,Tryz.ntmps96
 go_upto_region 1 with fail;refine jp ?_;refine jm (st a) ?_;refine jc (st (be (val a))) (fun X hX hF=>dG a X (by omega)) ?_;refine jm (st (be (val a))) ?_;refine jz fun X1 hX1=>?_;have hb:Below w.heap.size w X1:=hX1;go_upto_region 2 with fail;refine jp ?_;refine jm (st b) ?_;refine jc (st (be (val b))) (fun X hX hF=>dG b X (by omega)) ?_;refine jm (st (be (val b))) ?_;refine jzb hb fun X2 hX2 hb=>?_;go_upto_region 3 with fail;refine jp ?_;refine jmm (st (be (val a))) (st (be (val b))) ?_;refine jv (.bool false) (bF _ _ _ _ (by rfl) (be (val a)) (be (val b)) (by rfl) (by rfl) false (cU HNE.out)) ?_;refine jzb hb fun X3 hX3 hb=>?_;go_upto_region 5 with fail;refine jp ?_;refine jm (st (be (val a))) ?_;refine jv (vI ((be (val a)).length:Int)) (bI G9 _ (by rfl) (be (val a)) (by rfl) _ rfl) ?_;refine jm (st (be (val b))) ?_;refine jv (vI ((be (val b)).length:Int)) (bI G9 _ (by rfl) (be (val b)) (by rfl) _ rfl) ?_;refine dP ((be (val a)).length:Int) ((be (val b)).length:Int) (by omega) ?_;refine jm (.bool true) ?_;refine qVy ?_;refine jss ?_;refine jm (.bool true) ?_;refine jzb hb fun X4 hX4 hb=>?_
 go_wp2
 go_ret
 exact ⟨by rw [HC.out];rfl,hb⟩
theorem vXt (a b:List UInt8) (w:World) (ha:a.length≤4194304) (hb0:b.length≤4194304) (h:val a<val b) (hl:(be (val b)).length≤(be (val a)).length):Calls Tryz.prog 96 #[vS a,vS b] w fun e w'=>e=.returned (vI (cB (val a) (val b)))∧Since w w':=by
 have la:=cV a;have lb:=cV b;have HC:Hid (cB (val a) (val b)=-1):=eE (by omega)
 have HNE:Hid (be (val a)≠be (val b)):=fun h9=>by have:=lQ h9;omega
 have hm:=gT (Nat.le_of_lt h)
 have HBL:Hid (Op.bytesLess (be (val a)) (be (val b))=true):=by show _=_;rw [xO (by omega)];exact decide_eq_true h
 clear h
 go_enter Tryz.func96,Tryz.ntmps96
 go_upto_region 1 with fail;refine jp ?_;refine jm (st a) ?_;refine jc (st (be (val a))) (fun X hX hF=>dG a X (by omega)) ?_;refine jm (st (be (val a))) ?_;refine jz fun X1 hX1=>?_;have hb:Below w.heap.size w X1:=hX1;go_upto_region 2 with fail;refine jp ?_;refine jm (st b) ?_;refine jc (st (be (val b))) (fun X hX hF=>dG b X (by omega)) ?_;refine jm (st (be (val b))) ?_;refine jzb hb fun X2 hX2 hb=>?_;go_upto_region 3 with fail;refine jp ?_;refine jmm (st (be (val a))) (st (be (val b))) ?_;refine jv (.bool false) (bF _ _ _ _ (by rfl) (be (val a)) (be (val b)) (by rfl) (by rfl) false (cU HNE.out)) ?_;refine jzb hb fun X3 hX3 hb=>?_;go_upto_region 5 with fail;refine jp ?_;refine jm (st (be (val a))) ?_;refine jv (vI ((be (val a)).length:Int)) (bI G9 _ (by rfl) (be (val a)) (by rfl) _ rfl) ?_;refine jm (st (be (val b))) ?_;refine jv (vI ((be (val b)).length:Int)) (bI G9 _ (by rfl) (be (val b)) (by rfl) _ rfl) ?_;refine dJ ((be (val a)).length:Int) ((be (val b)).length:Int) (by omega) ?_;refine jmm (.bool false) (st (be (val a))) ?_;refine jv (vI ((be (val a)).length:Int)) (bI G9 _ (by rfl) (be (val a)) (by rfl) _ rfl) ?_;refine jm (st (be (val b))) ?_;refine jv (vI ((be (val b)).length:Int)) (bI G9 _ (by rfl) (be (val b)) (by rfl) _ rfl) ?_;refine nU ((be (val a)).length:Int) ((be (val b)).length:Int) (by omega) ?_;refine bZ (.bool true) (st (be (val a))) (st (be (val b))) ?_
 refine jv (.bool true) (qV _ _ _ _ (by rfl) (be (val a)) (be (val b)) (by rfl) (by rfl) true HBL.out) ?_;refine jmm (.bool true) (.bool true) ?_;refine jzb hb fun X4 hX4 hb=>?_
 go_wp2
 go_ret
 exact ⟨by rw [HC.out];rfl,hb⟩
theorem vXw (a b:List UInt8) (w:World) (ha:a.length≤4194304) (hb0:b.length≤4194304) (h:val b<val a) (hl:(be (val b)).length<(be (val a)).length):Calls Tryz.prog 96 #[vS a,vS b] w fun e w'=>e=.returned (vI (cB (val a) (val b)))∧Since w w':=by
 have la:=cV a;have lb:=cV b;have HC:Hid (cB (val a) (val b)=1):=iK (by omega)
 have HNE:Hid (be (val a)≠be (val b)):=fun h9=>by have:=lQ h9;omega
 have hm:=gT (Nat.le_of_lt h);clear h
 go_enter Tryz.func96,Tryz.ntmps96
 go_upto_region 1 with fail;refine jp ?_;refine jm (st a) ?_;refine jc (st (be (val a))) (fun X hX hF=>dG a X (by omega)) ?_;refine jm (st (be (val a))) ?_;refine jz fun X1 hX1=>?_;have hb:Below w.heap.size w X1:=hX1;go_upto_region 2 with fail;refine jp ?_;refine jm (st b) ?_;refine jc (st (be (val b))) (fun X hX hF=>dG b X (by omega)) ?_;refine jm (st (be (val b))) ?_;refine jzb hb fun X2 hX2 hb=>?_;go_upto_region 3 with fail;refine jp ?_;refine jmm (st (be (val a))) (st (be (val b))) ?_;refine jv (.bool false) (bF _ _ _ _ (by rfl) (be (val a)) (be (val b)) (by rfl) (by rfl) false (cU HNE.out)) ?_;refine jzb hb fun X3 hX3 hb=>?_;go_upto_region 5 with fail;refine jp ?_;refine jm (st (be (val a))) ?_;refine jv (vI ((be (val a)).length:Int)) (bI G9 _ (by rfl) (be (val a)) (by rfl) _ rfl) ?_;refine jm (st (be (val b))) ?_;refine jv (vI ((be (val b)).length:Int)) (bI G9 _ (by rfl) (be (val b)) (by rfl) _ rfl) ?_;refine dJ ((be (val a)).length:Int) ((be (val b)).length:Int) (by omega) ?_;refine jmm (.bool false) (st (be (val a))) ?_;refine jv (vI ((be (val a)).length:Int)) (bI G9 _ (by rfl) (be (val a)) (by rfl) _ rfl) ?_;refine jm (st (be (val b))) ?_;refine jv (vI ((be (val b)).length:Int)) (bI G9 _ (by rfl) (be (val b)) (by rfl) _ rfl) ?_;refine tO ((be (val a)).length:Int) ((be (val b)).length:Int) (by omega) ?_;refine jm (.bool false) ?_
 refine jss ?_;refine js ?_;refine jmm (.bool false) (.bool false) ?_;refine jzb hb fun X4 hX4 hb=>?_
 go_wp2
 go_ret
 exact ⟨by rw [HC.out];rfl,hb⟩
theorem vXv (a b:List UInt8) (w:World) (ha:a.length≤4194304) (hb0:b.length≤4194304) (h:val b<val a) (hl:(be (val a)).length≤(be (val b)).length):Calls Tryz.prog 96 #[vS a,vS b] w fun e w'=>e=.returned (vI (cB (val a) (val b)))∧Since w w':=by
 have la:=cV a;have lb:=cV b;have HC:Hid (cB (val a) (val b)=1):=iK (by omega)
 have HNE:Hid (be (val a)≠be (val b)):=fun h9=>by have:=lQ h9;omega
 have hm:=gT (Nat.le_of_lt h)
 have HBL:Hid (Op.bytesLess (be (val a)) (be (val b))=false):=by show _=_;rw [xO (by omega)];exact decide_eq_false (by omega)
 clear h
 go_enter Tryz.func96,Tryz.ntmps96
 go_upto_region 1 with fail;refine jp ?_;refine jm (st a) ?_;refine jc (st (be (val a))) (fun X hX hF=>dG a X (by omega)) ?_;refine jm (st (be (val a))) ?_;refine jz fun X1 hX1=>?_;have hb:Below w.heap.size w X1:=hX1;go_upto_region 2 with fail;refine jp ?_;refine jm (st b) ?_;refine jc (st (be (val b))) (fun X hX hF=>dG b X (by omega)) ?_;refine jm (st (be (val b))) ?_;refine jzb hb fun X2 hX2 hb=>?_;go_upto_region 3 with fail;refine jp ?_;refine jmm (st (be (val a))) (st (be (val b))) ?_;refine jv (.bool false) (bF _ _ _ _ (by rfl) (be (val a)) (be (val b)) (by rfl) (by rfl) false (cU HNE.out)) ?_;refine jzb hb fun X3 hX3 hb=>?_;go_upto_region 5 with fail;refine jp ?_;refine jm (st (be (val a))) ?_;refine jv (vI ((be (val a)).length:Int)) (bI G9 _ (by rfl) (be (val a)) (by rfl) _ rfl) ?_;refine jm (st (be (val b))) ?_;refine jv (vI ((be (val b)).length:Int)) (bI G9 _ (by rfl) (be (val b)) (by rfl) _ rfl) ?_;refine dJ ((be (val a)).length:Int) ((be (val b)).length:Int) (by omega) ?_;refine jmm (.bool false) (st (be (val a))) ?_;refine jv (vI ((be (val a)).length:Int)) (bI G9 _ (by rfl) (be (val a)) (by rfl) _ rfl) ?_;refine jm (st (be (val b))) ?_;refine jv (vI ((be (val b)).length:Int)) (bI G9 _ (by rfl) (be (val b)) (by rfl) _ rfl) ?_;refine nU ((be (val a)).length:Int) ((be (val b)).length:Int) (by omega) ?_;refine bZ (.bool true) (st (be (val a))) (st (be (val b))) ?_
 refine jv (.bool false) (qV _ _ _ _ (by rfl) (be (val a)) (be (val b)) (by rfl) (by rfl) false HBL.out) ?_;refine jmm (.bool false) (.bool false) ?_;refine jzb hb fun X4 hX4 hb=>?_
 go_wp2
 go_ret
 exact ⟨by rw [HC.out];rfl,hb⟩
theorem oX (a b:List UInt8) (w:World) (ha:a.length≤4194304) (hb0:b.length≤4194304):Calls Tryz.prog 96 #[vS a,vS b] w fun e w'=>e=.returned (vI (cB (val a) (val b)))∧Since w w':=by
 rcases Nat.lt_trichotomy (val a) (val b) with h|h|h
 ·rcases Nat.lt_or_ge (be (val a)).length (be (val b)).length with h1|h1
  ·exact vXu a b w ha hb0 h h1
  ·exact vXt a b w ha hb0 h h1
 ·exact rcmpE a b w ha hb0 h
 ·rcases Nat.lt_or_ge (be (val b)).length (be (val a)).length with h1|h1
  ·exact vXw a b w ha hb0 h h1
  ·exact vXv a b w ha hb0 h h1
def lo (a:List UInt8) (k:Nat):Nat:=lvN 256 ((a.map (·.toNat)).reverse.take k)
theorem wZ (a:List UInt8):lo a 0=0:=rfl
theorem iG (a:List UInt8) (k:Nat):lo a (k+1)=lo a k+256 ^ k * dgt a k:=by
 unfold lo
 rw [lB]
 congr 2
 unfold dgt
 rw [← List.map_reverse];simp only [List.getD,List.getElem?_map]
 cases a.reverse[k]? <;> rfl
theorem mW {a:List UInt8} {k:Nat} (h:a.length≤k):lo a k=val a:=by
 unfold lo val
 rw [List.take_of_length_le (by rw [List.length_reverse,List.length_map];exact h)]
theorem qVt (a:List UInt8) (k:Nat):lo a k=val a % 256 ^ k:=by
 rcases Nat.lt_or_ge k a.length with h|h
 ·have hl:((a.map (·.toNat)).reverse.take k).length=k:=by rw [List.length_take,List.length_reverse,List.length_map];omega
  have h1:val a=lo a k+256 ^ k * lvN 256 ((a.map (·.toNat)).reverse.drop k):=by
   unfold val lo
   conv=>lhs;rw [← List.take_append_drop k (a.map (·.toNat)).reverse,eJ,hl]
  have h2:lo a k<256 ^ k:=by
   have:=lM (B:=256) (by omega) (l:=(a.map (·.toNat)).reverse.take k) (by
    intro d hd;have:=List.mem_of_mem_take hd;rw [List.mem_reverse,List.mem_map] at this;obtain ⟨b,_,rfl⟩:=this
    exact wH b)
   rwa [hl] at this
  rw [h1,Nat.add_mul_mod_self_left,Nat.mod_eq_of_lt h2]
 ·rw [mW h,Nat.mod_eq_of_lt (Nat.lt_of_lt_of_le (gJ a) (Nat.pow_le_pow_right (by omega) h))]
theorem lo_eq {a:List UInt8} {k:Nat} (h:val a<256 ^ k):lo a k=val a:=by rw [qVt,Nat.mod_eq_of_lt h]
theorem pG (l:List Nat) (d:Nat):lvN 256 (l++[d])=lvN 256 l+256 ^ l.length * d:=by
 rw [eJ]
 congr 2
theorem qYc {ds:List Nat} {a b:List UInt8} {k c n:Nat} (hk:ds.length=k) (h:lvN 256 ds+256 ^ k * c=lo a k+lo b k) (hn:n=dgt a k+dgt b k+c) :
  lvN 256 (ds++[n % 256])+256 ^ (k+1) * (n / 256)=lo a (k+1)+lo b (k+1):=by
 rw [pG,iG,iG,hk,Nat.pow_succ,Nat.mul_assoc,Nat.add_assoc,← Nat.mul_add,Nat.mod_add_div,hn,Nat.mul_add,Nat.mul_add]
 omega
theorem vQc {ds:List Nat} {a b:List UInt8} {m c:Nat} (ha:a.length≤m) (hb:b.length≤m) (h:lvN 256 ds+256 ^ (m+1) * c=lo a (m+1)+lo b (m+1)):lvN 256 ds=val a+val b:=by
 rw [mW (by omega),mW (by omega)] at h;have h1:=Nat.lt_of_lt_of_le (gJ a) (Nat.pow_le_pow_right (n:=256) (by omega) ha);have h2:=Nat.lt_of_lt_of_le (gJ b) (Nat.pow_le_pow_right (n:=256) (by omega) hb);rw [Nat.pow_succ] at h
 rcases Nat.eq_zero_or_pos c with hc|hc
 ·rw [hc,Nat.mul_zero] at h
  exact h
 ·exfalso
  have h3:=Nat.mul_le_mul_left (256 ^ m * 256) hc
  omega
theorem kM {ds:List Nat} (h:∀ d∈ds,d<256) {n:Nat} (hn:n<256):∀ d∈ds++[n],d<256:=by
 intro d hd
 rcases List.mem_append.1 hd with h1|h1
 ·exact h d h1
 ·rw [List.mem_singleton.1 h1]
  exact hn
theorem vQk (a b:List UInt8) (w:World) (ha:a.length≤4194304) (hb0:b.length≤4194304):Calls Tryz.prog 95 #[vS a,vS b] w fun e w'=>e=.returned (vS (be (val a+val b)))∧Since w w':=by
 obtain ⟨m,hm⟩:∃ m,m=max a.length b.length:=⟨_,rfl⟩
 have hma:a.length≤m:=by omega
 have hmb:b.length≤m:=by omega
 have hmm:m≤4194304:=by omega
 have hm1:(max (a.length:Int) (b.length:Int))=(m:Int):=by omega
 have HM:=Lib.hid hm1;clear hm hm1
 go_enter Tryz.func95,Tryz.ntmps95
 go_wp2
 go_loopw [5,6,7] (fun ov cv kv wr=>∃ (k c:Nat) (ds:List Nat),k≤m+1∧kv=vI k∧c≤1∧cv=vI c∧ds.length=k∧(∀ d∈ds,d<256)∧lvN 256 ds+256 ^ k * c=lo a k+lo b k∧wr.ownsRow w.heap.size 3 1 ov k (ds.map Ni)∧Below w.heap.size w wr) (fun _ _ kv _=>m+1-(intOf kv).toNat)
 case atStart=>exact ⟨0,0,[],by omega,rfl,by omega,rfl,rfl,(fun d hd=>by cases hd),rfl,iF _ _ _,Below.refl _ _⟩
 case round =>
  obtain ⟨k,c,ds,hk,rfl,hc,rfl,hdl,hdg,hst,hown,hb⟩:=hrel;obtain ⟨A1,c1,rfl,hc1,hc1'⟩:=(Rd.of_own hown).form;have HDL:=Lib.hid hdl;have HDG:=Lib.hid hdg;have HST:=Lib.hid hst;clear hdl hdg hst
  rcases Nat.lt_or_ge m k with hlt|hlt
  ·obtain rfl:k=m+1:=by omega
   have HE:Hid (lvN 256 ds=val a+val b):=vQc hma hmb HST.out
   have hds:ds.length≤m+1:=by rw [HDL.out];exact Nat.le_refl _
   go_upto_region 4 with fail;refine jp ?_;refine jmm (vI ((m+1:Nat):Int)) (st a) ?_;refine jv (vI (a.length:Int)) (bI G9 _ (by rfl) a (by rfl) _ rfl) ?_;refine jm (st b) ?_;refine jv (vI (b.length:Int)) (bI G9 _ (by rfl) b (by rfl) _ rfl) ?_;refine jv (vI m) (jC _ _ (by rfl) .i64 (a.length:Int) (b.length:Int) (m:Int) (by rfl) (by rfl) HM.out) ?_;refine qL ((m+1:Nat):Int) (m:Int) (by omega) ?_;refine jzb hb fun X1 hX1 hb=>?_;have hown:=cD hown hX1
   have hv5:∀ X,Since X1 X→Is ds (.slice A1 (m+1) c1) X:=fun X hX=>by
    have:=(Rd.of_own hown).below hX;exact ⟨A1,c1,by rw [HDL.out],by rw [HDL.out];exact this⟩
   go_upto_region 9 with fail;refine jp ?_;refine jm (.slice A1 (m+1) c1) ?_;refine jc (st (be (lvN 256 ds))) (fun X hX hF=>oW _ ds X (hv5 X hX) HDG.out (by omega)) ?_;refine jm (st (be (lvN 256 ds))) ?_;refine jzb hb fun X2 hX2 hb=>?_;have hown:=cD hown hX2;rw [HE.out]
   go_wp2
   go_ret
   exact ⟨rfl,hb⟩
  ·have ga:=lP a k
   have gb:=lP b k;obtain ⟨n,hn⟩:∃ n,n=dgt a k+dgt b k+c:=⟨_,rfl⟩;have HST2:Hid (lvN 256 (ds++[n % 256])+256 ^ (k+1) * (n / 256)=lo a (k+1)+lo b (k+1)):=qYc HDL.out HST.out hn
   have hn1:n≤dgt a k+dgt b k+c:=by omega
   have hn2:dgt a k+dgt b k+c≤n:=by omega
   have HDG2:Hid (∀ d∈ds++[n % 256],d<256):=kM HDG.out (by omega);have HD:Hid (#[vI ((n % 256:Nat):Int)]=[Ni (n % 256)].toArray):=rfl;clear hn;go_upto_region 4 with fail;refine jp ?_;refine jmm (vI k) (st a) ?_;refine jv (vI (a.length:Int)) (bI G9 _ (by rfl) a (by rfl) _ rfl) ?_;refine jm (st b) ?_;refine jv (vI (b.length:Int)) (bI G9 _ (by rfl) b (by rfl) _ rfl) ?_;refine jv (vI m) (jC _ _ (by rfl) .i64 (a.length:Int) (b.length:Int) (m:Int) (by rfl) (by rfl) HM.out) ?_;refine pJ (k:Int) (m:Int) (by omega) ?_;refine jzb hb fun X1 hX1 hb=>?_;have hown:=cD hown hX1;go_upto_region 6 with fail;refine jp ?_;refine jmm (st a) (vI k) ?_;refine jc (vI (dgt a k:Int)) (fun X hX hF=>iE a k X (by omega)) ?_;refine jmm (st b) (vI k) ?_;refine jc (vI (dgt b k:Int)) (fun X hX hF=>iE b k X (by omega)) ?_;refine jv (vI ((dgt a k:Int)+(dgt b k:Int))) (aV _ _ _ _ (by rfl) (dgt a k:Int) (dgt b k:Int) ((dgt a k:Int)+(dgt b k:Int)) (by rfl) (by rfl) (by omega) (by omega) (by omega)) ?_;refine jm (vI c) ?_;refine jv (vI n) (aV _ _ _ _ (by rfl) ((dgt a k:Int)+(dgt b k:Int)) (c:Int) (n:Int) (by rfl) (by rfl) (by omega) (by omega) (by omega)) ?_;refine jm (vI n) ?_;refine jzb hb fun X2 hX2 hb=>?_
   have hown:=cD hown hX2;go_upto_region 7 with fail;refine jq 3 ?_;refine jmm (.slice A1 k c1) (vI n) ?_;refine jv (vI ((n % 256:Nat):Int)) (mG _ _ _ _ (by rfl) .i64 (n:Int) 256 ((n % 256:Nat):Int) (by rfl) (by rfl) (by omega) (by omega) (by omega)) ?_;refine jzb hb fun X3 hX3 hb=>?_;have hown:=cD hown hX3;go_upto_region 8 with (at_builtin;refine jR rfl rfl G99 mF rfl (w.heap.size) _ k _ [Ni (n % 256)] HD.out rfl hown (m:=1) rfl rfl (fun u hu=>by rw [List.mem_singleton.1 hu];rfl) (by omega) (by omega) hb.size ?_;intro A3 c3 w3 hown3 hc4 hc5 hb3);have hb:=hb.trans hb3;clear hown hb3;refine jp ?_;refine jm (vI n) ?_;refine jv (vI ((n / 256:Nat):Int)) (kK _ _ _ _ (by rfl) .i64 (n:Int) 256 ((n / 256:Nat):Int) (by rfl) (by rfl) (by omega) (by omega) (by omega) (IntWalk.i64_in _ (by omega))) ?_;refine jm (vI ((n / 256:Nat):Int)) ?_;refine jzb hb fun X4 hX4 hb=>?_;have hown3:=cD hown3 hX4
   go_wp2
   go_roundw
   case rel=>exact ⟨k+1,n / 256,ds++[n % 256],by omega,by go_num,by omega,rfl,by rw [List.length_append,HDL.out];rfl,HDG2.out,HST2.out,by rw [List.map_append];exact hown3,hb⟩
   case measure=>simp [intOf];omega
theorem kU:(Tryz.prog.info? 116).map (·.size)=some 2:=by kernel_rfl
theorem xY {ds:List Nat} {a b:List UInt8} {k c n:Nat} (hk:ds.length=k) (h:lo a k+256 ^ k * c=lvN 256 ds+lo b k) (hn:n+dgt b k+c=dgt a k) :
  lo a (k+1)+256 ^ (k+1) * 0=lvN 256 (ds++[n])+lo b (k+1):=by
 rw [pG,iG,iG,hk,← hn,Nat.mul_add,Nat.mul_add]
 omega
theorem xX {ds:List Nat} {a b:List UInt8} {k c n:Nat} (hk:ds.length=k) (h:lo a k+256 ^ k * c=lvN 256 ds+lo b k) (hn:n+dgt b k+c=dgt a k+256) :
  lo a (k+1)+256 ^ (k+1) * 1=lvN 256 (ds++[n])+lo b (k+1):=by
 have h1:256 ^ k * n+256 ^ k * dgt b k+256 ^ k * c=256 ^ k * dgt a k+256 ^ k * 256:=by
  rw [← Nat.mul_add,← Nat.mul_add,hn,Nat.mul_add]
 rw [pG,iG,iG,hk,Nat.pow_succ,Nat.mul_one]
 omega
theorem qYm {ds:List Nat} {a b:List UInt8} {c:Nat} (hd:∀ d∈ds,d<256) (hk:ds.length=a.length) (h:lo a a.length+256 ^ a.length * c=lvN 256 ds+lo b a.length) (hle:val b≤val a):lvN 256 ds=val a-val b:=by
 have h1:=lM (B:=256) (by omega) hd;rw [hk] at h1;rw [mW (Nat.le_refl _),lo_eq (a:=b) (Nat.lt_of_le_of_lt hle (gJ a))] at h
 rcases Nat.eq_zero_or_pos c with hc|hc
 ·rw [hc,Nat.mul_zero] at h
  omega
 ·have:=Nat.mul_le_mul_left (256 ^ a.length) hc
  omega
theorem tC (a b:List UInt8) (w:World) (ha:a.length≤4194304) (hb0:b.length≤4194304) (hle:val b≤val a):Calls Tryz.prog 97 #[vS a,vS b] w fun e w'=>e=.returned (.agg #[vS (be (val a-val b)),vI 0])∧Since w w':=by
 have hcmp:0≤cB (val a) (val b):=by unfold cB;rw [if_neg (by omega)];split <;> omega
 have HLE:=Lib.hid hle;clear hle
 go_enter Tryz.func97,Tryz.ntmps97
 go_upto_region 1 with fail;have hR0:Blk (w.alloc (.cells #[.string ⟨#[]⟩,vI 0] 116)) w.heap.size 116 [.string ⟨#[]⟩,vI 0]:=Blk.new rfl;have hb:Below w.heap.size w (w.alloc (.cells #[.string ⟨#[]⟩,vI 0] 116)):=(Below.refl _ _).alloc (Nat.le_refl _) _;generalize w.alloc (.cells #[.string ⟨#[]⟩,vI 0] 116)=W0 at hR0 hb ⊢;refine jp ?_;refine jmm (st a) (st b) ?_;refine jc (vI (cB (val a) (val b))) (fun X hX hF=>oX a b X (by omega) (by omega)) ?_;refine dJ (cB (val a) (val b)) 0 (by omega) ?_;refine jzb hb fun X1 hX1 hb=>?_;have hR0:=hR0.bel hX1;generalize cB (val a) (val b)=cc at hcmp ⊢;clear hcmp
 go_wp2
 go_loopw [5,6,7] (fun ov cv kv wr=>∃ (k c:Nat) (ds:List Nat),k≤a.length∧kv=vI k∧c≤1∧cv=vI c∧ds.length=k∧(∀ d∈ds,d<256)∧lo a k+256 ^ k * c=lvN 256 ds+lo b k∧wr.ownsRow (w.heap.size+1) 3 1 ov k (ds.map Ni)∧Blk wr w.heap.size 116 [.string ⟨#[]⟩,vI 0]∧Below w.heap.size w wr) (fun _ _ kv _=>a.length-(intOf kv).toNat)
 case atStart=>exact ⟨0,0,[],by omega,rfl,by omega,rfl,rfl,(fun d hd=>by cases hd),rfl,iF _ _ _,hR0,hb⟩
 case round =>
  clear hR0 hb;obtain ⟨k,c,ds,hk,rfl,hc,rfl,hdl,hdg,hst,hown,hR0,hb⟩:=hrel;obtain ⟨A1,c1,rfl,hc1,hc1'⟩:=(Rd.of_own hown).form;have HDL:=Lib.hid hdl;have HDG:=Lib.hid hdg;have HST:=Lib.hid hst;clear hdl hdg hst
  rcases Nat.lt_or_ge k a.length with hlt|hlt
  ·have ga:=lP a k
   have gb:=lP b k
   by_cases hn:dgt b k+c≤dgt a k
   ·obtain ⟨n,hn'⟩:∃ n,n+dgt b k+c=dgt a k:=⟨dgt a k-dgt b k-c,by omega⟩
    have HNI:Hid ((dgt a k:Int)-(dgt b k:Int)-(c:Int)=(n:Int)):=by show _=_;omega
    have HST2:=Lib.hid (xY HDL.out HST.out hn');have HDG2:Hid (∀ d∈ds++[n],d<256):=kM HDG.out (by omega);have HD:Hid (#[vI n]=[Ni n].toArray):=rfl;clear hn';go_upto_region 6 with fail;refine jp ?_;refine jmm (vI k) (st a) ?_;refine jv (vI (a.length:Int)) (bI G9 _ (by rfl) a (by rfl) _ rfl) ?_;refine dP (k:Int) (a.length:Int) (by omega) ?_;refine jzb hb fun X1 hX1 hb=>?_;have hown:=cD hown hX1;have hR0:=hR0.bel hX1;go_upto_region 8 with fail;refine jp ?_;refine jmm (st a) (vI k) ?_;refine jc (vI (dgt a k:Int)) (fun X hX hF=>iE a k X (by omega)) ?_;refine jmm (st b) (vI k) ?_;refine jc (vI (dgt b k:Int)) (fun X hX hF=>iE b k X (by omega)) ?_;refine jv (vI ((dgt a k:Int)-(dgt b k:Int))) (cM _ _ _ _ (by rfl) (dgt a k:Int) (dgt b k:Int) ((dgt a k:Int)-(dgt b k:Int)) (by rfl) (by rfl) (by omega) (by omega) (by omega)) ?_;refine jm (vI c) ?_;refine jv (vI (((dgt a k:Int)-(dgt b k:Int))-(c:Int))) (cM _ _ _ _ (by rfl) ((dgt a k:Int)-(dgt b k:Int)) (c:Int) (((dgt a k:Int)-(dgt b k:Int))-(c:Int)) (by rfl) (by rfl) (by omega) (by omega) (by omega)) ?_;refine jm (vI (((dgt a k:Int)-(dgt b k:Int))-(c:Int))) ?_;refine jzb hb fun X2 hX2 hb=>?_;have hown:=cD hown hX2;have hR0:=hR0.bel hX2;go_upto_region 9 with fail
    refine jp ?_;refine jm (vI 0) ?_;refine jzb hb fun X3 hX3 hb=>?_;have hown:=cD hown hX3;have hR0:=hR0.bel hX3;go_upto_region 10 with fail;refine jp ?_;refine jm (vI (((dgt a k:Int)-(dgt b k:Int))-(c:Int))) ?_;refine dJ (((dgt a k:Int)-(dgt b k:Int))-(c:Int)) 0 (by omega) ?_;refine jzb hb fun X4 hX4 hb=>?_;have hown:=cD hown hX4;have hR0:=hR0.bel hX4;have hsz:=hR0.lt;go_upto_region 13 with fail;rw [HNI.out];go_upto_region 7 with (at_builtin;refine uI rfl rfl G99 mF rfl (w.heap.size+1) _ k _ [Ni n] HD.out rfl hown (m:=1) rfl rfl (fun u hu=>by rw [List.mem_singleton.1 hu];rfl) (by omega) (by omega) hsz ?_;intro A3 c3 w3 hown3 hc4 hc5 hb3 hgr3);have hR3:=hR0.below hb3 (by omega);have hb:=hb.trans (hb3.mono (by omega))
    go_wp2
    go_roundw
    case rel=>exact ⟨k+1,0,ds++[n],by omega,by go_num,by omega,rfl,by rw [List.length_append,HDL.out];rfl,HDG2.out,HST2.out,by rw [List.map_append];exact hown3,hR3,hb⟩
    case measure=>simp [intOf];omega
   ·obtain ⟨n,hn'⟩:∃ n,n+dgt b k+c=dgt a k+256:=⟨dgt a k+256-dgt b k-c,by omega⟩
    have hn1:n+dgt b k+c≤dgt a k+256:=by omega
    have hn2:dgt a k+256≤n+dgt b k+c:=by omega
    have HST2:=Lib.hid (xX HDL.out HST.out hn');have HDG2:Hid (∀ d∈ds++[n],d<256):=kM HDG.out (by omega);have HD:Hid (#[vI n]=[Ni n].toArray):=rfl;clear hn';go_upto_region 6 with fail;refine jp ?_;refine jmm (vI k) (st a) ?_;refine jv (vI (a.length:Int)) (bI G9 _ (by rfl) a (by rfl) _ rfl) ?_;refine dP (k:Int) (a.length:Int) (by omega) ?_;refine jzb hb fun X1 hX1 hb=>?_;have hown:=cD hown hX1;have hR0:=hR0.bel hX1;go_upto_region 8 with fail;refine jp ?_;refine jmm (st a) (vI k) ?_;refine jc (vI (dgt a k:Int)) (fun X hX hF=>iE a k X (by omega)) ?_;refine jmm (st b) (vI k) ?_;refine jc (vI (dgt b k:Int)) (fun X hX hF=>iE b k X (by omega)) ?_;refine jv (vI ((dgt a k:Int)-(dgt b k:Int))) (cM _ _ _ _ (by rfl) (dgt a k:Int) (dgt b k:Int) ((dgt a k:Int)-(dgt b k:Int)) (by rfl) (by rfl) (by omega) (by omega) (by omega)) ?_;refine jm (vI c) ?_;refine jv (vI (((dgt a k:Int)-(dgt b k:Int))-(c:Int))) (cM _ _ _ _ (by rfl) ((dgt a k:Int)-(dgt b k:Int)) (c:Int) (((dgt a k:Int)-(dgt b k:Int))-(c:Int)) (by rfl) (by rfl) (by omega) (by omega) (by omega)) ?_;refine jm (vI (((dgt a k:Int)-(dgt b k:Int))-(c:Int))) ?_;refine jzb hb fun X2 hX2 hb=>?_;have hown:=cD hown hX2;have hR0:=hR0.bel hX2;go_upto_region 9 with fail
    refine jp ?_;refine jm (vI 0) ?_;refine jzb hb fun X3 hX3 hb=>?_;have hown:=cD hown hX3;have hR0:=hR0.bel hX3;go_upto_region 10 with fail;refine jp ?_;refine jm (vI (((dgt a k:Int)-(dgt b k:Int))-(c:Int))) ?_;refine dP (((dgt a k:Int)-(dgt b k:Int))-(c:Int)) 0 (by omega) ?_;refine jzb hb fun X4 hX4 hb=>?_;have hown:=cD hown hX4;have hR0:=hR0.bel hX4;go_upto_region 11 with fail;refine jp ?_;refine jm (vI (((dgt a k:Int)-(dgt b k:Int))-(c:Int))) ?_;refine jv (vI n) (aV _ _ _ _ (by rfl) (((dgt a k:Int)-(dgt b k:Int))-(c:Int)) 256 (n:Int) (by rfl) (by rfl) (by omega) (by omega) (by omega)) ?_;refine jm (vI n) ?_;refine jzb hb fun X5 hX5 hb=>?_;have hown:=cD hown hX5;have hR0:=hR0.bel hX5;go_upto_region 12 with fail;refine jp ?_;refine jm (vI 1) ?_;refine jzb hb fun X6 hX6 hb=>?_;have hown:=cD hown hX6;have hR0:=hR0.bel hX6;have hsz:=hR0.lt;go_upto_region 13 with fail;go_upto_region 7 with (at_builtin;refine uI rfl rfl G99 mF rfl (w.heap.size+1) _ k _ [Ni n] HD.out rfl hown (m:=1) rfl rfl (fun u hu=>by rw [List.mem_singleton.1 hu];rfl) (by omega) (by omega) hsz ?_;intro A3 c3 w3 hown3 hc4 hc5 hb3 hgr3);have hR3:=hR0.below hb3 (by omega);have hb:=hb.trans (hb3.mono (by omega))
    go_wp2
    go_roundw
    case rel=>exact ⟨k+1,1,ds++[n],by omega,by go_num,by omega,rfl,by rw [List.length_append,HDL.out];rfl,HDG2.out,HST2.out,by rw [List.map_append];exact hown3,hR3,hb⟩
    case measure=>simp [intOf];omega
  ·obtain rfl:k=a.length:=by omega
   have HE:Hid (lvN 256 ds=val a-val b):=qYm HDG.out HDL.out HST.out HLE.out
   have hds:ds.length≤a.length:=by rw [HDL.out];exact Nat.le_refl _
   go_upto_region 6 with fail;refine jp ?_;refine jmm (vI (a.length:Int)) (st a) ?_;refine jv (vI (a.length:Int)) (bI G9 _ (by rfl) a (by rfl) _ rfl) ?_;refine dJ (a.length:Int) (a.length:Int) (by omega) ?_;refine jzb hb fun X1 hX1 hb=>?_;have hown:=cD hown hX1;have hR0:=hR0.bel hX1
   have hv5:∀ X,Since X1 X→Is ds (.slice A1 a.length c1) X:=fun X hX=>by
    have:=(Rd.of_own hown).below hX;exact ⟨A1,c1,by rw [HDL.out],by rw [HDL.out];exact this⟩
   go_upto_region 14 with fail;refine jq 3 ?_;refine jm (.slice A1 a.length c1) ?_;refine jc (st (be (lvN 256 ds))) (fun X hX hF=>oW _ ds X (hv5 X hX) HDG.out (by omega)) ?_;refine jn (.agg #[st (be (lvN 256 ds)),vI 0]) ?_;refine jzb hb fun X2 hX2 hb=>?_;have hown:=cD hown hX2;have hR0:=hR0.bel hX2;refine osb 116 4 39 w.heap.size 116 hR0 [vS (be (lvN 256 ds)),vI 0] kU ?_;intro w9 hR9 hO9 hB9 hs9;have hb9:=hB9 _ _ hb (Nat.le_refl _);clear hO9 hB9
   go_wp2
   refine aK rfl rfl (by rfl) G116 rfl hR9 kU ⟨by rw [HE.out],hb9⟩
theorem qZg {l : List Nat} {j : Nat} (hj : j < l.length) (d : Nat) : lvN 256 (l.set j d) + 256 ^ j * l.getD j 0 = lvN 256 l + 256 ^ j * d := by
  have h1 : l = l.take j ++ l[j] :: l.drop (j + 1) := by
    conv => lhs; rw [← List.take_append_drop j l, List.drop_eq_getElem_cons hj]
  have h2 : l.set j d = l.take j ++ d :: l.drop (j + 1) := by
    rw [List.set_eq_take_append_cons_drop, if_pos hj]
  have h3 : (l.take j).length = j := by rw [List.length_take]; omega
  have h4 : l.getD j 0 = l[j] := by simp [List.getD, hj]
  have e1 : lvN 256 (l.set j d) = lvN 256 (l.take j) + 256 ^ j * (d + 256 * lvN 256 (l.drop (j + 1))) := by rw [h2, eJ, h3]; rfl
  have e2 : lvN 256 l = lvN 256 (l.take j) + 256 ^ j * (l[j] + 256 * lvN 256 (l.drop (j + 1))) := by conv => lhs; rw [h1, eJ, h3]
                                                                                                     rfl
  rw [e1, e2, h4, Nat.mul_add, Nat.mul_add]
  omega
theorem qQz {O:List Nat} {a b:List UInt8} {i k c n T:Nat} (hj:i+k<O.length) (h:lvN 256 O+256 ^ (i+k) * c=T+256 ^ i * dgt a i * lo b k) (hn:n=O.getD (i+k) 0+dgt a i * dgt b k+c) :
  lvN 256 (O.set (i+k) (n % 256))+256 ^ (i+(k+1)) * (n / 256)=T+256 ^ i * dgt a i * lo b (k+1):=by
 have h1:=qZg hj (n % 256);rw [iG,Nat.mul_add]
 have h2:256 ^ i * dgt a i * (256 ^ k * dgt b k)=256 ^ (i+k) * (dgt a i * dgt b k):=by rw [Nat.pow_add,Nat.mul_assoc,Nat.mul_assoc,Nat.mul_left_comm (dgt a i)]
 have h3:256 ^ (i+(k+1)) * (n / 256)=256 ^ (i+k) * (256 * (n / 256)):=by rw [← Nat.add_assoc,Nat.pow_succ,Nat.mul_assoc]
 have h4:256 ^ (i+k) * (n % 256)+256 ^ (i+k) * (256 * (n / 256))=256 ^ (i+k) * O.getD (i+k) 0+256 ^ (i+k) * (dgt a i * dgt b k)+256 ^ (i+k) * c:=by
  rw [← Nat.mul_add,Nat.mod_add_div,hn,Nat.mul_add,Nat.mul_add]
 rw [h2,h3]
 omega
theorem qYy {O:List Nat} {a b:List UInt8} {i c:Nat} (hi:i<a.length) (h:lvN 256 O+256 ^ (i+(b.length+1)) * c=lo a i * val b+256 ^ i * dgt a i * lo b (b.length+1)):lvN 256 O=lo a (i+1) * val b:=by
 rw [mW (a:=b) (by omega)] at h
 have h1:lo a i * val b+256 ^ i * dgt a i * val b=lo a (i+1) * val b:=by rw [iG,Nat.add_mul]
 rw [h1] at h
 have h2:lo a (i+1)<256 ^ (i+1):=by rw [qVt];exact Nat.mod_lt _ (Nat.pow_pos (by omega))
 have h3:=Nat.mul_lt_mul'' h2 (gJ b);rw [← Nat.pow_add,show i+1+b.length=i+(b.length+1) by omega] at h3
 rcases Nat.eq_zero_or_pos c with hc|hc
 ·rw [hc,Nat.mul_zero] at h
  exact h
 ·have:=Nat.mul_le_mul_left (256 ^ (i+(b.length+1))) hc
  omega
theorem vW {O:List Nat} (h:∀ d∈O,d<256) {n:Nat} (hn:n<256) (j:Nat):∀ d∈O.set j n,d<256:=by
 intro d hd
 rcases List.mem_or_eq_of_mem_set hd with h1|h1
 ·exact h d h1
 ·rw [h1];exact hn
theorem qZp {O:List Nat} (h:∀ d∈O,d<256) (j:Nat):O.getD j 0<256:=by
 rcases Nat.lt_or_ge j O.length with h1|h1
 ·have:O.getD j 0=O[j]:=by simp [List.getD,h1]
  rw [this];exact h _ (List.getElem_mem h1)
 ·simp [List.getD,List.getElem?_eq_none h1]
theorem zI (n:Nat):∀ d∈List.replicate n 0,d<256:=fun d hd=>by rw [List.eq_of_mem_replicate hd];omega
theorem Blk.ni {w:World} {g:Nat} {t:TypeId} {l:List Nat} (h:Blk w g t (l.map Ni)) {j:Nat} (hj:j<l.length):w.cell? ⟨g,j,none⟩=some (vI (l.getD j 0:Int)):=by
 have:=h.cell (j:=j) (u:=Ni l[j]) (by simp [hj]);rw [this]
 simp [Ni,List.getD,hj]
theorem Blk.isI {w:World} {g n:Nat} {t:TypeId} {l:List Nat} (h:Blk w g t (l.map Ni)) (hn:l.length=n) (hm:n≤maxLen):Is l (.slice (some ⟨g,0,none⟩) n n) w:=by
 subst hn;exact ⟨_,_,rfl,Rd.of_cl h.cl h.lt (by rw [List.length_map]) (Nat.le_refl _) hm⟩
def MadeI (n B:Nat) (v:Value) (X:World):Prop:=∃ g,v=.slice (some ⟨g,0,none⟩) n n∧B≤g∧Blk X g 3 ((List.replicate n 0).map Ni)
theorem MadeI.lasts (n B:Nat):dW (MadeI n B):=by
 rintro v X Y ⟨g,h1,h2,h3⟩ hS
 exact ⟨g,h1,h2,h3.bel hS⟩
theorem vO {f:Operand→Value} {o:Oper} (x y:Operand) (ho:o.op=.makeSlice 99 x y) (n B:Nat) {z:Int} (hx:f x=vI z) (hy:f y=vI z) (hz:z=(n:Int)) (hn:n≤1073741824) (X:World) (hB:B≤X.heap.size) :
  ∃ v X',(execOp f o).run Tryz.prog X=.ok (.value v) X'∧MadeI n B v X'∧Since X X':=by
 subst hz;obtain ⟨i,hi,hz0,hsz,hby⟩:=info_parts mF;have hr:=run_make (P:=Tryz.prog) X 99 3 i (vI 0) G99 hi hz0 .i64 .i64 n n (by omega) (by omega) (by rw [hby];omega) (by omega);simp only [Int.toNat_natCast,hsz,Nat.mul_one] at hr;refine ⟨_,X.alloc (.cells (madeCells (Value.int IntKind.i64 0).cells n) 3),?_,⟨X.heap.size,rfl,hB,?_⟩,(Below.refl X.heap.size X).alloc (Nat.le_refl _) _⟩
 ·unfold execOp
  simp only [ho,hx,hy,Sem.run_bind,hr,Result.andThen_ok,Sem.run_pure]
 ·refine Blk.new ?_
  apply Array.ext
  ·simp [size_madeCells,Value.cells]
  ·intro j h1 h2
   simp [madeCells,Value.cells,Ni,Nat.mod_one]
theorem qVq (n:Nat):lvN 256 (List.replicate n 0)=0:=mV 256 n
theorem kB (a b:List UInt8) (w:World) (ha:a.length≤4194304) (hb0:b.length≤4194304):Calls Tryz.prog 88 #[vS a,vS b] w fun e w'=>e=.returned (vS (be (val a * val b)))∧Since w w':=by
 obtain ⟨N,hN⟩:∃ N,N=a.length+b.length+1:=⟨_,rfl⟩
 have hN1:N≤a.length+b.length+1:=by omega
 have hN2:a.length+b.length+1≤N:=by omega
 clear hN
 go_enter Tryz.func88,Tryz.ntmps88
 go_upto_region 1 with fail;refine bM [none,none,none,none,none,none,some (MadeI N w.heap.size)] (aA (aA (aA (aA (aA (aA (aE (MadeI.lasts _ _) (aG)))))))) ?_;simp only [iX,Nat.reduceAdd];refine jm (st a) ?_;refine jv (vI (a.length:Int)) (bI G9 _ (by rfl) a (by rfl) _ rfl) ?_;refine jm (st b) ?_;refine jv (vI (b.length:Int)) (bI G9 _ (by rfl) b (by rfl) _ rfl) ?_;refine jv (vI ((a.length:Int)+(b.length:Int))) (aV _ _ _ _ (by rfl) (a.length:Int) (b.length:Int) ((a.length:Int)+(b.length:Int)) (by rfl) (by rfl) (by omega) (by omega) (by omega)) ?_;refine jv (vI N) (aV _ _ _ _ (by rfl) ((a.length:Int)+(b.length:Int)) 1 (N:Int) (by rfl) (by rfl) (by omega) (by omega) (by omega)) ?_;refine bH (by rfl) (fun X hX hF=>vO _ _ (by rfl) N w.heap.size (by rfl) (by rfl) rfl (by omega) X hX.size) ?_;intro v16;simp only [pX];refine jm (v16) ?_;refine aI ?_;intro X1 hX1 hF;have hv16:=hF _ _ zE;have hb:Below w.heap.size w X1:=hX1;clear hF hX1;obtain ⟨g,rfl,hg,hB0⟩:=hv16
 go_wp2
 go_loopw [6] (fun iv wr=>∃ (i:Nat) (O:List Nat),i≤a.length∧iv=vI i∧O.length=N∧(∀ d∈O,d<256)∧lvN 256 O=lo a i * val b∧Blk wr g 3 (O.map Ni)∧Below w.heap.size w wr) (fun iv _=>a.length-(intOf iv).toNat)
 case atStart=>exact ⟨0,List.replicate N 0,by omega,rfl,List.length_replicate,zI N,by rw [qVq,wZ,Nat.zero_mul],hB0,hb⟩
 case round =>
  clear hB0 hb;obtain ⟨i,O,hi,rfl,hO,hdg,hst,hB,hb⟩:=hrel;have HO:=Lib.hid hO;have HDG:=Lib.hid hdg;have HST:=Lib.hid hst;clear hO hdg hst
  rcases Nat.lt_or_ge i a.length with hlt|hlt
  ·have HLT:Hid (i<a.length):=hlt
   go_upto_region 3 with fail;refine jp ?_;refine jmm (vI i) (st a) ?_;refine jv (vI (a.length:Int)) (bI G9 _ (by rfl) a (by rfl) _ rfl) ?_;refine dP (i:Int) (a.length:Int) (by omega) ?_;refine jzb hb fun X1 hX1 hb=>?_;have hB:=hB.bel hX1
   go_wp2
   go_loopw [7,8] (fun cv kv wq=>∃ (k c:Nat) (O:List Nat),k≤b.length+1∧kv=vI k∧c<256∧cv=vI c∧O.length=N∧(∀ d∈O,d<256)∧lvN 256 O+256 ^ (i+k) * c=lo a i * val b+256 ^ i * dgt a i * lo b k∧Blk wq g 3 (O.map Ni)∧Below w.heap.size w wq) (fun _ kv _=>b.length+1-(intOf kv).toNat)
   case atStart=>exact ⟨0,0,O,by omega,rfl,by omega,rfl,HO.out,HDG.out,by rw [HST.out,wZ,Nat.mul_zero,Nat.mul_zero],hB,hb⟩
   case round =>
    clear hB hb HO HDG HST;obtain ⟨k,c,P,hk,rfl,hc,rfl,hP,hdg,hst,hB,hb⟩:=hrel;have HP:=Lib.hid hP;have HDG:=Lib.hid hdg;have HST:=Lib.hid hst;clear hP hdg hst
    rcases Nat.lt_or_ge b.length k with hkl|hkl
    ·obtain rfl:k=b.length+1:=by omega
     have HE:=Lib.hid (qYy HLT.out HST.out);go_upto_region 7 with fail;refine jp ?_;refine jmm (vI ((b.length+1:Nat):Int)) (st b) ?_;refine jv (vI (b.length:Int)) (bI G9 _ (by rfl) b (by rfl) _ rfl) ?_;refine qL ((b.length+1:Nat):Int) (b.length:Int) (by omega) ?_;refine jzb hb fun X1 hX1 hb=>?_;have hB:=hB.bel hX1;go_upto_region 4 with fail;refine jp ?_;refine jm (vI i) ?_;refine jv (vI ((i+1:Nat):Int)) (aV _ _ _ _ (by rfl) (i:Int) 1 ((i+1:Nat):Int) (by rfl) (by rfl) (by omega) (by omega) (by omega)) ?_;refine jm (vI ((i+1:Nat):Int)) ?_;refine jzb hb fun X2 hX2 hb=>?_;have hB:=hB.bel hX2
     go_wp2
     go_roundw
     case rel=>exact ⟨i+1,P,by omega,rfl,HP.out,HDG.out,HE.out,hB,hb⟩
     case measure=>simp [intOf] <;> omega
    ·have ga:=lP a i
     have gb:=lP b k;have gO:=qZp HDG.out (i+k)
     have hjP:i+k<P.length:=by rw [HP.out];omega
     have hq:P.getD (i+k) 0+dgt a i * dgt b k+c≤255+255 * 255+255:=by
      have:=Nat.mul_le_mul (show dgt a i≤255 by omega) (show dgt b k≤255 by omega)
      omega
     obtain ⟨n,hn⟩:∃ n,n=P.getD (i+k) 0+dgt a i * dgt b k+c:=⟨_,rfl⟩;have HST2:=Lib.hid (qQz hjP HST.out hn);have HDG2:Hid (∀ d∈P.set (i+k) (n % 256),d<256):=vW HDG.out (by omega) _;have hcell:=hB.ni hjP;obtain ⟨x,hx⟩:∃ x,x=P.getD (i+k) 0:=⟨_,rfl⟩;obtain ⟨y,hy⟩:∃ y,y=dgt a i * dgt b k:=⟨_,rfl⟩;rw [← hx] at hcell hn;rw [← hy] at hn
     have HY:Hid ((dgt a i:Int) * (dgt b k:Int)=(y:Int)):=by show _=_;rw [hy];exact (Int.natCast_mul _ _).symm
     have hn1:n≤x+y+c:=by omega
     have hn2:x+y+c≤n:=by omega
     have hnb:n≤65535:=by rw [hn,hx,hy];omega
     have HJ:=Lib.hid hjP
     have hik:i+k<N:=by rw [← HP.out];exact hjP
     clear hn hx hy gO hjP
     have hcl:∀ X,Blk X g 3 (P.map Ni)→X.cell? ⟨g,i+k,none⟩=some (vI x):=fun X hX=>by
      have h9:=hX.ni HJ.out;have h8:=hB.ni HJ.out;rw [h9,← h8];exact hcell
     have HCL:=Lib.hid hcl;clear hcl hcell;go_upto_region 7 with fail;refine jp ?_;refine jmm (vI k) (st b) ?_;refine jv (vI (b.length:Int)) (bI G9 _ (by rfl) b (by rfl) _ rfl) ?_;refine pJ (k:Int) (b.length:Int) (by omega) ?_;refine jzb hb fun X1 hX1 hb=>?_;have hB:=hB.bel hX1;go_upto_region 9 with fail;refine jd ?_;refine bZ (.slice (some ⟨g,0,none⟩) N N) (vI i) (vI k) ?_;refine jv (vI ((i+k:Nat):Int)) (aV _ _ _ _ (by rfl) (i:Int) (k:Int) ((i+k:Nat):Int) (by rfl) (by rfl) (by omega) (by omega) (by omega)) ?_;refine jv (vP g (i+k)) (eU G99 oU _ _ (by rfl) g N N (i+k) (by omega) (by rfl) (by rfl) (by omega)) ?_;refine jg (vI x) (fun X hX hF=>cA 3 _ (by rfl) g ((i+k)) (by rfl) _ X (HCL.out X (hB.bel hX)) (fun X u h=>pH g ((i+k)) X u h)) ?_;refine jmm (st a) (vI i) ?_;refine jc (vI (dgt a i:Int)) (fun X hX hF=>iE a i X (by omega)) ?_;refine jmm (st b) (vI k) ?_;refine jc (vI (dgt b k:Int)) (fun X hX hF=>iE b k X (by omega)) ?_;refine jv (vI y) (qXj _ _ _ _ (by rfl) (dgt a i:Int) (dgt b k:Int) (y:Int) (by rfl) (by rfl) HY.out (by omega) (by omega)) ?_;refine jv (vI ((x+y:Nat):Int)) (aV _ _ _ _ (by rfl) (x:Int) (y:Int) ((x+y:Nat):Int) (by rfl) (by rfl) (by omega) (by omega) (by omega)) ?_
     refine jm (vI c) ?_;refine jv (vI n) (aV _ _ _ _ (by rfl) ((x+y:Nat):Int) (c:Int) (n:Int) (by rfl) (by rfl) (by omega) (by omega) (by omega)) ?_;refine jm (vI n) ?_;refine jzb hb fun X2 hX2 hb=>?_;have hB:=hB.bel hX2;go_upto_region 10 with fail;refine jq 7 ?_;refine bZ (.slice (some ⟨g,0,none⟩) N N) (vI i) (vI k) ?_;refine jv (vI ((i+k:Nat):Int)) (aV _ _ _ _ (by rfl) (i:Int) (k:Int) ((i+k:Nat):Int) (by rfl) (by rfl) (by omega) (by omega) (by omega)) ?_;refine jm (vI n) ?_;refine jv (vI ((n:Int) % 256)) (mG _ _ _ _ (by rfl) .i64 (n:Int) 256 ((n:Int) % 256) (by rfl) (by rfl) (by omega) (by omega) rfl) ?_;refine jv (vP g (i+k)) (eU G99 oU _ _ (by rfl) g N N (i+k) (by omega) (by rfl) (by rfl) (by omega)) ?_;refine jzb hb fun X3 hX3 hb=>?_;have hB:=hB.bel hX3;have q1:=HCL.out _ hB;have q2:=hB.free (i+k);have hB9:=hB.set (i+k) (Ni (n % 256));rw [← List.map_set,show Ni (n % 256)=vI ((n:Int) % 256) from fN (by omega)] at hB9;have hb9:Below w.heap.size w (X3.setCell ⟨g,i+k,none⟩ (vI ((n:Int) % 256))):=hb.setCell (by simp;omega) _;go_upto_region 11 with fail;clear hB hb q1 q2;generalize X3.setCell ⟨g,i+k,none⟩ (vI ((n:Int) % 256))=Y4 at hB9 hb9 ⊢;have hb:=hb9;have hB:=hB9;clear hb9 hB9;refine jp ?_;refine jm (vI n) ?_
     refine jv (vI ((n / 256:Nat):Int)) (kK _ _ _ _ (by rfl) .i64 (n:Int) 256 ((n / 256:Nat):Int) (by rfl) (by rfl) (by omega) (by omega) (by omega) (IntWalk.i64_in _ (by omega))) ?_;refine jm (vI ((n / 256:Nat):Int)) ?_;refine jzb hb fun X4 hX4 hb=>?_;have hB:=hB.bel hX4;go_upto_region 8 with fail;refine jp ?_;refine jm (vI k) ?_;refine jv (vI ((k+1:Nat):Int)) (aV _ _ _ _ (by rfl) (k:Int) 1 ((k+1:Nat):Int) (by rfl) (by rfl) (by omega) (by omega) (by omega)) ?_;refine jm (vI ((k+1:Nat):Int)) ?_;refine jzb hb fun X5 hX5 hb=>?_;have hB:=hB.bel hX5
     go_wp2
     go_roundw
     case rel=>exact ⟨k+1,n / 256,P.set (i+k) (n % 256),by omega,rfl,by omega,rfl,by rw [List.length_set];exact HP.out,HDG2.out,HST2.out,hB,hb⟩
     case measure=>simp [intOf];omega
  ·obtain rfl:i=a.length:=by omega
   have HE:Hid (lvN 256 O=val a * val b):=by show _=_;rw [HST.out,mW (Nat.le_refl _)]
   have hOl:O.length≤N:=by rw [HO.out];exact Nat.le_refl _
   go_upto_region 3 with fail;refine jp ?_;refine jmm (vI (a.length:Int)) (st a) ?_;refine jv (vI (a.length:Int)) (bI G9 _ (by rfl) a (by rfl) _ rfl) ?_;refine dJ (a.length:Int) (a.length:Int) (by omega) ?_;refine jzb hb fun X1 hX1 hb=>?_;have hB:=hB.bel hX1;go_upto_region 12 with fail;refine jp ?_;refine jm (.slice (some ⟨g,0,none⟩) N N) ?_;refine jc (st (be (lvN 256 O))) (fun X hX hF=>oW _ O X ((hB.bel hX).isI HO.out (by unfold maxLen;omega)) HDG.out (by omega)) ?_;refine jm (st (be (lvN 256 O))) ?_;refine jzb hb fun X2 hX2 hb=>?_;have hB:=hB.bel hX2;rw [HE.out]
   go_wp2
   go_ret
   exact ⟨rfl,hb⟩
end Go.Proofs.YtnfpenhldlfafaaGreatDoor
