/- Lemmas. -/
import Derived.Test.YtipaopbmklbmnaaGreatDoorT28
set_option linter.all false
set_option maxRecDepth 100000
set_option maxHeartbeats 0
namespace Go.Proofs.YtipaopbmklbmnaaGreatDoor
section
open Tryz
open Go.RowKit Go.Shelf
attribute [local go_sem] zAE Oper.grows Oper.growUpon Oper.wild Oper.wildUpon
theorem bit5:∀ s,s < 32->∀ i,i < 5->bits BinOp.and IntKind.i64 (((s:Nat) : Int) / 2 ^ i) 1=if s.testBit i then 1 else 0:=by decide
theorem shl5 (n:Nat) (hn:n < 6) : wrap64 (2 ^ n)=((2 ^ n:Nat) : Int):=by
 have h:(2:Int) ^ n=((2 ^ n:Nat) : Int):=by simp
 rw [h];have:=Nat.pow_le_pow_right (n:=2) (by decide) (show n<=5 by omega);generalize 2 ^ n=k at this;exact IntWalk.wrap64_in _ (by omega)
theorem selTo_le (O:List Int) (s:Nat) : ∀ i,(zPH O s i).length<=i
 | 0=>by simp [zPH]
 | i+1=>by
   have:=selTo_le O s i;simp only [zPH,List.length_append];split <;> simp <;> omega
theorem refT_len (O:List Int) : (refT O).length=2 ^ O.length:=by unfold refT;rw [List.length_map,List.length_range]
theorem refT_take (O:List Int) (s:Nat) (h:s < 2 ^ O.length) : (refT O).take (s+1)=(refT O).take s++[zPH O s O.length]:=by
 have hl:s < (refT O).length:=by rw [refT_len];exact h
 rw [List.take_succ_eq_append_getElem hl];congr 2;simp [refT]
theorem truths03 (w:World) (vr vn:Value) (N:List Note) (hn:Sl zBL 10 w vn N) (hN:N.length<=1000) (hd:∀ i j,i < j->j < N.length->nm N i≠nm N j) (h5:∀ L,OpenIx N N.length L->L.length<=5) :
  Calls prog 10 #[.agg #[vr,vn]] w fun e w'=>∃ u O,e = .returned u/\O.Pairwise (· < ·)/\(∀ y,y∈O↔y∈zBO N)/\O.length<=5/\(∃ base cs,w'.ownsRow base 28 1 u (refT O).length cs/\zEO [3] zJC 1 w' cs (refT O))/\Below w.heap.size w w':=by
 obtain ⟨i0,hif,iz0,iz1,iz2⟩:=info_parts zFY;obtain ⟨l0,hlf,lz0,lz1,lz2⟩:=info_parts infoInts;obtain ⟨hb1,B1⟩:=zBY w #[vr,vn] 27;have c0:=B1 0 vr rfl;have c1:=B1 1 vn rfl;clear B1;obtain ⟨an,capn,rfl,hmn⟩:=zD hn;have hn1:=zJ zAN hb1 hn;have C1:=zE c1;clear hn;unfold zK at c0 c1;go_enter func10,ntmps10;go_wp2_with fail;clear c0 c1;generalize w.alloc _=w1 at *;refine (open03 _ _ _ N hn1 hN hd).mono ?_;rintro e w5 ⟨vo,L,rfl,hown0,hix,hb5⟩;have HIX:=zE hix;have hL5:=h5 L hix;clear h5;have hvo:Sl zAM 1 w5 vo (L.map (fun i:Nat=>(i:Int))):=zBF (by rw [List.length_map,List.map_map];exact hown0) (fun x hx=>by
  obtain ⟨j,hj,rfl⟩:=List.mem_map.1 hx;have:=((hix.mem j).1 hj).1;unfold I64;omega)
 obtain ⟨ao,capo,rfl,_⟩:=zD hvo;have HVO:=zE hvo;have C:=zE (zC hb5 C1.out);have hn5:=zE (zJ zAN hb5 hn1);have hbb:=zE (zA hb1 hb5);clear hn1 hvo hown0 hix hb1 hb5;have hcl:=zAD C.out;rw [List.length_map];generalize hD:L.map (nm N)=D at *;have HD:=zE hD;have hDl:D.length=L.length:=by rw [<- hD,List.length_map]
 have HDL:=zE hDl;clear hD hDl;have hI:Hid (∀ x∈D,I64 x):=fun x hx=>by
  rw [<- HD.out] at hx;obtain ⟨j,hj,rfl⟩:=List.mem_map.1 hx;have hjN:=((HIX.out.mem j).1 hj).1;rw [nm_at hjN];obtain ⟨_,_,_,_,hr⟩:=(zY hn5.out).2 j hjN;exact hr.1
 have hsh:=shl5 L.length (by omega);have h2p:2 ^ L.length<=32:=Nat.pow_le_pow_right (n:=2) (by decide) hL5;have htk:Hid (∀ s,s < 2 ^ L.length->(refT D).take (s+1)=(refT D).take s++[zPH D s L.length]):=fun s h=>by
  have:=HDL.out;rw [<- this] at h ⊢;exact refT_take D s h
 have htl:Hid (∀ s,s<=2 ^ L.length->((refT D).take s).length=s):=fun s h=>by
  have:=HDL.out;rw [List.length_take,refT_len,this];omega
 have htall:Hid ((refT D).take (2 ^ L.length)=refT D):=List.take_of_length_le (by rw [refT_len,HDL.out];exact Nat.le_refl _);generalize hT:2 ^ L.length=T at *;clear hT;go_wp2;go_loopw [4,5] (fun o i wr=>∃ s:Nat,i = .int .i64 s/\s<=T/\Hid (∃ cs,wr.ownsRow w5.heap.size 28 1 o s cs/\zEO [3] zJC 1 wr cs ((refT D).take s))/\Hid (Below w5.heap.size w5 wr)) (fun _ i _=>T - (intOf i).toNat)
 case atStart=>exact ⟨0,rfl,by omega,zE ⟨[],World.ownsRow_nil _ _ _ _,by rw [List.take_zero];exact rowIs_nil _ _ _ _⟩,zE (br_)⟩
 case round =>
  obtain ⟨s,rfl,hs,HO,HB⟩:=hrel;by_cases hlt:s < T
  case neg =>
   obtain rfl:s=T:=by omega
   go_wp2;go_ret;obtain ⟨cs,ho,hr⟩:=HO.out;rw [htall.out] at hr;have ho':=ho;rw [<- htl.out s (Nat.le_refl _),htall.out] at ho';refine ⟨_,D,rfl,?_,fun y=>?_,?_,⟨_,_,ho',hr⟩,zA hbb.out HB.out⟩
   ·rw [<- HD.out];exact HIX.out.nums.1
   ·rw [<- HD.out];exact HIX.out.nums.2 y
   ·rw [HDL.out];exact hL5
  case pos =>
   have hlt':(s:Int) < T:=by omega
   have hs32:s < 32:=by omega
   have htk1:=zE (htk.out s hlt);have htl1:=zE (htl.out s hs);generalize (refT D).take s=A at *;go_wp2;have hem:(wr.alloc (.cells #[] 3)).ownsRow wr.heap.size 3 1 (.slice (some ⟨wr.heap.size,0,none⟩) 0 0) 0 []:=World.ownsRow_lit wr #[] 0 (Nat.le_refl _) (by decide) rfl;have hba:=zB wr (.cells #[] 3);generalize wr=wb at *;generalize hwA:wb.alloc _=wA at *;have HEM:=zE hem;have HBA:=zE hba;clear hem hba hwA;go_loopw [6,7] (fun q i wi=>∃ j:Nat,i = .int .i64 j/\j<=L.length/\Hid (wi.ownsRow wb.heap.size 3 1 q (zPH D s j).length ((zPH D s j).map (Value.int .i64)))/\Hid (Below wb.heap.size wb wi)) (fun _ i _=>L.length - (intOf i).toNat)
   case atStart=>exact ⟨0,rfl,by omega,zE HEM.out,HBA⟩
   case round =>
    clear HEM HBA;obtain ⟨j,rfl,hj,HW,HBW⟩:=hrel;have hBW:=zE (zA HB.out HBW.out);by_cases hlj:j < L.length
    case pos =>
     have hjl:(j:Int) < L.length:=by omega
     have hbit:=bit5 s hs32 j (by omega);have hle:=selTo_le D s j;by_cases htb:s.testBit j=true
     case neg =>
      have hsel:Hid (zPH D s (j+1)=zPH D s j):=by unfold Hid;simp only [zPH];rw [if_neg htb,List.append_nil]
      rw [if_neg htb] at hbit;clear htb;go_wp2;go_roundw
      ·exact ⟨j+1,by go_num,by omega,by rw [hsel.out];exact HW,HBW⟩
      ·simp [intOf];omega
     case pos =>
      have hkl2:j < (L.map (fun i:Nat=>(i:Int))).length:=by rw [List.length_map];exact hlj
      obtain ⟨bo,oo,rfl,hcx,-⟩:=(zY HVO.out).2 j hkl2;rw [List.getElem_map] at hcx;have hyN:=((HIX.out.mem L[j]).1 (List.getElem_mem hlj)).1;obtain ⟨bn,on,rfl,⟨q0,_⟩,_⟩:=(zY hn5.out).2 L[j] hyN;rw [<- nm_at hyN] at q0;have hsel:Hid (zPH D s (j+1)=zPH D s j++[nm N L[j]]):=by unfold Hid;simp only [zPH];rw [if_pos htb];congr 2;have:=HD.out;subst this;rw [List.getD_eq_getElem?_getD,List.getElem?_map,List.getElem?_eq_getElem hlj];rfl
      rw [if_pos htb] at hbit;clear htb;generalize nm N L[j]=x at *;generalize L[j]=y at *;have HCX:=zE hcx;have HQ:=zE q0;have hLM:(L.map (fun i:Nat=>(i:Int))).length=L.length:=List.length_map ..;generalize (L.map (fun i:Nat=>(i:Int))).length=LM at *;subst hLM;have HVO2:=HVO;clear hcx q0 hkl2;have hyN2:(y:Int) < N.length:=by omega
      have hxs:Hid ((zPH D s (j+1)).map (Value.int .i64)=(zPH D s j).map (Value.int .i64)++[.int .i64 x]/\(zPH D s (j+1)).length=(zPH D s j).length+1):=by unfold Hid;rw [hsel.out,List.map_append,List.length_append];exact ⟨rfl,rfl⟩
      generalize (zPH D s j).map (Value.int .i64)=ROW at *;generalize (zPH D s j).length=k at *;go_wp2;refine zBU 12 11 [10] (fun a c=>a.grownBy c u6.ownBlock) (fun c=>wr.grownBy c u6.ownBlock) (fun _ _ hb h=>zCG hb h) (zBH _ _ _ rfl rfl rfl rfl)
       (fun c=>c.ownsRow wb.heap.size 3 1 u6 k ROW/\wb.heap.size<=c.heap.size) (fun _ _ hb h=>⟨zAC hb h.1,Nat.le_trans h.2 hb.size⟩) ⟨zAC ⟨rfl,rfl,rfl,Nat.le_refl _,fun _ _=>rfl⟩ HW.out,HBW.out.size⟩ (by kernel_rfl) (by kernel_rfl) ?_
      simp only [tk_];apply gw_ (by rfl)
      ·intro vs w2 hw hd
       (try simp [hq_] at hd)
       simp only [pf_];go_simp;exact ⟨br_,rfl⟩
      apply gw_ (by rfl)
      ·intro vs w2 hw hd
       (try simp [hq_] at hd)
       simp only [pf_];go_simp;exact ⟨br_,rfl⟩
      apply gw_ (by rfl)
      ·intro vs w2 hw hd
       (try simp [hq_] at hd)
       have hB2:=zEX HW.out hw HBW.out (Nat.le_refl _);have k0:=zC (zA HB.out hB2) C.out;unfold zK at k0;simp only [pf_];go_simp;exact ⟨br_,rfl⟩
      apply gw_ (by rfl)
      ·intro vs w2 hw hd
       (try simp [hq_] at hd)
       simp only [pf_];go_simp;exact ⟨br_,rfl⟩
      apply gw_ (by rfl)
      ·intro vs w2 hw hd
       (try simp [hq_] at hd)
       simp only [pf_];go_simp;exact ⟨br_,rfl⟩
      apply gw_ (by rfl)
      ·intro vs w2 hw hd
       (try simp [hq_] at hd)
       simp only [pf_];go_simp;exact ⟨br_,rfl⟩
      apply gw_ (by rfl)
      ·intro vs w2 hw hd
       (try simp [hq_] at hd)
       have hB2:=zEX HW.out hw HBW.out (Nat.le_refl _);have k0:=zC (zA HB.out hB2) HCX.out;unfold zK at k0;rw [Nat.mul_one] at k0;simp only [pf_];go_simp;exact ⟨br_,rfl⟩
      apply gw_ (by rfl)
      ·intro vs w2 hw hd
       (try simp [hq_] at hd)
       simp only [pf_];go_simp;exact ⟨br_,rfl⟩
      apply gw_ (by rfl)
      ·intro vs w2 hw hd
       (try simp [hq_] at hd)
       simp only [pf_];go_simp;exact ⟨br_,rfl⟩
      apply gw_ (by rfl)
      ·intro vs w2 hw hd
       (try simp [hq_] at hd)
       have hB2:=zEX HW.out hw HBW.out (Nat.le_refl _);have k0:=zC (zA HB.out hB2) HQ.out;unfold zK at k0;simp only [pf_];go_simp;exact ⟨br_,rfl⟩
      refine zCC (zKF x) (zEB x) (by rfl) (.inl (by rfl)) ?_ ?_
      ·intro vs w2 hw hd
       (try simp [hq_] at hd)
       simp only [pf_];go_simp;exact ⟨zB _ _,_,rfl,zR _ _ _ 0 _ rfl⟩
      refine zFD (fun v w'=>Hid (w'.ownsRow wb.heap.size 3 1 v (k+1) (ROW++[.int .i64 x]))) (fun _ _ _ hb h=>zE (zAC hb h.out)) (by rfl) ?_ ?_
      ·intro vs w2 hw hi hd
       (try simp [hq_] at hd)
       simp only [pf_];obtain ⟨e3,bb,e5,hbb2⟩:=hd;refine zEG (.tmp 29) (.tmp 39) 28 (by rfl) wb.heap.size 3 i0 _ 1 8 underlying28 hif iz0 iz1 iz2 rfl (by decide) u6 _ _ (by exact e3) hi.1 (vs 10) ⟨bb,0,none⟩ 1 1 e5 [.int .i64 x] (by rfl) rfl (fun j u hj=>by
        cases j with
        | zero=>simp at hj;subst hj;exact hbb2
        | succ j=>simp at hj) (fun u hu=>by simp at hu;subst hu;rfl) (by unfold maxLen;omega) (by omega) hi.2 (fun v' w' h1 h2=>⟨zAG hw h2,h2,h1⟩)
      refine zEU rfl (fun vs w7 hw hd=>?_);simp [zW,zAI,List.range,List.range.loop,List.filter_cons,List.filter_nil] at hd;simp only [pf_];obtain ⟨e0,e1,e2,e3,e4,e5,e6,e7,e8,e9,h11⟩:=hd;have hb7:=zE (zEX HW.out hw HBW.out (Nat.le_refl _));simp only [Nat.zero_add,Nat.reduceAdd] at e0 e1 e2 e3 e4 e5 e6 e7 e8 e9 ⊢;simp only [e0,e1,e2,e3,e4,e5,e6,e7,e8,e9];clear hw e0 e1 e2 e3 e4 e5 e6 e7 e8 e9;generalize vs 11=u9 at *;generalize vs 10=v8 at *;go_wp2;go_roundw
      ·exact ⟨j+1,by go_num,by omega,by rw [hxs.out.1,hxs.out.2];exact h11,hb7⟩
      ·simp [intOf];omega
    case neg =>
     obtain rfl:j=L.length:=by omega
     have hSI:∀ x∈zPH D s L.length,I64 x:=fun x hx=>by
      obtain ⟨i,_,_,h⟩:=(zJW (by rw [HDL.out];exact Nat.le_refl _)).1 hx;exact hI.out x (List.mem_of_getElem? h)
     have hsl5:=selTo_le D s L.length;have hw0:=HW.out;generalize zPH D s L.length=RT at *;have hon:OnT [3] (fun w=>Sl zAM 1 w u6 RT) wr:=(rowIs_enc (F:=IsInt) (enc:=fun x=>[.int .i64 x]) (sz:=1) (w:=wr) RT (fun x hx=>⟨rfl,fun _=>⟨rfl,hSI x hx⟩⟩)).sl (by rw [ints_flat];exact hw0) isInt_at;obtain ⟨au,cu,rfl,_⟩:=zD hon.now;have HON:=zE hon;obtain ⟨cs,hoc,hri⟩:=HO.out;have HOC:=zE (zAC HBW.out hoc);have HRI:=zE (hri.keep (zBM HBW.out));clear hon hoc hri hw0 hSI HW;have hsz:=hBW.out.size;go_wp2_with (
      at_builtin
      refine wpList_append_own _ rfl _ _ 37 rfl _ 28 l0 (.slice none 0 0) 1 24 underlying37 hlf lz0 lz1 lz2 rfl (by decide) _ _ _ rfl (HOC.out.alloc _) ⟨wr.heap.size,0,none⟩ 1 1 [.slice au RT.length cu] rfl rfl (cell_one_new _ _ _) (by simp [Value.oneCell']) (by unfold maxLen;omega) (by omega) (by simp;omega) ?_;intro v' w4 hown' hgrow _)
     have hba:=zB wr (.cells #[.slice au RT.length cu] 28);have hK1:zFL [3] wr w4:=(zBM hba).trans (zBX hgrow (HOC.out.alloc _) (by decide));have hbz:=(zA hBW.out hba).grown hgrow (zA hBW.out hba).size (fun r e=>(HOC.out.lt r e).1);have hfin:∃ cs',w4.ownsRow w5.heap.size 28 1 v' (s+1) cs'/\zEO [3] zJC 1 w4 cs' ((refT D).take (s+1)):=by refine ⟨_,hown',?_⟩;rw [htk1.out];exact (HRI.out.keep hK1).snoc rfl ((HON.out.keep hK1).mono (fun w h=>⟨_,rfl,h⟩))
     have HFIN:=zE hfin;have HBZ:=zE hbz;clear hown' hgrow hba hK1 hbz hfin;go_roundw
     ·exact ⟨s+1,by go_num,by omega,HFIN,HBZ⟩
     ·simp [intOf];omega
end
section
open Tryz
open Go.RowKit
def zND (b:Built) (A:List (List Int)) : Prop:=Ord A/\∀ l,l∈A↔IsT (zBO b.ns.notes) l/\zCV b l
theorem zND.eq {b:Built} {A B:List (List Int)} (hA:zND b A) (hB:zND b B) : A=B:=ord_eq hA.1 hB.1 (fun l=>(hA.2 l).trans (hB.2 l).symm)
theorem isT_congr {O P:List Int} (h:∀ y,y∈O↔y∈P) (l:List Int) : IsT O l↔IsT P l:=by
 unfold IsT;exact and_congr Iff.rfl (forall_congr' fun x=>imp_congr_right fun _=>h x)
theorem opens_len5 {R:List Issue} {N:List Note} (h:zDL R N) : (zBO N).length<=5:=by
 have key:∀ k,k<=N.length->((N.take k).filter (fun x=>x.sg == 1)).length=zFN N k:=by
  intro k;induction k with
  | zero=>intro _;simp [zFN]
  | succ k ih =>
    intro hk;have hlt:k < N.length:=by omega
    rw [List.take_succ_eq_append_getElem hlt,List.filter_append,List.length_append,ih (by omega),zMA N k hlt];by_cases e:N[k].sg=1 <;> simp [e]
 have:=key N.length (Nat.le_refl _);rw [List.take_length] at this;unfold zBO;rw [List.length_map,this];exact h.2.2
structure LeftTo (b:Built) (T:List (List Int)) (k:Nat) (A:List (List Int)) : Prop where
 ord:Ord A
 mem:∀ l,l∈A↔l∈T.take k/\zCV b l
 len:A.length<=k
theorem LeftTo.skip {b:Built} {T A:List (List Int)} {k:Nat} (h:LeftTo b T k A) (hk:k < T.length) (hn:¬ zCV b T[k]) : LeftTo b T (k+1) A :=
 ⟨h.ord,fun l=>by
  rw [h.mem,List.take_succ_eq_append_getElem hk,List.mem_append,List.mem_singleton];constructor
  ·rintro ⟨a,c⟩;exact ⟨.inl a,c⟩
  ·rintro ⟨a | rfl,c⟩
   ·exact ⟨a,c⟩
   ·exact absurd c hn,by have:=h.len;omega⟩
theorem ord_put {A:List (List Int)} {x:List Int} {k:Nat} (hA:Ord A) (h1:∀ y∈A.drop k,zFV x y=true) (h2:∀ y∈A.take k,zFV y x=true) : Ord (A.take k++x :: A.drop k):=by
 unfold Ord at *;rw [<- List.take_append_drop k A,List.pairwise_append] at hA;rw [List.pairwise_append,List.pairwise_cons];refine ⟨hA.1,⟨h1,hA.2.1⟩,fun a ha c hc=>?_⟩;rcases List.mem_cons.1 hc with rfl | hc
 ·exact h2 a ha
 ·exact hA.2.2 a ha c hc
theorem LeftTo.put {b:Built} {T A:List (List Int)} {k j:Nat} (h:LeftTo b T k A) (hk:k < T.length) (hy:zCV b T[k]) (hj:j<=A.length) (h1:∀ y∈A.drop j,zFV T[k] y=true) (h2:∀ y∈A.take j,zFV y T[k]=true) : LeftTo b T (k+1) (A.take j++T[k] :: A.drop j) :=
 ⟨ord_put h.ord h1 h2,fun l=>by
  have e:l∈A↔l∈A.take j\/l∈A.drop j:=by rw [<- List.mem_append,List.take_append_drop]
  rw [List.mem_append,List.mem_cons,List.take_succ_eq_append_getElem hk,List.mem_append,List.mem_singleton];have hm:=h.mem l;constructor
  ·rintro (a | rfl | a)
   ·have:=hm.1 (e.2 (.inl a));exact ⟨.inl this.1,this.2⟩
   ·exact ⟨.inr rfl,hy⟩
   ·have:=hm.1 (e.2 (.inr a));exact ⟨.inl this.1,this.2⟩
  ·rintro ⟨a | rfl,c⟩
   ·rcases e.1 (hm.2 ⟨a,c⟩) with d | d
    ·exact .inl d
    ·exact .inr (.inr d)
   ·exact .inr (.inl rfl),by
  have:=h.len;have e:=congrArg List.length (List.take_append_drop j A);rw [List.length_append] at e;rw [List.length_append,List.length_cons];omega⟩
theorem LeftTo.all {b:Built} {O:List Int} {A:List (List Int)} (hO:O.Pairwise (· < ·)) (hm:∀ y,y∈O↔y∈zBO b.ns.notes) (h:LeftTo b (refT O) (refT O).length A) : zND b A :=
 ⟨h.ord,fun l=>by rw [h.mem,List.take_length,refT_mem hO,isT_congr hm]⟩
theorem zEO.put {α:Type} {es:List TypeId} {F:World->List Value->α->Prop} {w:World} {cs:List Value} {xs:List α} (h:zEO es F 1 w cs xs) (k:Nat) (hk:k<=xs.length) {u:Value} {y:α} (hu:OnT es (fun w=>F w [u] y) w) : zEO es F 1 w (cs.take k++u :: cs.drop k) (xs.take k++y :: xs.drop k):=by
 obtain ⟨hl,hx⟩:=h.at1;refine rowIs_of1 (by simp [hl]) (fun i hi=>?_);simp only [List.length_append,List.length_cons,List.length_take,List.length_drop] at hi;have l1:(cs.take k).length=k:=by rw [List.length_take];omega
 have l2:(xs.take k).length=k:=by rw [List.length_take];omega
 by_cases e:i < k
 ·obtain ⟨v,h1,h2⟩:=hx i (by omega);refine ⟨v,by rw [List.getElem?_append_left (by omega),List.getElem?_take_of_lt e];exact h1,?_⟩;rw [List.getElem_append_left (by omega),List.getElem_take];exact h2
 ·by_cases e2:i=k
  ·subst e2;refine ⟨u,by rw [List.getElem?_append_right (by omega),l1];simp,?_⟩;rw [List.getElem_append_right (by omega)];simp only [l2,Nat.sub_self,List.getElem_cons_zero];exact hu
  ·obtain ⟨m,rfl⟩ : ∃ m,i=k+1+m:=⟨i - k - 1,by omega⟩
   obtain ⟨v,h1,h2⟩:=hx (k+m) (by omega);have e3:k+1+m - k=m+1:=by omega
   refine ⟨v,by rw [List.getElem?_append_right (by omega),l1,e3,List.getElem?_cons_succ,List.getElem?_drop];exact h1,?_⟩;rw [List.getElem_append_right (by omega)];simp only [l2,e3,List.getElem_cons_succ,List.getElem_drop];exact h2
end
end Go.Proofs.YtipaopbmklbmnaaGreatDoor
