/- Lemmas. -/
import Derived.Deep.DeepCutAuto
import Derived.Test.YtipaopbmklbmnaaGreatDoorT40
set_option linter.all false
set_option maxRecDepth 100000
set_option maxHeartbeats 0
namespace Go.Proofs.YtipaopbmklbmnaaGreatDoor
section
open Go.RowKit
theorem has03 (w:World) (v:Value) (l:List Int) (n:Int) (h:Sl zAM 1 w v l) :
  Calls Tryz.prog 75 #[v,.int .i64 n] w fun e w'=>e = .returned (.bool (decide (n∈l)))/\w'=w:=by
 obtain ⟨a,cap,rfl,hm⟩:=zD h;go_enter Tryz.func75,Tryz.ntmps75;go_wp2;go_loop [5] (fun i=>∃ k:Nat,i = .int .i64 k/\k<=l.length/\∀ j,j < k->(hj:j < l.length)->l[j]≠n) (fun i=>l.length - (intOf i).toNat)
 case atStart=>exact ⟨0,rfl,by omega,fun j hj=>absurd hj (by omega)⟩
 case round =>
  obtain ⟨k,rfl,hk,hall⟩:=hrel;have HALL:=Lib.hid hall;clear hall;by_cases hlt:k < l.length
  ·obtain ⟨b,off,rfl,hc,_⟩:=(zY h).2 k hlt
   unfold zK at hc;rw [Nat.mul_one] at hc;generalize hx:l[k]=x at *;have HX:=Lib.hid hx;clear hx h;by_cases he:(x == n)=true
   ·go_wp2
    go_ret;refine ⟨zFH ?_,rfl⟩;have e:x=n:=by simpa using he
    rw [<- e,<- HX.out];simp
   ·have he':(x == n)=false:=by simpa using he
    go_wp2;go_round
    case rel=>exact ⟨k+1,by go_num,by omega,zAO _ k HALL.out (fun _=>by rw [HX.out];simpa using he)⟩
    case measure=>simp [intOf];omega
  ·clear h;go_wp2;go_ret;refine ⟨zFH ?_,rfl⟩;simp only [Bool.false_eq,decide_eq_false_iff_not];intro hn;obtain ⟨j,hj,hjn⟩:=List.getElem_of_mem hn;exact HALL.out j (by omega) hj hjn
theorem inB_of {n lo hi:Int} (h:In n lo hi) : inB n lo hi=true:=by unfold inB;simpa [In] using h
theorem lexB_at:∀ (a b:List Int) (hl:a.length=b.length) (k:Nat) (hk:k < a.length),(∀ j,j < k->(hj:j < a.length)->a[j]=b[j]'(by omega))->a[k]≠b[k]'(by omega)->lexB a b=decide (a[k] < b[k]'(by omega))
 | [],_,_,k,hk,_,_=>by simp at hk
 | _ :: _,[],hl,_,_,_,_=>by simp at hl
 | x :: r,y :: s,hl,0,_,_,hne=>by
   simp only [List.getElem_cons_zero] at hne ⊢;simp only [lexB,if_neg hne]
 | x :: r,y :: s,hl,k+1,hk,h,hne=>by
   have h0:=h 0 (by omega) (by simp);simp only [List.getElem_cons_zero] at h0;simp only [List.getElem_cons_succ] at hne ⊢;simp only [lexB,if_pos h0];exact lexB_at r s (by simpa using hl) k (by simpa using hk) (fun j hj hjl=>by
    have:=h (j+1) (by omega) (by simpa using hjl);simpa only [List.getElem_cons_succ] using this) hne
theorem before03 (w:World) (va vb:Value) (a b:List Int) (ha:Sl zAM 1 w va a) (hb:Sl zAM 1 w vb b) :
  Calls Tryz.prog 27 #[va,vb] w fun e w'=>e = .returned (.bool (zFV a b))/\Below w.heap.size w w':=by
 obtain ⟨aa,capa,rfl,hma⟩:=zD ha;obtain ⟨ab,capb,rfl,hmb⟩:=zD hb;have HA:=Lib.hid ha;have HB:=Lib.hid hb;clear ha hb;by_cases hl:a.length=b.length
 ·have HV:Hid (zFV a b=lexB a b):=by unfold Hid zFV;rw [if_pos hl]
  have hbl:Hid (∀ k,k < a.length->k < b.length):=fun k h=>by omega
  have HLEX:Hid (∀ k (hk:k < a.length),(∀ j,j < k->(hj:j < a.length)->a[j]=b[j]'(hbl.out j hj))->a[k]≠b[k]'(hbl.out k hk)->lexB a b=decide (a[k] < b[k]'(hbl.out k hk))):=fun k hk h1 h2=>lexB_at a b hl k hk h1 h2
  have HEQ:Hid ((∀ j,j < a.length->(hj:j < a.length)->a[j]=b[j]'(hbl.out j hj))->lexB a b=false):=fun h=>by
   have:a=b:=List.ext_getElem hl (fun j h1 h2=>h j h1 h1);rw [this];exact lexB_irr b
  rw [<- hl] at HB hmb ⊢;have HB2:Hid (∀ k (hk:k < a.length),∃ bb off,ab=some ⟨bb,off,none⟩/\zAM w bb (off+k*1) (b[k]'(hbl.out k hk))):=fun k hk=>by
   have HB1:=HB.out;rw [hl] at HB1;exact (zY HB1).2 k (by omega)
  clear hl HB;go_enter Tryz.func27,Tryz.ntmps27;go_wp2;go_loopw [5] (fun i wr=>∃ k:Nat,i = .int .i64 k/\k<=a.length/\Hid (∀ j,j < k->(hj:j < a.length)->a[j]=b[j]'(hbl.out j hj))/\Below w.heap.size w wr) (fun i _=>a.length - (intOf i).toNat)
  case atStart=>exact ⟨0,rfl,by omega,fun j hj=>absurd hj (by omega),Below.refl _ _⟩
  case round =>
   obtain ⟨k,rfl,hk,HALL,hb⟩:=hrel;by_cases hlt:k < a.length
   ·obtain ⟨b1,o1,rfl,p0,_⟩:=(zY (zJ zN hb HA.out)).2 k hlt
    obtain ⟨b2,o2,rfl,q0,_⟩:=HB2.out k hlt;replace q0:=zC hb q0;unfold zK at p0 q0;rw [Nat.mul_one] at p0 q0;have hlk:=Lib.hid (HLEX.out k hlt HALL.out);have hkb:=hbl.out k hlt;have HSTEP:Hid (a[k]=b[k]'hkb->∀ j,j < k+1->(hj:j < a.length)->a[j]=b[j]'(hbl.out j hj)):=fun he j hj hja=>by
     by_cases e:j=k
     ·subst e;exact he
     ·exact HALL.out j (by omega) hja
    generalize a[k]=x at *;generalize b[k]'hkb=y at *;by_cases he:x=y
    ·have he':(x == y)=true:=by simpa using he
     have HS:=Lib.hid (HSTEP.out he);clear HSTEP hlk he;go_wp2;go_quiet (fail)
     go_wp2;go_roundw
     case rel=>exact ⟨k+1,by go_num,by omega,HS,zA hb (zAJ _ _)⟩
     case measure=>simp [intOf];omega
    ·have he':(x == y)=false:=by simpa using he
     have HS:=Lib.hid (hlk.out he);clear HSTEP hlk he;go_wp2;go_quiet (fail)
     go_wp2;go_quiet (fail)
     go_wp2;go_ret;refine ⟨zFH ?_,zA hb (zA (zAJ _ _) (zAJ _ _))⟩;rw [HV.out,HS.out]
   ·have HE:Hid (lexB a b=false):=HEQ.out (fun j h1 h2=>HALL.out j (by omega) h2);clear HEQ HALL;go_wp2;go_ret;exact ⟨zFH (by rw [HV.out,HE.out]),hb⟩
 ·have HV:Hid (zFV a b=decide (a.length < b.length)):=by unfold Hid zFV;rw [if_neg hl]
  have hne:((a.length:Int) == (b.length:Int))=false:=by simp;omega
  clear HA HB;generalize a.length=m at *;generalize b.length=n at *;clear hl;go_enter Tryz.func27,Tryz.ntmps27;go_wp2;go_ret;refine ⟨zFH ?_,Below.refl _ _⟩;rw [HV.out]
end
section
open Tryz
open Go.RowKit
attribute [local go_sem] zAE Oper.grows Oper.growUpon
theorem index02_in (w:World) (v:Value) (l:List Int) (n:Int) (h:Sl zAM 1 w v l) (hn:n∈l) :
  Calls prog 25 #[v,.int .i64 n] w fun e w'=>e = .returned (.int .i64 (l.idxOf n:Nat))/\Below w.heap.size w w':=by
 refine (index02 w v l n h).mono ?_;rintro e w' ⟨rfl,rfl⟩;exact ⟨by rw [idxI_mem l n hn],br_⟩
theorem truth03 (w:World) (vr vn vs:Value) (N:List Note) (S:List Int) (hn:Sl zBL 10 w vn N) (hs:Sl zAM 1 w vs S) (hN:N.length<=1000) (hd:∀ i j,i < j->j < N.length->nm N i≠nm N j) :
  Calls prog 26 #[.agg #[vr,vn],vs] w (zAK (IsT (zBO N) S) w):=by
 obtain ⟨i0,hif,iz0,iz1,iz2⟩:=info_parts zFY;obtain ⟨hb1,B1⟩:=zBY w #[vr,vn] 27;have c0:=B1 0 vr rfl;have c1:=B1 1 vn rfl;clear B1;obtain ⟨an,capn,rfl,hmn⟩:=zD hn;obtain ⟨az,capz,rfl,hms⟩:=zD hs;have hn1:=zJ zAN hb1 hn;have hs1:=zJ zN hb1 hs;have C1:=zE c1;clear hn hs;unfold zK at c0 c1;go_enter func26,ntmps26;go_wp2_with fail;clear c0 c1;generalize w.alloc _=w1 at *;refine (open03 _ _ _ N hn1 hN hd).mono ?_;rintro e w5 ⟨vo,L,rfl,hown0,hix,hb5⟩;have HIX:=zE hix;have hLl:=hix.len;have hvo:Sl zAM 1 w5 vo (L.map (fun i:Nat=>(i:Int))):=zBF (by rw [List.length_map,List.map_map];exact hown0) (fun x hx=>by
  obtain ⟨j,hj,rfl⟩:=List.mem_map.1 hx;have:=((hix.mem j).1 hj).1;unfold I64;omega)
 obtain ⟨ao,capo,rfl,_⟩:=zD hvo;have HVO:=zE hvo;have C:=zE (zC hb5 C1.out);have hn5:=zE (zJ zAN hb5 hn1);have hs5:=zE (zJ zN hb5 hs1);have hbb:=zE (zA hb1 hb5);clear hn1 hs1 hvo hown0 hix hb1 hb5;have hcl:=zAD C.out;rw [List.length_map];have hLM:Hid ((L.map (fun i:Nat=>(i:Int))).length=L.length):=List.length_map ..;generalize hD:L.map (nm N)=D at *;have HD:=zE hD;have hDl:D.length=L.length:=by rw [<- hD,List.length_map]
 have HDL:=zE hDl;clear hD hDl;have hI:Hid (∀ x∈D,I64 x):=fun x hx=>by
  rw [<- HD.out] at hx;obtain ⟨j,hj,rfl⟩:=List.mem_map.1 hx;have hjN:=((HIX.out.mem j).1 hj).1;rw [nm_at hjN];obtain ⟨_,_,_,_,hr⟩:=(zY hn5.out).2 j hjN;exact hr.1
 go_wp2;go_loopw [5,7] (fun o i wr=>∃ k:Nat,i = .int .i64 k/\k<=L.length/\wr.ownsRow w5.heap.size 3 1 o k (rowL (fun x=>x) D k)/\Below w5.heap.size w5 wr) (fun _ i _=>L.length - (intOf i).toNat)
 case atStart=>exact ⟨0,rfl,by omega,by rw [rowL_zero];exact World.ownsRow_nil _ _ _ _,br_⟩
 case round =>
  obtain ⟨k,rfl,hk,hown,hb⟩:=hrel;have HOWN:=zE hown;have HB:=zE hb;clear hown hb;by_cases hlt:k < L.length
  case pos =>
   have hkl2:k < (L.map (fun i:Nat=>(i:Int))).length:=by rw [List.length_map];exact hlt
   obtain ⟨bo,oo,rfl,hcx,-⟩:=(zY HVO.out).2 k hkl2;rw [List.getElem_map] at hcx;have hyN:=((HIX.out.mem L[k]).1 (List.getElem_mem hlt)).1;obtain ⟨bn,on,rfl,⟨q0,_⟩,_⟩:=(zY hn5.out).2 L[k] hyN;have hDk:Hid (∀ h:k < D.length,D[k]=nm N L[k]):=fun h=>by
    have:=HD.out;subst this;rw [List.getElem_map]
   have hnew:=zE (nums_take D (fun x=>x) k (by have:=HDL.out;omega));rw [<- nm_at hyN] at q0;have hnew:Hid (rowL (fun x=>x) D (k+1)=rowL (fun x=>x) D k++[.int .i64 (nm N L[k])]):=by have h1:=hnew.out;rw [hDk.out] at h1;exact h1
   generalize nm N L[k]=x at *;generalize L[k]=y at *;have HCX:=zE hcx;have HQ:=zE q0;clear hcx q0 hDk hkl2;have hyN2:(y:Int) < N.length:=by omega
   go_wp2;refine zBU 12 11 [10] (fun a c=>a.grownBy c u5.ownBlock) (fun c=>wr.grownBy c u5.ownBlock) (fun _ _ hb h=>zCG hb h) (zBH _ _ _ rfl rfl rfl rfl)
    (fun c=>c.ownsRow w5.heap.size 3 1 u5 k (rowL (fun x=>x) D k)/\w5.heap.size<=c.heap.size) (fun _ _ hb h=>⟨zAC hb h.1,Nat.le_trans h.2 hb.size⟩) ⟨zAC ⟨rfl,rfl,rfl,Nat.le_refl _,fun _ _=>rfl⟩ HOWN.out,HB.out.size⟩ (by kernel_rfl) (by kernel_rfl) ?_
   simp only [tk_];apply gw_ (by rfl)
   ·intro vs w2 hw hd
    (try simp [hq_] at hd)
    simp only [pf_];go_simp;exact ⟨br_,rfl⟩
   apply gw_ (by rfl)
   ·intro vs w2 hw hd
    (try simp [hq_] at hd)
    simp only [pf_];go_simp;exact ⟨br_,rfl⟩
   apply gw_ (by rfl)
   ·intro vs w2 hw hd
    (try simp [hq_] at hd)
    have hB2:=zEX HOWN.out hw HB.out (Nat.le_refl _);have k0:=zC hB2 C.out;unfold zK at k0;simp only [pf_];go_simp;exact ⟨br_,rfl⟩
   apply gw_ (by rfl)
   ·intro vs w2 hw hd
    (try simp [hq_] at hd)
    simp only [pf_];go_simp;exact ⟨br_,rfl⟩
   apply gw_ (by rfl)
   ·intro vs w2 hw hd
    (try simp [hq_] at hd)
    simp only [pf_];go_simp;exact ⟨br_,rfl⟩
   apply gw_ (by rfl)
   ·intro vs w2 hw hd
    (try simp [hq_] at hd)
    simp only [pf_];go_simp;exact ⟨br_,rfl⟩
   apply gw_ (by rfl)
   ·intro vs w2 hw hd
    (try simp [hq_] at hd)
    have hB2:=zEX HOWN.out hw HB.out (Nat.le_refl _);have k0:=zC hB2 HCX.out;unfold zK at k0;rw [Nat.mul_one] at k0;simp only [pf_];go_simp;exact ⟨br_,rfl⟩
   apply gw_ (by rfl)
   ·intro vs w2 hw hd
    (try simp [hq_] at hd)
    simp only [pf_];go_simp;exact ⟨br_,rfl⟩
   apply gw_ (by rfl)
   ·intro vs w2 hw hd
    (try simp [hq_] at hd)
    simp only [pf_];go_simp;exact ⟨br_,rfl⟩
   apply gw_ (by rfl)
   ·intro vs w2 hw hd
    (try simp [hq_] at hd)
    have hB2:=zEX HOWN.out hw HB.out (Nat.le_refl _);have k0:=zC hB2 HQ.out;unfold zK at k0;simp only [pf_];go_simp;exact ⟨br_,rfl⟩
   refine zCC (zKF x) (zEB x) (by rfl) (.inl (by rfl)) ?_ ?_
   ·intro vs w2 hw hd
    (try simp [hq_] at hd)
    simp only [pf_];go_simp;exact ⟨zB _ _,_,rfl,zR _ _ _ 0 _ rfl⟩
   refine zFD (fun v w'=>Hid (w'.ownsRow w5.heap.size 3 1 v (k+1) (rowL (fun x=>x) D k++[.int .i64 x]))) (fun _ _ _ hb h=>zE (zAC hb h.out)) (by rfl) ?_ ?_
   ·intro vs w2 hw hi hd
    (try simp [hq_] at hd)
    simp only [pf_];obtain ⟨e3,bb,e5,hbb2⟩:=hd;refine zEG (.tmp 17) (.tmp 27) 28 (by rfl) w5.heap.size 3 i0 _ 1 8 underlying28 hif iz0 iz1 iz2 rfl (by decide) u5 _ _ (by exact e3) hi.1 (vs 10) ⟨bb,0,none⟩ 1 1 e5 [.int .i64 x] (by rfl) rfl (fun j u hj=>by
     cases j with
     | zero=>simp at hj;subst hj;exact hbb2
     | succ j=>simp at hj) (fun u hu=>by simp at hu;subst hu;rfl) (by unfold maxLen;omega) (by omega) hi.2 (fun v' w' h1 h2=>⟨zAG hw h2,h2,h1⟩)
   refine zEU rfl (fun vs w7 hw hd=>?_);simp [zW,zAI,List.range,List.range.loop,List.filter_cons,List.filter_nil] at hd;simp only [pf_];obtain ⟨e0,e1,e2,e3,e4,e5,e6,e7,e8,e9,h11⟩:=hd;have hb7:=zE (zEX HOWN.out hw HB.out (Nat.le_refl _));simp only [Nat.zero_add,Nat.reduceAdd] at e0 e1 e2 e3 e4 e5 e6 e7 e8 e9 ⊢;simp only [e0,e1,e2,e3,e4,e5,e6,e7,e8,e9];clear hw e0 e1 e2 e3 e4 e5 e6 e7 e8 e9;generalize vs 11=u9 at *;generalize vs 10=v8 at *;go_wp2;go_roundw
   ·exact ⟨k+1,by go_num,by omega,by rw [hnew.out];exact h11.out,hb7.out⟩
   ·simp [intOf];omega
  case neg =>
   obtain rfl:k=L.length:=by omega
   have hO:Sl zAM 1 wr u5 D:=by have h1:=HOWN.out;rw [<- HDL.out,rowL_all,List.map_id'] at h1;exact zBF h1 hI.out
   have HO:=zE hO;have hsr:=zE (zJ zN HB.out hs5.out);have hbr:=zE (zA hbb.out HB.out);have hend:Hid ((∀ j,j < S.length->∀ hj:j < S.length,S[j]∈D/\∀ h0:0 < j,S[j - 1] < S[j])->IsT (zBO N) S):=fun h=>isT_of fun j hj=>by
    have:=h j hj hj;exact ⟨((HIX.out.nums).2 _).1 (by rw [HD.out];exact this.1),this.2⟩
   have hbad:Hid (∀ j,∀ hj:j < S.length,¬ (S[j]∈D/\∀ h0:0 < j,S[j - 1] < S[j])->¬ IsT (zBO N) S):=fun j hj h hT=>by
    have:=isT_at hT j hj;exact h ⟨by rw [<- HD.out];exact ((HIX.out.nums).2 _).2 this.1,this.2⟩
   clear hO HOWN HB hs5 hbb hn5 hlt hcl;go_wp2;go_loopw [8] (fun i wz=>∃ k:Nat,i = .int .i64 k/\k<=S.length/\Below wr.heap.size wr wz/\∀ j,j < k->∀ hj:j < S.length,S[j]∈D/\∀ h0:0 < j,S[j - 1] < S[j]) (fun i _=>S.length - (intOf i).toNat)
   case atStart=>exact ⟨0,rfl,by omega,br_,fun j hj=>absurd hj (by omega)⟩
   case round =>
    obtain ⟨k,rfl,hk,hb,hall⟩:=hrel;have HALL:=zE hall;clear hall;by_cases hlt:k < S.length
    case neg =>go_wp2;go_ret;exact zAK.t (hend.out fun j hj hj2=>HALL.out j (by omega) hj2) (zA hbr.out hb)
    case pos =>
     have hX:=(zY (zJ zN hb hsr.out)).2;obtain ⟨b,off,rfl,hc,-⟩:=hX k hlt;have HO2:Hid (∀ m:Nat,Sl zAM 1 (wr.drewN m) u5 D):=fun m=>zJ zN (zA hb (zAJ _ _)) HO.out
     unfold zK at hc;rw [Nat.mul_one] at hc;have hB:=zE (hbad.out k hlt);have hG:Hid (S[k]∈D->(∀ h0:0 < k,S[k - 1] < S[k])->∀ j,j < k+1->∀ hj:j < S.length,S[j]∈D/\∀ h0:0 < j,S[j - 1] < S[j]):=fun h1 h2 j hj hjl=>by
      by_cases e:j=k
      ·subst e;exact ⟨h1,h2⟩
      ·exact HALL.out j (by omega) hjl
     cases k with
     | zero =>
       simp only [Nat.add_zero] at hc;generalize hx:S[0]=x at *;have HX:=zE hx;clear hx hX;by_cases hm:x∈D
       ·have hm':decide (x∈D)=true:=by simpa using hm
        have HM:=zE hm;clear hm;go_wp2;refine wp_region_quiet_lit (by kernel_rfl) (by kernel_rfl) (no_implicit_lambda% ?_);repeat ((with_reducible refine wpQuiet_step (fun K hK=>?_));go_simp;first | ((with_reducible refine hK _ ?_);clear hK K) | (refine hK _ (no_implicit_lambda% ?_);clear hK K) | (apply Exists.intro;(with_reducible refine ⟨fun _=>?_,hK _ ?_⟩);((go_at_call 75;exact Calls.quiet_of_same (has03 _ _ D _ (HO2.out _))));clear hK K))
        with_reducible refine wpQuiet_nil ?_
        intro _ hw9;obtain ⟨nq,hw8⟩:=hw9;subst hw8;go_wp2;go_roundw
        ·exact ⟨1,by go_num,by omega,zA hb (zAJ _ _),hG.out HM.out (fun h0=>absurd h0 (by omega))⟩
        ·simp [intOf];omega
       ·have hm':decide (x∈D)=false:=by simpa using hm
        have HM:=zE hm;clear hm;go_wp2;refine wp_region_quiet_lit (by kernel_rfl) (by kernel_rfl) (no_implicit_lambda% ?_);repeat ((with_reducible refine wpQuiet_step (fun K hK=>?_));go_simp;first | ((with_reducible refine hK _ ?_);clear hK K) | (refine hK _ (no_implicit_lambda% ?_);clear hK K) | (apply Exists.intro;(with_reducible refine ⟨fun _=>?_,hK _ ?_⟩);((go_at_call 75;exact Calls.quiet_of_same (has03 _ _ D _ (HO2.out _))));clear hK K))
        with_reducible refine wpQuiet_nil ?_
        intro _ hw9;obtain ⟨nq,hw8⟩:=hw9;subst hw8;go_wp2;go_ret;exact zAK.f (hB.out fun h=>HM.out h.1) (zA hbr.out (zA hb (zAJ _ _)))
     | succ k =>
       obtain ⟨b2,off2,hh2,hc2,-⟩:=hX k (by omega);cases hh2;unfold zK at hc2;rw [Nat.mul_one] at hc2;simp only [Nat.add_sub_cancel] at hB hG;generalize hx:S[k+1]=x at *;generalize hy:S[k]'(by omega)=y at *;have HX:=zE hx;have HY:=zE hy;clear hx hy hX;have hi1:(k:Int)+1 < S.length:=by omega
       have hi2:(k:Int) < S.length:=by omega
       have hi3:0<=(k:Int)+1:=by omega
       have hi4:((k:Int)+1).toNat=k+1:=by omega
       have hi5:(0:Int) < (k:Int)+1:=by omega
       have hwk:IntKind.i64.wrap (k:Int)=k:=IntWalk.i64_in _ (by omega);by_cases hm:x∈D
       ·have hm':decide (x∈D)=true:=by simpa using hm
        have HM:=zE hm;clear hm;by_cases hc9:x<=y
        ·go_wp2
         refine wp_region_quiet_lit (by kernel_rfl) (by kernel_rfl) (no_implicit_lambda% ?_);repeat ((with_reducible refine wpQuiet_step (fun K hK=>?_));go_simp;first | ((with_reducible refine hK _ ?_);clear hK K) | (refine hK _ (no_implicit_lambda% ?_);clear hK K) | (apply Exists.intro;(with_reducible refine ⟨fun _=>?_,hK _ ?_⟩);((go_at_call 75;exact Calls.quiet_of_same (has03 _ _ D _ (HO2.out _))));clear hK K))
         with_reducible refine wpQuiet_nil ?_
         intro _ hw9;obtain ⟨nq,hw8⟩:=hw9;subst hw8;go_wp2;go_ret;exact zAK.f (hB.out fun h=>by have h6:=h.2 (by omega);have h7:=HY.out;omega) (zA hbr.out (zA hb (zAJ _ _)))
        ·go_wp2
         refine wp_region_quiet_lit (by kernel_rfl) (by kernel_rfl) (no_implicit_lambda% ?_);repeat ((with_reducible refine wpQuiet_step (fun K hK=>?_));go_simp;first | ((with_reducible refine hK _ ?_);clear hK K) | (refine hK _ (no_implicit_lambda% ?_);clear hK K) | (apply Exists.intro;(with_reducible refine ⟨fun _=>?_,hK _ ?_⟩);((go_at_call 75;exact Calls.quiet_of_same (has03 _ _ D _ (HO2.out _))));clear hK K))
         with_reducible refine wpQuiet_nil ?_
         intro _ hw9;obtain ⟨nq,hw8⟩:=hw9;subst hw8;go_wp2;go_roundw
         ·exact ⟨k+1+1,by go_num,by omega,zA hb (zAJ _ _),hG.out HM.out (fun h0=>by have h7:=HY.out;omega)⟩
         ·simp [intOf];omega
       ·have hm':decide (x∈D)=false:=by simpa using hm
        have HM:=zE hm;clear hm;go_wp2;refine wp_region_quiet_lit (by kernel_rfl) (by kernel_rfl) (no_implicit_lambda% ?_);repeat ((with_reducible refine wpQuiet_step (fun K hK=>?_));go_simp;first | ((with_reducible refine hK _ ?_);clear hK K) | (refine hK _ (no_implicit_lambda% ?_);clear hK K) | (apply Exists.intro;(with_reducible refine ⟨fun _=>?_,hK _ ?_⟩);((go_at_call 75;exact Calls.quiet_of_same (has03 _ _ D _ (HO2.out _))));clear hK K))
        with_reducible refine wpQuiet_nil ?_
        intro _ hw9;obtain ⟨nq,hw8⟩:=hw9;subst hw8;go_wp2;go_ret;exact zAK.f (hB.out fun h=>HM.out h.1) (zA hbr.out (zA hb (zAJ _ _)))
theorem notes_distinct {R:List Issue} {N:List Note} (h:zDL R N) : ∀ i j,i < j->j < N.length->nm N i≠nm N j:=fun i j hij hj=>by
 rw [nm_at (by omega),nm_at hj];exact (h.2.1 j hj).2.2.2.1 i hij (by omega)
end
section
open Tryz
open Go.RowKit
theorem openIx_len5 {R:List Issue} {N:List Note} (h:zDL R N) {L:List Nat} (hL:OpenIx N N.length L) : L.length<=5:=by
 have h1:=hL.nums;have h2:(L.map (nm N)).Nodup:=zGL h1.1;have h3:=opens_len5 h;have h4:(L.map (nm N)).length<=(zBO N).length:=by
  have:(L.map (nm N)).Subset (zBO N):=fun y hy=>(h1.2 y).1 hy
  exact List.Nodup.length_le_of_subset h2 this
 rw [List.length_map] at h4;omega
theorem refs_in {R:List Issue} {p:Int×Int} (hp:p∈zCT R) : ∃ x∈R,x.k≠1/\p=(x.d,x.l):=by
 unfold zCT at hp;obtain ⟨x,hx,rfl⟩:=List.mem_map.1 hp;obtain ⟨h1,h2⟩:=List.mem_filter.1 hx;exact ⟨x,h1,by simpa using h2,rfl⟩
theorem kinds_in {R:List Issue} (h:zX R=0) {x:Issue} (hx:x∈R) : In x.k 1 3:=by
 obtain ⟨k,hk,rfl⟩:=List.getElem_of_mem hx;exact (((zAW h).2.1 k hk).1 hk).1.2.2.1
theorem ref_part {R:List Issue} (h:zX R=0) {p:Int×Int} (hp:p∈zCT R) : zFO R p.1 p.2:=by
 obtain ⟨x,hx,hk,rfl⟩:=refs_in hp;have hi:=kinds_in h hx;obtain ⟨k,hk',rfl⟩:=List.getElem_of_mem hx;exact (part_at (fun j hj=>((zAW h).2.1 j hj).2) hk').2 (by unfold In at hi;omega)
theorem ask_two {b:Built} (h:zF b=0) {m:Int} (hm:m∈b.ms) : zBK b m=0/\zAQ b≠[]\/zBK b m=8/\zAQ b=[]:=by
 unfold zBK;rw [if_neg (by simp [h]),if_neg (by simpa using hm)];by_cases e:zAQ b=[]
 ·rw [if_pos e];exact .inr ⟨rfl,e⟩
 ·rw [if_neg e];exact .inl ⟨rfl,e⟩
theorem heldC_mid {x:Has} {l o1 o o2:Int} (h1:o1<=o) (h2:o<=o2) : (zGH x l o1<=zGH x l o/\zGH x l o<=zGH x l o2)\/(zGH x l o2<=zGH x l o/\zGH x l o<=zGH x l o1):=by
 unfold zGH;by_cases e:l=x.l
 ·rw [if_pos e,if_pos e,if_pos e];omega
 ·rw [if_neg e,if_neg e,if_neg e]
  by_cases e2:l=x.l - 1
  ·rw [if_pos e2,if_pos e2,if_pos e2];omega
  ·rw [if_neg e2,if_neg e2,if_neg e2];omega
theorem oldC_mono {f c n n':Int} (h:n<=n') : oldC f c n<=oldC f c n':=by unfold oldC;omega
end
section
open Tryz
open Go.RowKit Go.ChangeShapes Go.WideShapes
theorem stays_u32:zGG AtU32:=fun _ _ _ _ _ hb ⟨h0,h1⟩=>⟨zC hb h0,h1⟩
section
variable {H:Type} {enc:TypeId×Value->H} {w:World} {sp:Nat->Bool} {hd:Bool}
end
end
section
open Tryz
open Go.RowKit
def oldB (b:Built) (S C:List Int) (m d:Int) : Int:=if (zZ b S m d).h < 0 then 0 else oldC (zCX b S (zZ b S m d).h.toNat (b.ms.idxOf m)) (zZ b S m d).c (C.getD (zZ b S m d).h.toNat 0)
def heldB (b:Built) (S C:List Int) (m d l:Int) : Int:=zGH (zZ b S m d) l (oldB b S C m d)
def HoldsB (b:Built) (S C:List Int) (r:Report) : Prop:=HoldsC (zZ b S r.m r.d) r.k (heldB b S C r.m r.d r.l)
instance (x:Has) (k n:Int) : Decidable (HoldsC x k n):=by unfold HoldsC;infer_instance
instance (b:Built) (S C:List Int) (r:Report) : Decidable (HoldsB b S C r):=by unfold HoldsB;infer_instance
structure CntAt (b:Built) (C:List Int) : Prop where
 len:C.length=b.hs.length
 has:∀ k (hk:k < b.hs.length),b.hs[k].lo<=C.getD k 0/\C.getD k 0<=b.hs[k].hi
theorem holds_fails {b:Built} {S C:List Int} {r:Report} (k:Nat) (h:HoldsB b S C r) : ¬ zCN b S k (C.getD k 0) r:=by
 rintro ⟨h1,h2⟩;refine h2 ?_;unfold HoldsB heldB oldB at h;have e2:zKL b S r=zCX b S k (b.ms.idxOf r.m):=by unfold zKL;rw [if_pos (by omega),h1];rfl
 have e3:(zZ b S r.m r.d).h.toNat=k:=by omega
 rw [if_neg (show ¬ (zZ b S r.m r.d).h < 0 by omega),e3] at h;rw [if_neg (show ¬ (k:Int) < 0 by omega),e2];exact h
theorem holds_fails' {b:Built} {S C:List Int} {r:Report} (h:HoldsB b S C r) : ¬ zCN b S (-1) 0 r:=by
 rintro ⟨h1,h2⟩;refine h2 ?_;unfold HoldsB heldB oldB at h;rw [if_pos (show (zZ b S r.m r.d).h < 0 by omega)] at h;rw [if_pos (by decide)];exact h
theorem fails_holds {b:Built} {S C:List Int} {r:Report} (h:∀ k:Nat,k < b.hs.length->¬ zCN b S k (C.getD k 0) r) (h':¬ zCN b S (-1) 0 r) : HoldsB b S C r:=by
 apply Classical.byContradiction;intro hn;unfold HoldsB heldB oldB at hn;by_cases h0:(zZ b S r.m r.d).h < 0
 ·rw [if_pos h0] at hn;refine h' ⟨by have:=(zIY b S r.m r.d).1;omega,?_⟩;rw [if_pos (by decide)];exact hn
 ·rw [if_neg h0] at hn
  have e2:zKL b S r=zCX b S (zZ b S r.m r.d).h.toNat (b.ms.idxOf r.m):=by unfold zKL;rw [if_pos (by omega)]
  refine h (zZ b S r.m r.d).h.toNat (by have:=(zIY b S r.m r.d).2;omega) ⟨by omega,?_⟩;rw [if_neg (by omega),e2];exact hn
theorem true_left {b:Built} {S C:List Int} (hC:CntAt b C) (hr:∀ r∈b.rs,HoldsB b S C r) : zCV b S :=
 left_iff.2 ⟨fun k hk=>⟨C.getD k 0,hC.has k hk,fun r h=>holds_fails k (hr r h)⟩,fun r h=>holds_fails' (hr r h)⟩
theorem true_counts {b:Built} {S C:List Int} (hC:CntAt b C) (hr:∀ r∈b.rs,HoldsB b S C r) {k:Nat} (hk:k < b.hs.length) : (zLY b S k).lo<=C.getD k 0/\C.getD k 0<=(zLY b S k).hi :=
 (cnt_hull hk (true_left hC hr)).2.2.2.2.2 _ (hC.has k hk).1 (hC.has k hk).2 fun r h=>holds_fails k (hr r h)
theorem true_pieces {b:Built} {S C:List Int} (hS:S∈zAQ b) (hC:CntAt b C) (hr:∀ r∈b.rs,HoldsB b S C r) (m d l:Int) :
  (zAU b (zAQ b) m d l).lo<=heldB b S C m d l/\heldB b S C m d l<=(zAU b (zAQ b) m d l).hi:=by
 unfold zAU;have m0:∀ y∈zOP b S m d l,y∈(zAQ b).flatMap fun S=>zOP b S m d l:=fun y hy=>List.mem_flatMap.2 ⟨S,hS,hy⟩
 unfold zOP at m0;have m1:=m0 _ (List.mem_cons_self ..);have m2:=m0 _ (List.mem_cons_of_mem _ (List.mem_cons_self ..));obtain ⟨_,_,h3⟩:=zGS (List.ne_nil_of_mem m1);have c1:=h3 _ m1;have c2:=h3 _ m2;clear h3 m0 m1 m2;unfold heldB oldB;simp only [Span.has] at c1 c2;by_cases h0:(zZ b S m d).h < 0
 ·simp only [if_pos h0] at c1 c2 ⊢;exact c1
 ·simp only [if_neg h0] at c1 c2 ⊢
  have hk:(zZ b S m d).h.toNat < b.hs.length:=by have:=(zIY b S m d).2;omega
  obtain ⟨h1,h2⟩:=true_counts hC hr hk;unfold zLY at h1 h2;have g:=heldC_mid (x:=zZ b S m d) (l:=l) (oldC_mono (f:=zCX b S (zZ b S m d).h.toNat (b.ms.idxOf m)) (c:=(zZ b S m d).c) h1) (oldC_mono (f:=zCX b S (zZ b S m d).h.toNat (b.ms.idxOf m)) (c:=(zZ b S m d).c) h2);rcases g with g | g
  ·exact ⟨Int.le_trans c1.1 g.1,Int.le_trans g.2 c2.2⟩
  ·exact ⟨Int.le_trans c2.1 g.1,Int.le_trans g.2 c1.2⟩
theorem fails_mid {b:Built} (hv:zF b=0) {S:List Int} {k:Nat} {n1 n n2:Int} (h0:0<=n1) (h1:n1<=n) (h2:n<=n2) (h3:n2<=200) (f1:∀ r∈b.rs,¬ zCN b S k n1 r) (f2:∀ r∈b.rs,¬ zCN b S k n2 r) :
  ∀ r∈b.rs,¬ zCN b S k n r :=
 (cut_iff hv S ⟨by omega,by omega⟩).1 fun r hr e=>⟨Int.le_trans ((cut_iff hv S ⟨by omega,by omega⟩).2 f1 r hr e).1 h1,Int.le_trans h2 ((cut_iff hv S ⟨by omega,by omega⟩).2 f2 r hr e).2⟩
theorem left_true {b:Built} (hv:zF b=0) {S C:List Int} (hL:zCV b S) (hC:∀ k,k < b.hs.length->(zLY b S k).lo<=C.getD k 0/\C.getD k 0<=(zLY b S k).hi) : ∀ r∈b.rs,HoldsB b S C r:=fun r hr =>
 fails_holds (fun k hk=>by
  obtain ⟨h1,h2,h3,h4,h5,_⟩:=cnt_hull hk hL;have hh:=zGO hv hk;exact fails_mid hv (by omega) (hC k hk).1 (hC k hk).2 (by omega) h4 h5 r hr) ((left_iff.1 hL).2 r hr)
noncomputable def endL (b:Built) (S:List Int) (high:Bool) : List Int:=(List.range b.hs.length).map fun k=>if high then (zLY b S k).hi else (zLY b S k).lo
theorem endL_get (b:Built) (S:List Int) (high:Bool) {k:Nat} (hk:k < b.hs.length) : (endL b S high).getD k 0=if high then (zLY b S k).hi else (zLY b S k).lo:=by
 unfold endL;rw [List.getD_eq_getElem?_getD,List.getElem?_map,List.getElem?_range hk];rfl
theorem ends_two (b:Built) (S:List Int) (m d l:Int) : zOP b S m d l=[heldB b S (endL b S false) m d l,heldB b S (endL b S true) m d l]:=by
 unfold zOP heldB oldB;by_cases h0:(zZ b S m d).h < 0
 ·simp only [if_pos h0]
 ·have hk:(zZ b S m d).h.toNat < b.hs.length:=by have:=(zIY b S m d).2;omega
  simp only [if_neg h0,endL_get b S _ hk];rfl
theorem endL_at {b:Built} {S:List Int} (hL:zCV b S) (high:Bool) (k:Nat) (hk:k < b.hs.length) : (zLY b S k).lo<=(endL b S high).getD k 0/\(endL b S high).getD k 0<=(zLY b S k).hi:=by
 rw [endL_get b S high hk];have:=(cnt_hull hk hL).2.1;cases high
 ·exact ⟨Int.le_refl _,this⟩
 ·exact ⟨this,Int.le_refl _⟩
theorem old_step {n f t:Int} (ht:0<=t) : min (max 0 (n - f)) t=oldC f t n/\max 0 (n - f) - oldC f t n=max 0 (n - (f+t)):=by unfold oldC;omega
theorem hasOf_d {b:Built} {S:List Int} {m d:Int} {k:Nat} (h:(zZ b S m d).h=k) : ∃ hk:k < b.hs.length,b.hs[k].d=d/\b.hs[k].l=(zZ b S m d).l - 1:=(heapTo_at h).2
theorem take_is {b:Built} {S:List Int} {m d:Int} {k:Nat} (h:(zZ b S m d).h=k) (m':Int) : zHZ b S k m'=if (zZ b S m' d).h=k then (zZ b S m' d).c else 0:=by
 obtain ⟨hk,h1,_⟩:=hasOf_d h;unfold zHZ;rw [List.getElem?_eq_getElem hk];simp only [Option.elim,h1]
theorem ms_lt {b:Built} (hv:zF b=0) {i j:Nat} (hij:i < j) (hj:j < b.ms.length) : b.ms[i]'(by omega) < b.ms[j]:=by
 induction j with
 | zero=>omega
 | succ j ih =>
   have h1:b.ms[j]'(by omega) < b.ms[j+1]:=by have:=((zS hv).2.2.2.2.2.1 (j+1) hj hj).2 (by omega);simpa using this
   rcases Nat.lt_or_ge i j with h | h
   ·exact Int.lt_trans (ih h (by omega)) h1
   ·obtain rfl:i=j:=by omega
    exact h1
theorem ms_idx {b:Built} (hv:zF b=0) {i:Nat} (hi:i < b.ms.length) : b.ms.idxOf b.ms[i]=i:=by
 have hlt:b.ms.idxOf b.ms[i] < b.ms.length:=List.idxOf_lt_length_of_mem (List.getElem_mem hi);have he:b.ms[b.ms.idxOf b.ms[i]]=b.ms[i]:=List.getElem_idxOf hlt;rcases Nat.lt_trichotomy (b.ms.idxOf b.ms[i]) i with h | h | h
 ·have:=ms_lt hv h hi;omega
 ·exact h
 ·have:=ms_lt hv h hlt;omega
structure Trues (b:Built) (S C:List Int) (n:Nat) (rs:List Report) : Prop where
 rise:rs.Pairwise (fun x y=>x.num < y.num)
 num:∀ r∈rs,1<=r.num/\r.num<=n
 ok:∀ r∈rs,zCE b.ns.reg b.ms r/\HoldsB b S C r
 len:rs.length<=n
theorem Trues.nil (b:Built) (S C:List Int) : Trues b S C 0 []:=⟨.nil,(fun r h=>by cases h),(fun r h=>by cases h),Nat.le_refl _⟩
theorem Trues.skip {b:Built} {S C:List Int} {n:Nat} {rs:List Report} (h:Trues b S C n rs) : Trues b S C (n+1) rs:=⟨h.rise,fun r hr=>by have:=h.num r hr;omega,h.ok,by have:=h.len;omega⟩
theorem Trues.put {b:Built} {S C:List Int} {n:Nat} {rs:List Report} (h:Trues b S C n rs) {r:Report} (hn:r.num=n+1) (ho:zCE b.ns.reg b.ms r) (hh:HoldsB b S C r) : Trues b S C (n+1) (rs++[r]) :=
 ⟨List.pairwise_append.2 ⟨h.rise,List.pairwise_singleton _ _,fun x hx y hy=>by simp at hy;subst hy;have:=h.num x hx;omega⟩,
  fun x hx=>by
   rcases List.mem_append.1 hx with hx | hx
   ·have:=h.num x hx;omega
   ·simp at hx;subst hx;omega,
  fun x hx=>by
   rcases List.mem_append.1 hx with hx | hx
   ·exact h.ok x hx
   ·simp at hx;subst hx;exact ⟨ho,hh⟩,
  by have:=h.len;simp;omega⟩
theorem held_rs (b:Built) (rs:List Report) (S C:List Int) (m d l:Int) : heldB { b with rs:=rs } S C m d l=heldB b S C m d l:=by
 unfold heldB oldB;rw [befTo_rs];rfl
theorem holds_rs {b:Built} {rs:List Report} {S C:List Int} {r:Report} : HoldsB { b with rs:=rs } S C r↔HoldsB b S C r:=by
 unfold HoldsB;rw [held_rs];exact Iff.rfl
theorem Trues.all {b:Built} {S C:List Int} {n:Nat} {rs:List Report} (h:Trues b S C n rs) : ∀ r∈({ b with rs:=rs } : Built).rs,HoldsB { b with rs:=rs } S C r:=fun r hr=>holds_rs.2 (h.ok r hr).2
theorem CntAt.rs {b:Built} {C:List Int} (h:CntAt b C) (rs:List Report) : CntAt { b with rs:=rs } C:=⟨h.len,h.has⟩
theorem find_at {R:List Issue} {d l:Int} {x:Issue} (h:zCQ R d l=some x) : ∃ k,∃ hk:k < R.length,R[k]=x/\x.d=d/\x.l=l:=by
 unfold zCQ at h;obtain ⟨h1,k,hk,e,_⟩:=List.find?_eq_some_iff_getElem.1 h;unfold zEV at h1;simp at h1;exact ⟨k,hk,e,h1.1,h1.2⟩
theorem valid_ord {b:Built} (hv:zF b=0) : ∀ k,k < b.ns.reg.length->zHI b.ns.reg k:=fun k hk=>((zAW (zBJ (zS hv).1).1).2.1 k hk).2
theorem last_ge {R:List Issue} {d:Int} : ∀ n k,k < n->n<=R.length->(hk:k < R.length)->R[k].d=d->R[k].l<=zJI R d n:=by
 intro n;induction n with
 | zero=>intro k hk;omega
 | succ n ih =>
   intro k hk hn hkl hd;rw [lastTo_succ R d n (by omega)];by_cases e:k=n
   ·subst e;rw [if_pos hd];exact Int.le_max_right _ _
   ·have:=ih k (by omega) (by omega) hkl hd
    split
    ·exact Int.le_trans this (Int.le_max_left _ _)
    ·exact this
theorem letter_last {R:List Issue} {N:List Note} (h:zP R N=0) (S:List Int) (m:Int) {d:Int} (hd:d∈nums R) : In (zAA S m N d) 1 (zKG R d):=by
 obtain ⟨x,hx⟩:=zNM h S m d hd;obtain ⟨k,hk,e,e1,e2⟩:=find_at hx;have h1:=(zNN h S m hd).1;have h2:=last_ge (R:=R) (d:=d) R.length k hk (Nat.le_refl _) hk (by rw [e];exact e1);rw [e,e2] at h2;exact ⟨h1,h2⟩
def cntP (P:List Item) (d:Int) : Nat->Int
 | 0=>0
 | k+1=>match P[k]? with
   | none=>cntP P d k
   | some p=>if p.d=d then p.c else cntP P d k
theorem cntP_succ {P:List Item} {d:Int} {k:Nat} (hk:k < P.length) : cntP P d (k+1)=if P[k].d=d then P[k].c else cntP P d k:=by
 simp only [cntP,List.getElem?_eq_getElem hk]
theorem cntP_is {P:List Item} {d c:Int} (h:∀ p∈P,p.d=d->p.c=c) : ∀ k,k<=P.length->cntP P d k=if ∃ j,j < k/\∃ hj:j < P.length,P[j].d=d then c else 0:=by
 intro k;induction k with
 | zero=>intro _;rw [if_neg (fun ⟨j,hj,_⟩=>by omega)];rfl
 | succ k ih =>
   intro hk;rw [cntP_succ (by omega),ih (by omega)];by_cases e:P[k].d=d
   ·rw [if_pos e,if_pos ⟨k,by omega,by omega,e⟩];exact h _ (List.getElem_mem _) e
   ·rw [if_neg e]
    have hiff:(∃ j,j < k/\∃ hj:j < P.length,P[j].d=d)↔(∃ j,j < k+1/\∃ hj:j < P.length,P[j].d=d):=by
     constructor
     ·rintro ⟨j,h1,h2⟩;exact ⟨j,by omega,h2⟩
     ·rintro ⟨j,h1,h2,h3⟩
      by_cases ej:j=k
      ·subst ej;exact absurd h3 e
      ·exact ⟨j,by omega,h2,h3⟩
    by_cases hc:∃ j,j < k/\∃ hj:j < P.length,P[j].d=d
    ·rw [if_pos hc,if_pos (hiff.1 hc)]
    ·rw [if_neg hc,if_neg (fun g=>hc (hiff.2 g))]
theorem cntP_all {R:List Issue} {lt:Int->Int} {of d:Int} (hd:d∈nums R) (hc:0<=zIE R lt of d) : cntP (zIL R lt of) d (zIL R lt of).length=zIE R lt of d:=by
 rw [cntP_is (c:=zIE R lt of d) (fun p hp e=>by unfold zIL at hp;rw [(posTo_mem hp).2,e]) _ (Nat.le_refl _)];by_cases h:0 < zIE R lt of d
 ·have hm:(⟨d,zIE R lt of d⟩ : Item)∈zIL R lt of:=by
   unfold zIL zEP;rw [List.take_length];exact List.mem_filterMap.2 ⟨d,hd,by rw [if_pos h]⟩
  obtain ⟨j,hj,e⟩:=List.getElem_of_mem hm;rw [if_pos ⟨j,hj,hj,by rw [e]⟩]
 ·have h0:zIE R lt of d=0:=by omega
  rw [h0];split <;> rfl
def hpG (hs:List Heap) (n l:Int) (u:Bool) (H:Int) : Nat->Int
 | 0=>H
 | k+1=>if u=true/\(∃ h:k < hs.length,hs[k].d=n/\hs[k].l=l - 1) then (k:Int) else hpG hs n l u H k
theorem hpG_is (hs:List Heap) (n l:Int) (u:Bool) (H:Int) (k:Nat) : hpG hs n l u H k=if zLG hs n l u k = -1 then H else zLG hs n l u k:=by
 induction k with
 | zero=>simp [hpG,zLG]
 | succ k ih =>
   simp only [hpG,zLG];split
   ·rw [if_neg (by omega)]
   ·exact ih
theorem heapTo_shut (hs:List Heap) (n l:Int) (k:Nat) : zLG hs n l false k = -1:=by
 induction k with
 | zero=>rfl
 | succ k ih=>simp only [zLG];rw [if_neg (by simp)];exact ih
def hpN (N:List Note) (hs:List Heap) (n l num:Int) : Nat->Int
 | 0=>-1
 | i+1=>match N[i]? with
   | none=>hpN N hs n l num i
   | some x=>hpG hs n l (x.num == num && x.use) (hpN N hs n l num i) hs.length
theorem hpN_succ {N:List Note} {hs:List Heap} {n l num:Int} {i:Nat} (hi:i < N.length) : hpN N hs n l num (i+1)=hpG hs n l (N[i].num == num && N[i].use) (hpN N hs n l num i) hs.length:=by
 simp only [hpN,List.getElem?_eq_getElem hi]
theorem hpN_is (N:List Note) (hs:List Heap) (n l num:Int) : ∀ i,i<=N.length->hpN N hs n l num i=zLG hs n l ((N.take i).any (fun x=>x.num == num && x.use)) hs.length:=by
 intro i;induction i with
 | zero=>intro _;rw [List.take_zero,List.any_nil,heapTo_shut];rfl
 | succ i ih =>
   intro hi;rw [hpN_succ (by omega),ih (by omega),hpG_is,List.take_succ_eq_append_getElem (by omega),List.any_append];simp only [List.any_cons,List.any_nil,Bool.or_false];cases hu:(N[i].num == num && N[i].use) with
   | false=>rw [heapTo_shut,if_pos rfl,Bool.or_false]
   | true =>
     rw [Bool.or_true];by_cases e:zLG hs n l true hs.length = -1
     ·rw [if_pos e]
      cases (N.take i).any (fun x=>x.num == num && x.use) with
      | false=>rw [heapTo_shut,e]
      | true=>rfl
     ·rw [if_neg e]
theorem hpN_all (N:List Note) (hs:List Heap) (n l num:Int) : hpN N hs n l num N.length=zLG hs n l (zMD N num) hs.length:=by
 rw [hpN_is N hs n l num _ (Nat.le_refl _),List.take_length];rfl
def remTo (b:Built) (S:List Int) (k:Nat) (c0:Int) (i:Nat) : Int:=max 0 (c0 - zCX b S k i)
def oldTo (b:Built) (S:List Int) (k:Nat) (c0 m d:Int) (i:Nat) : Int:=if b.ms.idxOf m < i then oldC (zCX b S k (b.ms.idxOf m)) (zZ b S m d).c c0 else 0
theorem befTo_next {b:Built} {S:List Int} {k i:Nat} (hi:i < b.ms.length) : zCX b S k (i+1)=zCX b S k i+zHZ b S k b.ms[i]:=by
 show zCX b S k i+(b.ms[i]?).elim 0 (zHZ b S k)=_
 rw [List.getElem?_eq_getElem hi];rfl
theorem rem_zero {b:Built} {S:List Int} {k:Nat} {c0:Int} (h:0<=c0) : remTo b S k c0 0=c0:=by
 unfold remTo;simp only [zCX];omega
theorem held_skip {b:Built} {S:List Int} {k i:Nat} {c0 m d:Int} (hs:(zZ b S m d).h=k) (hi:i < b.ms.length) (ht:(zZ b S b.ms[i] d).h≠k) :
  remTo b S k c0 (i+1)=remTo b S k c0 i/\oldTo b S k c0 m d (i+1)=oldTo b S k c0 m d i:=by
 unfold remTo oldTo;rw [befTo_next hi,take_is hs,if_neg ht];refine ⟨by rw [Int.add_zero],?_⟩;have hne:b.ms.idxOf m≠i:=by rintro rfl;rw [List.getElem_idxOf hi] at ht;exact ht hs
 by_cases h:b.ms.idxOf m < i
 ·rw [if_pos h,if_pos (by omega)]
 ·rw [if_neg h,if_neg (by omega)]
theorem held_step {b:Built} (hv:zF b=0) {S:List Int} {k i:Nat} {c0 m d:Int} (hs:(zZ b S m d).h=k) (hi:i < b.ms.length) (ht:(zZ b S b.ms[i] d).h=k) :
  remTo b S k c0 (i+1)=remTo b S k c0 i - min (remTo b S k c0 i) (zZ b S b.ms[i] d).c /\
  oldTo b S k c0 m d (i+1)=if b.ms[i]=m then min (remTo b S k c0 i) (zZ b S b.ms[i] d).c else oldTo b S k c0 m d i:=by
 have hc:=(zJP hv S b.ms[i] d).1;obtain ⟨h1,h2⟩:=old_step (n:=c0) (f:=zCX b S k i) hc;unfold remTo oldTo;rw [befTo_next hi,take_is hs,if_pos ht,h1];refine ⟨h2.symm,?_⟩;by_cases e:b.ms[i]=m
 ·have ei:b.ms.idxOf m=i:=by rw [<- e];exact ms_idx hv hi
  rw [if_pos e,if_pos (by omega),ei,<- e]
 ·have ei:b.ms.idxOf m≠i:=by
   rintro rfl;exact e (List.getElem_idxOf hi)
  rw [if_neg e];by_cases h:b.ms.idxOf m < i
  ·rw [if_pos h,if_pos (by omega)]
  ·rw [if_neg h,if_neg (by omega)]
theorem old_all {b:Built} {S C:List Int} {m d:Int} {k:Nat} (hs:(zZ b S m d).h=k) (hm:m∈b.ms) : oldB b S C m d=oldTo b S k (C.getD k 0) m d b.ms.length:=by
 unfold oldB oldTo;rw [if_neg (by omega),if_pos (List.idxOf_lt_length_of_mem hm),show (zZ b S m d).h.toNat=k by omega]
theorem valid_ms {b:Built} (hv:zF b=0) {m:Int} (hm:m∈b.ms) : In m 1 999:=by
 obtain ⟨i,hi,rfl⟩:=List.getElem_of_mem hm;exact ((zS hv).2.2.2.2.2.1 i hi hi).1
theorem rem_bd {b:Built} (hv:zF b=0) {S C:List Int} {k:Nat} (hk:k < b.hs.length) (hC:CntAt b C) (i:Nat) : 0<=remTo b S k (C.getD k 0) i/\remTo b S k (C.getD k 0) i<=200:=by
 have h1:=hC.has k hk;have h2:=zGO hv hk;have h3:=(bef_bd hv S k i).1;unfold remTo;omega
theorem old_in {b:Built} (hv:zF b=0) (S C:List Int) (m d:Int) : 0<=oldB b S C m d/\oldB b S C m d<=(zZ b S m d).c:=by
 have hc:=zJP hv S m d;unfold oldB oldC;split <;> omega
theorem within02_b (n lo hi:Int) (w:World) (h:In n lo hi) : Calls prog 83 #[.int .i64 n,.int .i64 lo,.int .i64 hi] w fun e w'=>e = .returned (.bool true)/\Below w.heap.size w w' :=
 (zGN n lo hi w).mono fun _ _ g=>⟨by rw [g.1,inB_of h],by rw [g.2];exact br_⟩
theorem letters02 (w:World) (v vl:Value) (R:List Issue) (lt:Int->Int) (hr:Sl zAY 5 w v R) (hl:Sl zAM 1 w vl ((nums R).map lt)) (hR:R.length<=1000) (hall:∀ d∈nums R,In (lt d) 1 (zKG R d)) :
  Calls prog 33 #[.agg #[v],vl] w fun e w'=>e = .returned (.bool true)/\Below w.heap.size w w':=by
 obtain ⟨hb1,B1⟩:=zBY w #[v] 24;have c0:=B1 0 v rfl;clear B1;have HC0:=zE c0;obtain ⟨a,cap,rfl,hm⟩:=zD hr;obtain ⟨al,capl,rfl,hml⟩:=zD hl;have h1:=zJ zU hb1 hr;have hl1:=zJ zN hb1 hl;have HALL:=zE hall;simp only [List.length_map] at hl1 hml ⊢;clear hr hl hall;have HR1:=zE h1;have HL1:=zE hl1;clear h1 hl1;unfold zK at c0;go_enter func33,ntmps33;go_wp2_with fail;clear c0;generalize w.alloc _=w1 at *;refine (numbers02 _ _ R HR1.out hR).mono ?_;rintro e w2 ⟨u,rfl,hu,hb2⟩;obtain ⟨au,cu,rfl,hmu⟩:=zD hu;have HU:=zE hu;have HR2:=zE (zJ zU hb2 HR1.out);have HL2:=zE (zJ zN hb2 HL1.out);have HC2:=zE (zC hb2 HC0.out);have HB2:=zE (zA hb1 hb2);clear hu hb1 hb2 HR1 HL1 HC0;go_wp2;go_loopw [6] (fun i wr=>∃ k:Nat,i = .int .i64 k/\k<=(nums R).length/\Hid (Below w2.heap.size w2 wr)) (fun i _=>(nums R).length - (intOf i).toNat)
 case atStart=>exact ⟨0,rfl,by omega,br_⟩
 case round =>
  obtain ⟨k,rfl,hk,HB⟩:=hrel;by_cases hlt:k < (nums R).length
  ·have hkm:k < ((nums R).map lt).length:=by rw [List.length_map];exact hlt
   obtain ⟨b1,o1,rfl,p0,_⟩:=(zY (zJ zN HB.out HU.out)).2 k hlt;have hX:=(zY (zJ zN HB.out HL2.out)).2 k hkm;obtain ⟨b2,o2,rfl,q0,_⟩:=hX;have hin:=HALL.out _ (List.getElem_mem hlt);rw [List.getElem_map] at q0;generalize (nums R)[k]=d at *;have hp:=zH p0;have hq:=zH q0;have hc:=zH (zC HB.out HC2.out);have hR2:=sl_later zU (zJ zU HB.out HR2.out);simp only [Nat.mul_one] at hp hq;generalize lt d=l at *;have hw:=fun w=>within02_b l 1 (zKG R d) w hin
   clear p0 q0 hin;go_wp2;refine zAR (by kernel_rfl) (by kernel_rfl) (no_implicit_lambda% ?_);repeat ((with_reducible refine wpQuiet_step (fun K hK=>?_));go_simp;first | ((with_reducible refine hK _ ?_);clear hK K) | (refine hK _ (no_implicit_lambda% ?_);clear hK K) | (apply Exists.intro;(with_reducible refine ⟨fun _=>?_,hK _ ?_⟩);(first | (go_at_call 84;exact Calls.quiet_later (zNJ _ _ _ _ (hR2 _))) | (go_at_call 83;exact Calls.quiet_later (hw _)));clear hK K))
   with_reducible refine wpQuiet_nil ?_
   intro _ hw9;obtain ⟨xq,hw8⟩:=hw9;subst hw8;have HB3:=zE (zA HB.out (zG wr xq));clear hp hq hc hR2 hw HB;go_wp2;go_roundw
   ·exact ⟨k+1,by go_num,by omega,HB3⟩
   ·simp [intOf];omega
  ·go_wp2;go_ret;exact ⟨rfl,zA HB2.out HB.out⟩
end
section
open Tryz
open Go.RowKit
attribute [local go_sem] zAE
structure BoxAt (g:Nat) (w wr:World) (cs:Array Value) (t:TypeId) : Prop where
 below:Below g w wr
 box:Lay wr g cs t
theorem BoxAt.ext {g:Nat} {w wr wr':World} {cs:Array Value} {t:TypeId} (h:BoxAt g w wr cs t) (hb:Below wr.heap.size wr wr') : BoxAt g w wr' cs t:=⟨h.below.trans (hb.mono (Nat.le_of_lt h.box.lt)),h.box.ext hb⟩
theorem BoxAt.set {g:Nat} {w wr:World} {cs:Array Value} {t:TypeId} (h:BoxAt g w wr cs t) (j:Nat) (v:Value) : BoxAt g w (wr.setCell ⟨g,j,none⟩ v) (cs.setIfInBounds j v) t:=⟨zI (Nat.le_refl g) h.below,lay_set h.box j v⟩
theorem lay_else {w:World} {a g j:Nat} {v:Value} {cs:Array Value} {t:TypeId} (h:Lay w a cs t) (hne:a≠g) : Lay (w.setCell ⟨g,j,none⟩ v) a cs t:=(Below.heap_setCell w ⟨g,j,none⟩ v a hne).trans h
theorem Lay.q3 {W:World} {B:Nat} {v0 v1 v2:Value} {t:TypeId} (h:Lay W B #[v0,v1,v2] t) : B < W.heap.size/\(W.cell? ⟨B,0,none⟩=some v0/\W.cell? ⟨B,1,none⟩=some v1/\W.cell? ⟨B,2,none⟩=some v2)/\W.frozen? ⟨B,0,none⟩=false/\W.frozen? ⟨B,1,none⟩=false/\W.frozen? ⟨B,2,none⟩=false:=⟨h.lt,⟨h.cell 0 _ rfl,h.cell 1 _ rfl,h.cell 2 _ rfl⟩,h.frozen 0,h.frozen 1,h.frozen 2⟩
theorem Lay.q4 {W:World} {B:Nat} {v0 v1 v2 v3:Value} {t:TypeId} (h:Lay W B #[v0,v1,v2,v3] t) : B < W.heap.size/\W.cell? ⟨B,0,none⟩=some v0/\W.cell? ⟨B,1,none⟩=some v1/\W.cell? ⟨B,2,none⟩=some v2/\W.cell? ⟨B,3,none⟩=some v3:=⟨h.lt,h.cell 0 _ rfl,h.cell 1 _ rfl,h.cell 2 _ rfl,h.cell 3 _ rfl⟩
theorem wrap2 (z:Int) (h : -9223372036854775808<=z/\z<=9223372036854775807) : IntKind.i64.wrap z=z/\wrap64 z=z:=⟨IntWalk.i64_in _ (by omega),IntWalk.wrap64_in _ (by omega)⟩
theorem standOf_law (w:World) (vr vn vm vh vs vz:Value) (b:Built) (S:List Int) (m d:Int) (hA:BuiltArg w vr vn vm vh vs b) (hz:Sl zAM 1 w vz S) (hv:zF b=0) (hT:IsT (zBO b.ns.notes) S) (hm:In m 1 999) (hd:d∈nums b.ns.reg) :
  Calls prog 19 #[.agg #[vr,vn,.int .i64 b.of,vm,vh,vs],vz,.int .i64 m,.int .i64 d] w fun e w'=>e = .returned (.tuple #[.agg #[.int .i64 (zZ b S m d).c,.int .i64 (zZ b S m d).l,.int .i64 (zZ b S m d).h],.bool true])/\Below w.heap.size w w':=by
 obtain ⟨ar,cr,rfl,_⟩:=zD hA.at_.reg;obtain ⟨an,cn,rfl,_⟩:=zD hA.at_.notes;obtain ⟨am,cm,rfl,_⟩:=zD hA.at_.ms;obtain ⟨ah,ch,rfl,_⟩:=zD hA.at_.hs;obtain ⟨az,cz,rfl,_⟩:=zD hz;have S0:=((Sta.of ((Ever.and (p:=fun w=>Sl zAM 1 w (.slice az S.length cz) S) (fun _ k=>zJ zN k hz) (fun _ k=>hA.ext k)))).new #[.slice ar b.ns.reg.length cr,.slice an b.ns.notes.length cn,.int .i64 b.of,.slice am b.ms.length cm,.slice ah b.hs.length ch,vs] 32).new #[.int .i64 0,.int .i64 0,.int .i64 0] 61;rw [World.size_alloc] at S0;have HV:=zE (And.intro hv (And.intro hT (And.intro hm hd)));have hvn:=(zS hv).1;have HR:=zE (zBJ hvn);have HLT:=zE (zNM hvn S m);have HLL:=zE (fun d h=>letter_last hvn S m (d:=d) h);have h60:=zE (zAW (zBJ hvn).1).1;have HOF:=zE (zQS hv);have HBD:=zE (zJP hv S m d);have hlb : -1000<=zAA S m b.ns.notes d/\zAA S m b.ns.notes d<=1000:=by have:=(zNN hvn S m hd);unfold In at this;omega
 clear hA hz hv hT hm hd hvn;obtain ⟨l0,⟨q0,q1,q2,q3,q4,q5⟩,-⟩:=(S0.get 1 rfl).q6;go_enter func19,ntmps19;go_wp2_with fail;clear q0 q1 q2 q3 q4 q5 l0;generalize hg0:w.heap.size=g0 at *;generalize (w.alloc _).alloc _=w2 at *;refine (lettersOf_note _ _ _ _ b.ns.reg b.ns.notes S m S0.now.1.notes S0.now.1.looks S0.now.2 (zS HV.out.1).1 HV.out.2.1 HV.out.2.2.1).mono ?_;rintro e w3 ⟨u,rfl,hu,h⟩;obtain ⟨au,cu,rfl,_⟩:=zD hu;simp only [List.length_map] at hu ⊢;replace S0:=(S0.ext h).and (fun _ k=>zJ zN k hu);clear hu h;obtain ⟨l0,⟨q0,q1,q2,q3,q4,q5⟩,-⟩:=(S0.get 1 rfl).q6;go_wp2_with fail;clear q0 q1 q2 q3 q4 q5 l0;refine (letters02 _ _ _ b.ns.reg (zAA S m b.ns.notes) S0.now.2.1.at_.reg S0.now.1 (by have:=h60.out;unfold In at this;omega) HLL.out).mono ?_;rintro e w4 ⟨rfl,h⟩;replace S0:=S0.ext h;clear h;obtain ⟨l0,⟨q0,q1,q2,q3,q4,q5⟩,-⟩:=(S0.get 1 rfl).q6;go_wp2_with fail;clear q0 q1 q2 q3 q4 q5 l0;refine (explode_sheet _ _ _ b.ns.reg (zAA S m b.ns.notes) b.of S0.now.2.1.notes.reg S0.now.1 HR.out.1 HLT.out HOF.out).mono ?_;rintro e w5 ⟨u,rfl,hu,h⟩;replace S0:=(S0.ext h).and (fun _ k=>zJ zAX k hu);obtain ⟨ap,cp,rfl,_⟩:=zD hu;clear hu h;obtain ⟨l0,⟨q0,q1,q2,q3,q4,q5⟩,-⟩:=(S0.get 1 rfl).q6;go_wp2_with fail;clear q0 q1 q2 q3 q4 q5 l0;refine (byOf_note _ _ _ _ b.ns.reg b.ns.notes S m d S0.now.2.2.1.notes S0.now.2.2.1.looks S0.now.2.2.2 (zS HV.out.1).1 HV.out.2.1 HV.out.2.2.1 HV.out.2.2.2).mono ?_;rintro e w6 ⟨rfl,h⟩;replace S0:=S0.ext h;clear h;obtain ⟨l0,⟨q0,q1,q2,q3,q4,q5⟩,-⟩:=(S0.get 1 rfl).q6;go_wp2_with fail;clear q0 q1 q2 q3 q4 q5 l0;refine (numbers02 _ _ b.ns.reg S0.now.2.2.1.at_.reg (by have:=h60.out;unfold In at this;omega)).mono ?_;rintro e w7 ⟨u,rfl,hu,h⟩;replace S0:=S0.ext h;obtain ⟨ad,cd,rfl,_⟩:=zD hu;have hU:=zE hu;clear hu h;go_wp2_with fail;refine (index02_in _ _ (nums b.ns.reg) d hU.out HV.out.2.2.2).mono ?_;rintro e w8 ⟨rfl,h⟩;replace S0:=S0.ext h;clear h hU;have hix:(nums b.ns.reg).idxOf d < ((nums b.ns.reg).map (zAA S m b.ns.notes)).length:=by rw [List.length_map];exact List.idxOf_lt_length_of_mem HV.out.2.2.2
 have hix2:(nums b.ns.reg).idxOf d < (nums b.ns.reg).length:=List.idxOf_lt_length_of_mem HV.out.2.2.2;obtain ⟨bl,ol,rfl,hcl,_⟩:=(zY S0.now.2.1).2 _ hix;have hval:((nums b.ns.reg).map (zAA S m b.ns.notes))[(nums b.ns.reg).idxOf d]=zAA S m b.ns.notes d:=by rw [List.getElem_map];congr 1;exact List.getElem_idxOf _
 rw [hval,Nat.mul_one] at hcl;have HX:Hid (BoxAt w8.heap.size w8 (w8.alloc (.cells #[.int .i64 0,.int .i64 (zAA S m b.ns.notes d),.int .i64 (-1)] 61)) #[.int .i64 (cntP (zIL b.ns.reg (zAA S m b.ns.notes) b.of) d 0),.int .i64 (zAA S m b.ns.notes d),.int .i64 (-1)] 61):=⟨zB _ _,Lay.new _ _ _⟩;have S1:=zE S0;clear S0;unfold zK at hcl;go_wp2;clear hcl;have HC:=zE (cntP_all (lt:=zAA S m b.ns.notes) (of:=b.of) HV.out.2.2.2 HBD.out.1);have HN:=zE (hpN_all b.ns.notes b.hs d (zAA S m b.ns.notes d) (zLR S m b.ns.notes d));have HH:Hid (zZ b S m d=⟨zIE b.ns.reg (zAA S m b.ns.notes) b.of d,zAA S m b.ns.notes d,zLG b.hs d (zAA S m b.ns.notes d) (zMD b.ns.notes (zLR S m b.ns.notes d)) b.hs.length⟩):=rfl;generalize zIL b.ns.reg (zAA S m b.ns.notes) b.of=P at *;generalize zAA S m b.ns.notes d=l at *;generalize zLR S m b.ns.notes d=num at *;have HG:=S1.out.held.below;generalize hgx:w8.heap.size=gx at *;generalize w8.alloc _=w9 at *;go_loopw [73] (fun q wr=>∃ k:Nat,q = .int .i64 k/\k<=P.length/\Hid (BoxAt gx w8 wr #[.int .i64 (cntP P d k),.int .i64 l,.int .i64 (-1)] 61)) (fun q _=>P.length - (intOf q).toNat)
 case atStart=>exact ⟨0,rfl,by omega,HX⟩
 case round =>
  clear HX;obtain ⟨k,rfl,hk,HX⟩:=hrel;by_cases hlt:k < P.length
  case pos =>
   have SP:=S1.out.ext (by rw [hgx];exact HX.out.below);obtain ⟨bp,op,rfl,⟨c0,c1⟩,_⟩:=(zY SP.now.1).2 k hlt;have hsucc:=zE (cntP_succ (d:=d) hlt);generalize P[k]=p at *;unfold zK at c0 c1;have L1:=(HeldB.nil wr).new #[.int .i64 p.d,.int .i64 p.c] 97;have HX1:=zE (HX.out.ext L1.below);obtain ⟨l1,⟨p0,p1⟩,-⟩:=(L1.get 0 rfl).q2;obtain ⟨lx,⟨x0,x1,x2⟩,f0,f1,f2⟩:=HX1.out.box.q3;clear SP HX L1;by_cases he:(p.d == d)=true
   ·go_wp2;refine ⟨⟨k+1,by go_num,by omega,?_⟩,by simp [intOf];omega⟩;rw [hsucc.out,if_pos (by simpa using he)];exact zE (HX1.out.set 0 (.int .i64 p.c))
   ·have he':(p.d == d)=false:=by simpa using he
    clear he;go_wp2;refine ⟨⟨k+1,by go_num,by omega,?_⟩,by simp [intOf];omega⟩;rw [hsucc.out,if_neg (by simpa using he')];exact HX1
  case neg =>
   obtain rfl:k=P.length:=by omega
   rw [HC.out] at HX;clear HC;generalize zIE b.ns.reg (zAA S m b.ns.notes) b.of d=c at *;have SP:=S1.out.ext (by rw [hgx];exact HX.out.below);obtain ⟨l0,⟨q0,q1,q2,q3,q4,q5⟩,-⟩:=(SP.get 1 rfl).q6;generalize wr=wb at *;clear SP;go_wp2;clear q0 q1 q2 q3 q4 q5 l0;have HY:Hid (BoxAt gx w8 wb #[.int .i64 c,.int .i64 l,.int .i64 (hpN b.ns.notes b.hs d l num 0)] 61):=HX;clear HX;go_loopw [89] (fun q wr=>∃ i:Nat,q = .int .i64 i/\i<=b.ns.notes.length/\Hid (BoxAt gx w8 wr #[.int .i64 c,.int .i64 l,.int .i64 (hpN b.ns.notes b.hs d l num i)] 61)) (fun q _=>b.ns.notes.length - (intOf q).toNat)
   case atStart=>exact ⟨0,rfl,by omega,HY⟩
   case round =>
    clear HY;obtain ⟨i,rfl,hi,HY⟩:=hrel;have SP:=S1.out.ext (by rw [hgx];exact HY.out.below);by_cases hlt:i < b.ns.notes.length
    case neg =>
     obtain rfl:i=b.ns.notes.length:=by omega
     rw [HN.out] at HY;obtain ⟨l0,⟨q0,q1,q2⟩,z0,z1,z2⟩:=(SP.get 0 rfl).q3;obtain ⟨lx,⟨x0,x1,x2⟩,f0,f1,f2⟩:=HY.out.box.q3;have HB:=zE SP.held.below;have LR:=zE (SP.get 0 rfl);clear SP HY;generalize zLG b.hs d l (zMD b.ns.notes num) b.hs.length=h at *;go_wp2;generalize hW:((wr.setCell _ _).setCell _ _).setCell _ _=w9;obtain ⟨L9,h9,-⟩:=zIW LR.out [.int .i64 c,.int .i64 l,.int .i64 h] rfl hW;obtain ⟨l9,⟨q0,q1,q2⟩,-⟩:=L9.q3;refine bodyPost_ret (v:=.tuple #[.agg #[.int .i64 c,.int .i64 l,.int .i64 h],.bool true]) (by simp [results,results19,go_sem,q0,q1,q2,l9]) rfl ?_;exact ⟨by rw [HH.out],HB.out.trans (h9 _ (by omega))⟩
    case pos =>
     obtain ⟨bn,on,rfl,⟨n0,n1,n2,n3,n4,n5,n6,n7,n8,n9⟩,_⟩:=(zY SP.now.2.2.1.at_.notes).2 i hlt;have hsucc:=zE (hpN_succ (hs:=b.hs) (n:=d) (l:=l) (num:=num) hlt);generalize b.ns.notes[i]=x at *;unfold zK at n0 n1 n2 n3 n4 n5 n6 n7 n8 n9;have L1:=(HeldB.nil wr).new #[.int .i64 x.num,.int .i64 x.day,.int .u8 x.sg,.int .i64 x.d,.int .i64 x.l,.int .i64 x.fr,.int .i64 x.to,.int .i64 x.ca,.bool x.use,.int .u8 x.ways] 74;have HY1:=zE (HY.out.ext L1.below);have hgl:=HY.out.box.lt;have HL1:=zE (L1.get 0 rfl);replace SP:=SP.ext L1.below;obtain ⟨l0,⟨q0,q1,q2,q3,q4,q5⟩,-⟩:=(SP.get 1 rfl).q6;clear HY L1 SP;go_wp2;clear n0 n1 n2 n3 n4 n5 n6 n7 n8 n9 q0 q1 q2 q3 q4 q5 l0;generalize hgn:wr.heap.size=gn at *;have hne:gn≠gx:=by omega
     generalize wr.alloc _=wb at *;generalize hpN b.ns.notes b.hs d l num i=H0 at *;generalize huu:(x.num == num && x.use)=uu at *;have HU:=zE huu;clear huu;have HZ:Hid (BoxAt gx w8 wb #[.int .i64 c,.int .i64 l,.int .i64 (hpG b.hs d l uu H0 0)] 61):=HY1;clear HY1;go_loopw [96] (fun q wr=>∃ j:Nat,q = .int .i64 j/\j<=b.hs.length/\Hid (BoxAt gx w8 wr #[.int .i64 c,.int .i64 l,.int .i64 (hpG b.hs d l uu H0 j)] 61)/\Hid (Lay wr gn #[.int .i64 x.num,.int .i64 x.day,.int .u8 x.sg,.int .i64 x.d,.int .i64 x.l,.int .i64 x.fr,.int .i64 x.to,.int .i64 x.ca,.bool x.use,.int .u8 x.ways] 74)) (fun q _=>b.hs.length - (intOf q).toNat)
     case atStart=>exact ⟨0,rfl,by omega,HZ,HL1⟩
     case round =>
      clear HZ HL1;obtain ⟨j,rfl,hj,HZ,HL⟩:=hrel;by_cases hlj:j < b.hs.length
      case neg =>
       obtain rfl:j=b.hs.length:=by omega
       rw [<- hsucc.out] at HZ;go_wp2;exact ⟨⟨i+1,by go_num,by omega,HZ⟩,by simp [intOf];omega⟩
      case pos =>
       have SP:=S1.out.ext (by rw [hgx];exact HZ.out.below);obtain ⟨bh,oh,rfl,⟨c0,c1,c2,c3⟩,_⟩:=(zY SP.now.2.2.1.at_.hs).2 j hlj;have HYES:Hid (uu=true->b.hs[j].d=d->b.hs[j].l=l - 1->hpG b.hs d l uu H0 (j+1)=j):=fun h1 h2 h3=>by
        simp only [hpG];exact if_pos ⟨h1,hlj,h2,h3⟩
       have HNO:Hid (¬ (uu=true/\b.hs[j].d=d/\b.hs[j].l=l - 1)->hpG b.hs d l uu H0 (j+1)=hpG b.hs d l uu H0 j):=fun h=>by
        simp only [hpG];exact if_neg fun ⟨h1,_,h2,h3⟩=>h ⟨h1,h2,h3⟩
       generalize b.hs[j]=h at *;unfold zK at c0 c1 c2 c3;have L1:=(HeldB.nil wr).new #[.int .i64 h.d,.int .i64 h.l,.int .i64 h.lo,.int .i64 h.hi] 42;have HZ1:=zE (HZ.out.ext L1.below);have HL1:=zE (HL.out.ext L1.below);obtain ⟨l1,p0,p1,p2,p3⟩:=(L1.get 0 rfl).q4;obtain ⟨lx,⟨x0,x1,x2⟩,f0,f1,f2⟩:=HZ1.out.box.q3;have ln:=HL1.out.lt;have n0:=HL1.out.cell 0 _ rfl;have n8:=HL1.out.cell 8 _ rfl;clear SP HZ HL L1;have skip:(¬ (uu=true/\h.d=d/\h.l=l - 1))->Hid (BoxAt gx w8 (wr.alloc (.cells #[.int .i64 h.d,.int .i64 h.l,.int .i64 h.lo,.int .i64 h.hi] 42)) #[.int .i64 c,.int .i64 l,.int .i64 (hpG b.hs d l uu H0 (j+1))] 61):=fun h=>by rw [HNO.out h];exact HZ1
       have SK:=zE skip;have take:uu=true->h.d=d->h.l=l - 1->Hid (BoxAt gx w8 ((wr.alloc (.cells #[.int .i64 h.d,.int .i64 h.l,.int .i64 h.lo,.int .i64 h.hi] 42)).setCell ⟨gx,2,none⟩ (.int .i64 j)) #[.int .i64 c,.int .i64 l,.int .i64 (hpG b.hs d l uu H0 (j+1))] 61):=fun h1 h2 h3=>by rw [HYES.out h1 h2 h3];exact HZ1.out.set 2 (.int .i64 j)
       have TK:=zE take;clear skip take HNO HYES;by_cases e1:(x.num == num)=true
       case neg =>
        have e1':(x.num == num)=false:=by simpa using e1
        clear e1;go_wp2;exact ⟨⟨j+1,by go_num,by omega,SK.out (by rw [<- HU.out,e1'];simp),HL1⟩,by simp [intOf];omega⟩
       case pos =>
        by_cases e2:x.use=true
        case neg =>
         replace e2:x.use=false:=by simpa using e2
         rw [e2] at n8;have E1:=zE e2;clear e2;go_wp2;exact ⟨⟨j+1,by go_num,by omega,SK.out (by rw [<- HU.out,E1.out];simp),HL1⟩,by simp [intOf];omega⟩
        case pos =>
         rw [e2] at n8;have E1:Hid (uu=true):=by have h:=HU.out;rw [e1,e2] at h;exact h.symm
         clear e2;by_cases e3:(h.d == d)=true
         case neg =>
          have e3':(h.d == d)=false:=by simpa using e3
          clear e3;go_wp2;exact ⟨⟨j+1,by go_num,by omega,SK.out (fun g=>by simp [g.2.1] at e3'),HL1⟩,by simp [intOf];omega⟩
         case pos =>
          obtain ⟨w1,w2⟩:=wrap2 (l - 1) (by omega);by_cases e4:(h.l == l - 1)=true
          case neg =>
           have e4':(h.l == l - 1)=false:=by simpa using e4
           clear e4;go_wp2;exact ⟨⟨j+1,by go_num,by omega,SK.out (fun g=>by simp [g.2.2] at e4'),HL1⟩,by simp [intOf];omega⟩
          case pos =>have g1:=zE (show h.d=d by simpa using e3);have g2:=zE (show h.l=l - 1 by simpa using e4);go_wp2;exact ⟨⟨j+1,by go_num,by omega,TK.out E1.out g1.out g2.out,zE (lay_else HL1.out hne)⟩,by simp [intOf];omega⟩
theorem held_law (w:World) (vr vn vm vh vs vz vc:Value) (b:Built) (S C:List Int) (m d l:Int) (hA:BuiltArg w vr vn vm vh vs b) (hz:Sl zAM 1 w vz S) (hc:Sl zAM 1 w vc C) (hv:zF b=0) (hT:IsT (zBO b.ns.notes) S) (hC:CntAt b C) (hm:m∈b.ms) (hd:d∈nums b.ns.reg) :
  Calls prog 20 #[.agg #[vr,vn,.int .i64 b.of,vm,vh,vs],vz,vc,.int .i64 m,.agg #[.int .i64 d,.int .i64 l]] w fun e w'=>e = .returned (.tuple #[.int .i64 (heldB b S C m d l),.bool true])/\Below w.heap.size w w':=by
 obtain ⟨am,cm,rfl,_⟩:=zD hA.at_.ms;obtain ⟨az,cz,rfl,_⟩:=zD hz;obtain ⟨ac,cc,rfl,_⟩:=zD hc;have S0:=((Sta.of (((Ever.and (p:=fun w=>Sl zAM 1 w (.slice az S.length cz) S) (fun _ k=>zJ zN k hz) (fun _ k=>hA.ext k))).and (fun _ k=>zJ zN k hc))).new #[vr,vn,.int .i64 b.of,.slice am b.ms.length cm,vh,vs] 32).new #[.int .i64 d,.int .i64 l] 45;rw [World.size_alloc] at S0;have HV:=zE (And.intro hv (And.intro hT (And.intro hC (And.intro hm hd))));have HE:Hid (heldB b S C m d l=zGH (zZ b S m d) l (oldB b S C m d)):=rfl;have HO:=zE (old_in hv S C m d);have hxc:=zJP hv S m d;have hxh:=zIY b S m d;have hxl : -1000<=(zZ b S m d).l/\(zZ b S m d).l<=1000:=by have:=(zNN (zS hv).1 S m hd);unfold zZ;simp only;omega
 have HNEG:Hid ((zZ b S m d).h < 0->oldB b S C m d=0):=fun h=>by unfold oldB;rw [if_pos h]
 have h12:b.ms.length<=12:=(zS hv).2.2.1;have hm9:=valid_ms hv hm;clear hA hz hc hv hT hC hm hd;obtain ⟨l0,⟨q0,q1,q2,q3,q4,q5⟩,-⟩:=(S0.get 1 rfl).q6;obtain ⟨l1,⟨p0,p1⟩,-⟩:=(S0.get 0 rfl).q2;go_enter func20,ntmps20;go_wp2_with fail;clear q0 q1 q2 q3 q4 q5 l0 p0 p1 l1;generalize hg0:w.heap.size=g0 at *;generalize (w.alloc _).alloc _=w2 at *;refine (standOf_law _ _ _ _ _ _ _ b S m d S0.now.2.1 S0.now.2.2 HV.out.1 HV.out.2.1 hm9 HV.out.2.2.2.2).mono ?_;rintro e w3 ⟨rfl,h⟩;replace S0:=(S0.ext h).new #[.int .i64 (zZ b S m d).c,.int .i64 (zZ b S m d).l,.int .i64 (zZ b S m d).h] 61;have hw3:w3.heap.size < (w3.alloc (.cells #[.int .i64 (zZ b S m d).c,.int .i64 (zZ b S m d).l,.int .i64 (zZ b S m d).h] 61)).heap.size:=by rw [World.size_alloc];omega
 clear h;have HXX:Hid (∀ k:Nat,(zZ b S m d).h=k->oldB b S C m d=oldTo b S k (C.getD k 0) m d b.ms.length):=fun k h=>old_all h HV.out.2.2.2.1
 have HST:Hid (∀ k i:Nat,(zZ b S m d).h=k->(hi:i < b.ms.length)->(zZ b S b.ms[i] d).h=k->remTo b S k (C.getD k 0) (i+1)=remTo b S k (C.getD k 0) i - min (remTo b S k (C.getD k 0) i) (zZ b S b.ms[i] d).c /\
  oldTo b S k (C.getD k 0) m d (i+1)=if b.ms[i]=m then min (remTo b S k (C.getD k 0) i) (zZ b S b.ms[i] d).c else oldTo b S k (C.getD k 0) m d i):=fun k i h1 hi h2=>held_step HV.out.1 h1 hi h2
 have HSK:Hid (∀ k i:Nat,(zZ b S m d).h=k->(hi:i < b.ms.length)->(zZ b S b.ms[i] d).h≠k->remTo b S k (C.getD k 0) (i+1)=remTo b S k (C.getD k 0) i/\oldTo b S k (C.getD k 0) m d (i+1)=oldTo b S k (C.getD k 0) m d i):=fun k i h1 hi h2=>held_skip h1 hi h2
 generalize hX:zZ b S m d=X at *;have HX:=zE hX;clear hX;obtain ⟨xc,xl,xh⟩:=X;simp only at *;generalize hoo:oldB b S C m d=oo at *;have HOO:=zE hoo;clear hoo;by_cases hneg:xh < 0
 ·obtain rfl:=HNEG.out hneg
  have hneg':¬ (xh ≥ 0):=by omega
  have SP:=S0;have HQ:=zE (show Below g0 w _ from hg0 ▸ S0.held.below);clear S0 hneg;have ho:=HO.out;obtain ⟨w6,w5⟩:=wrap2 xc (by omega);obtain ⟨l1,⟨p0,p1⟩,-⟩:=(SP.get 1 rfl).q2;obtain ⟨l2,⟨x0,x1,x2⟩,-⟩:=(SP.get 0 rfl).q3;obtain ⟨w2,w1⟩:=wrap2 (xl - 1) (by omega);clear SP;by_cases e1:(l == xl)=true
  ·go_wp2
   (try rw [Exit.noGoto_ret])
   go_ret2;exact ⟨by rw [HE.out];simp [zGH,show l=xl by simpa using e1],HQ.out⟩
  ·have e1':(l == xl)=false:=by simpa using e1
   clear e1;by_cases e2:(l == xl - 1)=true
   ·go_wp2
    (try rw [Exit.noGoto_ret])
    go_ret2;exact ⟨by rw [HE.out];simp [zGH,show ¬ l=xl by simpa using e1',show l=xl - 1 by simpa using e2];try omega,HQ.out⟩
   ·have e2':(l == xl - 1)=false:=by simpa using e2
    clear e2;go_wp2
    (try rw [Exit.noGoto_ret])
    go_ret2;exact ⟨by rw [HE.out];simp [zGH,show ¬ l=xl by simpa using e1',show ¬ l=xl - 1 by simpa using e2'],HQ.out⟩
 obtain ⟨k,rfl⟩ : ∃ k:Nat,xh=k:=⟨xh.toNat,by omega⟩;have hk:k < b.hs.length:=by omega
 have HRB:=zE (fun i=>rem_bd (S:=S) HV.out.1 hk HV.out.2.2.1 i);have hkc:k < C.length:=by rw [HV.out.2.2.1.len];exact hk
 have hck:C.getD k 0=C[k]:=by rw [List.getD_eq_getElem?_getD,List.getElem?_eq_getElem hkc];rfl
 obtain ⟨bc,oc,rfl,c0,_⟩:=(zY S0.now.1).2 k hkc;have H0:=rem_zero (b:=b) (S:=S) (k:=k) (c0:=C.getD k 0) (by have h1:=HV.out.2.2.1.has k hk;have h2:=zGO HV.out.1 hk;omega);rw [<- hck,<- H0,Nat.mul_one] at c0;have SP:=zE S0;clear S0 H0 hck;have X1:=zE (HXX.out k rfl);have X2:=zE (fun i hi h=>HST.out k i rfl hi h);have X3:=zE (fun i hi h=>HSK.out k i rfl hi h);clear HXX HST HSK;generalize C.getD k 0=c0v at *;unfold zK at c0;obtain ⟨l1,⟨p0,p1⟩,-⟩:=(SP.out.get 1 rfl).q2;obtain ⟨l2,⟨x0,x1,x2⟩,-⟩:=(SP.out.get 0 rfl).q3;obtain ⟨l0,⟨q0,q1,q2,q3,q4,q5⟩,-⟩:=(SP.out.get 2 rfl).q6;have hkc2:(k:Int) < C.length:=by omega
 go_wp2;clear c0 l0 l1 l2 p0 p1 q0 q1 q2 q3 q4 q5 x0 x1 x2;generalize hg3:w3.heap.size=g3 at *;generalize w3.alloc _=w4 at *;go_loopw [14,15,43] (fun o r q wr=>∃ i:Nat,q = .int .i64 i/\i<=b.ms.length/\o = .int .i64 (oldTo b S k (c0v) m d i)/\r = .int .i64 (remTo b S k (c0v) i)/\Hid (Below w4.heap.size w4 wr)) (fun _ _ q _=>b.ms.length - (intOf q).toNat)
 case atStart=>exact ⟨0,rfl,by omega,rfl,rfl,br_⟩
 case round =>
  obtain ⟨i,rfl,hi,rfl,rfl,HB⟩:=hrel;have SP:=SP.out.ext HB.out;by_cases hlt:i < b.ms.length
  case neg =>
   obtain rfl:i=b.ms.length:=by omega
   rw [<- X1.out];have HQ:=zE SP.held.below;have ho:=HO.out;obtain ⟨w6,w5⟩:=wrap2 (xc - oo) (by omega);obtain ⟨l1,⟨p0,p1⟩,-⟩:=(SP.get 1 rfl).q2;obtain ⟨l2,⟨x0,x1,x2⟩,-⟩:=(SP.get 0 rfl).q3;obtain ⟨w2,w1⟩:=wrap2 (xl - 1) (by omega);clear SP;by_cases e1:(l == xl)=true
   ·go_wp2
    (try rw [Exit.noGoto_ret])
    go_ret2;exact ⟨by rw [HE.out];simp [zGH,show l=xl by simpa using e1],HQ.out⟩
   ·have e1':(l == xl)=false:=by simpa using e1
    clear e1;by_cases e2:(l == xl - 1)=true
    ·go_wp2
     (try rw [Exit.noGoto_ret])
     go_ret2;exact ⟨by rw [HE.out];simp [zGH,show ¬ l=xl by simpa using e1',show l=xl - 1 by simpa using e2];try omega,HQ.out⟩
    ·have e2':(l == xl - 1)=false:=by simpa using e2
     clear e2;go_wp2
     (try rw [Exit.noGoto_ret])
     go_ret2;exact ⟨by rw [HE.out];simp [zGH,show ¬ l=xl by simpa using e1',show ¬ l=xl - 1 by simpa using e2'],HQ.out⟩
  case pos =>
   obtain ⟨bm,om,rfl,d0,_⟩:=(zY SP.now.2.1.at_.ms).2 i hlt;have hmi:=List.getElem_mem hlt;have hm9:=valid_ms HV.out.1 hmi;have Y1:=zE (fun h=>X2.out i hlt h);have Y2:=zE (fun h=>X3.out i hlt h);generalize b.ms[i]=m2 at *;rw [Nat.mul_one] at d0;unfold zK at d0;obtain ⟨l1,⟨p0,p1⟩,-⟩:=(SP.get 1 rfl).q2;obtain ⟨l2,⟨x0,x1,x2⟩,-⟩:=(SP.get 0 rfl).q3;obtain ⟨l0,⟨q0,q1,q2,q3,q4,q5⟩,-⟩:=(SP.get 2 rfl).q6;go_wp2_with fail;clear d0 p0 p1 l1 x0 x1 x2 l2 q0 q1 q2 q3 q4 q5 l0;refine (standOf_law _ _ _ _ _ _ _ b S m2 d SP.now.2.1 SP.now.2.2 HV.out.1 HV.out.2.1 hm9 HV.out.2.2.2.2).mono ?_;rintro e w5 ⟨rfl,h⟩;have hyc:=zJP HV.out.1 S m2 d;have hrb:=HRB.out i;generalize zZ b S m2 d=Y at *;obtain ⟨yc,yl,yh⟩:=Y;simp only at *;replace SP:=(SP.ext h).new #[.int .i64 yc,.int .i64 yl,.int .i64 yh] 61;have HB2:=zE (zA HB.out (zA h (zB w5 (.cells #[.int .i64 yc,.int .i64 yl,.int .i64 yh] 61))));obtain ⟨l1,⟨p0,p1,p2⟩,-⟩:=(SP.get 0 rfl).q3;obtain ⟨l2,⟨x0,x1,x2⟩,-⟩:=(SP.get 1 rfl).q3;clear SP HB h;by_cases e1:(yh != k)=true
   ·have Y3:=zE (Y2.out (by simpa using e1));clear Y1 Y2;go_wp2;exact ⟨⟨i+1,by go_num,by omega,by rw [Y3.out.2],by rw [Y3.out.1],HB2⟩,by simp [intOf];omega⟩
   ·have e1':(yh != k)=false:=by simpa using e1
    have Y3:=zE (Y1.out (by simpa using e1'));clear Y1 Y2 e1;generalize remTo b S k c0v i=r at *;obtain ⟨w2,w1⟩:=wrap2 (r - min r yc) (by omega);by_cases e2:(m2 == m)=true
    ·rw [if_pos (show m2=m by simpa using e2)] at Y3;go_wp2;exact ⟨⟨i+1,by go_num,by omega,by rw [Y3.out.2],by rw [Y3.out.1],HB2⟩,by simp [intOf];omega⟩
    ·have e2':(m2 == m)=false:=by simpa using e2
     rw [if_neg (show ¬ m2=m by simpa using e2')] at Y3;clear e2;go_wp2;exact ⟨⟨i+1,by go_num,by omega,by rw [Y3.out.2],by rw [Y3.out.1],HB2⟩,by simp [intOf];omega⟩
theorem holds_law (w:World) (vr vn vm vh vs vz vc:Value) (b:Built) (S C:List Int) (r:Report) (hA:BuiltArg w vr vn vm vh vs b) (hz:Sl zAM 1 w vz S) (hc:Sl zAM 1 w vc C) (hv:zF b=0) (hT:IsT (zBO b.ns.notes) S) (hC:CntAt b C) (hm:r.m∈b.ms) (hd:r.d∈nums b.ns.reg) (hk:In r.k 1 3) :
  Calls prog 14 #[.agg #[vr,vn,.int .i64 b.of,vm,vh,vs],vz,vc,.agg #[.int .i64 r.num,.int .i64 r.m,.int .i64 r.d,.int .i64 r.l,.int .u8 r.k]] w fun e w'=>e = .returned (.tuple #[.bool (decide (HoldsB b S C r)),.bool true])/\Below w.heap.size w w':=by
 obtain ⟨az,cz,rfl,_⟩:=zD hz;obtain ⟨ac,cc,rfl,_⟩:=zD hc;have S0:=((Sta.of (((Ever.and (p:=fun w=>Sl zAM 1 w (.slice az S.length cz) S) (fun _ k=>zJ zN k hz) (fun _ k=>hA.ext k))).and (fun _ k=>zJ zN k hc))).new #[vr,vn,.int .i64 b.of,vm,vh,vs] 32).new #[.int .i64 r.num,.int .i64 r.m,.int .i64 r.d,.int .i64 r.l,.int .u8 r.k] 49;rw [World.size_alloc] at S0;have HV:=zE (And.intro hv (And.intro hT (And.intro hC (And.intro hm hd))));have hm9:=valid_ms hv hm;have HD:Hid (HoldsB b S C r↔HoldsC (zZ b S r.m r.d) r.k (heldB b S C r.m r.d r.l)):=Iff.rfl;clear hA hz hc hv hT hC hm hd;obtain ⟨l0,⟨q0,q1,q2,q3,q4,q5⟩,-⟩:=(S0.get 1 rfl).q6;obtain ⟨l1,⟨p0,p1,p2,p3,p4⟩,-⟩:=(S0.get 0 rfl).q5;go_enter func14,ntmps14;go_wp2_with fail;clear q0 q1 q2 q3 q4 q5 l0 p0 p1 p2 p3 p4 l1;generalize hg0:w.heap.size=g0 at *;generalize (w.alloc _).alloc _=w2 at *;refine (standOf_law _ _ _ _ _ _ _ b S r.m r.d S0.now.2.1 S0.now.2.2 HV.out.1 HV.out.2.1 hm9 HV.out.2.2.2.2).mono ?_;rintro e w3 ⟨rfl,h⟩;replace S0:=(S0.ext h).new #[.int .i64 (zZ b S r.m r.d).c,.int .i64 (zZ b S r.m r.d).l,.int .i64 (zZ b S r.m r.d).h] 61;clear h;go_wp2;generalize w3.heap.size=g3 at *;generalize w3.alloc _=w4 at *;have SL:=fun xq=>S0.ext (zG w4 xq)
 have k0:=zH (show zK w4 _ 0 _ from (S0.get 2 rfl).cell 0 _ rfl);have k1:=zH (show zK w4 _ 1 _ from (S0.get 2 rfl).cell 1 _ rfl);have k2:=zH (show zK w4 _ 2 _ from (S0.get 2 rfl).cell 2 _ rfl);have k3:=zH (show zK w4 _ 3 _ from (S0.get 2 rfl).cell 3 _ rfl);have k4:=zH (show zK w4 _ 4 _ from (S0.get 2 rfl).cell 4 _ rfl);have k5:=zH (show zK w4 _ 5 _ from (S0.get 2 rfl).cell 5 _ rfl);have j1:=zH (show zK w4 _ 1 _ from (S0.get 1 rfl).cell 1 _ rfl);have j2:=zH (show zK w4 _ 2 _ from (S0.get 1 rfl).cell 2 _ rfl);have j3:=zH (show zK w4 _ 3 _ from (S0.get 1 rfl).cell 3 _ rfl);have hcall:=fun xq=>held_law (w4.later xq) vr vn vm vh vs (.slice az S.length cz) (.slice ac C.length cc) b S C r.m r.d r.l (SL xq).now.2.1 (SL xq).now.2.2 (SL xq).now.1 HV.out.1 HV.out.2.1 HV.out.2.2.1 HV.out.2.2.2.1 HV.out.2.2.2.2
 have HSL:=zE SL;clear S0 SL;refine zAR (by kernel_rfl) (by kernel_rfl) (no_implicit_lambda% ?_);repeat ((with_reducible refine wpQuiet_step (fun K hK=>?_));go_simp;first | ((with_reducible refine hK _ ?_);clear hK K) | (refine hK _ (no_implicit_lambda% ?_);clear hK K) | (apply Exists.intro;(with_reducible refine ⟨fun _=>?_,hK _ ?_⟩);(first | (go_at_call 21;exact Calls.quiet_later (zIM _ _ _)) | (go_at_call 20;exact Calls.quiet_later (hcall _)));clear hK K))
 with_reducible refine wpQuiet_nil ?_
 intro _ hw9;obtain ⟨xq,hw8⟩:=hw9;subst hw8;have SP:=HSL.out xq;have HB:=zE (show Below g0 w _ from hg0 ▸ SP.held.below);have LR:=SP.get 1 rfl;have LX:=SP.get 0 rfl;clear hcall k0 k1 k2 k3 k4 k5 j1 j2 j3 SP;generalize heldB b S C r.m r.d r.l=n at *;generalize zZ b S r.m r.d=X at *;obtain ⟨xc,xl,xh⟩:=X;have HK:=zE hk;clear hk;generalize w4.later xq=w5 at *;obtain ⟨l1,⟨p0,p1,p2,p3,p4⟩,-⟩:=LR.q5;obtain ⟨l2,⟨x0,x1,x2⟩,-⟩:=LX.q3;clear LR LX;have fin:∀ (a:Bool),(HoldsC ⟨xc,xl,xh⟩ r.k n↔a=true)->Ending.returned (.tuple #[.bool a,.bool true])=Ending.returned (.tuple #[.bool (decide (HoldsB b S C r)),.bool true]):=fun a h=>by
  have e:decide (HoldsB b S C r)=a:=by rw [Bool.eq_iff_iff,decide_eq_true_iff,HD.out,h]
  rw [e]
 have FIN:=zE fin;clear fin;have hk3:r.k=1\/r.k=2\/r.k=3:=by have:=HK.out;unfold In at this;omega
 rcases hk3 with e | e | e
 ·rw [e] at p4
  rw [e] at FIN;by_cases h:0 < n
  ·have h':n > 0:=h
   clear e;go_wp2
   (try rw [Exit.noGoto_ret])
   go_ret2;exact ⟨FIN.out true (by simp [HoldsC,h]),HB.out⟩
  ·have h':¬ (n > 0):=h
   clear e;go_wp2
   (try rw [Exit.noGoto_ret])
   go_ret2;exact ⟨FIN.out false (by simp [HoldsC,h]),HB.out⟩
 ·rw [e] at p4
  rw [e] at FIN;by_cases h:0 < n
  ·have h':n > 0:=h
   by_cases h2:(n == xc)=true
   ·clear e
    go_wp2
    (try rw [Exit.noGoto_ret])
    go_ret2;exact ⟨FIN.out true (by have h9:n=xc:=(by simpa using h2);simp only [HoldsC];simp;exact ⟨h,h9⟩),HB.out⟩
   ·have h2':(n == xc)=false:=by simpa using h2
    clear e h2;go_wp2
    (try rw [Exit.noGoto_ret])
    go_ret2;exact ⟨FIN.out false (by have h9:¬ n=xc:=(by simpa using h2');simp only [HoldsC];simp;intro _;exact h9),HB.out⟩
  ·have h':¬ (n > 0):=h
   clear e;go_wp2
   (try rw [Exit.noGoto_ret])
   go_ret2;exact ⟨FIN.out false (by simp only [HoldsC];simp;intro g;omega),HB.out⟩
 ·rw [e] at p4
  rw [e] at FIN;by_cases h:(n == 0)=true
  ·clear e
   go_wp2
   (try rw [Exit.noGoto_ret])
   go_ret2;exact ⟨FIN.out true (by have h9:n=0:=(by simpa using h);simp only [HoldsC];simp;exact h9),HB.out⟩
  ·have h':(n == 0)=false:=by simpa using h
   clear e h;go_wp2
   (try rw [Exit.noGoto_ret])
   go_ret2;exact ⟨FIN.out false (by have h9:¬ n=0:=(by simpa using h');simp only [HoldsC];simp;exact h9),HB.out⟩
def chL (L:List Int) (i:Nat) : Int:=L.getD (i % L.length) 0
theorem tmod_is {n:Int} (hn:0<=n) {k:Nat} (hk:0 < k) : n.tmod k=((n.toNat % k:Nat) : Int):=by
 obtain ⟨m,rfl⟩ : ∃ m:Nat,n=m:=⟨n.toNat,by omega⟩;rw [Int.tmod_eq_emod_of_nonneg (by omega)];simp
theorem choose_is (w:World) (v:Value) (L:List Int) (i:Nat) (hL:Sl AtU32 1 w v L) (h1:i<=1000) :
  Calls prog 11 #[v,.int .i64 i] w fun e w'=>e = .returned (.int .i64 (chL L i))/\w'=w:=by
 obtain ⟨a,c,rfl,hn⟩:=zD hL;go_enter func11,ntmps11;by_cases h:L.length=0
 ·have e:((L.length:Int) == 0)=true:=by simp [h]
  have hc:Hid (chL L i=0):=by unfold Hid chL;rw [List.length_eq_zero_iff.1 h];rfl
  go_wp2;go_ret;exact ⟨by rw [hc.out];rfl,rfl⟩
 have e:((L.length:Int) == 0)=false:=by simpa using h
 have hk:i % L.length < L.length:=Nat.mod_lt _ (Nat.pos_of_ne_zero h);have hke:(i:Int).tmod L.length=((i % L.length:Nat) : Int):=by rw [tmod_is (by omega) (Nat.pos_of_ne_zero h)];rfl
 obtain ⟨b,o,rfl,c0,hu⟩:=(zY hL).2 _ hk;have hc:Hid (chL L i=L[i % L.length]):=by unfold Hid chL;rw [List.getD_eq_getElem?_getD,List.getElem?_eq_getElem hk];rfl
 rw [Nat.mul_one] at c0;unfold zK at c0;generalize i % L.length=k at *;generalize L[k]=z at *;have hu1:=hu.1;have hu2:=hu.2;have w1:wrap64 z=z:=IntWalk.wrap64_in _ (by omega);have w3:IntKind.i64.wrap z=z:=IntWalk.i64_in _ (by omega);have hk2:(k:Int) < (L.length:Int):=by omega
 clear hL;go_wp2;go_ret;exact ⟨by rw [hc.out];rfl,rfl⟩
theorem chq_ {w:World} {v:Value} {L:List Int} (hL:Sl AtU32 1 w v L) (i:Nat) (h1:i<=1000) (xq:Later) :
  Calls prog 11 #[v,.int .i64 i] (w.later xq) fun e w'=>e = .returned (.int .i64 (chL L i))/\Below (w.later xq).heap.size (w.later xq) w' :=
 (choose_is _ v L i (zJ stays_u32 (zG w xq) hL) h1).mono fun _ _ g=>⟨g.1,by rw [g.2];exact br_⟩
theorem chL_in {w:World} {v:Value} {L:List Int} (hL:Sl AtU32 1 w v L) (i:Nat) : 0<=chL L i/\chL L i<=4294967295:=by
 unfold chL;by_cases h:L.length=0
 ·rw [List.length_eq_zero_iff.1 h];simp
 ·have hk:i % L.length < L.length:=Nat.mod_lt _ (Nat.pos_of_ne_zero h);obtain ⟨a,c,rfl,_⟩:=zD hL;obtain ⟨b,o,_,_,hu⟩:=(zY hL).2 _ hk;rw [List.getD_eq_getElem?_getD,List.getElem?_eq_getElem hk];exact hu
theorem rowInts_pick {w:World} {cs:List Value} {T:List (List Int)} (hr:zEO [3] zJC 1 w cs T) {i:Nat} (hi:i < T.length) : ∃ v,cs[i]? = some v/\OnT [3] (fun w=>Sl zAM 1 w v T[i]) w:=by
 obtain ⟨ps,rfl,hl,hk⟩:=hr;have hip:i < ps.length:=by omega
 obtain ⟨h1,h2⟩:=hk i hi hip;obtain ⟨v,e,_⟩:=h2.now;refine ⟨v,?_,fun w' k=>?_⟩
 ·have:=flatten_get (fun k h=>(hk k (by omega) h).1) i hip 0 (by omega);rw [Nat.mul_one,Nat.add_zero] at this;rw [this,e];rfl
 ·obtain ⟨v',e',hs⟩:=h2 w' k;rw [e] at e';cases e';exact hs
end
end Go.Proofs.YtipaopbmklbmnaaGreatDoor
namespace Go
section
open Go.RowKit
def lastD:List Oper->Nat->Nat->Option Nat
 | [],_,_=>none
 | o :: l,i,k=>match lastD l (i+1) k with
   | some j=>some j
   | none=>if o.dst=some k then some i else none
def readF (vs:Nat->Value) (pre:List Oper) (a0:Act) (k:Nat) : Value:=match lastD pre 0 k with
 | some j=>vs j
 | none=>a0.tmps.getD k undef
theorem puts_read (vs:Nat->Value) (k:Nat) : ∀ (l:List Oper) (i:Nat) (a:Act),k < a.tmps.size->(zAB vs l i a).tmps.getD k undef=match lastD l i k with
  | some j=>vs j
  | none=>a.tmps.getD k undef
 | [],_,_,_=>rfl
 | o :: l,i,a,h=>by
   have h1:k < (a.put o.dst (vs i)).tmps.size:=by unfold Act.put;split <;> simpa using h
   rw [zAB,puts_read vs k l (i+1) _ h1];simp only [lastD];cases lastD l (i+1) k with
   | some j=>rfl
   | none =>
     simp only;by_cases e:o.dst=some k
     ·rw [if_pos e,e];simp [Act.put,Array.getD_eq_getD_getElem?,h]
     ·rw [if_neg e]
      cases hd:o.dst with
      | none=>rfl
      | some d =>
        have hne:d≠k:=fun g=>e (by rw [hd,g])
        simp [Act.put,Array.getD_eq_getD_getElem?,hne]
variable {P:Program} {pops:Array Oper} {pre:List Oper} {a0:Act} {w0:World} {Q':List (Value->World->Prop)->Prop} {o:Oper} {l:List Oper} {Hs:List (Value->World->Prop)}
theorem fs_ (N:Nat) (hN:a0.tmps.size=N) (hg:o.guard=none) (R:Value->World->Prop) (hR:zED R)
  (h:∀ (ρ:Operand->Value) vs x,(∀ k,k < N->ρ (.tmp k)=readF vs pre a0 k)->(∀ v,ρ (.const v)=v)->(∀ f,ρ (.func f) = .func (.func f) #[] #[])->zW Hs vs (w0.later x) o.waitsOn->Oper.growUpon P (w0.later x) R ((execOp ρ o).run P (w0.later x)))
  (k:zFC P pops pre a0 w0 Q' l (Hs++[R])) : zFC P pops pre a0 w0 Q' (o :: l) Hs :=
 zL R hR (fun vs x hd=>by
  unfold zAE;have e:Region.wanted o (yielded pops (zAB vs pre 0 a0).tmps)=true:=by unfold Region.wanted;rw [hg]
  rw [if_pos e];exact h _ vs x (fun k hk=>puts_read vs k pre 0 a0 (by omega)) (fun v=>rfl) (fun f=>rfl) hd) k
theorem fx_ {u:Value} (N:Nat) (hN:a0.tmps.size=N) (hg:o.guard=none)
  (h:∀ (ρ:Operand->Value) vs x,(∀ k,k < N->ρ (.tmp k)=readF vs pre a0 k)->(∀ v,ρ (.const v)=v)->(∀ f,ρ (.func f) = .func (.func f) #[] #[])->zW Hs vs (w0.later x) o.waitsOn->Oper.growUpon P (w0.later x) (fun v _=>v=u) ((execOp ρ o).run P (w0.later x)))
  (k:zFC P pops pre a0 w0 Q' l (Hs++[fun v _=>v=u])) : zFC P pops pre a0 w0 Q' (o :: l) Hs :=
 fs_ N hN hg _ (fun _ _ _ _ h=>h) h k
end
end Go
namespace Go.Proofs.YtipaopbmklbmnaaGreatDoor
section
open Tryz
open Go.RowKit
attribute [local go_sem] zAE
theorem sameInts_law (w:World) (v v':Value) (xs ys:List Int) (hx:Sl zAM 1 w v xs) (hy:Sl zAM 1 w v' ys) :
  Calls prog 16 #[v,v'] w fun e w'=>e = .returned (.bool (decide (xs=ys)))/\Below w.heap.size w w':=by
 obtain ⟨a,cap,rfl,hm⟩:=zD hx;obtain ⟨a',cap',rfl,hm'⟩:=zD hy;go_enter func16,ntmps16;by_cases hl:xs.length=ys.length
 case neg =>
  have hd:decide (xs=ys)=false:=decide_eq_false (fun e=>hl (by rw [e]));have e:((xs.length:Int) == (ys.length:Int))=false:=by rw [beq_eq_false_iff_ne];omega
  have e3:((xs.length:Int) != (ys.length:Int))=true:=by rw [bne_iff_ne];omega
  have e2:(xs.length == ys.length)=false:=by simpa using hl
  go_wp2;go_ret;exact ⟨by rw [hd];rfl,br_⟩
 rw [<- hl];have HL:=zE hl;clear hl;go_wp2;go_loopw [5] (fun i wr=>∃ k:Nat,i = .int .i64 k/\k<=xs.length/\Below w.heap.size w wr/\Hid (xs.take k=ys.take k)) (fun i _=>xs.length - (intOf i).toNat)
 case atStart=>exact ⟨0,rfl,by omega,br_,rfl⟩
 case round =>
  obtain ⟨k,rfl,hk,hb,hT⟩:=hrel;by_cases hlt:k < xs.length
  ·have hky:k < ys.length:=HL.out ▸ hlt
   have X:=(zY (zJ zN hb hx)).2 k hlt;have Y:=(zY (zJ zN hb hy)).2 k hky;obtain ⟨b,off,rfl,hc,_⟩:=X;obtain ⟨b',off',rfl,hc',_⟩:=Y;unfold zK at hc hc';rw [Nat.mul_one] at hc hc';have hT2:Hid (xs[k]=ys[k]'hky->xs.take (k+1)=ys.take (k+1)):=fun e=>by
    rw [List.take_succ_eq_append_getElem hlt,List.take_succ_eq_append_getElem hky,e,hT.out]
   have hF:Hid (xs[k]≠ys[k]'hky->decide (xs=ys)=false):=fun e=>decide_eq_false (fun e2=>e (by subst e2;rfl))
   generalize xs[k]=x at *;generalize ys[k]'hky=y at *;clear hx hy hky;by_cases hxy:x=y
   ·subst hxy
    have hT3:=zE (hT2.out rfl);have e:(x == x)=true:=by simp
    have e2:(x != x)=false:=by simp
    go_wp2;go_quiet (fail)
    go_wp2;go_roundw
    ·exact ⟨k+1,by go_num,by omega,zA hb (zAJ _ _),hT3⟩
    ·simp [intOf];omega
   ·have hF2:=zE (hF.out hxy)
    have e:(x == y)=false:=by simpa using hxy
    have e2:(x != y)=true:=by simpa using hxy
    go_wp2;go_quiet (fail)
    go_wp2;go_ret;exact ⟨by rw [hF2.out];rfl,zA hb (zAJ _ _)⟩
  ·obtain rfl:k=xs.length:=by omega
   have he:xs=ys:=by have:=hT.out;rwa [List.take_length,HL.out,List.take_length] at this
   have hd:decide (xs=ys)=true:=decide_eq_true he;go_wp2;go_ret;exact ⟨by rw [hd];rfl,hb⟩
end
section
open Tryz
open Go.RowKit
theorem ends_cnt {b:Built} {S:List Int} (hL:zCV b S) (high:Bool) : CntAt b (endL b S high):=by
 refine ⟨by unfold endL;simp,fun k hk=>?_⟩;have h1:=endL_at hL high k hk;have h2:=cnt_hull hk hL;omega
theorem endL_len (b:Built) (S:List Int) (high:Bool) : (endL b S high).length=b.hs.length:=by unfold endL;simp
noncomputable def seenL (b:Built) (m d l:Int) (i:Nat) : List Int:=((zAQ b).take i).flatMap fun S=>zOP b S m d l
theorem seen_succ {b:Built} {m d l:Int} {i:Nat} (hi:i < (zAQ b).length) :
  seenL b m d l (i+1)=seenL b m d l i++[heldB b (zAQ b)[i] (endL b (zAQ b)[i] false) m d l,heldB b (zAQ b)[i] (endL b (zAQ b)[i] true) m d l]:=by
 unfold seenL;rw [List.take_succ_eq_append_getElem hi,List.flatMap_append,List.flatMap_singleton,ends_two]
theorem seen_all {b:Built} {m d l:Int} (h:zAQ b≠[]) : (zAU b (zAQ b) m d l).lo∈seenL b m d l (zAQ b).length/\(zAU b (zAQ b) m d l).hi∈seenL b m d l (zAQ b).length:=by
 unfold seenL zAU;rw [List.take_length];have hne:(zAQ b).flatMap (fun S=>zOP b S m d l)≠[]:=by
  cases hl:zAQ b with
  | nil=>exact absurd hl h
  | cons S A=>rw [List.flatMap_cons,ends_two];simp
 exact ⟨(zGS hne).1,(zGS hne).2.1⟩
theorem end_held {b:Built} (hv:zF b=0) {S:List Int} (hS:S∈zAQ b) (high:Bool) (m d l:Int) :
  (zAU b (zAQ b) m d l).lo<=heldB b S (endL b S high) m d l/\heldB b S (endL b S high) m d l<=(zAU b (zAQ b) m d l).hi:=by
 have hL:=(((zFQ hv).2 S).1 hS).2;exact true_pieces hS (ends_cnt hL high) (left_true hv hL (endL_at hL high)) m d l
theorem endL_take {b:Built} {S:List Int} {high:Bool} {k:Nat} (hk:k < b.hs.length) : (endL b S high).take (k+1)=(endL b S high).take k++[if high then (zLY b S k).hi else (zLY b S k).lo]:=by
 have hk2:k < (endL b S high).length:=by rw [endL_len];exact hk
 rw [List.take_succ_eq_append_getElem hk2];have:=endL_get b S high hk;rw [List.getD_eq_getElem?_getD,List.getElem?_eq_getElem hk2] at this;simp only [Option.getD_some] at this;rw [this]
theorem left_fst {b:Built} (hv:zF b=0) {i:Nat} (h0:0 < i) (hi:i < (zAQ b).length) : zFV ((zAQ b)[i - 1]'(by omega)) (zAQ b)[i]=true :=
 List.pairwise_iff_getElem.1 (zFQ hv).1 (i - 1) i (by omega) hi (by omega)
theorem hold_iff {b:Built} (hv:zF b=0) {S C:List Int} (hC:CntAt b C) : (∀ r∈b.rs,HoldsB b S C r)↔(zCV b S/\∀ k,k < b.hs.length->(zLY b S k).lo<=C.getD k 0/\C.getD k 0<=(zLY b S k).hi) :=
 ⟨fun h=>⟨true_left hC h,fun _ hk=>true_counts hC h hk⟩,fun h=>left_true hv h.1 h.2⟩
end
end Go.Proofs.YtipaopbmklbmnaaGreatDoor
