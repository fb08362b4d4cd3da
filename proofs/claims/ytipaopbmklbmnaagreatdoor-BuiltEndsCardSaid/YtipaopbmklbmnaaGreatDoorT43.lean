/- Lemmas. -/
import Derived.Test.YtipaopbmklbmnaaGreatDoorT42
set_option linter.all false
set_option maxRecDepth 100000
set_option maxHeartbeats 0
namespace Go.Proofs.YtipaopbmklbmnaaGreatDoor
section
open Tryz
open Go.RowKit
attribute [local go_sem] zAE
theorem equal_ints (w:World) (va vb:Value) (S T:List Int) (hS:Sl zAM 1 w va S) (hT:Sl zAM 1 w vb T) :
  Calls prog 58 #[va,vb] w (zAK (S=T) w):=by
 obtain ⟨a,capa,rfl,hm⟩:=zD hS;obtain ⟨c,capc,rfl,hm'⟩:=zD hT;have HS:=zE hS;have HT:=zE hT;clear hS hT;by_cases hl:S.length=T.length
 case neg =>
  have HL:Hid (S≠T):=fun e=>hl (by rw [e])
  have hl':(S.length == T.length)=false:=by simpa using hl
  go_enter func58,ntmps58;go_wp2;go_ret;exact zAK.f HL.out (br_)
 case pos =>
  have HL:=zE hl;rw [<- hl];clear hl;go_enter func58,ntmps58;go_wp2;go_loopw [13] (fun i wr=>∃ k:Nat,i = .int .i64 k/\k<=S.length/\Below w.heap.size w wr/\Hid (∀ j,j < k->∀ h1:j < S.length,∀ h2:j < T.length,S[j]=T[j])) (fun i _=>S.length - (intOf i).toNat)
  case atStart=>exact ⟨0,rfl,by omega,br_,zE (fun j hj=>absurd hj (by omega))⟩
  case round =>
   obtain ⟨k,rfl,hk,hb,HE⟩:=hrel;by_cases hlt:k < S.length
   case neg =>
    obtain rfl:k=S.length:=by omega
    go_wp2;go_ret;exact zAK.t (List.ext_getElem HL.out (fun j h1 h2=>HE.out j h1 h1 h2)) hb
   case pos =>
    have h2:k < T.length:=by have:=HL.out;omega
    obtain ⟨b1,o1,rfl,c1,_⟩:=(zY (zJ zN hb HS.out)).2 k hlt;obtain ⟨b2,o2,rfl,c2,_⟩:=(zY (zJ zN hb HT.out)).2 k h2;have HN:Hid (S[k]≠T[k]->S≠T):=fun h e=>h (by subst e;rfl)
    have HY:Hid (S[k]=T[k]->∀ j,j < k+1->∀ h1:j < S.length,∀ h2:j < T.length,S[j]=T[j]):=fun h j hj h1 h2=>by
     by_cases e:j=k
     ·subst e;exact h
     ·exact HE.out j (by omega) h1 h2
    unfold zK at c1 c2;rw [Nat.mul_one] at c1 c2;clear HE;generalize S[k]=x at *;generalize T[k]=y at *;clear h2;by_cases hxy:x=y
    ·have HE:=zE (HY.out hxy)
     subst hxy;go_wp2;go_quiet (fail)
     go_wp2;go_roundw
     ·exact ⟨k+1,by go_num,by omega,zA hb (zAJ _ _),HE⟩
     ·simp [intOf];omega
    ·have HE:=zE (HN.out hxy)
     have hxy':(x != y)=true:=by simpa using hxy
     have hxy2:(x == y)=false:=by simpa using hxy
     clear hxy;go_wp2;go_quiet (fail)
     go_wp2;go_ret;exact zAK.f HE.out (zA hb (zAJ _ _))
theorem notes_span {R:List Issue} {N:List Note} (h:zDL R N) : ∀ x∈N,I64 x.fr/\0<=x.to/\x.to<=999:=fun x hx=>by
 obtain ⟨k,hk,rfl⟩:=List.getElem_of_mem hx;obtain ⟨_,_,_,h1,h2,_⟩:=(h.2.1 k hk).1;unfold In at h1;unfold I64;omega
theorem clashOf_note (w:World) (vr vn vs:Value) (R:List Issue) (N:List Note) (S:List Int) (h:NoteArg w vr vn R N) (hk:zHN w) (hs:Sl zAM 1 w vs S) (hv:zP R N=0) :
  Calls prog 56 #[.agg #[vr,vn],vs] w fun e w'=>(∃ u,e = .returned (.tuple #[u,.int .i64 (zDA N S)]))/\Below w.heap.size w w':=by
 have hb1:=zB w (.cells #[vr,vn] 27);have LB:=Lay.new w 27 #[vr,vn];have HA:=zE (h.ext hb1);have HK:=zE (hk.ext hb1);have HS:=zE (zJ zN hb1 hs);obtain ⟨ar,cr,rfl,_⟩:=zD h.reg.sl;obtain ⟨an,cn,rfl,_⟩:=zD h.sl;obtain ⟨az,capz,rfl,_⟩:=zD hs;have c0:=LB.cell 0 _ rfl;have c1:=LB.cell 1 _ rfl;have hok:=(zBJ hv).2;have HT:=zE (notes_span hok);have h12:=hok.1;have HC:Hid (zHO R N S 1=zDA N S):=by
  unfold Hid zHO zDA;rw [if_pos hv];by_cases e:IsT (zBO N) S
  ·rw [if_pos e,if_pos e,if_pos (by unfold In;omega)]
  ·rw [if_neg e,if_neg e]
 clear h hk LB hs hok;go_enter func56,ntmps56;go_wp2_with fail;generalize w.alloc _=w1 at *;refine (zPK _ _ _ _ R N S 1 HA.out HK.out HS.out (by unfold I64;omega)).mono ?_;rintro e w2 ⟨⟨p,rfl,hp⟩,hb2⟩;rw [HC.out] at hp ⊢;have HP:=zE hp;have HA2:=zE (HA.out.ext hb2);have HS2:=zE (zJ zN hb2 HS.out);have HB2:=zE (zA hb1 hb2);clear c0 c1 hp hb2 hb1;by_cases ht:zDA N S=0
 ·obtain ⟨pf,rfl,hF⟩:=HP.out ht;have HF:=zE hF;have H0:=zE ht;rw [ht];clear hF ht;go_wp2_with fail;refine (clash_note _ pf _ _ _ R N S HF.out HA2.out.sl HS2.out h12 HT.out).mono ?_;rintro e w3 ⟨⟨u,rfl⟩,hb3⟩;have HB3:=zE (zA HB2.out hb3);clear hb3;go_wp2;go_ret2;exact ⟨⟨u,by rw [H0.out];rfl⟩,HB3.out⟩
 ·clear HP
  obtain ⟨t,e⟩ : ∃ t,zDA N S=t:=⟨_,rfl⟩;rw [e] at ht ⊢;have ht':(t != 0)=true:=by simpa using ht
  have H0:=zE e;clear ht e;go_wp2;go_ret2;exact ⟨⟨_,by rw [H0.out];rfl⟩,HB2.out⟩
end
end Go.Proofs.YtipaopbmklbmnaaGreatDoor
