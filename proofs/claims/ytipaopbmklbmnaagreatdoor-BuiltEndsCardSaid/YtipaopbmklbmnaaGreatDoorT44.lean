/- Lemmas. -/
import Derived.Test.YtipaopbmklbmnaaGreatDoorT43
set_option linter.all false
set_option maxRecDepth 100000
set_option maxHeartbeats 0
namespace Go.Proofs.YtipaopbmklbmnaaGreatDoor
section
open Tryz
open Go.RowKit Go.Shelf
attribute [local go_sem] zAE
theorem counts_built (w:World) (vr vn vm vh vs vz:Value) (b:Built) (S:List Int) (h:Int) (hA:BuiltArg w vr vn vm vh vs b) (hK:KindsAt w) (hS:Sl zAM 1 w vz S) (hh:I64 h) :
  Calls prog 17 #[.agg #[vr,vn,.int .i64 b.of,vm,vh,vs],vz,.int .i64 h] w fun e w'=>e = .returned (.tuple #[.agg #[.int .i64 (zQQ b S h).lo,.int .i64 (zQQ b S h).hi],.int .i64 (zJY b S h)])/\Below w.heap.size w w':=by
 obtain ⟨ar,cr,rfl,_⟩:=zD hA.at_.reg;obtain ⟨an,cn,rfl,_⟩:=zD hA.at_.notes;obtain ⟨am,cm,rfl,_⟩:=zD hA.at_.ms;obtain ⟨ah,ch,rfl,hhm⟩:=zD hA.at_.hs;obtain ⟨as',cs',rfl,_⟩:=zD hA.at_.rs;obtain ⟨az,cz,rfl,_⟩:=zD hS;have hb1:=zB w (.cells #[.slice ar b.ns.reg.length cr,.slice an b.ns.notes.length cn,.int .i64 b.of,.slice am b.ms.length cm,.slice ah b.hs.length ch,.slice as' b.rs.length cs'] 32);have hbox:=Lay.new w 32 #[.slice ar b.ns.reg.length cr,.slice an b.ns.notes.length cn,.int .i64 b.of,.slice am b.ms.length cm,.slice ah b.hs.length ch,.slice as' b.rs.length cs'];have hl1:(w.alloc (.cells #[.slice ar b.ns.reg.length cr,.slice an b.ns.notes.length cn,.int .i64 b.of,.slice am b.ms.length cm,.slice ah b.hs.length ch,.slice as' b.rs.length cs'] 32)).heap.size=w.heap.size+1:=World.size_alloc _ _;generalize hw0:w.alloc (.cells #[.slice ar b.ns.reg.length cr,.slice an b.ns.notes.length cn,.int .i64 b.of,.slice am b.ms.length cm,.slice ah b.hs.length ch,.slice as' b.rs.length cs'] 32)=w0 at hb1 hbox hl1;have hb2:=zB w0 (.cells #[.int .i64 0,.int .i64 0] 40);have hres:=Lay.new w0 40 #[.int .i64 0,.int .i64 0];rw [hl1] at hres;have HBW:=zE (zA hb1 hb2);have HBOX:=zE (hbox.ext hb2);have HRES:=zE hres;have HA:=zE (hA.ext HBW.out);have HK:=zE (hK.ext HBW.out);have HS:=zE (zJ zN HBW.out hS);clear hb1 hb2 hbox hres hA hK hS;subst hw0;have k0:=HBOX.out.cell 0 _ rfl;have k1:=HBOX.out.cell 1 _ rfl;have k2:=HBOX.out.cell 2 _ rfl;have k3:=HBOX.out.cell 3 _ rfl;have k4:=HBOX.out.cell 4 _ rfl;have k5:=HBOX.out.cell 5 _ rfl;go_enter func17,ntmps17;go_wp2_with fail;clear k0 k1 k2 k3 k4 k5 hl1;generalize (w.alloc _).alloc _=w1 at *;refine (zOR w1 _ _ _ _ _ b HA.out HK.out).mono ?_;rintro e w2 ⟨hb2,v,rfl,⟨a,n,c,rfl⟩,hF⟩;have HF:=zE hF;have HBW:=zE (zA HBW.out hb2);have HBOX:=zE (HBOX.out.ext hb2);have HRES:=zE (HRES.out.ext hb2);have HA:=zE (HA.out.ext hb2);have HS:=zE (zJ zN hb2 HS.out);clear hb2 hF;by_cases hv:zF b=0
 case neg =>
  have hv':(zF b != 0)=true:=by simpa using hv
  have HT:=zE (tell_bad (S:=S) (h:=h) hv);have z0:=HRES.out.cell 0 _ rfl;have z1:=HRES.out.cell 1 _ rfl;have zf0:=HRES.out.frozen 0;have zf1:=HRES.out.frozen 1;have zl:=HRES.out.lt;clear hv;go_wp2;refine bodyPost_ret (v:=.tuple #[.agg #[.int .i64 0,.int .i64 0],.int .i64 (zF b)]) (by simp [results,results17,go_sem,z0,z1,zl]) rfl ?_;exact ⟨by rw [HT.out.1,HT.out.2],zI (by omega) (zI (by omega) HBW.out)⟩
 case pos =>
  obtain ⟨n1,fs,hFi,h32⟩:=HF.out hv;have hl:=zMP hFi.row;obtain ⟨a',c',he,_⟩:=zD hl;cases he;have HL:=zE hl;have HFI:=zE hFi;have HV:=zE hv;have HA2:=HA;rw [hv];clear HF hl hFi hv;have k0:=HBOX.out.cell 0 _ rfl;have k1:=HBOX.out.cell 1 _ rfl;go_wp2_with fail;clear k0 k1;refine (clashOf_note w2 _ _ _ b.ns.reg b.ns.notes S HA.out.notes HA.out.looks HS.out (zS HV.out).1).mono ?_;rintro e w3 ⟨⟨u,rfl⟩,hb2⟩;have HB23:=zE hb2;have HBW:=zE (zA HBW.out hb2);have HBOX:=zE (HBOX.out.ext hb2);have HRES:=zE (HRES.out.ext hb2);have HA:=zE (HA.out.ext hb2);have HS:=zE (zJ zN hb2 HS.out);clear hb2;by_cases hT:IsT (zBO b.ns.notes) S
  case neg =>
   have ht:zDA b.ns.notes S=31:=by unfold zDA;rw [if_neg hT]
   have HT:=zE (tell_no (h:=h) HV.out hT);rw [ht];have z0:=HRES.out.cell 0 _ rfl;have z1:=HRES.out.cell 1 _ rfl;have zf0:=HRES.out.frozen 0;have zf1:=HRES.out.frozen 1;have zl:=HRES.out.lt;clear hT ht;go_wp2;refine bodyPost_ret (v:=.tuple #[.agg #[.int .i64 0,.int .i64 0],.int .i64 31]) (by simp [results,results17,go_sem,z0,z1,zl]) rfl ?_;exact ⟨by rw [HT.out.1,HT.out.2],zI (by omega) (zI (by omega) HBW.out)⟩
  case pos =>
   have ht:zDA b.ns.notes S=0:=by unfold zDA;rw [if_pos hT]
   have HT:=zE hT;rw [ht];clear hT ht;have k4:=HBOX.out.cell 4 _ rfl;have hw1:IntKind.i64.wrap ((b.hs.length:Int) - 1)=(b.hs.length:Int) - 1:=IntWalk.i64_in _ (by omega);have hw2:wrap64 ((b.hs.length:Int) - 1)=(b.hs.length:Int) - 1:=IntWalk.wrap64_in _ (by omega);go_wp2_with fail;clear k4 hw1 hw2;refine (zML _ 0 ((b.hs.length:Int) - 1) h _ ⟨_,rfl,zR _ _ _ 0 _ rfl⟩ hh).mono ?_;rintro e w4 ⟨rfl,hb2⟩;have hb2:=zA (zB _ _) hb2;have HB24:=zE (zA HB23.out hb2);have HBW:=zE (zA HBW.out hb2);have HBOX:=zE (HBOX.out.ext hb2);have HRES:=zE (HRES.out.ext hb2);have HA:=zE (HA.out.ext hb2);have HS:=zE (zJ zN hb2 HS.out);clear hb2 HB23;by_cases hi:In h 0 ((b.hs.length:Int) - 1)
   case neg =>have ht:inB h 0 ((b.hs.length:Int) - 1)=false:=zGZ hi;have HT:=zE (tell_arg HV.out HT.out hi);rw [ht];have z0:=HRES.out.cell 0 _ rfl;have z1:=HRES.out.cell 1 _ rfl;have zf0:=HRES.out.frozen 0;have zf1:=HRES.out.frozen 1;have zl:=HRES.out.lt;clear hi ht;go_wp2;refine bodyPost_ret (v:=.tuple #[.agg #[.int .i64 0,.int .i64 0],.int .i64 2]) (by simp [results,results17,go_sem,z0,z1,zl]) rfl ?_;exact ⟨by rw [HT.out.1,HT.out.2],zI (by omega) (zI (by omega) HBW.out)⟩
   case pos =>
    have ht:inB h 0 ((b.hs.length:Int) - 1)=true:=zGY hi;obtain ⟨kk,rfl⟩ : ∃ kk:Nat,h=kk:=⟨h.toNat,by unfold In at hi;omega⟩;have hkk:kk < b.hs.length:=by unfold In at hi;omega
    have HI:=zE hi;have HLE:=zE (zFQ HV.out);rw [ht];clear hi ht;generalize zAQ b=A at *;go_wp2;go_loopw [45] (fun q wr=>∃ k:Nat,q = .int .i64 k/\k<=fs.length/\Hid (Below w4.heap.size w4 wr)/\Hid (∀ j,j < k->∀ hj:j < A.length,A[j]≠S)) (fun q _=>fs.length - (intOf q).toNat)
    case atStart=>exact ⟨0,rfl,by omega,zE (br_),zE (fun j hj=>absurd hj (by omega))⟩
    case round =>
     obtain ⟨k,rfl,hk,HB,HN⟩:=hrel;by_cases hlt:k < fs.length
     case neg =>
      obtain rfl:k=fs.length:=by omega
      have hl:¬ zCV b S:=fun h=>by
       obtain ⟨j,hj,e⟩:=List.getElem_of_mem ((HLE.out.2 S).2 ⟨HT.out,h⟩);exact HN.out j (by rw [HFI.out.len];exact hj) hj e
      have HTT:=zE (tell_out HV.out HT.out HI.out hl);have hb2:=HB.out;have HBW:=zE (zA HBW.out hb2);have HBOX:=zE (HBOX.out.ext hb2);have HRES:=zE (HRES.out.ext hb2);have HA:=zE (HA.out.ext hb2);have HS:=zE (zJ zN hb2 HS.out);have z0:=HRES.out.cell 0 _ rfl;have z1:=HRES.out.cell 1 _ rfl;have zf0:=HRES.out.frozen 0;have zf1:=HRES.out.frozen 1;have zl:=HRES.out.lt;clear hb2 hl;go_wp2;refine bodyPost_ret (v:=.tuple #[.agg #[.int .i64 0,.int .i64 0],.int .i64 8]) (by simp [results,results17,go_sem,z0,z1,zl]) rfl ?_;exact ⟨by rw [HTT.out.1,HTT.out.2],zI (by omega) (zI (by omega) HBW.out)⟩
     case pos =>
      have hkA:k < A.length:=by have:=HFI.out.len;omega
      have hB2r:=zA HB24.out HB.out;obtain ⟨bf,of',rfl,c0,c1⟩:=(zY (zJ zNW hB2r HL.out)).2 k hlt;obtain ⟨vz,L,hfo,hsite⟩:=(HFI.out.at_ k hlt hkA).found HA2.out.at_;obtain ⟨vhas,hlay,_⟩:=hfo.site.box;have hsz:=hfo.site.sl;have hcnt:=hfo.cnt;have HNEX:Hid (A[k]≠S->∀ j,j < k+1->∀ hj:j < A.length,A[j]≠S):=fun h j hj hjA=>by
       by_cases e:j=k
       ·subst e;exact h
       ·exact HN.out j (by omega) hjA
      have HYES:Hid (A[k]=S->zJY b S kk=0/\∀ hk2:kk < L.length,zQQ b S kk=L[kk]):=fun e=>by
       obtain ⟨h1,h2,h3⟩:=zFK HV.out hsite;rw [e] at h1 h3;obtain ⟨h4,h5⟩:=tell_ok HV.out HT.out HI.out h1;exact ⟨h4,fun hk2=>by rw [h5,(h3 kk hk2).1];rfl⟩
      have hL:kk < L.length:=by rw [(zFK HV.out hsite).2.1];exact hkk
      obtain ⟨al,cl,hal,_⟩:=zD hcnt;obtain ⟨az2,cz2,rfl,_⟩:=zD hsz;have HAL:=zE hal;clear hal;generalize A[k]=T at *;generalize fs[k]=f at *;have hba:=zB wr (.cells #[.pointer (some ⟨f.p,0,none⟩),.slice f.a f.n f.c] 126);have LF:=Lay.new wr 126 #[.pointer (some ⟨f.p,0,none⟩),.slice f.a f.n f.c];have hbr:=zA hB2r hba;have z0:=LF.cell 0 _ rfl;have z6:=(hlay.ext hbr).cell 6 _ rfl;have HSZ:=zE (zJ zN hbr hsz);have HCN:=zE (zJ zPQ hbr hcnt);have HSS:=zE (zJ zN (zA HB.out hba) HS.out);have HLF:=zE LF;have HBA:=zE (zA HB.out hba);clear hfo hsite hlay hsz hcnt LF hba hbr hB2r;unfold zK at c0 c1;go_wp2_with fail;clear c0 c1 z0 z6;refine (equal_ints _ _ _ T S HSZ.out HSS.out).mono ?_;intro e w5 hr;have hszr:wr.heap.size < (wr.alloc (.cells #[.pointer (some ⟨f.p,0,none⟩),.slice f.a f.n f.c] 126)).heap.size:=HLF.out.lt;generalize wr.alloc _=wq at *;generalize hgr:wr.heap.size=gr at *;rcases hr.both with ⟨h1,rfl,hb⟩ | ⟨h1,rfl,hb⟩
      ·have HY:=zE (HYES.out h1)
       have hb2:=zA HBA.out hb;have HTS:=zE (HY.out.2 hL);have l1:=(HLF.out.ext hb).cell 1 _ rfl;have hcn:=zJ zPQ hb HCN.out;rw [HAL.out] at hcn l1;obtain ⟨bl,ol,rfl,⟨c0,c1⟩,_⟩:=(zY hcn).2 kk hL;have HBW:=zE (zA HBW.out hb2);have HBOX:=zE (HBOX.out.ext hb2);have HRES:=zE (HRES.out.ext hb2);have HA:=zE (HA.out.ext hb2);have HS:=zE (zJ zN hb2 HS.out);have z0:=HRES.out.cell 0 _ rfl;have z1:=HRES.out.cell 1 _ rfl;have zf0:=HRES.out.frozen 0;have zf1:=HRES.out.frozen 1;have zl:=HRES.out.lt;clear hr hb hb2 HYES HNEX h1 hgr hszr hcn;have hkl:(kk:Int) < L.length:=by omega
       generalize L[kk]=s at *;unfold zK at c0 c1;go_wp2;refine bodyPost_ret (v:=.tuple #[.agg #[.int .i64 s.lo,.int .i64 s.hi],.int .i64 0]) (by simp [results,results17,go_sem,z0,z1,zl]) rfl ?_;exact ⟨by rw [HTS.out,HY.out.1],zI (by omega) (zI (by omega) HBW.out)⟩
      ·have HN2:=zE (HNEX.out h1)
       have HB5:=zE (zA HBA.out hb);clear hr hb HYES HNEX h1 hgr hszr;go_wp2;go_roundw
       ·exact ⟨k+1,by go_num,by omega,HB5,HN2⟩
       ·simp [intOf];omega
end
end Go.Proofs.YtipaopbmklbmnaaGreatDoor
