/- Lemmas. -/
import Derived.Test.YtipaopbmklbmnaaGreatDoorT23
set_option linter.all false
set_option maxRecDepth 100000
set_option maxHeartbeats 0
namespace Go.Proofs.YtipaopbmklbmnaaGreatDoor
section
open Tryz
open Go.RowKit Go.Shelf
attribute [local go_sem] zAE Oper.grows Oper.growUpon
theorem in_built2 (w:World) (lo hi x y:Int) (v:Value) (h:RowTwo x y v w) (hx:I64 x) (hy:I64 y) :
  Calls prog 57 #[.int .i64 lo,.int .i64 hi,v] w fun e w'=>e = .returned (.bool (inB x lo hi && inB y lo hi))/\Below w.heap.size w w':=by
 obtain ⟨b,rfl,h0,h1⟩:=h;refine (in_built w lo hi _ [x,y] (sl_row2 ⟨h0,h1⟩ hx hy)).mono ?_;intro e w' h;rcases h.both with ⟨g1,rfl,hb⟩ | ⟨g1,rfl,hb⟩
 ·exact ⟨zFH (by rw [zGY (g1 x (by simp)),zGY (g1 y (by simp))];rfl),hb⟩
 ·refine ⟨zFH ?_,hb⟩
  by_cases h1:In x lo hi
  ·by_cases h2:In y lo hi
   ·exact absurd (fun z hz=>by
     simp at hz;rcases hz with rfl | rfl
     ·exact h1
     ·exact h2) g1
   ·rw [zGZ h2];simp
  ·rw [zGZ h1];rfl
theorem notesCode_zero {R:List Issue} {N:List Note} (h:zP R N=0) : zX R=0:=by
 by_cases hz:zX R=0
 ·exact hz
 ·unfold zP at h;rw [if_pos hz] at h;exact absurd h hz
theorem known_last {R:List Issue} (d:Int) (hz:zX R=0) : zBC R d=0↔zKG R d≠0:=by
 have hl:=zCJ hz;have h2:=zRK R (fun k hk=>(hl.2.1 k hk).2) d;unfold zBC;rw [if_pos hz];by_cases hd:d∈nums R
 ·rw [if_pos hd];have:=h2.2.2 hd;rw [<- h2.1];exact ⟨fun _=>by omega,fun _=>rfl⟩
 ·rw [if_neg hd]
  have:(zAL R d).length=0:=Classical.byContradiction fun h=>hd (h2.2.1 h)
  rw [<- h2.1,this];exact ⟨fun h=>(by cases h),fun h=>absurd rfl h⟩
theorem zET (w:World) (vr vn vm vh vs:Value) (b:Built) (h:BuiltArg w vr vn vm vh vs b) :
  Calls prog 87 #[.agg #[vr,vn,.int .i64 b.of,vm,vh,vs]] w fun e w'=>e = .returned (.int .i64 (zF b))/\Below w.heap.size w w':=by
 obtain ⟨ar,cr,rfl,_⟩:=zD h.at_.reg;obtain ⟨an,cn,rfl,_⟩:=zD h.at_.notes;obtain ⟨am,cm,rfl,_⟩:=zD h.at_.ms;obtain ⟨ah,ch,rfl,hch⟩:=h.hcap;obtain ⟨az,cz,rfl,_⟩:=zD h.at_.rs;have hb1:=zB w (.cells #[.slice ar b.ns.reg.length cr,.slice an b.ns.notes.length cn,.int .i64 b.of,.slice am b.ms.length cm,.slice ah b.hs.length ch,.slice az b.rs.length cz] 32);have L0:=Lay.new w 32 #[.slice ar b.ns.reg.length cr,.slice an b.ns.notes.length cn,.int .i64 b.of,.slice am b.ms.length cm,.slice ah b.hs.length ch,.slice az b.rs.length cz];have H0:=zE h;have HA:=zE (h.ext hb1);have c0:=L0.cell 0 _ rfl;have c1:=L0.cell 1 _ rfl;clear h;go_enter func87,ntmps87;go_wp2_with fail;clear c0 c1;generalize w.alloc _=w1 at *;refine (check_note _ _ _ b.ns.reg b.ns.notes HA.out.notes HA.out.looks).mono ?_;rintro e w2 ⟨rfl,hb2⟩;have hbe:=zA hb1 hb2;have hcode:zP b.ns.reg b.ns.notes≠0->zF b=zP b.ns.reg b.ns.notes:=fun h=>by unfold zF;rw [if_pos h]
 by_cases hnz:zP b.ns.reg b.ns.notes=0
 case neg =>have e1:zF b=zP b.ns.reg b.ns.notes:=hcode hnz;clear hcode;generalize hcc:zP b.ns.reg b.ns.notes=c at *;go_wp2;go_ret;exact ⟨by first | (rw [e1];rfl) | rfl,hbe⟩
 have hz:=notesCode_zero hnz;have hl:=zCJ hz;have hkind:∀ x∈b.ns.reg,In x.k 1 3:=fun x hx=>by
  obtain ⟨k,hk,rfl⟩:=List.getElem_of_mem hx;exact ((hl.2.1 k hk).1 hk).1.2.2.1
 have hgood:zCA b->zF b=0:=fun h=>by unfold zF;rw [if_neg (by simp [hnz]),if_pos h]
 have hbad:¬ zCA b->zF b=80:=fun h=>by unfold zF;rw [if_neg (by simp [hnz]),if_neg h]
 rw [hnz];have L2:=L0.ext hb2;have c0:=L2.cell 0 _ rfl;have c2:=L2.cell 2 _ rfl;have l0:=L2.lt;clear hcode;go_wp2_with fail;have hb3:=zB w2 (.cells #[.slice ar b.ns.reg.length cr] 24);have hbe:=zA hbe hb3;have L3:=zE (L2.ext hb3);have LR:=Lay.new w2 24 #[.slice ar b.ns.reg.length cr];have HA3:=zE (H0.out.ext hbe);clear c0 c2 hb1 hb2 L2 L0;generalize hg4:w2.heap.size=g4 at *;generalize w2.alloc _=w3 at *;refine (last_sheet _ _ b.ns.reg b.of HA3.out.notes.reg).mono ?_;rintro e w4 ⟨⟨n,rfl,-⟩,hb4⟩;have hbe:=zA hbe hb4;have L4:=zE (L3.out.ext hb4);have LR:=zE (LR.ext hb4);have hkl:=known_last b.of hz;clear hb3 L3 HA3;by_cases hkn:zBC b.ns.reg b.of=0
 case neg =>
  have e1:=hbad (fun h=>(fun h2=>hkn (hkl.2 h2)) h.1);clear hkl;have hkn':(zBC b.ns.reg b.of != 0)=true:=by simp [hkn]
  generalize zBC b.ns.reg b.of=c at *;go_wp2;go_ret;exact ⟨by first | (rw [e1];rfl) | rfl,hbe⟩
 rw [hkn];have hlast:=hkl.1 hkn;have c3:=L4.out.cell 3 _ rfl;have c4:=L4.out.cell 4 _ rfl;have c5:=L4.out.cell 5 _ rfl;clear hkl;by_cases g1:12 < b.ms.length
 ·have e1:=hbad (fun h=>by have:=h.2.1;omega);generalize b.ms.length=nm at *;go_wp2;go_ret;exact ⟨by first | (rw [e1];rfl) | rfl,hbe⟩
 by_cases g2:4 < b.hs.length
 ·have e1:=hbad (fun h=>by have:=h.2.2.1;omega);generalize b.ms.length=nm at *;generalize b.hs.length=nh at *;go_wp2;go_ret;exact ⟨by first | (rw [e1];rfl) | rfl,hbe⟩
 by_cases g3:10 < b.rs.length
 ·have e1:=hbad (fun h=>by have:=h.2.2.2.1;omega);generalize b.ms.length=nm at *;generalize b.hs.length=nh at *;generalize b.rs.length=nr at *;go_wp2;go_ret;exact ⟨by first | (rw [e1];rfl) | rfl,hbe⟩
 have hm12:b.ms.length<=12:=by omega
 have hh4:b.hs.length<=4:=by omega
 have hr10:b.rs.length<=10:=by omega
 have HA4:=zE (H0.out.ext hbe);go_wp2_with fail;refine (in_built _ 1 999 _ b.ms HA4.out.at_.ms).mono ?_;clear c3 c4 c5 g1 g2 g3;intro e w5 hh;have hms:(∀ x∈b.ms,In x 1 999)↔∀ i,(h:i < b.ms.length)->In b.ms[i] 1 999:=by
  constructor
  ·intro h i hi;exact h _ (List.getElem_mem hi)
  ·intro h x hx;obtain ⟨i,hi,rfl⟩:=List.getElem_of_mem hx;exact h i hi
 have HMS:=zE hms;clear hms;rcases hh.both with ⟨hin,rfl,hb5⟩ | ⟨hin,rfl,hb5⟩
 case inr =>have hbe:=zA hbe hb5;have e1:=hbad (fun h=>hin (HMS.out.2 (fun i hi=>((h.2.2.2.2.1 i hi) hi).1)));clear hh hin;go_wp2;go_ret;exact ⟨by first | (rw [e1];rfl) | rfl,hbe⟩
 have hbe:=zA hbe hb5;have L5:=zE (L4.out.ext hb5);have LR:=zE (LR.out.ext hb5);have HIN:=zE (HMS.out.1 hin);have c3:=L5.out.cell 3 _ rfl;clear hh hin hb5 hb4 L4 HA4;go_wp2;clear c3;go_loopw [62] (fun i wr=>∃ k:Nat,i = .int .i64 k/\k<=b.ms.length/\Hid (Below w5.heap.size w5 wr)/\Hid (∀ j,j < k->MsOk b.ms j)) (fun i _=>b.ms.length - (intOf i).toNat)
 case atStart=>exact ⟨0,rfl,Nat.zero_le _,zE (br_),zE fun j hj=>absurd hj (Nat.not_lt_zero _)⟩
 case round =>
  obtain ⟨k,rfl,hk,hbw,hall⟩:=hrel;have L6:=zE (L5.out.ext hbw.out);have LR6:=zE (LR.out.ext hbw.out);by_cases hlt:k < b.ms.length
  ·have eg:=enter_c1
   unfold Enters at eg;have HC:=zE (rising_built wr w.heap.size _ b.ms k (.inr (L6.out.cell 3 _ rfl)) (L6.out.cell 3 _ rfl) (H0.out.ext (zA hbe hbw.out)).at_.ms hlt);have HIFF:Hid (MsOk b.ms k↔∀ h0:0 < k,∀ h1:k - 1 < b.ms.length,b.ms[k - 1] < b.ms[k]):=⟨fun h h0 _=>(h hlt).2 h0,fun h _=>⟨HIN.out k hlt,fun h0=>h h0 (by omega)⟩⟩;go_wp2_with (go_at_fn 129;refine HC.out.mono ?_;intro e w' hr;rcases hr.both with ⟨h1,rfl,hb'⟩ | ⟨h1,rfl,hb'⟩ <;> clear hr)
   ·have hok:=HIFF.out.2 h1
    have hb6:=zE (zA hbw.out hb');clear h1 HC HIFF;go_wp2;go_roundw
    ·exact ⟨k+1,by go_num,by omega,hb6,zE (zAO _ k hall.out hok)⟩
    ·simp [intOf];omega
   ·have e1:=hbad (fun h=>h1 (HIFF.out.1 (h.2.2.2.2.1 k hlt)));have hbe:=zA hbe (zA hbw.out hb');clear h1 HC HIFF;go_wp2;go_ret;exact ⟨by first | (rw [e1];rfl) | rfl,hbe⟩
  ·have hbe:=zA hbe hbw.out
   have hmsok:=zE (fun j (hj:j < b.ms.length)=>hall.out j (by omega));have c4:=L6.out.cell 4 _ rfl;clear L5 LR hall hbw;go_wp2;clear c4;go_loopw [73] (fun i wh=>∃ k:Nat,i = .int .i64 k/\k<=b.hs.length/\Hid (Below wr.heap.size wr wh)/\Hid (∀ j,j < k->zMU b.ns.reg b.hs j)) (fun i _=>b.hs.length - (intOf i).toNat)
   case atStart=>exact ⟨0,rfl,Nat.zero_le _,zE (br_),zE fun j hj=>absurd hj (Nat.not_lt_zero _)⟩
   case round =>
    obtain ⟨k,rfl,hk,hbw,hall⟩:=hrel;have L7:=zE (L6.out.ext hbw.out);have LR7:=zE (LR6.out.ext hbw.out);have hbe:=zA hbe hbw.out;by_cases hlt:k < b.hs.length
    ·have HAw:=zE (H0.out.ext hbe)
     obtain ⟨bq,oq,rfl,⟨q0,q1,q2,q3⟩,hnum⟩:=(zY HAw.out.at_.hs).2 k hlt;have hlq:=zAD q0;have HIFF:Hid (zMU b.ns.reg b.hs k↔zFO b.ns.reg b.hs[k].d b.hs[k].l/\b.hs[k].l < zKG b.ns.reg b.hs[k].d/\In b.hs[k].lo 0 200/\In b.hs[k].hi b.hs[k].lo 200/\¬ ∃ o∈b.hs.take k,o.d=b.hs[k].d/\o.l=b.hs[k].l):=by
      constructor
      ·intro h;obtain ⟨h1,h2,h3,h4,h5⟩:=h hlt;refine ⟨h1,h2,h3,h4,?_⟩;rintro ⟨o,ho,e⟩;obtain ⟨j,hj,hjl,rfl⟩:=zKJ.1 ho;exact h5 j hj hjl e
      ·rintro ⟨h1,h2,h3,h4,h5⟩ _;exact ⟨h1,h2,h3,h4,fun j hj hjl e=>h5 ⟨_,zKJ.2 ⟨j,hj,hjl,rfl⟩,e⟩⟩
     have hbk:¬ zMU b.ns.reg b.hs k->zF b=80:=fun h=>hbad (fun h2=>h (h2.2.2.2.2.2.1 k hlt))
     generalize b.hs[k]=x at *;have HBK:=zE hbk;have HNUM:=zE hnum;have c0:=LR7.out.cell 0 _ rfl;have lg4:=LR7.out.lt;have hba:=zB wr (.cells #[.int .i64 x.d,.int .i64 x.l,.int .i64 x.lo,.int .i64 x.hi] 42);have LX:=Lay.new wr 42 #[.int .i64 x.d,.int .i64 x.l,.int .i64 x.lo,.int .i64 x.hi];unfold zK at q0 q1 q2 q3;clear hbk;go_wp2_with fail;have L8:=zE (L7.out.ext hba);have LR8:=zE (LR7.out.ext hba);have hbe:=zA hbe hba;clear q0 q1 q2 q3 c0 lg4 hlq;generalize hgx:wr.heap.size=gx at *;generalize wr.alloc _=wA at *;refine (last_sheet _ _ b.ns.reg x.d (H0.out.ext hbe).notes.reg).mono ?_;rintro e w8 ⟨⟨n,rfl,hn⟩,hb8⟩;have HN:=zE (hn hz);clear hn;have L8:=zE (L8.out.ext hb8);have LR8:=zE (LR8.out.ext hb8);have LX:=zE (LX.ext hb8);have hbe:=zA hbe hb8;have c4:=L8.out.cell 4 _ rfl;have hkc:(k:Int)<=ch:=by omega
     generalize zBC b.ns.reg x.d=kc at *;go_wp2_with fail;refine (zPD _ _ (b.hs.take k) (sl_take (H0.out.ext hbe).at_.hs k ch (by omega)) 131 #[.pointer (some ⟨gx,0,none⟩)] enter_c2 (fun o=>o.d=x.d/\o.l=x.l) (fun o ho w' hb=>same_built w' o x gx ⟨(LX.out.ext hb).cell 0 _ rfl,(LX.out.ext hb).cell 1 _ rfl,(LX.out.ext hb).cell 2 _ rfl,(LX.out.ext hb).cell 3 _ rfl⟩)).mono ?_;clear c4;intro e wq hh;have hbb:∃ bt:Bool,e = .returned (.bool bt)/\(bt=true↔∃ o∈b.hs.take k,o.d=x.d/\o.l=x.l)/\Below w8.heap.size w8 wq:=hh;obtain ⟨bt,rfl,hbt,hb9⟩:=hbb;have hbe:=zA hbe hb9;have hba:Below wr.heap.size wr wA:=by rw [hgx];exact hba
     have hwq:=zA (zA hba hb8) hb9;have LXq:=LX.out.ext hb9;have LRq:=LR8.out.ext hb9;have HBT:=zE hbt;have HAR:=zE (H0.out.ext hbe);have x0:=zH (show zK wq gx 0 (.int .i64 x.d) from LXq.cell 0 _ rfl);have x1:=zH (show zK wq gx 1 (.int .i64 x.l) from LXq.cell 1 _ rfl);have x2:=zH (show zK wq gx 2 (.int .i64 x.lo) from LXq.cell 2 _ rfl);have x3:=zH (show zK wq gx 3 (.int .i64 x.hi) from LXq.cell 3 _ rfl);have r0:=zH (show zK wq g4 0 (.slice ar b.ns.reg.length cr) from LRq.cell 0 _ rfl);have hnum:=HNUM.out;clear hh hbt hb9 hb8 LXq LRq L8 LR8;cases bt with
     | true =>
       have e1:=HBK.out (fun h=>(HIFF.out.1 h).2.2.2.2 (HBT.out.1 rfl));go_wp2;refine zAR (by kernel_rfl) (by kernel_rfl) (no_implicit_lambda% ?_);repeat ((with_reducible refine wpQuiet_step (fun K hK=>?_));go_simp;first | ((with_reducible refine hK _ ?_);clear hK K) | (refine hK _ (no_implicit_lambda% ?_);clear hK K) | (apply Exists.intro;(with_reducible refine ⟨fun _=>?_,hK _ ?_⟩);(first | (go_at_call 132;exact Calls.quiet_later (zFF _ x)) | (go_at_call 69;exact Calls.quiet_later ((zEW _ _ b.ns.reg x.d x.l (HAR.out.ext (zG _ _)).notes.reg hz hkind).mono fun e w' h=>by rw [hp] at h;exact h)));clear hK K))
       with_reducible refine wpQuiet_nil ?_
       intro _ hw9;obtain ⟨xq,hw8⟩:=hw9;subst hw8;have hbe:=zA hbe (zG wq xq);clear x0 x1 x2 x3 r0;go_wp2;go_ret;exact ⟨by first | (rw [e1];rfl) | rfl,hbe⟩
     | false =>
       have hnt:¬ ∃ o∈b.hs.take k,o.d=x.d/\o.l=x.l:=fun h=>by have:=HBT.out.2 h;cases this
       have HNT:=zE hnt;clear hnt;by_cases hpp:partB b.ns.reg x.d x.l=true
       case neg =>
        have hp:partB b.ns.reg x.d x.l=false:=by simpa using hpp
        have e1:=HBK.out (fun h=>hpp ((zGT _ _ _).2 (HIFF.out.1 h).1));clear hpp;go_wp2;refine zAR (by kernel_rfl) (by kernel_rfl) (no_implicit_lambda% ?_);repeat ((with_reducible refine wpQuiet_step (fun K hK=>?_));go_simp;first | ((with_reducible refine hK _ ?_);clear hK K) | (refine hK _ (no_implicit_lambda% ?_);clear hK K) | (apply Exists.intro;(with_reducible refine ⟨fun _=>?_,hK _ ?_⟩);(first | (go_at_call 132;exact Calls.quiet_later (zFF _ x)) | (go_at_call 69;exact Calls.quiet_later ((zEW _ _ b.ns.reg x.d x.l (HAR.out.ext (zG _ _)).notes.reg hz hkind).mono fun e w' h=>by rw [hp] at h;exact h)));clear hK K))
        with_reducible refine wpQuiet_nil ?_
        intro _ hw9;obtain ⟨xq,hw8⟩:=hw9;subst hw8;have hbe:=zA hbe (zG wq xq);clear x0 x1 x2 x3 r0;go_wp2;go_ret;exact ⟨by first | (rw [e1];rfl) | rfl,hbe⟩
       have hp:=hpp;have HP:=zE ((zGT _ _ _).1 hpp);clear hpp;by_cases hle:n<=x.l
       ·have hle':¬ x.l < n:=by omega
        have e1:=HBK.out (fun h=>by have:=(HIFF.out.1 h).2.1;rw [<- HN.out] at this;omega);go_wp2;refine zAR (by kernel_rfl) (by kernel_rfl) (no_implicit_lambda% ?_);repeat ((with_reducible refine wpQuiet_step (fun K hK=>?_));go_simp;first | ((with_reducible refine hK _ ?_);clear hK K) | (refine hK _ (no_implicit_lambda% ?_);clear hK K) | (apply Exists.intro;(with_reducible refine ⟨fun _=>?_,hK _ ?_⟩);(first | (go_at_call 132;exact Calls.quiet_later (zFF _ x)) | (go_at_call 69;exact Calls.quiet_later ((zEW _ _ b.ns.reg x.d x.l (HAR.out.ext (zG _ _)).notes.reg hz hkind).mono fun e w' h=>by rw [hp] at h;exact h)));clear hK K))
        with_reducible refine wpQuiet_nil ?_
        intro _ hw9;obtain ⟨xq,hw8⟩:=hw9;subst hw8;have hbe:=zA hbe (zG wq xq);clear x0 x1 x2 x3 r0;go_wp2;go_ret;exact ⟨by first | (rw [e1];rfl) | rfl,hbe⟩
       ·have hle':x.l < n:=by omega
        by_cases hi2:(inB x.lo 0 200 && inB x.hi 0 200)=true
        case neg =>
         have hi2':=hi2;have hi2:(inB x.lo 0 200 && inB x.hi 0 200)=false:=by simpa using hi2
         have e1:=HBK.out (fun h=>by
          have h3:=(HIFF.out.1 h).2.2.1;have h4:=(HIFF.out.1 h).2.2.2.1;refine hi2' ?_;rw [zGY h3,zGY (show In x.hi 0 200 from ⟨by have:=h3.1;have:=h4.1;omega,h4.2⟩)];rfl)
         clear hi2';go_wp2;refine zM 34 (by kernel_rfl) (by kernel_rfl) ?_;simp only [tk_];iterate 4 (apply gx_;focus (intro vs xq hd;(try simp [hq_] at hd);simp only [pf_];go_simp;first | exact ⟨br_,rfl⟩ | exact rfl))
         apply gx_;focus (intro vs xq hd;(try simp [hq_] at hd);simp only [pf_];go_simp;first | exact ⟨br_,rfl⟩ | exact rfl | (refine (zFF _ x).mono ?_;rintro e w' ⟨rfl,hb⟩;exact ⟨rfl,hb⟩))
         apply gx_;focus (intro vs xq hd;(try simp [hq_] at hd);simp only [pf_];go_simp;first | exact ⟨br_,rfl⟩ | exact rfl | (refine (zEW _ _ b.ns.reg x.d x.l (HAR.out.ext (zG wq xq)).notes.reg hz hkind).mono ?_;rintro e w' ⟨rfl,hb⟩;rw [hp];exact ⟨rfl,hb⟩))
         iterate 15 (apply gx_;focus (intro vs xq hd;(try simp [hq_] at hd);simp only [pf_];go_simp;first | exact ⟨br_,rfl⟩ | exact rfl))
         refine zL (RowTwo x.lo x.hi) (zHL _ _) ?_ ?_
         ·intro vs xq hd
          (try simp [hq_] at hd)
          simp only [pf_];go_simp;exact ⟨zB _ _,_,rfl,zR _ _ _ 0 _ rfl,zR _ _ _ 1 _ rfl⟩
         refine zL (fun v _=>v = .bool false) (fun _ _ _ _ h=>h) ?_ ?_
         ·intro vs xq hd
          (try simp [hq_] at hd)
          simp only [pf_];have hr2:=hd.1;have eg:=hd.2;simp only [eg];go_simp;refine (in_built2 _ _ _ x.lo x.hi _ hr2 hnum.2.2.1 hnum.2.2.2).mono ?_;rintro e w' ⟨rfl,hb⟩;rw [hi2];exact ⟨rfl,hb⟩
         iterate 11 (apply gx_;focus (intro vs xq hd;(try simp [hq_] at hd);simp only [pf_];go_simp;first | exact ⟨br_,rfl⟩ | exact rfl))
         refine zQ (by simp only [List.length_append,List.length_cons,List.length_nil]) (fun vs xq hd=>?_);simp [zW,zAI,List.range,List.range.loop] at hd;simp only [pf_];obtain ⟨_,_,_,_,_,_,_,_,_,_,_,_,_,_,_,_,_,_,_,_,_,_,_,_,_,_,_,_,_,_,_,_,_,e33⟩:=hd;simp only [Nat.zero_add,Nat.reduceAdd] at e33 ⊢;have hbe:=zA hbe (zG wq xq);simp only [e33];clear x0 x1 x2 x3 r0;go_wp2;go_ret;exact ⟨by first | (rw [e1];rfl) | rfl,hbe⟩
        have h3:In x.lo 0 200/\In x.hi 0 200:=by rw [Bool.and_eq_true] at hi2;exact ⟨zGA hi2.1,zGA hi2.2⟩
        go_wp2;refine zM 34 (by kernel_rfl) (by kernel_rfl) ?_;simp only [tk_];iterate 4 (apply gx_;focus (intro vs xq hd;(try simp [hq_] at hd);simp only [pf_];go_simp;first | exact ⟨br_,rfl⟩ | exact rfl))
        apply gx_;focus (intro vs xq hd;(try simp [hq_] at hd);simp only [pf_];go_simp;first | exact ⟨br_,rfl⟩ | exact rfl | (refine (zFF _ x).mono ?_;rintro e w' ⟨rfl,hb⟩;exact ⟨rfl,hb⟩))
        apply gx_;focus (intro vs xq hd;(try simp [hq_] at hd);simp only [pf_];go_simp;first | exact ⟨br_,rfl⟩ | exact rfl | (refine (zEW _ _ b.ns.reg x.d x.l (HAR.out.ext (zG wq xq)).notes.reg hz hkind).mono ?_;rintro e w' ⟨rfl,hb⟩;rw [hp];exact ⟨rfl,hb⟩))
        iterate 15 (apply gx_;focus (intro vs xq hd;(try simp [hq_] at hd);simp only [pf_];go_simp;first | exact ⟨br_,rfl⟩ | exact rfl))
        refine zL (RowTwo x.lo x.hi) (zHL _ _) ?_ ?_
        ·intro vs xq hd
         (try simp [hq_] at hd)
         simp only [pf_];go_simp;exact ⟨zB _ _,_,rfl,zR _ _ _ 0 _ rfl,zR _ _ _ 1 _ rfl⟩
        refine zL (fun v _=>v = .bool true) (fun _ _ _ _ h=>h) ?_ ?_
        ·intro vs xq hd
         (try simp [hq_] at hd)
         simp only [pf_];have hr2:=hd.1;have eg:=hd.2;simp only [eg];go_simp;refine (in_built2 _ _ _ x.lo x.hi _ hr2 hnum.2.2.1 hnum.2.2.2).mono ?_;rintro e w' ⟨rfl,hb⟩;rw [hi2];exact ⟨rfl,hb⟩
        iterate 11 (apply gx_;focus (intro vs xq hd;(try simp [hq_] at hd);simp only [pf_];go_simp;first | exact ⟨br_,rfl⟩ | exact rfl))
        refine zQ (by simp only [List.length_append,List.length_cons,List.length_nil]) (fun vs xq hd=>?_);simp [zW,zAI,List.range,List.range.loop] at hd;simp only [pf_];obtain ⟨_,_,_,_,_,_,_,_,_,_,_,_,_,_,_,_,_,_,_,_,_,_,_,_,_,_,_,_,_,_,_,_,_,e33⟩:=hd;simp only [Nat.zero_add,Nat.reduceAdd] at e33 ⊢;have hbe:=zA hbe (zG wq xq);have hlx:decide (n<=x.l)=false:=by simpa using hle'
        by_cases hgt:x.hi < x.lo
        ·have e1:=HBK.out (fun h=>by have:=(HIFF.out.1 h).2.2.2.1.1;omega)
         have hgt':decide (x.hi < x.lo)=true:=by simpa using hgt
         rw [hlx,hgt',Bool.false_or] at e33;simp only [e33];clear x0 x1 x2 x3 r0;go_wp2;go_ret;exact ⟨by first | (rw [e1];rfl) | rfl,hbe⟩
        ·have hok:=HIFF.out.2 ⟨HP.out,by rw [<- HN.out];omega,h3.1,⟨by omega,h3.2.2⟩,HNT.out⟩
         have hgt':decide (x.hi < x.lo)=false:=by simpa using hgt
         rw [hlx,hgt',Bool.false_or] at e33;simp only [e33];have hb7:=zE (zA hbw.out (zA hwq (zG wq xq)));clear x0 x1 x2 x3 r0;go_wp2;go_roundw
         ·exact ⟨k+1,by go_num,by omega,hb7,zE (zAO _ k hall.out hok)⟩
         ·simp [intOf];omega
    ·have hhsok:=zE (fun j (hj:j < b.hs.length)=>hall.out j (by omega))
     have c5:=L7.out.cell 5 _ rfl;clear L6 LR6 LR7 hall hbw;go_wp2;clear c5;go_loopw [129] (fun i wh=>∃ k:Nat,i = .int .i64 k/\k<=b.rs.length/\Hid (Below wr.heap.size wr wh)/\Hid (∀ j,j < k->RepOk b.ns.reg b.ms b.rs j)) (fun i _=>b.rs.length - (intOf i).toNat)
     case atStart=>exact ⟨0,rfl,Nat.zero_le _,zE (br_),zE fun j hj=>absurd hj (Nat.not_lt_zero _)⟩
     case round =>
      obtain ⟨k,rfl,hk,hbw,hall⟩:=hrel;have L8:=zE (L7.out.ext hbw.out);have hbe:=zA hbe hbw.out;by_cases hlt:k < b.rs.length
      ·have HAw:=zE (H0.out.ext hbe)
       obtain ⟨bq,oq,rfl,⟨q0,q1,q2,q3,q4⟩,hrn⟩:=(zY HAw.out.at_.rs).2 k hlt;have hlq:=zAD q0;have hbk:¬ RepOk b.ns.reg b.ms b.rs k->zF b=80:=fun h=>hbad (fun h2=>h (h2.2.2.2.2.2.2 k hlt))
       have hiff:RepOk b.ns.reg b.ms b.rs k↔zCE b.ns.reg b.ms b.rs[k]/\(∀ h0:0 < k,b.rs[k - 1].num < b.rs[k].num):=⟨fun h=>h hlt,fun h _=>h⟩;have hprev:=fun h0:0 < k=>(zY HAw.out.at_.rs).2 (k - 1) (by omega)
       have HIFF:=zE hiff;have HPREV:=zE hprev;have HBK:=zE hbk;clear hiff hprev hbk;have hxx:∃ x,x=b.rs[k]:=⟨_,rfl⟩;obtain ⟨x,hxx⟩:=hxx;rw [<- hxx] at q0 q1 q2 q3 q4 hrn HIFF;have HXX:=zE hxx;clear hxx;have hba:=zB wr (.cells #[.int .i64 x.num,.int .i64 x.m,.int .i64 x.d,.int .i64 x.l,.int .u8 x.k] 49);have LX:=Lay.new wr 49 #[.int .i64 x.num,.int .i64 x.m,.int .i64 x.d,.int .i64 x.l,.int .u8 x.k];unfold zK at q0 q1 q2 q3 q4;have hrn:RNum x:=hrn;go_wp2;have L9:=L8.out.ext hba;have hbe:=zA hbe hba;have HBA:=zE hba;clear q0 q1 q2 q3 q4 hlq;obtain ⟨gx,hgx⟩ : ∃ gx,gx=wr.heap.size:=⟨_,rfl⟩;rw [<- hgx] at LX ⊢;obtain ⟨wq,hwq⟩ : ∃ wq,wq=wr.alloc (.cells #[.int .i64 x.num,.int .i64 x.m,.int .i64 x.d,.int .i64 x.l,.int .u8 x.k] 49):=⟨_,rfl⟩;rw [<- hwq] at LX L9 hbe hba ⊢;clear hgx hwq HBA;have k0:=zH (show zK wq w.heap.size 0 _ from L9.cell 0 _ rfl);have k1:=zH (show zK wq w.heap.size 1 _ from L9.cell 1 _ rfl);have k2:=zH (show zK wq w.heap.size 2 _ from L9.cell 2 _ rfl);have k3:=zH (show zK wq w.heap.size 3 _ from L9.cell 3 _ rfl);have k4:=zH (show zK wq w.heap.size 4 _ from L9.cell 4 _ rfl);have k5:=zH (show zK wq w.heap.size 5 _ from L9.cell 5 _ rfl);have x0:=zH (show zK wq gx 0 _ from LX.cell 0 _ rfl);have x1:=zH (show zK wq gx 1 _ from LX.cell 1 _ rfl);have x2:=zH (show zK wq gx 2 _ from LX.cell 2 _ rfl);have x3:=zH (show zK wq gx 3 _ from LX.cell 3 _ rfl);have x4:=zH (show zK wq gx 4 _ from LX.cell 4 _ rfl);by_cases hro:zCE b.ns.reg b.ms x
       case neg =>
        have e1:=HBK.out (fun h=>hro (HIFF.out.1 h).1);refine zM 20 (by kernel_rfl) (by kernel_rfl) ?_;simp only [tk_];iterate 2 (apply gx_;focus (intro vs xq hd;(try simp [hq_] at hd);simp only [pf_];go_simp;first | exact ⟨br_,rfl⟩ | exact rfl))
        apply gx_;focus (intro vs xq hd;(try simp [hq_] at hd);simp only [pf_];go_simp;first | exact ⟨br_,rfl⟩ | exact rfl | (refine (zLM _ _ _ _ _ _ b x (H0.out.ext (zA hbe (zG wq xq))) hrn hz hkind).mono ?_;intro e w' hr;obtain ⟨bb,rfl,hbb,hb⟩:=hr;obtain rfl:bb=false:=(by cases bb with | false=>rfl | true=>exact absurd (hbb.1 rfl) hro);exact ⟨rfl,hb⟩))
        iterate 17 (apply gx_;focus (intro vs xq hd;(try simp [hq_] at hd);simp only [pf_];go_simp;first | exact ⟨br_,rfl⟩ | exact rfl))
        refine zQ (by simp only [List.length_append,List.length_cons,List.length_nil]) (fun vs xq hd=>?_);simp [zW,zAI,List.range,List.range.loop] at hd;simp only [pf_];obtain ⟨_,_,_,_,_,_,_,_,_,_,_,_,_,_,_,_,_,_,_,e19⟩:=hd;simp only [Nat.zero_add,Nat.reduceAdd] at e19 ⊢;simp only [e19];have hbe:=zA hbe (zG wq xq);clear k0 k1 k2 k3 k4 k5 x0 x1 x2 x3 x4;go_wp2;go_ret;exact ⟨by first | (rw [e1];rfl) | rfl,hbe⟩
       by_cases hk0:0 < k
       ·obtain ⟨b',o',hh,⟨y0,_⟩,_⟩:=HPREV.out hk0
        cases hh;have HI2:Hid (RepOk b.ns.reg b.ms b.rs k↔b.rs[k - 1].num < x.num):=⟨fun h=>(HIFF.out.1 h).2 hk0,fun h=>HIFF.out.2 ⟨hro,fun _=>h⟩⟩;have hz1:IntKind.i64.wrap ((k:Int) - 1)=((k - 1:Nat) : Int):=by rw [IntWalk.i64_in _ (by omega)];omega
        have hz2:((k - 1:Nat) : Int) < b.rs.length:=by omega
        have hki:(0:Int) < (k:Int):=by omega
        have ky:=zH (zC hba y0);clear HPREV y0;generalize b.rs[k - 1]=y at *;refine zM 20 (by kernel_rfl) (by kernel_rfl) ?_;simp only [tk_];iterate 2 (apply gx_;focus (intro vs xq hd;(try simp [hq_] at hd);simp only [pf_];go_simp;first | exact ⟨br_,rfl⟩ | exact rfl))
        apply gx_;focus (intro vs xq hd;(try simp [hq_] at hd);simp only [pf_];go_simp;first | exact ⟨br_,rfl⟩ | exact rfl | (refine (zLM _ _ _ _ _ _ b x (H0.out.ext (zA hbe (zG wq xq))) hrn hz hkind).mono ?_;intro e w' hr;obtain ⟨bb,rfl,hbb,hb⟩:=hr;obtain rfl:bb=true:=(hbb.2 hro);exact ⟨rfl,hb⟩))
        iterate 17 (apply gx_;focus (intro vs xq hd;(try simp [hq_] at hd);simp only [pf_];go_simp;first | exact ⟨br_,rfl⟩ | exact rfl))
        refine zQ (by simp only [List.length_append,List.length_cons,List.length_nil]) (fun vs xq hd=>?_);simp [zW,zAI,List.range,List.range.loop] at hd;simp only [pf_];obtain ⟨_,_,_,_,_,_,_,_,_,_,_,_,_,_,_,_,_,_,_,e19⟩:=hd;simp only [Nat.zero_add,Nat.reduceAdd] at e19 ⊢;clear ky;by_cases hlt2:y.num < x.num
        ·have hok:=HI2.out.2 hlt2
         have hd2:decide (x.num<=y.num)=false:=by simp;omega
         rw [hd2] at e19;simp only [e19];have hb7:=zE (zA hbw.out (zA hba (zG wq xq)));clear k0 k1 k2 k3 k4 k5 x0 x1 x2 x3 x4;go_wp2;go_roundw
         ·exact ⟨k+1,by go_num,by omega,hb7,zE (zAO _ k hall.out hok)⟩
         ·simp [intOf];omega
        ·have e1:=HBK.out (fun h=>hlt2 (HI2.out.1 h))
         have hd2:decide (x.num<=y.num)=true:=by simp;omega
         rw [hd2] at e19;simp only [e19];have hbe:=zA hbe (zG wq xq);clear k0 k1 k2 k3 k4 k5 x0 x1 x2 x3 x4;go_wp2;go_ret;exact ⟨by first | (rw [e1];rfl) | rfl,hbe⟩
       ·have hok:=HIFF.out.2 ⟨hro,fun h=>absurd h hk0⟩
        have hki:¬ (0:Int) < (k:Int):=by omega
        refine zM 20 (by kernel_rfl) (by kernel_rfl) ?_;simp only [tk_];iterate 2 (apply gx_;focus (intro vs xq hd;(try simp [hq_] at hd);simp only [pf_];go_simp;first | exact ⟨br_,rfl⟩ | exact rfl))
        apply gx_;focus (intro vs xq hd;(try simp [hq_] at hd);simp only [pf_];go_simp;first | exact ⟨br_,rfl⟩ | exact rfl | (refine (zLM _ _ _ _ _ _ b x (H0.out.ext (zA hbe (zG wq xq))) hrn hz hkind).mono ?_;intro e w' hr;obtain ⟨bb,rfl,hbb,hb⟩:=hr;obtain rfl:bb=true:=(hbb.2 hro);exact ⟨rfl,hb⟩))
        iterate 17 (apply gx_;focus (intro vs xq hd;(try simp [hq_] at hd);simp only [pf_];go_simp;first | exact ⟨br_,rfl⟩ | exact rfl))
        refine zQ (by simp only [List.length_append,List.length_cons,List.length_nil]) (fun vs xq hd=>?_);simp [zW,zAI,List.range,List.range.loop] at hd;simp only [pf_];obtain ⟨_,_,_,_,_,_,_,_,_,_,_,_,_,_,_,_,_,_,_,e19⟩:=hd;simp only [Nat.zero_add,Nat.reduceAdd] at e19 ⊢;simp only [e19];have hb7:=zE (zA hbw.out (zA hba (zG wq xq)));clear k0 k1 k2 k3 k4 k5 x0 x1 x2 x3 x4;go_wp2;go_roundw
        ·exact ⟨k+1,by go_num,by omega,hb7,zE (zAO _ k hall.out hok)⟩
        ·simp [intOf];omega
      ·have e1:=hgood ⟨hlast,hm12,hh4,hr10,fun j hj=>hmsok.out j hj,fun j hj=>hhsok.out j hj,fun j hj=>hall.out j (by omega)⟩;go_wp2;go_ret;exact ⟨by first | (rw [e1];rfl) | rfl,hbe⟩
end
end Go.Proofs.YtipaopbmklbmnaaGreatDoor
