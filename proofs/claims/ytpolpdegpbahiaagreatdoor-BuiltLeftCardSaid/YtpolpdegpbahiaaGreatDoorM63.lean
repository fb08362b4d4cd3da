/- The reference: the truths that are left, shorter ones first. -/
import Derived.Test.YtpolpdegpbahiaaGreatDoorM62
set_option linter.all false
set_option maxRecDepth 100000
set_option maxHeartbeats 12800000

namespace Go.Proofs.YtpolpdegpbahiaaGreatDoor
open Tryz
open Go.RowKit Go.Shelf
attribute [local go_sem] zAN Oper.grows Oper.growUpon Oper.wild Oper.wildUpon
theorem truths08 (w:World) (vr vn vm vh vz:Value) (b:Built) (hB:BuiltAt w vr vn vm vh vz b) (hv:zM b=0) :
  Calls prog 53 #[.agg #[vr,vn,.int .i64 b.of,vm,vh,vz],.int .i64 (2 ^ b.rs.length - 1)] w fun e w'=>∃ u A,e = .returned u∧zJB b A∧A.length≤32∧Sl zKW 1 w' u A∧Below w.heap.size w w':=by
 obtain ⟨l0,hlf,lz0,lz1,lz2⟩:=info_parts zPT
 have hb1:=zB w (.cells #[vr,vn,.int .i64 b.of,vm,vh,vz] 32)
 have HBOX:=zF (zHC w vr vn vm vh vz b.of 32)
 have HB:=zF (hB.ext hb1)
 have HV:=zF hv
 have hbu:=(zW hv).2
 have hr10:b.rs.length≤10:=hbu.2.2.2.1
 have hok:=(zAS (zW hv).1).2
 have HOK:=zF hok
 have hN12:=hok.1
 clear hB hbu hv hok
 have c0:=HBOX.out.c0
 have c1:=HBOX.out.c1
 unfold zJ at c0 c1
 go_enter func53,ntmps53
 go_wp2_with fail
 clear c0 c1
 generalize w.alloc _=wa at *
 refine (truths03 _ _ _ _ HB.out.notes (by omega) (zKU HOK.out) (fun L h=>zRF HOK.out h)).mono ?_
 rintro e w6 ⟨u6',O,rfl,hO,hOm,hO5,⟨base,cl,hown6,hri6⟩,hb6⟩
 have hsl6:=(hri6.sl hown6 zME).now
 have hTl:Hid ((zNC O).length≤32):=by
  unfold Hid
  rw [zPW]
  exact Nat.pow_le_pow_right (n:=2) (by decide) hO5
 have hTn:Hid ((zNC O).Nodup):=refT_nodup hO
 have hTT:Hid (∀ l,l∈zNC O→IsT (zCA b.ns.notes) l):=fun l hl=>(zRO hOm l).1 ((zRI hO l).1 hl)
 have hfinal:Hid (∀ A,LeftTo b (zNC O) (zNC O).length A→zJB b A):=fun A h=>h.all hO hOm
 generalize zNC O=T at *
 obtain ⟨al,cl2,rfl,_⟩:=zD hsl6
 have H6:=zF (And.intro hown6 hri6)
 have HBA:=zF hb6
 have hn32:T.length≤32:=hTl.out
 clear hO hOm hO5 hown6 hri6 hsl6 hb6
 go_wp2
 go_loopw [5,7] (fun o i wr=>∃ (k:Nat) (A:List (List Int)),i = .int .i64 k∧k≤T.length∧Hid (∃ cs,wr.ownsRow w6.heap.size 28 1 o A.length cs∧zDW [3] zFT 1 wr cs A)∧Hid (LeftTo b T k A)∧Hid (Below w6.heap.size w6 wr)) (fun _ i _=>T.length - (intOf i).toNat)
 case atStart=>exact ⟨0,[],rfl,by omega,zF ⟨[],World.ownsRow_nil _ _ _ _,zJK _ _ _ _⟩,zF ⟨List.Pairwise.nil,fun l=>by simp,by simp⟩,zF (br_)⟩
 case round =>
  obtain ⟨k,A,rfl,hk,HO,HL,HB6⟩:=hrel
  have hAl:=HL.out.len
  by_cases hlt:k < T.length
  case neg =>
   obtain rfl:k=T.length:=by omega
   go_wp2
   go_ret
   obtain ⟨cs,ho,hr⟩:=HO.out
   exact ⟨_,A,rfl,hfinal.out A HL.out,by omega,(hr.sl ho zME).now,zA hb1 (zA HBA.out HB6.out)⟩
  case pos =>
   have hkl:(k:Int) < T.length:=by omega
   obtain ⟨vx,hcx,hox⟩:=H6.out.2.at1.2 k hlt
   have hcell:Hid (∃ g,al=some ⟨g,0,none⟩∧zJ w6 g k vx):=by
    obtain ⟨g,cap,hv⟩:=zCT (show w6.ownsRow base 28 1 (.slice al T.length cl2) (T.length - 1+1) cl by rw [show T.length - 1+1=T.length by omega];exact H6.out.1)
    simp at hv
    obtain ⟨rfl,_⟩:=hv
    refine ⟨g,rfl,?_⟩
    have:=H6.out.1.cells (g:=g) rfl k _ hcx
    rw [zBP] at this
    exact this
   obtain ⟨gl,rfl,hcl⟩:=hcell.out
   have hx:OnT [3] (fun w=>Sl zAJ 1 w vx T[k]) w6:=hox.mono (fun w h=>by obtain ⟨v,hv,hs⟩:=h;simp at hv;subst hv;exact hs)
   have hTx:=hTT.out _ (List.getElem_mem hlt)
   obtain ⟨ax,cx,rfl,_⟩:=zD hx.now
   have HX:=zF hx
   have HCL:=zF hcl
   have HTX:=zF hTx
   have hskip:Hid (¬ zII b T[k]→LeftTo b T (k+1) A):=fun h=>HL.out.skip hlt h
   have hput:=zF (fun (h:zII b T[k]) j=>HL.out.put (j:=j) hlt h)
   have hahead:=zF (fun j hj=>HL.out.ahead (j:=j) hTn.out hlt hj)
   have hB6:=zF (HB.out.ext (zA HBA.out HB6.out))
   have hbx:=zF (HBOX.out.ext (zA HBA.out HB6.out))
   clear hcell hcl hcx hox hx hTx
   generalize T[k]=x at *
   have k0:∀ xq,(wr.later xq).cell? ⟨w.heap.size,0,none⟩=some vr:=fun xq=>zC (zE wr xq) hbx.out.c0
   have k1:∀ xq,(wr.later xq).cell? ⟨w.heap.size,1,none⟩=some vn:=fun xq=>zC (zE wr xq) hbx.out.c1
   have k2:∀ xq,(wr.later xq).cell? ⟨w.heap.size,2,none⟩=some (.int .i64 b.of):=fun xq=>zC (zE wr xq) hbx.out.c2
   have k3:∀ xq,(wr.later xq).cell? ⟨w.heap.size,3,none⟩=some vm:=fun xq=>zC (zE wr xq) hbx.out.c3
   have k4:∀ xq,(wr.later xq).cell? ⟨w.heap.size,4,none⟩=some vh:=fun xq=>zC (zE wr xq) hbx.out.c4
   have k5:∀ xq,(wr.later xq).cell? ⟨w.heap.size,5,none⟩=some vz:=fun xq=>zC (zE wr xq) hbx.out.c5
   have km:∀ xq,(wr.later xq).cell? ⟨gl,k,none⟩=some (.slice ax x.length cx):=fun xq=>zC (zA HB6.out (zE wr xq)) HCL.out
   go_wp2
   by_cases hl:zII b x
   case neg =>
    have hsk:=zF (hskip.out hl)
    have hleft:=zF (fun W (hb:Below w6.heap.size w6 W) vp vt (hV:ViewAt W vp vt (zBS b x) (zBO b x))=>zAK.no (fun h=>hl ((leftV_view HV.out x).1 h)) (left08 W vr vn vm vh vz vp vt b.of b.ms b.hs b.rs (zBS b x) (zBO b x) (HB.out.ext (zA HBA.out hb)).ms (HB.out.ext (zA HBA.out hb)).hs (HB.out.ext (zA HBA.out hb)).rs hV (zRU HV.out x) hr10 (fun k hk=>zDP HV.out hk)))
    clear hskip hput hahead
    refine zK 10 (by kernel_rfl) (by kernel_rfl) ?_
    simp only [tk_]
    iterate 6 (apply gx_;focus (intro vs xq hd;(try simp [hq_] at hd);simp only [pf_];go_simp;exact ⟨br_,rfl⟩))
    refine zL (fun v w'=>∃ vp vt,v = .agg #[vp,vt]∧ViewAt w' vp vt (zBS b x) (zBO b x)) (fun v w w' hb h=>by obtain ⟨vp,vt,e,h⟩:=h;exact ⟨vp,vt,e,h.ext hb⟩) ?_ ?_
    ·intro vs xq hd
     (try simp [hq_] at hd)
     simp only [pf_]
     go_simp
     refine (zRB (wr.later xq) vr vn vm vh vz (.slice ax x.length cx) b x (hB6.out.ext (zE wr xq)) (HX.out.ext (zA HB6.out (zE wr xq))).now HV.out HTX.out).mono ?_
     rintro e w9 ⟨vp,vt,rfl,hV,hb9⟩
     exact ⟨_,rfl,hb9,vp,vt,rfl,hV.now⟩
    apply gx_;focus (intro vs xq hd;(try simp [hq_] at hd);simp only [pf_];go_simp;exact ⟨br_,rfl⟩)
    refine zAE ⟨.bool false,fun vs xq hd=>?_,?_⟩
    ·(try simp [hq_] at hd)
     obtain ⟨_,⟨vp,vt,e6,hV⟩,_⟩:=hd
     simp only [pf_]
     go_simp
     refine (hleft.out (wr.later xq) (zA HB6.out (zE wr xq)) vp vt hV).mono ?_
     rintro e w9 ⟨rfl,hb9⟩
     exact ⟨rfl,hb9⟩
    apply gx_;focus (intro vs xq hd;(try simp [hq_] at hd);simp only [pf_];go_simp;exact ⟨br_,rfl⟩)
    refine zT rfl (fun vs xq hd=>?_)
    simp [zV,zAD,List.range,List.range.loop] at hd
    simp only [pf_]
    obtain ⟨e0,e1,e2,e3,e4,e5,h6,e7,e8,e9⟩:=hd
    simp only [Nat.zero_add,Nat.reduceAdd] at e0 e1 e2 e3 e4 e5 e7 e8 e9 ⊢
    simp only [e0,e1,e2,e3,e4,e5,e7,e8,e9]
    have hb8:=zF (zE wr xq)
    have km8:=km xq
    clear e0 e1 e2 e3 e4 e5 h6 e7 e8 e9 k0 k1 k2 k3 k4 k5 km
    generalize vs 6=v6 at *
    generalize wr.later xq=w8 at *
    clear hleft
    go_wp2
    go_roundw
    case rel =>
     obtain ⟨cs,ho,hr⟩:=HO.out
     exact ⟨k+1,A,by go_num,by omega,zF ⟨cs,zAA hb8.out ho,hr.keep (zAQ hb8.out)⟩,hsk,zF (zA HB6.out hb8.out)⟩
    case measure=>simp [intOf];omega
   case pos =>
    have hleft:=zF (fun W (hb:Below w6.heap.size w6 W) vp vt (hV:ViewAt W vp vt (zBS b x) (zBO b x))=>zAK.yes ((leftV_view HV.out x).2 hl) (left08 W vr vn vm vh vz vp vt b.of b.ms b.hs b.rs (zBS b x) (zBO b x) (HB.out.ext (zA HBA.out hb)).ms (HB.out.ext (zA HBA.out hb)).hs (HB.out.ext (zA HBA.out hb)).rs hV (zRU HV.out x) hr10 (fun k hk=>zDP HV.out hk)))
    have hput:=zF (hput.out hl)
    clear hskip
    refine zK 10 (by kernel_rfl) (by kernel_rfl) ?_
    simp only [tk_]
    iterate 6 (apply gx_;focus (intro vs xq hd;(try simp [hq_] at hd);simp only [pf_];go_simp;exact ⟨br_,rfl⟩))
    refine zL (fun v w'=>∃ vp vt,v = .agg #[vp,vt]∧ViewAt w' vp vt (zBS b x) (zBO b x)) (fun v w w' hb h=>by obtain ⟨vp,vt,e,h⟩:=h;exact ⟨vp,vt,e,h.ext hb⟩) ?_ ?_
    ·intro vs xq hd
     (try simp [hq_] at hd)
     simp only [pf_]
     go_simp
     refine (zRB (wr.later xq) vr vn vm vh vz (.slice ax x.length cx) b x (hB6.out.ext (zE wr xq)) (HX.out.ext (zA HB6.out (zE wr xq))).now HV.out HTX.out).mono ?_
     rintro e w9 ⟨vp,vt,rfl,hV,hb9⟩
     exact ⟨_,rfl,hb9,vp,vt,rfl,hV.now⟩
    apply gx_;focus (intro vs xq hd;(try simp [hq_] at hd);simp only [pf_];go_simp;exact ⟨br_,rfl⟩)
    refine zAE ⟨.bool true,fun vs xq hd=>?_,?_⟩
    ·(try simp [hq_] at hd)
     obtain ⟨_,⟨vp,vt,e6,hV⟩,_⟩:=hd
     simp only [pf_]
     go_simp
     refine (hleft.out (wr.later xq) (zA HB6.out (zE wr xq)) vp vt hV).mono ?_
     rintro e w9 ⟨rfl,hb9⟩
     exact ⟨rfl,hb9⟩
    apply gx_;focus (intro vs xq hd;(try simp [hq_] at hd);simp only [pf_];go_simp;exact ⟨br_,rfl⟩)
    refine zT rfl (fun vs xq hd=>?_)
    simp [zV,zAD,List.range,List.range.loop] at hd
    simp only [pf_]
    obtain ⟨e0,e1,e2,e3,e4,e5,h6,e7,e8,e9⟩:=hd
    simp only [Nat.zero_add,Nat.reduceAdd] at e0 e1 e2 e3 e4 e5 e7 e8 e9 ⊢
    simp only [e0,e1,e2,e3,e4,e5,e7,e8,e9]
    have hb8:=zF (zE wr xq)
    have km8:=km xq
    clear e0 e1 e2 e3 e4 e5 h6 e7 e8 e9 k0 k1 k2 k3 k4 k5 km
    generalize vs 6=v6 at *
    generalize wr.later xq=w8 at *
    clear hleft
    obtain ⟨cs,ho,hr⟩:=HO.out
    obtain ⟨ao,co,rfl,_⟩:=zD (hr.sl ho zME).now
    have HCS:=zF (And.intro (zAA hb8.out ho) (hr.keep (zAQ hb8.out)))
    have HB8:=zF (zA HB6.out hb8.out)
    clear ho hr
    have hsz8:=HB8.out.size
    generalize wr=wo at *
    go_wp2_with (
     at_builtin
     refine wpList_append_own _ rfl _ _ 56 rfl _ 28 l0 (.slice none 0 0) 1 24 underlying56 hlf lz0 lz1 lz2 rfl (by decide) _ _ _ rfl (HCS.out.1.alloc _) ⟨w8.heap.size,0,none⟩ 1 1 [.slice ax x.length cx] rfl rfl (cell_one_new _ _ _) (by simp [Value.oneCell']) (by unfold maxLen;omega) (by omega) (by simp;omega) ?_
     intro v' w4 hown' hgrow _
     obtain ⟨gg,capg,rfl⟩:=zCT hown')
    have hba:=zB w8 (.cells #[.slice ax x.length cx] 28)
    have hK1:zEK [3] w8 w4:=(zAQ hba).trans (zCE hgrow (HCS.out.1.alloc _) (by decide))
    have hb4:=(zA HB8.out hba).grown hgrow (zA HB8.out hba).size (fun r e=>(HCS.out.1.lt r e).1)
    have hri4:=HCS.out.2.keep hK1
    have hcl:=hri4.at1.1
    have hown4:w4.ownsRow w6.heap.size 28 1 (.slice (some ⟨gg,0,none⟩) (A.length+1) capg) (A.length+1) (cs.take A.length ++ .slice ax x.length cx :: cs.drop A.length):=by
     rw [← hcl,List.take_length,List.drop_length,hcl]
     exact hown'
    have HRI:=zF hri4
    have HOWN4:=zF hown4
    have HB4:=zF hb4
    have hclen:=zF hcl
    clear hba hK1 hgrow hown' HCS hri4 km8 hb8 HO hown4 hb4 hcl hsz8
    go_loopw [8] (fun kk wz=>∃ j:Nat,kk = .int .i64 j∧j≤A.length∧Hid (wz.ownsRow w6.heap.size 28 1 (.slice (some ⟨gg,0,none⟩) (A.length+1) capg) (A.length+1) (cs.take j++(Value.slice ax x.length cx) :: cs.drop j))∧Hid (zDW [3] zFT 1 wz cs A)∧Hid (∀ y∈A.drop j,zIP x y=true)∧Hid (Below w6.heap.size w6 wz)) (fun kk _=>(intOf kk).toNat)
    case atStart=>exact ⟨A.length,rfl,Nat.le_refl _,HOWN4,HRI,zF (by simp [List.drop_length]),HB4⟩
    case round =>
     clear HOWN4 HB4 HRI
     obtain ⟨j,rfl,hj,HOWN,HRI,HALL,HBZ⟩:=hrel
     cases j with
     | zero =>
       go_wp2
       refine zAW (by kernel_rfl) (by kernel_rfl) (no_implicit_lambda% ?_)
       repeat ((with_reducible refine wpQuiet_step (fun K hK=>?_));go_simp;first | ((with_reducible refine hK _ ?_);clear hK K) | (refine hK _ (no_implicit_lambda% ?_);clear hK K) | (apply Exists.intro;(with_reducible refine ⟨fun _=>?_,hK _ ?_⟩);(fail);clear hK K))
       with_reducible refine wpQuiet_nil ?_
       intro _ hw9
       obtain ⟨xq,hw8⟩:=hw9
       subst hw8
       go_wp2
       go_roundw
       case rel =>
        refine ⟨k+1,A.take 0++x :: A.drop 0,by go_num,by omega,zF ⟨cs.take 0++(Value.slice ax x.length cx) :: cs.drop 0,?_,?_⟩,zF (hput.out 0 (by omega) HALL.out (fun y hy=>by simp at hy)),zF (zA HBZ.out (zE wr xq))⟩
        ·have:=zAA (zE wr xq) HOWN.out
         simpa using this
        ·exact (HRI.out.keep (zAQ (zE wr xq))).put 0 (by omega) ((HX.out.ext (zA HBZ.out (zE wr xq))).mono (fun w h=>⟨_,rfl,h⟩))
       case measure=>simp [intOf];omega
     | succ j =>
       have hjl:j < A.length:=by omega
       have hjc:j < cs.length:=by have:=hclen.out;omega
       obtain ⟨vy,hcy,hoy0⟩:=HRI.out.at1.2 j hjl
       have hoy:OnT [3] (fun w=>Sl zAJ 1 w vy A[j]) wr:=hoy0.mono (fun w h=>by obtain ⟨v,hv,hs⟩:=h;simp at hv;subst hv;exact hs)
       have hcy2:cs[j]=vy:=by rw [List.getElem?_eq_getElem hjc] at hcy;simpa using hcy
       have hpa:=put_at (x:=(Value.slice ax x.length cx)) hjc
       rw [hcy2] at hpa
       have hswap:=zRS cs (Value.slice ax x.length cx) j hjc
       rw [hcy2] at hswap
       have e1:=HOWN.out.cells (g:=gg) rfl (j+1) _ hpa.1
       have e0:=HOWN.out.cells (g:=gg) rfl j _ hpa.2
       rw [zBP] at e1 e0
       have q1:=zG (show zJ wr gg (j+1) (Value.slice ax x.length cx) from e1)
       have q0:=zG (show zJ wr gg j vy from e0)
       have hah:=zF (hahead.out j hjl)
       have hdrop:Hid (A.drop j=A[j] :: A.drop (j+1)):=List.drop_eq_getElem_cons hjl
       have hcall:=zF (fun xq=>before03 (wr.later xq) (Value.slice ax x.length cx) vy x A[j] (by exact (HX.out.ext (zA HBZ.out (zE wr xq))).now) (hoy.ext (zE wr xq)).now)
       have HSW:=zF hswap
       have HCY:=zF hcy2
       obtain ⟨ay,cy,hvy,_⟩:=zD hoy.now
       clear hoy hoy0 hcy hcy2 hpa hswap e1 e0
       generalize A[j]=y at *
       subst hvy
       have hi1:(j:Int)+1 < (A.length:Int)+1:=by omega
       have hi2:(j:Int) < (A.length:Int)+1:=by omega
       have hi3:0≤(j:Int)+1:=by omega
       have hi4:((j:Int)+1).toNat=j+1:=by omega
       have hi5:(0:Int) < (j:Int)+1:=by omega
       have hwk:IntKind.i64.wrap (j:Int)=j:=IntWalk.i64_in _ (by omega)
       by_cases hc:zIP x y=true
       ·rw [hc] at hcall
        have HC:=zF hc
        clear hc
        have hcl2:=hcall.out
        go_wp2
        refine zAW (by kernel_rfl) (by kernel_rfl) (no_implicit_lambda% ?_)
        repeat ((with_reducible refine wpQuiet_step (fun K hK=>?_));go_simp;first | ((with_reducible refine hK _ ?_);clear hK K) | (refine hK _ (no_implicit_lambda% ?_);clear hK K) | (apply Exists.intro;(with_reducible refine ⟨fun _=>?_,hK _ ?_⟩);((go_at_call 87;exact Calls.quiet_later (hcl2 _)));clear hK K))
        with_reducible refine wpQuiet_nil ?_
        intro _ hw9
        obtain ⟨xq,hw8⟩:=hw9
        subst hw8
        clear q0 q1 hcl2
        have ho9:=zAA (zE wr xq) HOWN.out
        have hr9:=zF (HRI.out.keep (zAQ (zE wr xq)))
        have hb9:=zF (zA HBZ.out (zE wr xq))
        clear hcall
        generalize wr.later xq=w9 at *
        have hpa:=put_at (x:=(Value.slice ax x.length cx)) hjc
        rw [HCY.out] at hpa
        have e1:=ho9.cells (g:=gg) rfl (j+1) _ hpa.1
        have e0:=ho9.cells (g:=gg) rfl j _ hpa.2
        rw [zBP] at e1 e0
        have f1:=zFE ho9 (j+1)
        have f0:=zFE ho9 j
        have hgl:gg < w9.heap.size:=(ho9.lt gg rfl).2
        have HO9:=zF ho9
        clear ho9 hpa
        go_wp2
        go_roundw
        case rel =>
         obtain ⟨h2,g2⟩:=HO9.out.stored (j+1) (.slice ay y.length cy)
         obtain ⟨h3,g3⟩:=h2.stored j (.slice ax x.length cx)
         have hk2:=zCE (es:=[3]) (v:=.slice (some ⟨gg,0,none⟩) (A.length+1) capg) g2 HO9.out (by decide)
         have hk3:=zCE (es:=[3]) (v:=.slice (some ⟨gg,0,none⟩) (A.length+1) capg) g3 h2 (by decide)
         have hgw:w6.heap.size≤gg:=(HO9.out.lt gg rfl).1
         rw [HSW.out] at h3
         refine ⟨j,rfl,by omega,zF h3,zF (hr9.out.keep (hk2.trans hk3)),zF (fun z hz=>?_),zF (zH hgw (zH hgw hb9.out))⟩
         rw [hdrop.out] at hz
         rcases List.mem_cons.1 hz with rfl | hz
         ·exact HC.out
         ·exact HALL.out z hz
        case measure=>first | (simp [intOf];done) | (simp [intOf];omega)
       ·have hc':zIP x y=false:=by simpa using hc
        rw [hc'] at hcall
        have HC:=zF hc'
        have hah2:=zF (hah.out hc')
        clear hc hc'
        have hcl2:=hcall.out
        go_wp2
        refine zAW (by kernel_rfl) (by kernel_rfl) (no_implicit_lambda% ?_)
        repeat ((with_reducible refine wpQuiet_step (fun K hK=>?_));go_simp;first | ((with_reducible refine hK _ ?_);clear hK K) | (refine hK _ (no_implicit_lambda% ?_);clear hK K) | (apply Exists.intro;(with_reducible refine ⟨fun _=>?_,hK _ ?_⟩);((go_at_call 87;exact Calls.quiet_later (hcl2 _)));clear hK K))
        with_reducible refine wpQuiet_nil ?_
        intro _ hw9
        obtain ⟨xq,hw8⟩:=hw9
        subst hw8
        go_wp2
        go_roundw
        case rel =>
         refine ⟨k+1,A.take (j+1)++x :: A.drop (j+1),by go_num,by omega,zF ⟨cs.take (j+1)++(.slice ax x.length cx) :: cs.drop (j+1),?_,?_⟩,zF (hput.out (j+1) (by omega) HALL.out hah2.out),zF (zA HBZ.out (zE wr xq))⟩
         ·have:=zAA (zE wr xq) HOWN.out
          rw [show (A.take (j+1)++x :: A.drop (j+1)).length=A.length+1 by rw [List.length_append,List.length_cons,List.length_take,List.length_drop];omega]
          exact this
         ·exact (HRI.out.keep (zAQ (zE wr xq))).put (j+1) hj ((HX.out.ext (zA HBZ.out (zE wr xq))).mono (fun w h=>⟨_,rfl,h⟩))
        case measure=>simp [intOf];omega
end Go.Proofs.YtpolpdegpbahiaaGreatDoor
