/- Lemmas. -/
import Derived.Test.YtipaopbmklbmnaaGreatDoorT49
import Derived.Test.YtipaopbmklbmnaaGreatDoorH01
set_option linter.all false
set_option maxRecDepth 100000
set_option maxHeartbeats 0
namespace Go.Proofs.YtipaopbmklbmnaaGreatDoor
section
open Tryz
open Go.RowKit Go.Shelf
attribute [local go_sem] zAE Oper.grows Oper.growUpon readF lastD
attribute [local simp] Oper.waitsOn Region.binds List.filter_cons List.filter_nil zAI zW
def RetT (w:World) (e:Ending) (w':World) : Prop:=e = .returned (.bool true)/\Below w.heap.size w w'
theorem part_num {b:Built} (hv:zF b=0) {d l:Int} (h:zFO b.ns.reg d l) : d∈nums b.ns.reg:=by
 obtain ⟨x,hx,_⟩:=h;obtain ⟨k,hk,rfl,e1,_⟩:=find_at hx;rw [<- e1];exact zOE _ (valid_ord hv) k hk
theorem own_part {b:Built} (hv:zF b=0) {d l:Int} (h:zFO b.ns.reg d l) (S:List Int) (m:Int) : zFO b.ns.reg d (zZ b S m d).l :=
 part_kind (valid_ord hv) h (zNM (zS hv).1 S m d (part_num hv h))
theorem take_no {b:Built} (hv:zF b=0) (S C:List Int) {k i:Nat} (hk:k < b.hs.length) (hi:i < b.ms.length) (hh:(zZ b S b.ms[i] b.hs[k].d).h≠k) :
  zCX b S k (i+1)=zCX b S k i/\zHR b S k (C.getD k 0) (i+1)=zHR b S k (C.getD k 0) i :=
 ⟨by rw [bef_step hk hi,if_neg hh,Int.add_zero],untilTo_no (by rw [last_is hv S C hk hi];simp [hh])⟩
theorem take_yes {b:Built} (hv:zF b=0) {S C:List Int} {k i:Nat} (hk:k < b.hs.length) (hi:i < b.ms.length) (hh:(zZ b S b.ms[i] b.hs[k].d).h=k) :
  zHR b S k (C.getD k 0) (i+1)=if 0 < heldB b S C b.ms[i] b.hs[k].d b.hs[k].l then b.ms[i] else zHR b S k (C.getD k 0) i:=by
 have e:=last_is hv S C hk hi;by_cases h:0 < heldB b S C b.ms[i] b.hs[k].d b.hs[k].l
 ·rw [if_pos h];exact untilTo_yes (by rw [e];simp [hh,h]) hi
 ·rw [if_neg h];exact untilTo_no (by rw [e];simp [h])
theorem pieces_law {w:World} {vr vn vm vh vs:Value} {b:Built} {C:List Int} (hX:Exact b C) {m d l:Int} (hm:m∈b.ms) (hp:zFO b.ns.reg d l) (hA:BuiltArg w vr vn vm vh vs b) (hK:KindsAt w) (hd64:I64 d) :
  Calls prog 22 #[.agg #[vr,vn,.int .i64 b.of,vm,vh,vs],.int .i64 m,.agg #[.int .i64 d,.int .i64 l]] w fun e w'=>e = .returned (.tuple #[.agg #[.int .i64 (heldB b [] C m d l),.int .i64 (heldB b [] C m d l)],.int .i64 0])/\Below w.heap.size w w':=by
 have h:=zKB w vr vn vm vh vs b m d l hA hK hd64;rw [(hX.pieces hm hp).1,(hX.pieces hm hp).2] at h;exact h
theorem law_walk (w:World) (vr vn vm vh vs vl:Value) (b:Built) (x:Int) (by_:List Int) (hB:BuiltAt w vr vn vm vh vs b) (kr:Capd vr b.ns.reg.length) (kn:Capd vn b.ns.notes.length) (kh:Capd vh b.hs.length) (hT:Tables w) (hx:U8 x) (hl:Sl AtU32 1 w vl by_) :
  Calls prog 5 #[.agg #[vr,vn,.int .i64 b.of,vm,vh,vs],.int .u8 x,vl] w (RetT w):=by
 obtain ⟨al,cl,rfl,_⟩:=zD hl;have S:=(Sta.of (((tables_ever hT).and (fun _ k=>zJ stays_u32 k hl)).and (fun _ k=>hB.ext k))).new #[vr,vn,.int .i64 b.of,vm,vh,vs] 32;clear hB hT hl kr kn kh;go_enter func5,ntmps5;go_wp2_with fail;generalize hg0:w.heap.size=g0 at *;generalize w.alloc _=w2 at *;refine (alive_law _ S.now.2.2).mono ?_;rintro e w2 ⟨rfl,h⟩;replace S:=S.ext h;clear h;obtain ⟨l0,⟨q0,q1,q2,q3,q4,q5⟩,-⟩:=(S.get 0 rfl).q6;go_wp2_with fail;clear q0 q1 q2 q3 q4 q5 l0;refine (ready_law _ _ _ _ _ _ b S.now.1).mono ?_;intro e w2 hr;rcases hr.both with ⟨⟨hT,hv⟩,rfl,h⟩ | ⟨_,rfl,h⟩
 case inr =>replace S:=S.ext h;clear hr h;go_wp2;go_ret;exact ⟨rfl,S.held.below⟩
 replace S:=S.ext h;have HV:=zE (And.intro hT hv);clear hr h hT hv;obtain ⟨l0,⟨q0,q1,q2,q3,q4,q5⟩,-⟩:=(S.get 0 rfl).q6;go_wp2_with fail;clear q0 q1 q2 q3 q4 q5 l0;refine (exact_law _ _ _ _ _ _ _ b x by_ S.now.1 S.now.2.2 HV.out.1 HV.out.2 hx S.now.2.1).mono ?_;rintro e w3 ⟨ur,un,um,uh,uc,Z,C,rfl,hA,hc,hC,h⟩;obtain ⟨B,ho,hA,hX⟩ : ∃ B:Built,b.of=B.of/\BuiltArg w3 ur un um uh (.slice none 0 0) B/\Exact B C:=⟨exactB b Z C,rfl,hA,exact_of HV.out.2 hC Z⟩;rw [ho];obtain ⟨ar,cr,rfl,_⟩:=zD hA.at_.reg;obtain ⟨an,cn,rfl,_⟩:=zD hA.at_.notes;obtain ⟨am,cm,rfl,_⟩:=zD hA.at_.ms;obtain ⟨ah,ch,rfl,_⟩:=zD hA.at_.hs;obtain ⟨ac,cc,rfl,_⟩:=zD hc;have hb3:=zA S.held.below h;have S3:=(Sta.of (((tables_ever (tables_ever S.now.2.2 _ h)).and (fun _ k=>zJ zN k hc)).and (fun _ k=>hA.ext k))).new #[.slice ar B.ns.reg.length cr,.slice an B.ns.notes.length cn,.int .i64 B.of,.slice am B.ms.length cm,.slice ah B.hs.length ch,.slice none 0 0] 32;have HB3:=zE (zA hb3 S3.held.below);have HX:=zE hX;have hcl:Hid (C.length=B.hs.length):=hX.len;clear S h hA hc hC hX ho hb3;have HS:=zE S3;have h4:B.hs.length<=4:=(zS HX.out.valid).2.2.2.1;have hm12:B.ms.length<=12:=(zS HX.out.valid).2.2.1;obtain ⟨lx,⟨q0,q1,q2,q3,q4,q5⟩,-⟩:=(S3.get 0 rfl).q6;clear S3;go_wp2;clear q0 q1 q2 q3 q4 q5 lx;generalize w3.heap.size=gx at *;generalize w3.alloc _=w4 at *;go_loopw [48] (fun q wr=>∃ k:Nat,q = .int .i64 k/\k<=B.hs.length/\Hid (Below w4.heap.size w4 wr)) (fun q _=>B.hs.length - (intOf q).toNat)
 case atStart=>exact ⟨0,rfl,by omega,br_⟩
 case round =>
  obtain ⟨k,rfl,hk,HB⟩:=hrel;have S:=HS.out.ext HB.out;by_cases hlt:k < B.hs.length
  case neg =>have HBE:=zE (zA HB3.out HB.out);clear S HB;go_wp2;go_ret;exact ⟨rfl,HBE.out⟩
  case pos =>
   obtain ⟨bh,oh,hbh,⟨c0,c1,c2,c3⟩,h64,-⟩:=(zY S.now.1.at_.hs).2 k hlt;have hpart:=((zS HX.out.valid).2.2.2.2.2.2.1 k hlt hlt).1;have hkC:k < C.length:=by rw [hcl.out];exact hlt
   have eCk:C.getD k 0=C[k]:=by rw [List.getD_eq_getElem?_getD,List.getElem?_eq_getElem hkC];rfl
   obtain ⟨bc,oc,hbc,hcc,-⟩:=(zY S.now.2.1).2 k hkC;rw [<- eCk,Nat.mul_one] at hcc;have hkC2:(k:Int) < C.length:=by omega
   have hck:0<=C.getD k 0/\C.getD k 0<=200:=by have:=zGO HX.out.valid hlt;have:=HX.out.lo k hlt;omega
   have HUN:=zE (HX.out.until hlt);have HYES:=zE (fun i hi hh=>take_yes (S:=[]) (C:=C) (i:=i) HX.out.valid hlt hi hh);have HNO:=zE (fun i hi hh=>take_no (i:=i) HX.out.valid [] C hlt hi hh);have HST:=zE (fun i hi hh=>heap_step (S:=[]) (C:=C) (i:=i) HX.out.valid hlt hi hh hck.1);subst hbh;subst hbc;unfold zK at c0 c1 c2 c3;unfold zEL at HUN;generalize C.getD k 0=ck at *;generalize B.hs[k]=h at *;have S1:=S.new #[.int .i64 h.d,.int .i64 h.l,.int .i64 h.lo,.int .i64 h.hi] 42;have hbh:=zB wr (.cells #[.int .i64 h.d,.int .i64 h.l,.int .i64 h.lo,.int .i64 h.hi] 42);have HB1:=zE (zA HB.out hbh);have HPT:=zE hpart;have HDN:Hid (h.d∈nums B.ns.reg):=part_num HX.out.valid hpart;have HCC:=zE (zC hbh hcc);have H64:=zE h64;have HS1:=zE S1;obtain ⟨lx,⟨q0,q1,q2,q3,q4,q5⟩,-⟩:=(S1.get 1 rfl).q6;clear S S1 HB hpart eCk hcc h64 hbh;go_wp2;clear q0 q1 q2 q3 q4 q5 lx c0 c1 c2 c3;generalize wr.heap.size=gh at *;generalize wr.alloc _=wG at *;go_loopw [13,14,15,56] (fun v13 v14 v15 q wi=>∃ i:Nat,q = .int .i64 i/\i<=B.ms.length/\v13 = .int .i64 (min ck (zCX B [] k i))/\v14 = .int .i64 (zHR B [] k ck i)/\v15 = .bool (decide (ck < zCX B [] k i))/\Hid (Below wG.heap.size wG wi)) (fun _ _ _ q _=>B.ms.length - (intOf q).toNat)
   case atStart=>exact ⟨0,rfl,by omega,by rw [show zCX B [] k 0=0 from rfl,Int.min_eq_right hck.1],rfl,congrArg Value.bool (decide_eq_false (show ¬ ck < zCX B [] k 0 from by show ¬ ck < 0;omega)).symm,br_⟩
   case round =>
    obtain ⟨i,rfl,hi,rfl,rfl,rfl,HB⟩:=hrel;have S:=HS1.out.ext HB.out;by_cases hil:i < B.ms.length
    case pos =>
     obtain ⟨bm,om,rfl,d0,_⟩:=(zY S.now.1.at_.ms).2 i hil;have hmi:=List.getElem_mem hil;have hyes:=HYES.out i hil;have hno:=HNO.out i hil;have hst:=HST.out i hil;have hop:=own_part HX.out.valid HPT.out [] B.ms[i];have hbd:=zJP HX.out.valid [] B.ms[i] h.d;have hnn:=fun l=>held_nn HX.out.valid [] C B.ms[i] h.d l
     have hbf:=(bef_bd HX.out.valid [] k i).1;generalize B.ms[i]=mm at *;rw [Nat.mul_one] at d0;unfold zK at d0;have HMI:=zE (valid_ms HX.out.valid hmi);have HMM:Hid (mm∈B.ms):=hmi;obtain ⟨lx,⟨q0,q1,q2,q3,q4,q5⟩,-⟩:=(S.get 1 rfl).q6;obtain ⟨ly,p0,p1,p2,p3⟩:=(S.get 0 rfl).q4;have HY:=zE hyes;have HN:=zE hno;have HT:=zE hst;have HOP:=zE hop;have HBN:=zE (And.intro hbd (And.intro hnn hbf));clear hyes hno hst hop hmi hbd hnn hbf;go_wp2_with fail;clear q0 q1 q2 q3 q4 q5 lx p0 p1 p2 p3 ly d0;refine (standOf_law _ _ _ _ _ _ _ B [] mm h.d S.now.1 (zCY _ _ _) HX.out.valid ((HX.out.isT []).2 rfl) HMI.out HDN.out).mono ?_;rintro e w7 ⟨rfl,h7⟩;generalize zZ B [] mm h.d=X at *;obtain ⟨xc,xl,xh⟩:=X;simp only at *;replace S:=(S.ext h7).new #[.int .i64 xc,.int .i64 xl,.int .i64 xh] 61;have HB2:=zE (zA (zA HB.out h7) (zB w7 (.cells #[.int .i64 xc,.int .i64 xl,.int .i64 xh] 61)));clear h7 HB;obtain ⟨ly,⟨p0,p1,p2⟩,-⟩:=(S.get 0 rfl).q3;by_cases e1:xh=k
     case neg =>
      have e1':(xh != (k:Int))=true:=by simpa using e1
      obtain ⟨n1,n2⟩:=HN.out e1;have HNN:=zE (And.intro n1 n2);clear n1 n2 S e1;go_wp2;exact ⟨⟨i+1,by go_num,by omega,by rw [HNN.out.1],by rw [HNN.out.2],by rw [HNN.out.1],HB2⟩,by simp [intOf];omega⟩
     case pos =>
      have e1':(xh != (k:Int))=false:=by simpa using e1
      have HE:=zE e1;clear e1;go_upto_region 18 with fail
      generalize w7.heap.size=gs at *;generalize w7.alloc _=wA at *;have hcall1:=fun xq=>pieces_law HX.out HMM.out HPT.out (S.ext (zG wA xq)).now.1 (S.ext (zG wA xq)).now.2.2.2.2 H64.out
      have HCALL2:=zE (fun (wq:World) (hb:Below wA.heap.size wA wq) xq=>pieces_law (w:=wq.later xq) HX.out HMM.out HOP.out ((S.ext hb).ext (zG wq xq)).now.1 ((S.ext hb).ext (zG wq xq)).now.2.2.2.2 H64.out);obtain ⟨s1,s2,s3,s4,s5⟩:=HT.out HE.out;have hy:=HY.out HE.out;obtain ⟨b1,b2,b3⟩:=HBN.out;have b4:=b2 xl;have b5:=b2 h.l;clear b2 HBN HY HT;generalize heldB B [] C mm h.d h.l=n at *;generalize heldB B [] C mm h.d xl=o at *;subst s1;have HSS:=zE (And.intro s2 (And.intro s3 (And.intro s4 (And.intro s5 (And.intro hy (And.intro b1 (And.intro b3 (And.intro b4 b5))))))));clear s2 s3 s4 s5 hy b1 b3 b4 b5;obtain ⟨k0,k1,k2,k3,k4,k5⟩:=(S.get 2 rfl).l6;have c0:=zH (show zK wA gh 0 _ from (S.get 1 rfl).cell 0 _ rfl);have c1:=zH (show zK wA gh 1 _ from (S.get 1 rfl).cell 1 _ rfl);have HSA:=zE S;clear p0 p1 p2 ly S;refine wp_region_growD 12 10 (by kernel_rfl) (by kernel_rfl) rfl rfl (fun v=>v = .int .i64 0) ?_;simp only [List.take_succ_cons,List.take_zero];iterate 6 (apply fx_ 187 (by kernel_rfl) rfl;focus (intro rq vs xq hr hc hf hd;(try simp at hd);go_simp;exact ⟨br_,rfl⟩))
      apply fx_ 187 (by kernel_rfl) rfl;focus (intro rq vs xq hr hc hf hd;(try simp at hd);go_simp;refine (zIM _ _ _).mono ?_;rintro e w9 ⟨rfl,hb9⟩;exact ⟨rfl,hb9⟩)
      apply fx_ 187 (by kernel_rfl) rfl;focus (intro rq vs xq hr hc hf hd;(try simp at hd);go_simp;refine (hcall1 xq).mono ?_;rintro e w9 ⟨rfl,hb9⟩;exact ⟨rfl,hb9⟩)
      iterate 3 (apply fx_ 187 (by kernel_rfl) rfl;focus (intro rq vs xq hr hc hf hd;(try simp at hd);go_simp;exact ⟨br_,rfl⟩))
      refine fs_ 187 (by kernel_rfl) rfl (NewBx wA.heap.size #[.int .i64 0,.int .i64 0] 40) (zFE _ _ _) ?_ ?_
      ·intro rq vs xq hr hc hf hd
       (try simp at hd)
       go_simp;exact ⟨zB _ _,_,rfl,(zG wA xq).size,Lay.new _ _ _⟩
      refine ⟨fun v w h=>h,fun vs w8 w9 hd=>?_,fun vs w8 hb8 hf=>?_⟩
      ·(try simp at hd)
       refine ⟨.int .i64 0,?_,rfl⟩;simp only [zAB,Act.put,List.setIfInBounds_toArray,List.set_cons_succ,List.set_cons_zero];rw [hd];go_simp
      have h9:=hf 9 (by decide) (by decide);have h11:=hf 11 (by decide) (by decide);simp [zAI] at h9 h11;clear hf;obtain ⟨gb,e11,hgb,hLb⟩:=h11;obtain ⟨lb,⟨q0,q1⟩,f0,f1⟩:=hLb.q2;simp only [zAB,Act.put,List.setIfInBounds_toArray,List.set_cons_succ,List.set_cons_zero];rw [h9,e11];go_simp
      (try simp only [List.drop_succ_cons,List.drop_zero])
      have HBW:=zE (zI (j:=1) (u:=.int .i64 n) hgb (zI (j:=0) (u:=.int .i64 n) hgb hb8));have HL9:=zE (zCF (zCF hLb 0 (.int .i64 n)) 1 (.int .i64 n));clear hLb hb8 q0 q1 f0 f1 lb h9 e11 k0 k1 k2 k3 k4 k5 c0 c1 hcall1 hgb;generalize (w8.setCell _ _).setCell _ _=wB at *;have HL:Hid (Lay wB gb #[.int .i64 n,.int .i64 n] 40):=HL9.out;clear HL9;go_upto_region 19 with fail
      have hcall2:=fun xq=>HCALL2.out wB HBW.out xq
      have S:=HSA.out.ext HBW.out;obtain ⟨k0,k1,k2,k3,k4,k5⟩:=(S.get 2 rfl).l6;have c0:=zH (show zK wB gh 0 _ from (S.get 1 rfl).cell 0 _ rfl);have c1:=zH (show zK wB gs 1 _ from (S.get 0 rfl).cell 1 _ rfl);clear HCALL2;refine wp_region_growD 12 10 (by kernel_rfl) (by kernel_rfl) rfl rfl (fun v=>v = .int .i64 0) ?_;simp only [List.take_succ_cons,List.take_zero];iterate 6 (apply fx_ 187 (by kernel_rfl) rfl;focus (intro rq vs xq hr hc hf hd;(try simp at hd);go_simp;exact ⟨br_,rfl⟩))
      apply fx_ 187 (by kernel_rfl) rfl;focus (intro rq vs xq hr hc hf hd;(try simp at hd);go_simp;refine (zIM _ _ _).mono ?_;rintro e w9 ⟨rfl,hb9⟩;exact ⟨rfl,hb9⟩)
      apply fx_ 187 (by kernel_rfl) rfl;focus (intro rq vs xq hr hc hf hd;(try simp at hd);go_simp;refine (hcall2 xq).mono ?_;rintro e w9 ⟨rfl,hb9⟩;exact ⟨rfl,hb9⟩)
      iterate 3 (apply fx_ 187 (by kernel_rfl) rfl;focus (intro rq vs xq hr hc hf hd;(try simp at hd);go_simp;exact ⟨br_,rfl⟩))
      refine fs_ 187 (by kernel_rfl) rfl (NewBx wB.heap.size #[.int .i64 0,.int .i64 0] 40) (zFE _ _ _) ?_ ?_
      ·intro rq vs xq hr hc hf hd
       (try simp at hd)
       go_simp;exact ⟨zB _ _,_,rfl,(zG wB xq).size,Lay.new _ _ _⟩
      refine ⟨fun v w h=>h,fun vs w8 w9 hd=>?_,fun vs w8 hb8 hf=>?_⟩
      ·(try simp at hd)
       refine ⟨.int .i64 0,?_,rfl⟩;simp only [zAB,Act.put,List.setIfInBounds_toArray,List.set_cons_succ,List.set_cons_zero];rw [hd];go_simp
      have h9:=hf 9 (by decide) (by decide);have h11:=hf 11 (by decide) (by decide);simp [zAI] at h9 h11;clear hf;obtain ⟨ge,e11,hgb,hLb⟩:=h11;obtain ⟨lb,⟨q0,q1⟩,f0,f1⟩:=hLb.q2;simp only [zAB,Act.put,List.setIfInBounds_toArray,List.set_cons_succ,List.set_cons_zero];rw [h9,e11];go_simp
      (try simp only [List.drop_succ_cons,List.drop_zero])
      have HBV:=zE (zI (j:=1) (u:=.int .i64 o) hgb (zI (j:=0) (u:=.int .i64 o) hgb hb8));have HL9:=zE (zCF (zCF hLb 0 (.int .i64 o)) 1 (.int .i64 o));clear hLb hb8 q0 q1 f0 f1 lb h9 e11 k0 k1 k2 k3 k4 k5 c0 c1 hcall2 hgb S;generalize (w8.setCell _ _).setCell _ _=wC at *;have HM:Hid (Lay wC ge #[.int .i64 o,.int .i64 o] 40):=HL9.out;obtain ⟨lc,⟨r0,r1⟩,-⟩:=HM.out.q2;obtain ⟨lb,⟨q0,q1⟩,-⟩:=(HL.out.ext HBV.out).q2;obtain ⟨ly,⟨p0,p1,p2⟩,-⟩:=((HSA.out.ext HBW.out).ext HBV.out |>.get 0 rfl).q3;have HB3':=zE (zA HB2.out (zA HBW.out HBV.out));clear HL9 HM HL HSA HBW HBV HB2;obtain ⟨s2,s3,s4,s5,hy,b1,b3,b4,b5⟩:=HSS.out;have v0:0<=min ck (zCX B [] k i)/\min ck (zCX B [] k i)<=200:=by omega
      obtain ⟨v1,v2⟩:=wrap2 (n+o) (by omega);obtain ⟨v3,v4⟩:=wrap2 (min ck (zCX B [] k i)+n) (by omega);have HSS2:=zE (And.intro s3 (And.intro s4 (And.intro s5 hy)));clear s2 s3 s4 s5 hy b1 b3 b4 b5 HSS;by_cases a1:ck < zCX B [] k i
      ·have a3:¬ (n > 0):=fun h=>HSS2.out.1 ⟨a1,h⟩
       rw [decide_eq_true a1];have HA1:=zE a1;clear a1;generalize min ck (zCX B [] k i)=sm at *;go_wp2;exact ⟨⟨i+1,by go_num,by omega,by rw [<- HSS2.out.2.2.1],by rw [HSS2.out.2.2.2,if_neg a3],congrArg Value.bool (decide_eq_true (HSS2.out.2.1.2 (.inl HA1.out))).symm,HB3'⟩,by simp [intOf];omega⟩
      ·rw [decide_eq_false a1]
       have HA1:=zE a1;clear a1;generalize min ck (zCX B [] k i)=sm at *;by_cases a3:n > 0
       ·go_wp2;exact ⟨⟨i+1,by go_num,by omega,by rw [<- HSS2.out.2.2.1],by rw [HSS2.out.2.2.2,if_pos a3],congrArg Value.bool (decide_eq_decide.2 (by rw [HSS2.out.2.1];have:=HA1.out;omega)),HB3'⟩,by simp [intOf];omega⟩
       ·go_wp2;exact ⟨⟨i+1,by go_num,by omega,by rw [<- HSS2.out.2.2.1],by rw [HSS2.out.2.2.2,if_neg a3],congrArg Value.bool (decide_eq_decide.2 (by rw [HSS2.out.2.1];have:=HA1.out;omega)),HB3'⟩,by simp [intOf];omega⟩
    case neg =>
     obtain rfl:i=B.ms.length:=by omega
     obtain ⟨hu1,hu2⟩:=HUN.out;obtain ⟨lx,⟨q0,q1,q2,q3,q4,q5⟩,-⟩:=(S.get 1 rfl).q6;have HU:=zE (And.intro hu1 hu2);clear hu1 hu2 HYES HNO HST HUN;go_wp2_with fail;clear q0 q1 q2 q3 q4 q5 lx;refine (until_built _ _ _ _ _ _ B k S.now.1 S.now.2.2.2.2 (by unfold I64;omega)).mono ?_;rintro e w7 ⟨rfl,h7⟩;rw [HU.out.1,HU.out.2];simp only;have v0:min ck (zCX B [] k B.ms.length)<=ck:=Int.min_le_left _ _;have v1:ck < zCX B [] k B.ms.length->min ck (zCX B [] k B.ms.length)=ck:=fun h=>Int.min_eq_left (Int.le_of_lt h)
     generalize zHR B [] k ck B.ms.length=lv at *;generalize min ck (zCX B [] k B.ms.length)=sm at *;generalize zCX B [] k B.ms.length=fv at *;have S2:=(S.ext h7).new #[.int .i64 lv,.int .i64 lv] 40;have HB2:=zE (zA (zA HB.out h7) (zB w7 (.cells #[.int .i64 lv,.int .i64 lv] 40)));have hcc:=zH (zC HB2.out HCC.out);have k0:=zH (show zK _ _ 0 (.int .i64 lv) from (S2.get 0 rfl).cell 0 _ rfl);have k1:=zH (show zK _ _ 1 (.int .i64 lv) from (S2.get 0 rfl).cell 1 _ rfl);have HBF:=zE (zA HB1.out HB2.out);have t1:¬ (sm > ck):=by omega
     have HV1:=zE v1;obtain ⟨lu,⟨p0,p1⟩,-⟩:=(S2.get 0 rfl).q2;clear h7 HB S S2 HU HB2 HCC v0 v1;go_upto_region 28 with fail
     clear p0 p1 lu;generalize w7.heap.size=gu at *;generalize w7.alloc _=wU at *;by_cases a1:ck < fv
     ·have t2:¬ (sm < ck):=by have:=HV1.out a1;omega
      rw [decide_eq_true a1];clear a1;refine zAR (by kernel_rfl) (by kernel_rfl) (no_implicit_lambda% ?_);repeat ((with_reducible refine wpQuiet_step (fun K hK=>?_));go_simp;first | ((with_reducible refine hK _ ?_);clear hK K) | (refine hK _ (no_implicit_lambda% ?_);clear hK K) | (apply Exists.intro;(with_reducible refine ⟨fun _=>?_,hK _ ?_⟩);((go_at_call 29;exact Calls.quiet_later (zHQ _ _ _)));clear hK K))
      with_reducible refine wpQuiet_nil ?_
      intro _ hw9;obtain ⟨xq,hw8⟩:=hw9;subst hw8;have HBX:=zE (zA HBF.out (zG wU xq));clear k0 k1 hcc HBF;generalize wU.later xq=wz at *;go_wp2;exact ⟨⟨k+1,by go_num,by omega,HBX⟩,by simp [intOf];omega⟩
     ·rw [decide_eq_false a1]
      clear a1;refine zAR (by kernel_rfl) (by kernel_rfl) (no_implicit_lambda% ?_);repeat ((with_reducible refine wpQuiet_step (fun K hK=>?_));go_simp;first | ((with_reducible refine hK _ ?_);clear hK K) | (refine hK _ (no_implicit_lambda% ?_);clear hK K) | (apply Exists.intro;(with_reducible refine ⟨fun _=>?_,hK _ ?_⟩);((go_at_call 29;exact Calls.quiet_later (zHQ _ _ _)));clear hK K))
      with_reducible refine wpQuiet_nil ?_
      intro _ hw9;obtain ⟨xq,hw8⟩:=hw9;subst hw8;have HBX:=zE (zA HBF.out (zG wU xq));clear k0 k1 hcc HBF;generalize wU.later xq=wz at *;go_wp2;exact ⟨⟨k+1,by go_num,by omega,HBX⟩,by simp [intOf];omega⟩
end
end Go.Proofs.YtipaopbmklbmnaaGreatDoor
