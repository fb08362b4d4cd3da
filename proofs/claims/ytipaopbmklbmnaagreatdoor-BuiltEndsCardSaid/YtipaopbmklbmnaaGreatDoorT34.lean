/- Lemmas. -/
import Derived.Test.YtipaopbmklbmnaaGreatDoorT27
set_option linter.all false
set_option maxRecDepth 100000
set_option maxHeartbeats 0
namespace Go.Proofs.YtipaopbmklbmnaaGreatDoor
section
open Tryz
open Go.RowKit Go.Shelf
attribute [local go_sem] zAE Oper.grows Oper.growUpon
theorem kinds_new {x:Has} (hc:0<=x.c/\x.c<=16777216000000) (kk:Nat) (hk:kk=1\/kk=2\/kk=3) (bef:Int) : ∃ (fn:Nat) (LO HI:Int),zPT fn x.c LO HI/\(∀ W,KindsAt W->zK W 3 (kk*2+1) (.func (.func fn) #[] #[])) /\
  ((-1125899906842624<=LO/\LO<=1125899906842624) /\ -1125899906842624<=HI/\HI<=1125899906842624)/\(x.c≠0->0<=x.h->zBG x bef x.l kk=⟨LO+bef,HI+bef⟩):=by
 rcases hk with rfl | rfl | rfl
 ·exact ⟨_,_,_,kinds_2 x.c hc.1 hc.2,fun W h=>h.k2,by omega,fun h0 h2=>by have:=zLP (bef:=bef) (k:=1) h0 rfl h2;simpa using this⟩
 ·exact ⟨_,_,_,kinds_4 x.c hc.1 hc.2,fun W h=>h.k4,by omega,fun h0 h2=>by have:=zLP (bef:=bef) (k:=2) h0 rfl h2;simpa using this⟩
 ·exact ⟨_,_,_,kinds_6 x.c hc.1 hc.2,fun W h=>h.k6,by omega,fun h0 h2=>by have:=zLP (bef:=bef) (k:=3) h0 rfl h2;simpa using this⟩
theorem kinds_old {x:Has} (hc:0<=x.c/\x.c<=16777216000000) (kk:Nat) (hk:kk=1\/kk=2\/kk=3) (bef:Int) : ∃ (fn:Nat) (LO HI:Int),zPT fn x.c LO HI/\(∀ W,KindsAt W->zK W 3 (kk*2) (.func (.func fn) #[] #[])) /\
  ((-1125899906842624<=LO/\LO<=1125899906842624) /\ -1125899906842624<=HI/\HI<=1125899906842624)/\(x.c≠0->0<=x.h->zBG x bef (x.l - 1) kk=⟨LO+bef,HI+bef⟩):=by
 rcases hk with rfl | rfl | rfl
 ·exact ⟨_,_,_,kinds_1 x.c hc.1 hc.2,fun W h=>h.k1,by omega,fun h0 h2=>by have:=zLO (bef:=bef) (k:=1) h0 rfl h2;simpa using this⟩
 ·exact ⟨_,_,_,kinds_3 x.c hc.1 hc.2,fun W h=>h.k3,by omega,fun h0 h2=>by have:=zLO (bef:=bef) (k:=2) h0 rfl h2;simpa using this⟩
 ·exact ⟨_,_,_,kinds_5 x.c hc.1 hc.2,fun W h=>h.k5,by omega,fun h0 h2=>by have:=zLO (bef:=bef) (k:=3) h0 rfl h2;simpa using this⟩
theorem allowed_site (w:World) (p:Nat) (vr vn vm vh vs vz:Value) (b:Built) (S:List Int) (r:Report) (hS:SiteAt w p vr vn vm vh vs vz b S) (hK:KindsAt w) (hv:zF b=0) (hr:zCE b.ns.reg b.ms r) (hI:I64 r.d/\I64 r.l) :
  Calls prog 155 #[.pointer (some ⟨p,0,none⟩),.agg #[.int .i64 r.num,.int .i64 r.m,.int .i64 r.d,.int .i64 r.l,.int .u8 r.k]] w fun e w' =>
   e = .returned (.tuple #[.agg #[.int .i64 (zBG (zZ b S r.m r.d) (zKL b S r) r.l r.k).lo,.int .i64 (zBG (zZ b S r.m r.d) (zKL b S r) r.l r.k).hi],.int .i64 (zZ b S r.m r.d).h])/\Below w.heap.size w w':=by
 by_cases h1:(zZ b S r.m r.d).c=0\/¬ ((r.l=(zZ b S r.m r.d).l - 1/\0<=(zZ b S r.m r.d).h)\/r.l=(zZ b S r.m r.d).l)
 case pos=>exact allowed_site_no w p vr vn vm vh vs vz b S r hS hK hv hr hI h1
 have hc0:(zZ b S r.m r.d).c≠0:=fun h=>h1 (.inl h)
 have hcase:(Hid (r.l=(zZ b S r.m r.d).l)/\(zZ b S r.m r.d).h < 0)\/(Hid (r.l=(zZ b S r.m r.d).l)/\0<=(zZ b S r.m r.d).h)\/(Hid (r.l=(zZ b S r.m r.d).l - 1)/\0<=(zZ b S r.m r.d).h):=by
  by_cases h2:r.l=(zZ b S r.m r.d).l
  ·by_cases h3:0<=(zZ b S r.m r.d).h
   ·exact .inr (.inl ⟨zE h2,h3⟩)
   ·exact .inl ⟨zE h2,by omega⟩
  ·have h3:r.l=(zZ b S r.m r.d).l - 1/\0<=(zZ b S r.m r.d).h:=Classical.byContradiction fun hh=>h1 (.inr (fun h=>h.elim hh h2))
   exact .inr (.inr ⟨zE h3.1,h3.2⟩)
 clear h1;rcases hcase with ⟨hl,hh⟩ | ⟨hl,hh⟩ | ⟨hl,hh⟩
 all_goals
  obtain ⟨_,hk3,hmm,hpart⟩:=hr;have hdn:=zMS (zAW (zBJ (zS hv).1).1) hpart;have hi:b.ms.idxOf r.m < b.ms.length:=List.idxOf_lt_length_of_mem hmm;have hmi:b.ms[b.ms.idxOf r.m]? = some r.m:=by rw [List.getElem?_eq_getElem hi,List.getElem_idxOf]
  have hbR:=befR_bd hv S hmm;have hbf:zKL b S r=bfAt b S (b.ms.idxOf r.m) (zZ b S r.m r.d).h:=rfl;have hvis:visF b S (b.ms.idxOf r.m) r.d=some (zQZ (zZ b S r.m r.d).c (zZ b S r.m r.d).l (zZ b S r.m r.d).h (zKL b S r)):=by unfold visF;rw [if_pos hdn,hmi];rfl
  have hidx:=idxI_is hmm;have hc:=zJP hv S r.m r.d;have hlt:=zNN (zS hv).1 S r.m hdn;have hle:(zZ b S r.m r.d).l=zAA S r.m b.ns.notes r.d:=rfl;rw [<- hle] at hlt;have hh4:b.hs.length<=4:=(zS hv).2.2.2.1;have hhb:=zIY b S r.m r.d;generalize zKL b S r=BF at *;generalize hH:zZ b S r.m r.d=H at *;generalize b.ms.idxOf r.m=i at *;obtain ⟨rn,rm,rd,rl,rk⟩:=r;simp only at *;have hb1:=zB w (.cells #[.int .i64 rn,.int .i64 rm,.int .i64 rd,.int .i64 rl,.int .u8 rk] 49);have hb2:=zB (w.alloc (.cells #[.int .i64 rn,.int .i64 rm,.int .i64 rd,.int .i64 rl,.int .u8 rk] 49)) (.cells #[.int .i64 0,.int .i64 0] 40);have hl1:(w.alloc (.cells #[.int .i64 rn,.int .i64 rm,.int .i64 rd,.int .i64 rl,.int .u8 rk] 49)).heap.size=w.heap.size+1:=World.size_alloc _ _;have hrb:=(Lay.new w 49 #[.int .i64 rn,.int .i64 rm,.int .i64 rd,.int .i64 rl,.int .u8 rk]).alloc (.cells #[.int .i64 0,.int .i64 0] 40);have hzb:=Lay.new (w.alloc (.cells #[.int .i64 rn,.int .i64 rm,.int .i64 rd,.int .i64 rl,.int .u8 rk] 49)) 40 #[.int .i64 0,.int .i64 0];rw [hl1] at hzb;have HWA:=zE (zA hb1 hb2);have HS:=zE (hS.ext HWA.out);have HK:=zE (hK.ext HWA.out);have HRB:=zE hrb;have HZB:=zE hzb;clear hS hK hb1 hb2 hl1 hrb hzb hpart hle hmm hbf hH hmi;go_enter func155,ntmps155;go_wp2;generalize (w.alloc _).alloc _=w1 at *;obtain ⟨vhas,hLs,a,cap,rfl,hrow⟩:=HS.out.box;obtain ⟨g,off,mb,n0,rfl,hcm,hM⟩:=hrow i hi;obtain ⟨am,cm,rfl,_⟩:=zD HS.out.at_.ms;have hlook:∀ xq,(Instr.lookup 200 (.map (some mb)) (.int .i64 rd) false).run prog (w1.later xq) = .ok (zQZ H.c H.l H.h BF) (w1.later xq):=fun xq=>by
   have h:=zFS underlying200 (Tryz.zeroValue199 (w1.later xq)) (hM.ext (zG w1 xq)) hI.1;rw [hvis] at h;exact h
  have r1:=zH (show zK w1 w.heap.size 1 _ from HRB.out.cell 1 _ rfl);have r2:=zH (show zK w1 w.heap.size 2 _ from HRB.out.cell 2 _ rfl);have s3:=zH (show zK w1 p 3 _ from hLs.cell 3 _ rfl);have s7:=zH (show zK w1 p 7 _ from hLs.cell 7 _ rfl);have cmm:=zH hcm;have hil:(i:Int) < b.ms.length:=by omega
  have HIX:=zE hidx;unfold zQZ at hlook;refine zM 18 (by kernel_rfl) (by kernel_rfl) ?_;simp only [tk_];iterate 11 (apply gx_;focus (intro vs xq hd;(try simp [hq_] at hd);simp only [pf_];go_simp;exact ⟨br_,rfl⟩))
  refine zT ?_;apply Exists.intro;refine ⟨fun vs xq hd=>?_,?_⟩
  ·(try simp [hq_] at hd)
   simp only [pf_];go_simp;refine (zJX (w1.later xq) _ b.ms rm (zJ zN (zG w1 xq) HS.out.at_.ms)).mono ?_;rintro e w9 ⟨rfl,rfl⟩;exact ⟨by rw [HIX.out],br_⟩
  iterate 5 (apply gx_;focus (intro vs xq hd;(try simp [hq_] at hd);simp only [pf_];go_simp;exact ⟨br_,rfl⟩))
  refine zL (NewBx w1.heap.size #[.int .i64 0,.int .i64 0,.int .i64 0,.int .i64 0] 199) (zFE _ _ _) ?_ ?_
  ·intro vs xq hd
   (try simp [hq_] at hd)
   simp only [pf_];go_simp;exact ⟨zB _ _,_,rfl,(zG w1 xq).size,Lay.new _ _ _⟩
  refine zQ (by simp only [List.length_append,List.length_cons,List.length_nil]) (fun vs xq hd=>?_);simp [zW,zAI,List.range,List.range.loop] at hd;simp only [pf_];obtain ⟨e0,e1,e2,e3,e4,e5,e6,e7,e8,e9,e10,e11,e12,e13,e14,e15,e16,gb,e17,hgb,hLb⟩:=hd;simp only [Nat.zero_add,Nat.reduceAdd] at e0 e1 e2 e3 e4 e5 e6 e7 e8 e9 e10 e11 e12 e13 e14 e15 e16 e17 ⊢;simp only [e0,e1,e2,e3,e4,e5,e6,e7,e8,e9,e10,e11,e12,e13,e14,e15,e16,e17];have hb8:=zG w1 xq;clear e0 e1 e2 e3 e4 e5 e6 e7 e8 e9 e10 e11 e12 e13 e14 e15 e16 e17 r1 r2 s3 s7 cmm hlook;generalize w1.later xq=w8 at *;have q0:=hLb.cell 0 _ rfl;have q1:=hLb.cell 1 _ rfl;have q2:=hLb.cell 2 _ rfl;have q3:=hLb.cell 3 _ rfl;have f0:=hLb.frozen 0;have f1:=hLb.frozen 1;have f2:=hLb.frozen 2;have f3:=hLb.frozen 3;have hl:=hLb.lt;have HB9:=zE (zI (j:=3) (u:=.int .i64 BF) hgb (zI (j:=2) (u:=.int .i64 H.h) hgb (zI (j:=1) (u:=.int .i64 H.l) hgb (zI (j:=0) (u:=.int .i64 H.c) hgb hb8))));have HL9:=zE (zCF (zCF (zCF (zCF hLb 0 (.int .i64 H.c)) 1 (.int .i64 H.l)) 2 (.int .i64 H.h)) 3 (.int .i64 BF));clear hLb hb8;go_step;go_simp;generalize (((w8.setCell _ _).setCell _ _).setCell _ _).setCell _ _=w9 at *;clear q0 q1 q2 q3 f0 f1 f2 f3 hl;have hb10:=zB w9 (.cells #[.int .i64 (-1125899906842624),.int .i64 1125899906842624] 40);have HAB:=zE (Lay.new w9 40 #[.int .i64 (-1125899906842624),.int .i64 1125899906842624]);have HHB:=zE (HL9.out.ext hb10);have HB10:=zE (zA HB9.out hb10);have HRB10:=zE (HRB.out.ext HB10.out);have HZB10:=zE (HZB.out.ext HB10.out);have HK10:=zE (HK.out.ext HB10.out);have HBW:=zE (zA HWA.out HB10.out);clear HK HRB HZB HWA;clear hb10 HL9 HB9 hrow hcm hM hLs HS HIX hvis hidx hil hi hdn hI;go_wp2;generalize w9.alloc _=w10 at *;have q0:=HHB.out.cell 0 _ rfl;have q1:=HHB.out.cell 1 _ rfl;have q2:=HHB.out.cell 2 _ rfl;have q3:=HHB.out.cell 3 _ rfl;have r3:=HRB10.out.cell 3 _ rfl;have r4:=HRB10.out.cell 4 _ rfl;have hwl:IntKind.i64.wrap (H.l - 1)=H.l - 1:=IntWalk.i64_in _ (by omega);have hwl2:wrap64 (H.l - 1)=H.l - 1:=IntWalk.wrap64_in _ (by omega);have z0:=HZB10.out.cell 0 _ rfl;have z1:=HZB10.out.cell 1 _ rfl;have zf0:=HZB10.out.frozen 0;have zf1:=HZB10.out.frozen 1;have zl:=HZB10.out.lt;have a0:=HAB.out.cell 0 _ rfl;have a1:=HAB.out.cell 1 _ rfl;have n0:=HK10.out.n0;have n1:=HK10.out.n1;unfold zK at n0 n1
 ·have hNo:=zE (allowed_nn (x:=H) (bef:=BF) (l:=rl) (k:=rk) hc0 hl.out hh)
  have hm1:Hid (H.h = -1):=by unfold Hid;omega
  have hA':(rl == H.l - 1)=false:=by have:=hl.out;simp;omega
  have hB':(rl == H.l)=true:=by simpa using hl.out
  have hc0':(H.c == 0)=false:=by simpa using hc0
  clear hc0 hl;go_region;by_cases hk:rk=3
  ·have hres:=zE (hNo.out.1 hk)
   have hk':(rk == 3)=true:=by simpa using hk
   clear hk;go_wp2;refine bodyPost_ret (v:=.tuple #[.agg #[.int .i64 1,.int .i64 0],.int .i64 (-1)]) (by simp [results,results155,go_sem,z0,z1,zl]) rfl ?_;exact ⟨by rw [hres.out,hm1.out],zA (zI (by omega) (zI (by omega) HBW.out)) (zO _)⟩
  ·have hres:=zE (hNo.out.2 hk)
   have hk':(rk == 3)=false:=by simpa using hk
   clear hk;go_wp2;refine bodyPost_ret (v:=.tuple #[.agg #[.int .i64 (-1125899906842624),.int .i64 1125899906842624],.int .i64 (-1)]) (by simp [results,results155,go_sem,z0,z1,zl]) rfl ?_;exact ⟨by rw [hres.out,hm1.out],zA (zI (by omega) (zI (by omega) HBW.out)) (zO _)⟩
 ·obtain ⟨kk,hkk⟩ : ∃ kk:Nat,rk=kk:=⟨rk.toNat,by unfold In at hk3;omega⟩
  subst hkk;have hk123:kk=1\/kk=2\/kk=3:=by unfold In at hk3;omega
  have hk4:(kk:Int) < 4:=by omega
  obtain ⟨fn,LO,HI,hnew,hcell,hbL,hr⟩:=kinds_new hc kk hk123 BF;have hRes:=zE (hr hc0 hh);have hkn:=hcell w10.drew (HK10.out.ext (zO _));have hA':(H.l == H.l - 1)=false:=by simp;omega
  have hc0':(H.c == 0)=false:=by simpa using hc0
  have hl:=hl.out;subst hl;clear hc0 hr hcell hk3;go_region;have egN:=hnew.1;unfold Enters at egN;go_wp2;have HHB1:=zE (HHB.out.ext (zO _));have HRB1:=zE (HRB10.out.ext (zO _));have HZB1:=zE (HZB10.out.ext (zO _));have HK1:=zE (HK10.out.ext (zO _));have HBW1:=zE (zA HBW.out (zO _));clear q0 q1 q2 q3 r3 r4 z0 z1 zf0 zf1 zl a0 a1 n0 n1;generalize w10.drew=w11 at *;have r4:=zH (show zK w11 w.heap.size 4 _ from HRB1.out.cell 4 _ rfl);have q0:=zH (show zK w11 gb 0 _ from HHB1.out.cell 0 _ rfl);have kn:=zH hkn;have HN:=zE hnew.2;refine zM 9 (by kernel_rfl) (by kernel_rfl) ?_;simp only [tk_];iterate 7 (apply gx_;focus (intro vs xq hd;(try simp [hq_] at hd);simp only [pf_];go_simp;exact ⟨br_,rfl⟩))
  refine zT ?_;apply Exists.intro;refine ⟨fun vs xq hd=>?_,?_⟩
  ·(try simp [hq_] at hd)
   simp only [pf_];go_simp;refine (HN.out _).mono ?_;rintro e w9 ⟨rfl,hb9⟩;exact ⟨rfl,hb9⟩
  refine zL (NewBx w11.heap.size #[.int .i64 0,.int .i64 0] 40) (zFE _ _ _) ?_ ?_
  ·intro vs xq hd
   (try simp [hq_] at hd)
   simp only [pf_];go_simp;exact ⟨zB _ _,_,rfl,(zG w11 xq).size,Lay.new _ _ _⟩
  refine zQ (by simp only [List.length_append,List.length_cons,List.length_nil]) (fun vs xq hd=>?_);simp [zW,zAI,List.range,List.range.loop] at hd;simp only [pf_];obtain ⟨e0,e1,e2,e3,e4,e5,e6,e7,gx,e8,hgx,hLx⟩:=hd;simp only [Nat.zero_add,Nat.reduceAdd] at e0 e1 e2 e3 e4 e5 e6 e7 e8 ⊢;simp only [e0,e1,e2,e3,e4,e5,e6,e7,e8];have hb12:=zG w11 xq;clear e0 e1 e2 e3 e4 e5 e6 e7 e8 r4 q0 kn HN;generalize w11.later xq=w12 at *;have x0:=hLx.cell 0 _ rfl;have x1:=hLx.cell 1 _ rfl;have xf0:=hLx.frozen 0;have xf1:=hLx.frozen 1;have xl:=hLx.lt;have HB13:=zE (zI (j:=1) (u:=.int .i64 HI) hgx (zI (j:=0) (u:=.int .i64 LO) hgx hb12));have HX13:=zE (zCF (zCF hLx 0 (.int .i64 LO)) 1 (.int .i64 HI));clear hLx hb12;go_step;go_simp;generalize (w12.setCell _ _).setCell _ _=w13 at *;have HHB2:=zE (HHB1.out.ext HB13.out);have HRB2:=zE (HRB1.out.ext HB13.out);have HZB2:=zE (HZB1.out.ext HB13.out);have HK2:=zE (HK1.out.ext HB13.out);have HBW2:=zE (zA HBW1.out HB13.out);have hgz:w.heap.size<=gx:=by have:=HBW1.out.size;omega
  clear x0 x1 xf0 xf1 xl HB13;have q2:=HHB2.out.cell 2 _ rfl;have q3:=HHB2.out.cell 3 _ rfl;have x0:=HX13.out.cell 0 _ rfl;have x1:=HX13.out.cell 1 _ rfl;have z0:=HZB2.out.cell 0 _ rfl;have z1:=HZB2.out.cell 1 _ rfl;have zf0:=HZB2.out.frozen 0;have zf1:=HZB2.out.frozen 1;have zl:=HZB2.out.lt;have hs1:IntKind.i64.wrap (LO+BF)=LO+BF:=IntWalk.i64_in _ (by omega);have hs2:IntKind.i64.wrap (HI+BF)=HI+BF:=IntWalk.i64_in _ (by omega);have hs3:wrap64 (LO+BF)=LO+BF:=IntWalk.wrap64_in _ (by omega);have hs4:wrap64 (HI+BF)=HI+BF:=IntWalk.wrap64_in _ (by omega);go_wp2;go_region;go_wp2;refine bodyPost_ret (v:=.tuple #[.agg #[.int .i64 (LO+BF),.int .i64 (HI+BF)],.int .i64 H.h]) (by simp [results,results155,go_sem,z0,z1,zl]) rfl ?_;exact ⟨by rw [hRes.out],zA (zI (by omega) (zI (by omega) HBW2.out)) (zO _)⟩
 ·obtain ⟨kk,hkk⟩ : ∃ kk:Nat,rk=kk:=⟨rk.toNat,by unfold In at hk3;omega⟩
  subst hkk;have hk123:kk=1\/kk=2\/kk=3:=by unfold In at hk3;omega
  have hk4:(kk:Int) < 4:=by omega
  obtain ⟨fnN,LON,HIN,hnew,hcellN,_,_⟩:=kinds_new hc kk hk123 BF;obtain ⟨fnO,LO,HI,hold,hcell,hbL,hr⟩:=kinds_old hc kk hk123 BF;have hRes:=zE (hr hc0 hh);have hkn:=hcellN w10.drew (HK10.out.ext (zO _));have hB':(H.l - 1 == H.l)=false:=by simp;omega
  have hc0':(H.c == 0)=false:=by simpa using hc0
  have hl:=hl.out;subst hl;clear hc0 hr hcellN hk3;go_region;have egN:=hnew.1;unfold Enters at egN;go_wp2;have HHB1:=zE (HHB.out.ext (zO _));have HRB1:=zE (HRB10.out.ext (zO _));have HZB1:=zE (HZB10.out.ext (zO _));have HK1:=zE (HK10.out.ext (zO _));have HBW1:=zE (zA HBW.out (zO _));clear q0 q1 q2 q3 r3 r4 z0 z1 zf0 zf1 zl a0 a1 n0 n1;generalize w10.drew=w11 at *;have r4:=zH (show zK w11 w.heap.size 4 _ from HRB1.out.cell 4 _ rfl);have q0:=zH (show zK w11 gb 0 _ from HHB1.out.cell 0 _ rfl);have kn:=zH hkn;have HN:=zE hnew.2;refine zM 9 (by kernel_rfl) (by kernel_rfl) ?_;simp only [tk_];iterate 7 (apply gx_;focus (intro vs xq hd;(try simp [hq_] at hd);simp only [pf_];go_simp;exact ⟨br_,rfl⟩))
  refine zT ?_;apply Exists.intro;refine ⟨fun vs xq hd=>?_,?_⟩
  ·(try simp [hq_] at hd)
   simp only [pf_];go_simp;refine (HN.out _).mono ?_;rintro e w9 ⟨rfl,hb9⟩;exact ⟨rfl,hb9⟩
  refine zL (NewBx w11.heap.size #[.int .i64 0,.int .i64 0] 40) (zFE _ _ _) ?_ ?_
  ·intro vs xq hd
   (try simp [hq_] at hd)
   simp only [pf_];go_simp;exact ⟨zB _ _,_,rfl,(zG w11 xq).size,Lay.new _ _ _⟩
  refine zQ (by simp only [List.length_append,List.length_cons,List.length_nil]) (fun vs xq hd=>?_);simp [zW,zAI,List.range,List.range.loop] at hd;simp only [pf_];obtain ⟨e0,e1,e2,e3,e4,e5,e6,e7,gx,e8,hgx,hLx⟩:=hd;simp only [Nat.zero_add,Nat.reduceAdd] at e0 e1 e2 e3 e4 e5 e6 e7 e8 ⊢;simp only [e0,e1,e2,e3,e4,e5,e6,e7,e8];have hb12:=zG w11 xq;clear e0 e1 e2 e3 e4 e5 e6 e7 e8 r4 q0 kn HN;generalize w11.later xq=w12 at *;have x0:=hLx.cell 0 _ rfl;have x1:=hLx.cell 1 _ rfl;have xf0:=hLx.frozen 0;have xf1:=hLx.frozen 1;have xl:=hLx.lt;have HB13:=zE (zI (j:=1) (u:=.int .i64 HIN) hgx (zI (j:=0) (u:=.int .i64 LON) hgx hb12));have HX13:=zE (zCF (zCF hLx 0 (.int .i64 LON)) 1 (.int .i64 HIN));clear hLx hb12;go_step;go_simp;generalize (w12.setCell _ _).setCell _ _=w13 at *;have HHB2:=zE (HHB1.out.ext HB13.out);have HRB2:=zE (HRB1.out.ext HB13.out);have HZB2:=zE (HZB1.out.ext HB13.out);have HK2:=zE (HK1.out.ext HB13.out);have HBW2:=zE (zA HBW1.out HB13.out);have hgx2:gb < gx/\w.heap.size+1 < gx:=⟨by have:=HHB1.out.lt;omega,by have:=HZB1.out.lt;omega⟩;have hgz:w.heap.size<=gx:=by have:=HBW1.out.size;omega
  clear x0 x1 xf0 xf1 xl HB13;have hko:=hcell w13 HK2.out;clear hcell;have r4:=zH (show zK w13 w.heap.size 4 _ from HRB2.out.cell 4 _ rfl);have q0:=zH (show zK w13 gb 0 _ from HHB2.out.cell 0 _ rfl);have kn:=zH hko;have HN:=zE hold.2;have egO:=hold.1;unfold Enters at egO;go_wp2;refine zM 8 (by kernel_rfl) (by kernel_rfl) ?_;simp only [tk_];iterate 7 (apply gx_;focus (intro vs xq hd;(try simp [hq_] at hd);simp only [pf_];go_simp;exact ⟨br_,rfl⟩))
  refine zT ?_;apply Exists.intro;refine ⟨fun vs xq hd=>?_,?_⟩
  ·(try simp [hq_] at hd)
   simp only [pf_];go_simp;refine (HN.out _).mono ?_;rintro e w9 ⟨rfl,hb9⟩;exact ⟨rfl,hb9⟩
  refine zQ (by simp only [List.length_append,List.length_cons,List.length_nil]) (fun vs xq hd=>?_);simp [zW,zAI,List.range,List.range.loop] at hd;simp only [pf_];obtain ⟨e0,e1,e2,e3,e4,e5,e6,e7⟩:=hd;simp only [Nat.zero_add,Nat.reduceAdd] at e0 e1 e2 e3 e4 e5 e6 e7 ⊢;simp only [e0,e1,e2,e3,e4,e5,e6,e7];have hb14:=zG w13 xq;have hLx:=HX13.out.ext hb14;have HHB3:=zE (HHB2.out.ext hb14);have HZB3:=zE (HZB2.out.ext hb14);have HBW3:=zE (zA HBW2.out hb14);clear e0 e1 e2 e3 e4 e5 e6 e7 r4 q0 kn HN HX13 HHB2 HZB2 HRB2 HK2 HBW2;generalize w13.later xq=w14 at *;have x0:=hLx.cell 0 _ rfl;have x1:=hLx.cell 1 _ rfl;have xf0:=hLx.frozen 0;have xf1:=hLx.frozen 1;have xl:=hLx.lt;have hne1:gb≠gx:=by omega
  have hne2:w.heap.size+1≠gx:=by omega
  have HX13:=zE (zCF (zCF hLx 0 (.int .i64 LO)) 1 (.int .i64 HI));have HHB2:=zE (zFX (zFX HHB3.out hne1 0 (.int .i64 LO)) hne1 1 (.int .i64 HI));have HZB2:=zE (zFX (zFX HZB3.out hne2 0 (.int .i64 LO)) hne2 1 (.int .i64 HI));have HBW2:=zE (zI (j:=1) (u:=.int .i64 HI) hgz (zI (j:=0) (u:=.int .i64 LO) hgz HBW3.out));clear hLx hb14;go_step;go_simp;generalize (w14.setCell _ _).setCell _ _=w15 at *;clear x0 x1 xf0 xf1 xl HHB3 HZB3 HBW3;have q2:=HHB2.out.cell 2 _ rfl;have q3:=HHB2.out.cell 3 _ rfl;have x0:=HX13.out.cell 0 _ rfl;have x1:=HX13.out.cell 1 _ rfl;have z0:=HZB2.out.cell 0 _ rfl;have z1:=HZB2.out.cell 1 _ rfl;have zf0:=HZB2.out.frozen 0;have zf1:=HZB2.out.frozen 1;have zl:=HZB2.out.lt;have hs1:IntKind.i64.wrap (LO+BF)=LO+BF:=IntWalk.i64_in _ (by omega);have hs2:IntKind.i64.wrap (HI+BF)=HI+BF:=IntWalk.i64_in _ (by omega);have hs3:wrap64 (LO+BF)=LO+BF:=IntWalk.wrap64_in _ (by omega);have hs4:wrap64 (HI+BF)=HI+BF:=IntWalk.wrap64_in _ (by omega);go_wp2;go_region;go_wp2;refine bodyPost_ret (v:=.tuple #[.agg #[.int .i64 (LO+BF),.int .i64 (HI+BF)],.int .i64 H.h]) (by simp [results,results155,go_sem,z0,z1,zl]) rfl ?_;exact ⟨by rw [hRes.out],zA (zI (by omega) (zI (by omega) HBW2.out)) (zO _)⟩
end
end Go.Proofs.YtipaopbmklbmnaaGreatDoor
