/- Lemmas. -/
import Derived.Test.YtipaopbmklbmnaaGreatDoorT26
set_option linter.all false
set_option maxRecDepth 100000
set_option maxHeartbeats 0
namespace Go.Proofs.YtipaopbmklbmnaaGreatDoor
section
open Tryz
open Go.RowKit
def rowT (b:Built) (S:List Int) (k:Nat) : List Int:=b.ms.map (zHZ b S k)
def viewT (b:Built) (S:List Int) : List (List Int):=(List.range b.hs.length).map (rowT b S)
theorem sumTo_rowT (b:Built) (S:List Int) (k i:Nat) : sumTo (rowT b S k) i=zCX b S k i:=by
 induction i with
 | zero=>rfl
 | succ i ih =>simp only [sumTo,zCX];rw [ih];congr 1;unfold rowT;rw [List.getD_eq_getElem?_getD,List.getElem?_map];cases b.ms[i]? <;> rfl
theorem zMS {R:List Issue} (hL:zDR R) {d l:Int} (h:zFO R d l) : d∈nums R:=by
 obtain ⟨x,hx,_⟩:=h;obtain ⟨h1,rfl,_⟩:=zIH hx;obtain ⟨k,hk,rfl⟩:=List.getElem_of_mem h1;exact zOE R (fun j hj=>(hL.2.1 j hj).2) k hk
theorem viewT_at (b:Built) (S:List Int) {k:Nat} (hk:k < b.hs.length) : (viewT b S).getD k []=rowT b S k:=by
 unfold viewT;rw [List.getD_eq_getElem?_getD,List.getElem?_map,List.getElem?_range hk];rfl
theorem takeB_is {b:Built} {S:List Int} {m n:Int} {k:Nat} (h:(zZ b S m n).h=k) : zHZ b S k m=(zZ b S m n).c:=by
 obtain ⟨_,hk,hd,_⟩:=heapTo_at h;have e:(b.hs[k]?).elim 0 (·.d)=n:=by rw [List.getElem?_eq_getElem hk];exact hd
 unfold zHZ;rw [e,if_pos h]
theorem oldV_view {b:Built} {S:List Int} {m:Int} (hm:m∈b.ms) (d n:Int) :
  oldV (viewT b S) (zZ b S m d).h (b.ms.idxOf m) n=if (zZ b S m d).h < 0 then 0 else oldC (zCX b S (zZ b S m d).h.toNat (b.ms.idxOf m)) (zZ b S m d).c n:=by
 unfold oldV;have hb:=zIY b S m d;by_cases h0:(zZ b S m d).h < 0
 ·rw [if_pos h0,if_pos h0]
 ·rw [if_neg h0,if_neg h0]
  obtain ⟨k,hk⟩ : ∃ k:Nat,(zZ b S m d).h=k:=⟨(zZ b S m d).h.toNat,by omega⟩;have hk2:(zZ b S m d).h.toNat=k:=by omega
  rw [hk2,viewT_at b S (by omega),sumTo_rowT];congr 1;have hi:=List.idxOf_lt_length_of_mem hm;unfold atD rowT;rw [List.getD_eq_getElem?_getD,List.getElem?_map,List.getElem?_eq_getElem hi,List.getElem_idxOf hi];exact takeB_is hk
end
section
open Tryz
open Go.RowKit Go.Shelf
attribute [local go_sem] zAE Oper.grows Oper.growUpon
structure KindsAt (w:World) : Prop where
 n0:zK w 0 0 (.int .i64 1)
 n1:zK w 0 1 (.int .i64 0)
 k1:zK w 3 2 (.func (.func 264) #[] #[])
 k2:zK w 3 3 (.func (.func 265) #[] #[])
 k3:zK w 3 4 (.func (.func 266) #[] #[])
 k4:zK w 3 5 (.func (.func 267) #[] #[])
 k5:zK w 3 6 (.func (.func 268) #[] #[])
 k6:zK w 3 7 (.func (.func 269) #[] #[])
theorem KindsAt.ext {w w':World} (hb:Below w.heap.size w w') (h:KindsAt w) : KindsAt w' :=
 ⟨zC hb h.n0,zC hb h.n1,zC hb h.k1,zC hb h.k2,zC hb h.k3,zC hb h.k4,zC hb h.k5,zC hb h.k6⟩
def zPT (g:Nat) (C lo hi:Int) : Prop:=Enters prog g/\∀ w:World,Calls prog g #[.int .i64 C] w fun e w'=>e = .returned (.agg #[.int .i64 lo,.int .i64 hi])/\Below w.heap.size w w'
theorem kinds_1 (C:Int) (h0:0<=C) (h1:C<=16777216000000) : zPT 264 C (1) (1125899906842624):=by
 refine ⟨enters_of func264 (by kernel_rfl) rfl,fun w=>?_⟩;have hw:IntKind.i64.wrap (C - 1)=C - 1:=IntWalk.i64_in _ (by omega);go_enter func264,ntmps264;go_wp2;refine bodyPost_ret (v:=.agg #[.int .i64 (1),.int .i64 (1125899906842624)]) (by simp [results,results264,go_sem]) rfl ?_;exact ⟨rfl,by first | exact zB _ _ | exact zI (Nat.le_refl _) (zI (Nat.le_refl _) (zB _ _))⟩
theorem kinds_2 (C:Int) (h0:0<=C) (h1:C<=16777216000000) : zPT 265 C (-1125899906842624) (C - 1):=by
 refine ⟨enters_of func265 (by kernel_rfl) rfl,fun w=>?_⟩;have hw:IntKind.i64.wrap (C - 1)=C - 1:=IntWalk.i64_in _ (by omega);go_enter func265,ntmps265;go_wp2;refine bodyPost_ret (v:=.agg #[.int .i64 (-1125899906842624),.int .i64 (C - 1)]) (by simp [results,results265,go_sem]) rfl ?_;exact ⟨rfl,by first | exact zB _ _ | exact zI (Nat.le_refl _) (zI (Nat.le_refl _) (zB _ _))⟩
theorem kinds_3 (C:Int) (h0:0<=C) (h1:C<=16777216000000) : zPT 266 C (C) (1125899906842624):=by
 refine ⟨enters_of func266 (by kernel_rfl) rfl,fun w=>?_⟩;have hw:IntKind.i64.wrap (C - 1)=C - 1:=IntWalk.i64_in _ (by omega);go_enter func266,ntmps266;go_wp2;refine bodyPost_ret (v:=.agg #[.int .i64 (C),.int .i64 (1125899906842624)]) (by simp [results,results266,go_sem]) rfl ?_;exact ⟨rfl,by first | exact zB _ _ | exact zI (Nat.le_refl _) (zI (Nat.le_refl _) (zB _ _))⟩
theorem kinds_4 (C:Int) (h0:0<=C) (h1:C<=16777216000000) : zPT 267 C (-1125899906842624) (0):=by
 refine ⟨enters_of func267 (by kernel_rfl) rfl,fun w=>?_⟩;have hw:IntKind.i64.wrap (C - 1)=C - 1:=IntWalk.i64_in _ (by omega);go_enter func267,ntmps267;go_wp2;refine bodyPost_ret (v:=.agg #[.int .i64 (-1125899906842624),.int .i64 (0)]) (by simp [results,results267,go_sem]) rfl ?_;exact ⟨rfl,by first | exact zB _ _ | exact zI (Nat.le_refl _) (zI (Nat.le_refl _) (zB _ _))⟩
theorem kinds_5 (C:Int) (h0:0<=C) (h1:C<=16777216000000) : zPT 268 C (-1125899906842624) (0):=by
 refine ⟨enters_of func268 (by kernel_rfl) rfl,fun w=>?_⟩;have hw:IntKind.i64.wrap (C - 1)=C - 1:=IntWalk.i64_in _ (by omega);go_enter func268,ntmps268;go_wp2;refine bodyPost_ret (v:=.agg #[.int .i64 (-1125899906842624),.int .i64 (0)]) (by simp [results,results268,go_sem]) rfl ?_;exact ⟨rfl,by first | exact zB _ _ | exact zI (Nat.le_refl _) (zI (Nat.le_refl _) (zB _ _))⟩
theorem kinds_6 (C:Int) (h0:0<=C) (h1:C<=16777216000000) : zPT 269 C (C) (1125899906842624):=by
 refine ⟨enters_of func269 (by kernel_rfl) rfl,fun w=>?_⟩;have hw:IntKind.i64.wrap (C - 1)=C - 1:=IntWalk.i64_in _ (by omega);go_enter func269,ntmps269;go_wp2;refine bodyPost_ret (v:=.agg #[.int .i64 (C),.int .i64 (1125899906842624)]) (by simp [results,results269,go_sem]) rfl ?_;exact ⟨rfl,by first | exact zB _ _ | exact zI (Nat.le_refl _) (zI (Nat.le_refl _) (zB _ _))⟩
theorem idxI_is {l:List Int} {n:Int} (h:n∈l) : zKD l n=(l.idxOf n:Nat):=by unfold zKD;rw [if_pos h]
theorem allowed_no {x:Has} {bef l k:Int} (h:x.c=0\/¬ ((l=x.l - 1/\0<=x.h)\/l=x.l)) : (k=3->zBG x bef l k=⟨-1125899906842624,1125899906842624⟩)/\(k≠3->zBG x bef l k=⟨1,0⟩) :=
 ⟨fun hk=>by unfold zBG;rw [if_pos h,if_pos hk];rfl,fun hk=>by unfold zBG;rw [if_pos h,if_neg hk];rfl⟩
theorem allowed_nn {x:Has} {bef l k:Int} (h0:x.c≠0) (h1:l=x.l) (h2:x.h < 0) : (k=3->zBG x bef l k=⟨1,0⟩)/\(k≠3->zBG x bef l k=⟨-1125899906842624,1125899906842624⟩):=by
 have hn:¬ (x.c=0\/¬ ((l=x.l - 1/\0<=x.h)\/l=x.l)):=fun h=>h.elim h0 fun h=>h (.inr h1)
 exact ⟨fun hk=>by unfold zBG;rw [if_neg hn,if_pos h2,if_pos hk];rfl,fun hk=>by unfold zBG;rw [if_neg hn,if_pos h2,if_neg hk];rfl⟩
theorem zLO {x:Has} {bef l k:Int} (h0:x.c≠0) (h1:l=x.l - 1) (h2:0<=x.h) : zBG x bef l k=if k=1 then ⟨1+bef,1125899906842624+bef⟩ else if k=2 then ⟨x.c+bef,1125899906842624+bef⟩ else ⟨-1125899906842624+bef,0+bef⟩:=by
 have hn:¬ (x.c=0\/¬ ((l=x.l - 1/\0<=x.h)\/l=x.l)):=fun h=>h.elim h0 fun h=>h (.inl ⟨h1,h2⟩)
 unfold zBG;rw [if_neg hn,if_neg (by omega),if_pos h1];rfl
theorem zLP {x:Has} {bef l k:Int} (h0:x.c≠0) (h1:l=x.l) (h2:0<=x.h) : zBG x bef l k=if k=1 then ⟨-1125899906842624+bef,x.c - 1+bef⟩ else if k=2 then ⟨-1125899906842624+bef,0+bef⟩ else ⟨x.c+bef,1125899906842624+bef⟩:=by
 have hn:¬ (x.c=0\/¬ ((l=x.l - 1/\0<=x.h)\/l=x.l)):=fun h=>h.elim h0 fun h=>h (.inr h1)
 unfold zBG;rw [if_neg hn,if_neg (by omega),if_neg (by omega)];rfl
theorem allowed_site_no (w:World) (p:Nat) (vr vn vm vh vs vz:Value) (b:Built) (S:List Int) (r:Report) (hS:SiteAt w p vr vn vm vh vs vz b S) (hK:KindsAt w) (hv:zF b=0) (hr:zCE b.ns.reg b.ms r) (hI:I64 r.d/\I64 r.l) (hcase:(zZ b S r.m r.d).c=0\/¬ ((r.l=(zZ b S r.m r.d).l - 1/\0<=(zZ b S r.m r.d).h)\/r.l=(zZ b S r.m r.d).l)) :
  Calls prog 155 #[.pointer (some ⟨p,0,none⟩),.agg #[.int .i64 r.num,.int .i64 r.m,.int .i64 r.d,.int .i64 r.l,.int .u8 r.k]] w fun e w' =>
   e = .returned (.tuple #[.agg #[.int .i64 (zBG (zZ b S r.m r.d) (zKL b S r) r.l r.k).lo,.int .i64 (zBG (zZ b S r.m r.d) (zKL b S r) r.l r.k).hi],.int .i64 (zZ b S r.m r.d).h])/\Below w.heap.size w w':=by
 obtain ⟨_,hk3,hmm,hpart⟩:=hr;have hdn:=zMS (zAW (zBJ (zS hv).1).1) hpart;have hi:b.ms.idxOf r.m < b.ms.length:=List.idxOf_lt_length_of_mem hmm;have hmi:b.ms[b.ms.idxOf r.m]? = some r.m:=by rw [List.getElem?_eq_getElem hi,List.getElem_idxOf]
 have hbR:=befR_bd hv S hmm;have hbf:zKL b S r=bfAt b S (b.ms.idxOf r.m) (zZ b S r.m r.d).h:=rfl;have hvis:visF b S (b.ms.idxOf r.m) r.d=some (zQZ (zZ b S r.m r.d).c (zZ b S r.m r.d).l (zZ b S r.m r.d).h (zKL b S r)):=by unfold visF;rw [if_pos hdn,hmi];rfl
 have hidx:=idxI_is hmm;have hc:=zJP hv S r.m r.d;have hlt:=zNN (zS hv).1 S r.m hdn;have hle:(zZ b S r.m r.d).l=zAA S r.m b.ns.notes r.d:=rfl;rw [<- hle] at hlt;have hh4:b.hs.length<=4:=(zS hv).2.2.2.1;have hhb:=zIY b S r.m r.d;generalize zKL b S r=BF at *;generalize hH:zZ b S r.m r.d=H at *;generalize b.ms.idxOf r.m=i at *;obtain ⟨rn,rm,rd,rl,rk⟩:=r;simp only at *;have hb1:=zB w (.cells #[.int .i64 rn,.int .i64 rm,.int .i64 rd,.int .i64 rl,.int .u8 rk] 49);have hb2:=zB (w.alloc (.cells #[.int .i64 rn,.int .i64 rm,.int .i64 rd,.int .i64 rl,.int .u8 rk] 49)) (.cells #[.int .i64 0,.int .i64 0] 40);have hl1:(w.alloc (.cells #[.int .i64 rn,.int .i64 rm,.int .i64 rd,.int .i64 rl,.int .u8 rk] 49)).heap.size=w.heap.size+1:=World.size_alloc _ _;have hrb:=(Lay.new w 49 #[.int .i64 rn,.int .i64 rm,.int .i64 rd,.int .i64 rl,.int .u8 rk]).alloc (.cells #[.int .i64 0,.int .i64 0] 40);have hzb:=Lay.new (w.alloc (.cells #[.int .i64 rn,.int .i64 rm,.int .i64 rd,.int .i64 rl,.int .u8 rk] 49)) 40 #[.int .i64 0,.int .i64 0];rw [hl1] at hzb;have HWA:=zE (zA hb1 hb2);have HS:=zE (hS.ext HWA.out);have HK:=zE (hK.ext HWA.out);have HRB:=zE hrb;have HZB:=zE hzb;clear hS hK hb1 hb2 hl1 hrb hzb hpart hle hmm hbf hH hmi;go_enter func155,ntmps155;go_wp2;generalize (w.alloc _).alloc _=w1 at *;obtain ⟨vhas,hLs,a,cap,rfl,hrow⟩:=HS.out.box;obtain ⟨g,off,mb,n0,rfl,hcm,hM⟩:=hrow i hi;obtain ⟨am,cm,rfl,_⟩:=zD HS.out.at_.ms;have hlook:∀ xq,(Instr.lookup 200 (.map (some mb)) (.int .i64 rd) false).run prog (w1.later xq) = .ok (zQZ H.c H.l H.h BF) (w1.later xq):=fun xq=>by
  have h:=zFS underlying200 (Tryz.zeroValue199 (w1.later xq)) (hM.ext (zG w1 xq)) hI.1;rw [hvis] at h;exact h
 have r1:=zH (show zK w1 w.heap.size 1 _ from HRB.out.cell 1 _ rfl);have r2:=zH (show zK w1 w.heap.size 2 _ from HRB.out.cell 2 _ rfl);have s3:=zH (show zK w1 p 3 _ from hLs.cell 3 _ rfl);have s7:=zH (show zK w1 p 7 _ from hLs.cell 7 _ rfl);have cmm:=zH hcm;have hil:(i:Int) < b.ms.length:=by omega
 have HIX:=zE hidx;unfold zQZ at hlook;refine zM 18 (by kernel_rfl) (by kernel_rfl) ?_;simp only [tk_];iterate 11 (apply gx_;focus (intro vs xq hd;(try simp [hq_] at hd);simp only [pf_];go_simp;exact ⟨br_,rfl⟩))
 refine zT ?_;apply Exists.intro;refine ⟨fun vs xq hd=>?_,?_⟩
 ·(try simp [hq_] at hd)
  simp only [pf_];go_simp;refine (zJX (w1.later xq) _ b.ms rm (zJ zN (zG w1 xq) HS.out.at_.ms)).mono ?_;rintro e w9 ⟨rfl,rfl⟩;exact ⟨by rw [HIX.out],br_⟩
 iterate 5 (apply gx_;focus (intro vs xq hd;(try simp [hq_] at hd);simp only [pf_];go_simp;exact ⟨br_,rfl⟩))
 refine zL (NewBx w1.heap.size #[.int .i64 0,.int .i64 0,.int .i64 0,.int .i64 0] 199) (zFE _ _ _) ?_ ?_
 ·intro vs xq hd
  (try simp [hq_] at hd)
  simp only [pf_];go_simp;exact ⟨zB _ _,_,rfl,(zG w1 xq).size,Lay.new _ _ _⟩
 refine zQ (by simp only [List.length_append,List.length_cons,List.length_nil]) (fun vs xq hd=>?_);simp [zW,zAI,List.range,List.range.loop] at hd;simp only [pf_];obtain ⟨e0,e1,e2,e3,e4,e5,e6,e7,e8,e9,e10,e11,e12,e13,e14,e15,e16,gb,e17,hgb,hLb⟩:=hd;simp only [Nat.zero_add,Nat.reduceAdd] at e0 e1 e2 e3 e4 e5 e6 e7 e8 e9 e10 e11 e12 e13 e14 e15 e16 e17 ⊢;simp only [e0,e1,e2,e3,e4,e5,e6,e7,e8,e9,e10,e11,e12,e13,e14,e15,e16,e17];have hb8:=zG w1 xq;clear e0 e1 e2 e3 e4 e5 e6 e7 e8 e9 e10 e11 e12 e13 e14 e15 e16 e17 r1 r2 s3 s7 cmm hlook;generalize w1.later xq=w8 at *;have q0:=hLb.cell 0 _ rfl;have q1:=hLb.cell 1 _ rfl;have q2:=hLb.cell 2 _ rfl;have q3:=hLb.cell 3 _ rfl;have f0:=hLb.frozen 0;have f1:=hLb.frozen 1;have f2:=hLb.frozen 2;have f3:=hLb.frozen 3;have hl:=hLb.lt;have HB9:=zE (zI (j:=3) (u:=.int .i64 BF) hgb (zI (j:=2) (u:=.int .i64 H.h) hgb (zI (j:=1) (u:=.int .i64 H.l) hgb (zI (j:=0) (u:=.int .i64 H.c) hgb hb8))));have HL9:=zE (zCF (zCF (zCF (zCF hLb 0 (.int .i64 H.c)) 1 (.int .i64 H.l)) 2 (.int .i64 H.h)) 3 (.int .i64 BF));clear hLb hb8;go_step;go_simp;generalize (((w8.setCell _ _).setCell _ _).setCell _ _).setCell _ _=w9 at *;clear q0 q1 q2 q3 f0 f1 f2 f3 hl;have hb10:=zB w9 (.cells #[.int .i64 (-1125899906842624),.int .i64 1125899906842624] 40);have HAB:=zE (Lay.new w9 40 #[.int .i64 (-1125899906842624),.int .i64 1125899906842624]);have HHB:=zE (HL9.out.ext hb10);have HB10:=zE (zA HB9.out hb10);have HRB10:=zE (HRB.out.ext HB10.out);have HZB10:=zE (HZB.out.ext HB10.out);have HK10:=zE (HK.out.ext HB10.out);have HBW:=zE (zA HWA.out HB10.out);clear HK HRB HZB HWA;clear hb10 HL9 HB9 hrow hcm hM hLs HS HIX hvis hidx hil hi hdn hI;go_wp2;generalize w9.alloc _=w10 at *;have q0:=HHB.out.cell 0 _ rfl;have q1:=HHB.out.cell 1 _ rfl;have q2:=HHB.out.cell 2 _ rfl;have q3:=HHB.out.cell 3 _ rfl;have r3:=HRB10.out.cell 3 _ rfl;have r4:=HRB10.out.cell 4 _ rfl;have hwl:IntKind.i64.wrap (H.l - 1)=H.l - 1:=IntWalk.i64_in _ (by omega);have hwl2:wrap64 (H.l - 1)=H.l - 1:=IntWalk.wrap64_in _ (by omega);have z0:=HZB10.out.cell 0 _ rfl;have z1:=HZB10.out.cell 1 _ rfl;have zf0:=HZB10.out.frozen 0;have zf1:=HZB10.out.frozen 1;have zl:=HZB10.out.lt;have a0:=HAB.out.cell 0 _ rfl;have a1:=HAB.out.cell 1 _ rfl;have n0:=HK10.out.n0;have n1:=HK10.out.n1;unfold zK at n0 n1;have hNo:=zE (allowed_no (x:=H) (bef:=BF) (l:=rl) (k:=rk) hcase);have HCASE:=zE hcase;clear hcase hk3;by_cases hA:rl=H.l - 1
 ·have hA':(rl == H.l - 1)=true:=by simpa using hA
  have hB':(rl == H.l)=false:=by simp;omega
  have HA:=zE hA;clear hA;by_cases hh:0<=H.h
  ·have hc0':(H.c == 0)=true:=by
    rcases HCASE.out with h | h
    ·simpa using h
    ·exact absurd (.inl ⟨HA.out,hh⟩) h
   go_region;by_cases hk:rk=3
   ·have hres:=zE (hNo.out.1 hk)
    have hk':(rk == 3)=true:=by simpa using hk
    clear hk;go_wp2;go_region;go_wp2;refine bodyPost_ret (v:=.tuple #[.agg #[.int .i64 (-1125899906842624),.int .i64 1125899906842624],.int .i64 H.h]) (by simp [results,results155,go_sem,z0,z1,zl]) rfl ?_;exact ⟨by rw [hres.out],zA (zI (by omega) (zI (by omega) HBW.out)) (zA (zO _) (zO _))⟩
   ·have hres:=zE (hNo.out.2 hk)
    have hk':(rk == 3)=false:=by simpa using hk
    clear hk;go_wp2;go_region;go_wp2;refine bodyPost_ret (v:=.tuple #[.agg #[.int .i64 1,.int .i64 0],.int .i64 H.h]) (by simp [results,results155,go_sem,z0,z1,zl]) rfl ?_;exact ⟨by rw [hres.out],zA (zI (by omega) (zI (by omega) HBW.out)) (zA (zO _) (zO _))⟩
  ·go_region
   by_cases hc0:H.c=0
   ·have hc0':(H.c == 0)=true:=by simpa using hc0
    clear hc0;by_cases hk:rk=3
    ·have hres:=zE (hNo.out.1 hk)
     have hk':(rk == 3)=true:=by simpa using hk
     clear hk;go_wp2;go_region;go_wp2;refine bodyPost_ret (v:=.tuple #[.agg #[.int .i64 (-1125899906842624),.int .i64 1125899906842624],.int .i64 H.h]) (by simp [results,results155,go_sem,z0,z1,zl]) rfl ?_;exact ⟨by rw [hres.out],zA (zI (by omega) (zI (by omega) HBW.out)) (zA (zO _) (zO _))⟩
    ·have hres:=zE (hNo.out.2 hk)
     have hk':(rk == 3)=false:=by simpa using hk
     clear hk;go_wp2;go_region;go_wp2;refine bodyPost_ret (v:=.tuple #[.agg #[.int .i64 1,.int .i64 0],.int .i64 H.h]) (by simp [results,results155,go_sem,z0,z1,zl]) rfl ?_;exact ⟨by rw [hres.out],zA (zI (by omega) (zI (by omega) HBW.out)) (zA (zO _) (zO _))⟩
   ·have hc0':(H.c == 0)=false:=by simpa using hc0
    clear hc0;by_cases hk:rk=3
    ·have hres:=zE (hNo.out.1 hk)
     have hk':(rk == 3)=true:=by simpa using hk
     clear hk;go_wp2;go_region;go_wp2;refine bodyPost_ret (v:=.tuple #[.agg #[.int .i64 (-1125899906842624),.int .i64 1125899906842624],.int .i64 H.h]) (by simp [results,results155,go_sem,z0,z1,zl]) rfl ?_;exact ⟨by rw [hres.out],zA (zI (by omega) (zI (by omega) HBW.out)) (zA (zO _) (zO _))⟩
    ·have hres:=zE (hNo.out.2 hk)
     have hk':(rk == 3)=false:=by simpa using hk
     clear hk;go_wp2;go_region;go_wp2;refine bodyPost_ret (v:=.tuple #[.agg #[.int .i64 1,.int .i64 0],.int .i64 H.h]) (by simp [results,results155,go_sem,z0,z1,zl]) rfl ?_;exact ⟨by rw [hres.out],zA (zI (by omega) (zI (by omega) HBW.out)) (zA (zO _) (zO _))⟩
 ·have hA':(rl == H.l - 1)=false:=by simpa using hA
  clear hA;by_cases hB:rl=H.l
  ·have hB':(rl == H.l)=true:=by simpa using hB
   have hc0':(H.c == 0)=true:=by
    rcases HCASE.out with h | h
    ·simpa using h
    ·exact absurd (.inr hB) h
   clear hB;go_region;by_cases hk:rk=3
   ·have hres:=zE (hNo.out.1 hk)
    have hk':(rk == 3)=true:=by simpa using hk
    clear hk;go_wp2;go_region;go_wp2;refine bodyPost_ret (v:=.tuple #[.agg #[.int .i64 (-1125899906842624),.int .i64 1125899906842624],.int .i64 H.h]) (by simp [results,results155,go_sem,z0,z1,zl]) rfl ?_;exact ⟨by rw [hres.out],zA (zI (by omega) (zI (by omega) HBW.out)) (zA (zO _) (zO _))⟩
   ·have hres:=zE (hNo.out.2 hk)
    have hk':(rk == 3)=false:=by simpa using hk
    clear hk;go_wp2;go_region;go_wp2;refine bodyPost_ret (v:=.tuple #[.agg #[.int .i64 1,.int .i64 0],.int .i64 H.h]) (by simp [results,results155,go_sem,z0,z1,zl]) rfl ?_;exact ⟨by rw [hres.out],zA (zI (by omega) (zI (by omega) HBW.out)) (zA (zO _) (zO _))⟩
  ·have hB':(rl == H.l)=false:=by simpa using hB
   clear hB;go_region;by_cases hc0:H.c=0
   ·have hc0':(H.c == 0)=true:=by simpa using hc0
    clear hc0;by_cases hk:rk=3
    ·have hres:=zE (hNo.out.1 hk)
     have hk':(rk == 3)=true:=by simpa using hk
     clear hk;go_wp2;go_region;go_wp2;refine bodyPost_ret (v:=.tuple #[.agg #[.int .i64 (-1125899906842624),.int .i64 1125899906842624],.int .i64 H.h]) (by simp [results,results155,go_sem,z0,z1,zl]) rfl ?_;exact ⟨by rw [hres.out],zA (zI (by omega) (zI (by omega) HBW.out)) (zA (zO _) (zO _))⟩
    ·have hres:=zE (hNo.out.2 hk)
     have hk':(rk == 3)=false:=by simpa using hk
     clear hk;go_wp2;go_region;go_wp2;refine bodyPost_ret (v:=.tuple #[.agg #[.int .i64 1,.int .i64 0],.int .i64 H.h]) (by simp [results,results155,go_sem,z0,z1,zl]) rfl ?_;exact ⟨by rw [hres.out],zA (zI (by omega) (zI (by omega) HBW.out)) (zA (zO _) (zO _))⟩
   ·have hc0':(H.c == 0)=false:=by simpa using hc0
    clear hc0;by_cases hk:rk=3
    ·have hres:=zE (hNo.out.1 hk)
     have hk':(rk == 3)=true:=by simpa using hk
     clear hk;go_wp2;go_region;go_wp2;refine bodyPost_ret (v:=.tuple #[.agg #[.int .i64 (-1125899906842624),.int .i64 1125899906842624],.int .i64 H.h]) (by simp [results,results155,go_sem,z0,z1,zl]) rfl ?_;exact ⟨by rw [hres.out],zA (zI (by omega) (zI (by omega) HBW.out)) (zA (zO _) (zO _))⟩
    ·have hres:=zE (hNo.out.2 hk)
     have hk':(rk == 3)=false:=by simpa using hk
     clear hk;go_wp2;go_region;go_wp2;refine bodyPost_ret (v:=.tuple #[.agg #[.int .i64 1,.int .i64 0],.int .i64 H.h]) (by simp [results,results155,go_sem,z0,z1,zl]) rfl ?_;exact ⟨by rw [hres.out],zA (zI (by omega) (zI (by omega) HBW.out)) (zA (zO _) (zO _))⟩
end
section
open Tryz
open Go.RowKit
def Tables (w:World) : Prop:=Looks w/\zHN w/\KindsAt w
theorem tables_ever {w:World} (h:Tables w) : Ever Tables w:=fun _ hb=>⟨h.1.ext hb,h.2.1.ext hb,h.2.2.ext hb⟩
end
end Go.Proofs.YtipaopbmklbmnaaGreatDoor
