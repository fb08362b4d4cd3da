/- Lemmas. -/
import Derived.Test.YtipaopbmklbmnaaGreatDoorT05
set_option linter.all false
set_option maxRecDepth 100000
set_option maxHeartbeats 0
namespace Go.Proofs.YtipaopbmklbmnaaGreatDoor
section
open Go.RowKit
theorem sameIssue02 (w:World) (x:Issue) (vi vi' vd vd':Value) (hi:Sl zBV 2 w vi x.items) (hi':Sl zBV 2 w vi' x.items) (hd:Sl zGJ 3 w vd x.dims) (hd':Sl zGJ 3 w vd' x.dims) :
  Calls Tryz.prog 174 #[.agg #[.int .i64 x.d,.int .i64 x.l,.int .u8 x.k,vi,vd],.agg #[.int .i64 x.d,.int .i64 x.l,.int .u8 x.k,vi',vd']] w fun e w'=>e = .returned (.bool true)/\Below w.heap.size w w':=by
 have hb1:=zA (zB w (.cells #[.int .i64 x.d,.int .i64 x.l,.int .u8 x.k,vi,vd] 118)) (zB _ (.cells #[.int .i64 x.d,.int .i64 x.l,.int .u8 x.k,vi',vd'] 118));have c3:=new_cell2 w (.cells #[.int .i64 x.d,.int .i64 x.l,.int .u8 x.k,vi,vd] 118) (.cells #[.int .i64 x.d,.int .i64 x.l,.int .u8 x.k,vi',vd'] 118) _ 3 vi (zR w _ _ 3 vi rfl);have c4:=new_cell2 w (.cells #[.int .i64 x.d,.int .i64 x.l,.int .u8 x.k,vi,vd] 118) (.cells #[.int .i64 x.d,.int .i64 x.l,.int .u8 x.k,vi',vd'] 118) _ 4 vd (zR w _ _ 4 vd rfl);have c3':=zR (w.alloc (.cells #[.int .i64 x.d,.int .i64 x.l,.int .u8 x.k,vi,vd] 118)) #[.int .i64 x.d,.int .i64 x.l,.int .u8 x.k,vi',vd'] 118 3 vi' rfl;have c4':=zR (w.alloc (.cells #[.int .i64 x.d,.int .i64 x.l,.int .u8 x.k,vi,vd] 118)) #[.int .i64 x.d,.int .i64 x.l,.int .u8 x.k,vi',vd'] 118 4 vd' rfl;rw [World.size_alloc] at c3' c4';obtain ⟨ad,capd,rfl,hmd⟩:=zD hd;obtain ⟨ad',capd',rfl,_⟩:=zD hd';go_enter Tryz.func174,Tryz.ntmps174;go_wp2_with fail;generalize (w.alloc _).alloc _=w1 at *;refine (sameItems02 _ _ _ x.items (zJ zAX hb1 hi) (zJ zAX hb1 hi')).mono ?_;rintro e w2 ⟨rfl,hb2⟩;have d4:=zC hb2 c4;have d4':=zC hb2 c4';have hb3:=hb1.trans (hb2.mono hb1.size);have hd3:=zJ zBS hb3 hd;have hd3':=zJ zBS hb3 hd';clear c3 c4 c3' c4' hb1 hb2 hd hd' hi hi';have D4:=Lib.hid d4;have D4':=Lib.hid d4';unfold zK at d4 d4';go_wp2;clear d4 d4';go_loopw [5] (fun i wr=>∃ k:Nat,i = .int .i64 k/\k<=x.dims.length/\Below w2.heap.size w2 wr) (fun i _=>x.dims.length - (intOf i).toNat)
 case atStart=>exact ⟨0,rfl,by omega,Below.refl _ _⟩
 case round =>
  obtain ⟨k,rfl,hk,hb⟩:=hrel;have e4:=zC hb D4.out;have e4':=zC hb D4'.out;unfold zK at e4 e4';by_cases hlt:k < x.dims.length
  ·have X:=(zY (zJ zBS hb hd3)).2 k hlt
   have Y:=(zY (zJ zBS hb hd3')).2 k hlt;obtain ⟨b,off,rfl,⟨hc0,hc1,hc2⟩,_⟩:=X;obtain ⟨b',off',rfl,⟨hc0',hc1',hc2'⟩,_⟩:=Y;unfold zK at hc0 hc1 hc2 hc0' hc1' hc2';generalize x.dims[k]=y at *;clear hd3 hd3' D4 D4';go_wp2;go_quiet (fail)
   go_wp2;go_roundw
   case rel=>exact ⟨k+1,by go_num,by omega,zA hb (zAJ _ _)⟩
   case measure=>simp [intOf];omega
  ·go_wp2;go_ret;exact ⟨rfl,hb3.trans (hb.mono hb3.size)⟩
theorem sameReg02 (w:World) (v v':Value) (R:List Issue) (h:Sl zAY 5 w v R) (h':Sl zAY 5 w v' R) :
  Calls Tryz.prog 141 #[.agg #[v],.agg #[v']] w fun e w'=>e = .returned (.bool true)/\Below w.heap.size w w':=by
 obtain ⟨hb1,B1,B2⟩:=zJF w #[v] #[v'] 24 24;have c:=B1 0 v rfl;have c':=B2 0 v' rfl;clear B1 B2;obtain ⟨a,cap,rfl,hm⟩:=zD h;obtain ⟨a',cap',rfl,_⟩:=zD h';have h1:=zJ zU hb1 h;have h1':=zJ zU hb1 h';clear h h';go_enter Tryz.func141,Tryz.ntmps141;go_wp2;generalize (w.alloc _).alloc _=w1 at *;go_loopw [5] (fun i wr=>∃ k:Nat,i = .int .i64 k/\k<=R.length/\Below w1.heap.size w1 wr) (fun i _=>R.length - (intOf i).toNat)
 case atStart=>exact ⟨0,rfl,by omega,Below.refl _ _⟩
 case round =>
  obtain ⟨k,rfl,hk,hb⟩:=hrel;have e:=zC hb c;have e':=zC hb c';clear c c';unfold zK at e e';by_cases hlt:k < R.length
  ·have X:=(zY (zJ zU hb h1)).2 k hlt
   have Y:=(zY (zJ zU hb h1')).2 k hlt;clear h1 h1';obtain ⟨b,off,rfl,⟨hc0,hc1,hc2⟩,_,vi,vd,hc3,hc4,si,sd⟩:=X;obtain ⟨b',off',rfl,⟨hc0',hc1',hc2'⟩,_,vi',vd',hc3',hc4',si',sd'⟩:=Y;unfold zK at hc0 hc1 hc2 hc3 hc4 hc0' hc1' hc2' hc3' hc4';generalize R[k]=x at *;go_wp2;go_still_tail 10,(by kernel_rfl)
   go_wp2_with fail;refine (sameIssue02 _ x vi vi' vd vd' (zJ zAX (zO wr) si) (zJ zAX (zO wr) si') (zJ zBS (zO wr) sd) (zJ zBS (zO wr) sd')).mono ?_;rintro ee w2 ⟨rfl,hb2⟩;go_wp2;go_roundw
   case rel=>exact ⟨k+1,by go_num,by omega,zA hb (zA (zO wr) hb2)⟩
   case measure=>simp [intOf];omega
  ·go_wp2;go_ret;exact ⟨rfl,zA hb1 hb⟩
theorem sameNotes03 (w:World) (vr vn vr' vn':Value) (R:List Issue) (N:List Note) (hr:Sl zAY 5 w vr R) (hr':Sl zAY 5 w vr' R) (hn:Sl zBL 10 w vn N) (hn':Sl zBL 10 w vn' N) :
  Calls Tryz.prog 102 #[.agg #[vr,vn],.agg #[vr',vn']] w fun e w'=>e = .returned (.bool true)/\Below w.heap.size w w':=by
 obtain ⟨hb1,B1,B2⟩:=zJF w #[vr,vn] #[vr',vn'] 27 27;have c:=B1 1 vn rfl;have c':=B2 1 vn' rfl;clear B1 B2;obtain ⟨a,cap,rfl,hm⟩:=zD hn;obtain ⟨a',cap',rfl,_⟩:=zD hn';go_enter Tryz.func102,Tryz.ntmps102;go_wp2_with fail;generalize (w.alloc _).alloc _=w1 at *;refine (sameReg02 _ vr vr' R (zJ zU hb1 hr) (zJ zU hb1 hr')).mono ?_;rintro e w2 ⟨rfl,hb2⟩;have d:=zC hb2 c;have d':=zC hb2 c';have hb3:=zA hb1 hb2;have h3:=zJ zAN hb3 hn;have h3':=zJ zAN hb3 hn';clear hn hn' hr hr' c c' hb1 hb2;have D:=Lib.hid d;have D':=Lib.hid d';unfold zK at d d';go_wp2;clear d d';go_loopw [5] (fun i wr=>∃ k:Nat,i = .int .i64 k/\k<=N.length/\Below w2.heap.size w2 wr) (fun i _=>N.length - (intOf i).toNat)
 case atStart=>exact ⟨0,rfl,by omega,Below.refl _ _⟩
 case round =>
  obtain ⟨k,rfl,hk,hb⟩:=hrel;have e4:=zC hb D.out;have e4':=zC hb D'.out;clear D D';unfold zK at e4 e4';by_cases hlt:k < N.length
  ·have X:=(zY (zJ zAN hb h3)).2 k hlt
   have Y:=(zY (zJ zAN hb h3')).2 k hlt;clear h3 h3';obtain ⟨b,off,rfl,⟨p0,p1,p2,p3,p4,p5,p6,p7,p8,p9⟩,_⟩:=X;obtain ⟨b',off',rfl,⟨q0,q1,q2,q3,q4,q5,q6,q7,q8,q9⟩,_⟩:=Y;unfold zK at p0 p1 p2 p3 p4 p5 p6 p7 p8 p9 q0 q1 q2 q3 q4 q5 q6 q7 q8 q9;generalize N[k]=y at *;go_wp2;go_quiet (fail)
   go_wp2;go_roundw
   case rel=>exact ⟨k+1,by go_num,by omega,zA hb (zAJ _ _)⟩
   case measure=>simp [intOf];omega
  ·go_wp2;go_ret;exact ⟨rfl,zA hb3 hb⟩
structure BuiltAt (w:World) (vr vn vm vh vs:Value) (b:Built) : Prop where
 reg:Sl zAY 5 w vr b.ns.reg
 notes:Sl zBL 10 w vn b.ns.notes
 ms:Sl zAM 1 w vm b.ms
 hs:Sl zDO 4 w vh b.hs
 rs:Sl zAT 5 w vs b.rs
 of:I64 b.of
theorem BuiltAt.ext {w w':World} {vr vn vm vh vs:Value} {b:Built} (hb:Below w.heap.size w w') (h:BuiltAt w vr vn vm vh vs b) : BuiltAt w' vr vn vm vh vs b :=
 ⟨zJ zU hb h.reg,zJ zAN hb h.notes,zJ zN hb h.ms,zJ zCU hb h.hs,zJ zAP hb h.rs,h.of⟩
theorem sameBuilt08 (w:World) (vr vn vm vh vs vr' vn' vm' vh' vs':Value) (b:Built) (h:BuiltAt w vr vn vm vh vs b) (h':BuiltAt w vr' vn' vm' vh' vs' b) :
  Calls Tryz.prog 48 #[.agg #[vr,vn,.int .i64 b.of,vm,vh,vs],.agg #[vr',vn',.int .i64 b.of,vm',vh',vs']] w fun e w'=>e = .returned (.bool true)/\Below w.heap.size w w':=by
 obtain ⟨hb1,B1,B2⟩:=zJF w #[vr,vn,.int .i64 b.of,vm,vh,vs] #[vr',vn',.int .i64 b.of,vm',vh',vs'] 32 32;have c2:=B1 2 _ rfl;have c2':=B2 2 _ rfl;have c3:=B1 3 vm rfl;have c3':=B2 3 vm' rfl;have c4:=B1 4 vh rfl;have c4':=B2 4 vh' rfl;have c5:=B1 5 vs rfl;have c5':=B2 5 vs' rfl;clear B1 B2;obtain ⟨ah,caph,rfl,hmh⟩:=zD h.hs;obtain ⟨ah',caph',rfl,_⟩:=zD h'.hs;obtain ⟨az,capz,rfl,hms⟩:=zD h.rs;obtain ⟨az',capz',rfl,_⟩:=zD h'.rs;go_enter Tryz.func48,Tryz.ntmps48;go_wp2_with fail;generalize (w.alloc _).alloc _=w1 at *;refine (sameNotes03 _ vr vn vr' vn' b.ns.reg b.ns.notes (h.ext hb1).reg (h'.ext hb1).reg (h.ext hb1).notes (h'.ext hb1).notes).mono ?_;rintro e w2 ⟨rfl,hb2⟩;have hb3:=zA hb1 hb2;have d2:=zC hb2 c2;have d2':=zC hb2 c2';have d3:=zC hb2 c3;have d3':=zC hb2 c3';have d4:=zC hb2 c4;have d4':=zC hb2 c4';have d5:=zC hb2 c5;have d5':=zC hb2 c5';clear c2 c2' c3 c3' c4 c4' c5 c5' hb1 hb2;have D4:=Lib.hid d4;have D4':=Lib.hid d4';have D5:=Lib.hid d5;have D5':=Lib.hid d5';clear d4 d4' d5 d5';unfold zK at d2 d2' d3 d3';go_wp2_with fail;clear d2 d2' d3 d3';refine (zKT _ vm vm' b.ms (h.ext hb3).ms (h'.ext hb3).ms).mono ?_;rintro e w3 ⟨rfl,hb4⟩;have hb5:=zA hb3 hb4;have d4:=zC hb4 D4.out;have d4':=zC hb4 D4'.out;have d5:=zC hb4 D5.out;have d5':=zC hb4 D5'.out;clear D4 D4' D5 D5' hb3 hb4;have D4:=Lib.hid d4;have D4':=Lib.hid d4';have D5:=Lib.hid d5;have D5':=Lib.hid d5';unfold zK at d4 d4' d5 d5';have k1:=(h.ext hb5).hs;have k1':=(h'.ext hb5).hs;have k2:=(h.ext hb5).rs;have k2':=(h'.ext hb5).rs;clear h h';go_wp2;clear d4 d4' d5 d5';go_loopw [5] (fun i wr=>∃ k:Nat,i = .int .i64 k/\k<=b.hs.length/\Below w3.heap.size w3 wr) (fun i _=>b.hs.length - (intOf i).toNat)
 case atStart=>exact ⟨0,rfl,by omega,Below.refl _ _⟩
 case round =>
  obtain ⟨k,rfl,hk,hb⟩:=hrel;have e4:=zC hb D4.out;have e4':=zC hb D4'.out;unfold zK at e4 e4';by_cases hlt:k < b.hs.length
  ·have X:=(zY (zJ zCU hb k1)).2 k hlt
   have Y:=(zY (zJ zCU hb k1')).2 k hlt;clear k1 k1' k2 k2';obtain ⟨g,off,rfl,⟨p0,p1,p2,p3⟩,_⟩:=X;obtain ⟨g',off',rfl,⟨q0,q1,q2,q3⟩,_⟩:=Y;unfold zK at p0 p1 p2 p3 q0 q1 q2 q3;generalize b.hs[k]=y at *;go_wp2;go_quiet (fail)
   go_wp2;go_roundw
   case rel=>exact ⟨k+1,by go_num,by omega,zA hb (zAJ _ _)⟩
   case measure=>simp [intOf];omega
  ·have hb6:=zA hb5 hb
   have e5:=zC hb D5.out;have e5':=zC hb D5'.out;have m2:=zJ zAP hb k2;have m2':=zJ zAP hb k2';clear k1 k1' k2 k2' D4 D4' D5 D5' hb5 hb;have E5:=Lib.hid e5;have E5':=Lib.hid e5';clear e5 e5';obtain ⟨wo,rfl⟩ : ∃ wo:World,wo=wr:=⟨_,rfl⟩;go_wp2;clear e4 e4' hk hlt;go_loopw [6] (fun i wr=>∃ k:Nat,i = .int .i64 k/\k<=b.rs.length/\Below wo.heap.size wo wr) (fun i _=>b.rs.length - (intOf i).toNat)
   case atStart=>exact ⟨0,rfl,by omega,Below.refl _ _⟩
   case round =>
    obtain ⟨k,rfl,hk,hb⟩:=hrel;have e5:=zC hb E5.out;have e5':=zC hb E5'.out;unfold zK at e5 e5';by_cases hlt:k < b.rs.length
    ·have X:=(zY (zJ zAP hb m2)).2 k hlt
     have Y:=(zY (zJ zAP hb m2')).2 k hlt;clear m2 m2';obtain ⟨g,off,rfl,⟨p0,p1,p2,p3,p4⟩,_⟩:=X;obtain ⟨g',off',rfl,⟨q0,q1,q2,q3,q4⟩,_⟩:=Y;unfold zK at p0 p1 p2 p3 p4 q0 q1 q2 q3 q4;generalize b.rs[k]=y at *;go_wp2;go_quiet (fail)
     go_wp2;go_roundw
     case rel=>exact ⟨k+1,by go_num,by omega,zA hb (zAJ _ _)⟩
     case measure=>simp [intOf];omega
    ·go_wp2;go_ret;exact ⟨rfl,zA hb6 hb⟩
end
section
open Tryz
open Go.RowKit
attribute [local go_sem] zAE Oper.grows Oper.growUpon
def NilSl (v:Value) : Prop:=∃ g,v = .slice (some ⟨g,0,none⟩) 0 0
theorem nilSl_stays:zED fun v _=>NilSl v:=fun _ _ _ _ h=>h
def RetReg (base:Nat) (R:List Issue) (v:Value) (w':World) : Prop :=
 ∃ a n cap,v = .agg #[.slice a n cap]/\Sl (Fr base 118 (zGI base)) 5 w' (.slice a n cap) R/\Capd (.slice a n cap) R.length
theorem retReg_stays (base:Nat) (R:List Issue) : zED (RetReg base R):=fun _ _ _ hb ⟨a,n,cap,h1,h2,h3⟩=>⟨a,n,cap,h1,zJ (zFG stays_issueN) hb h2,h3⟩
theorem issueN_weak {base base':Nat} (hw:base'<=base) {w:World} {v:Value} {R:List Issue} (h:Sl (Fr base 118 (zGI base)) 5 w v R) : Sl (Fr base' 118 (zGI base')) 5 w v R:=by
 refine sl_to (fun b o x hx=>?_) h;obtain ⟨⟨h1,h2,vi,vd,h3,h4,h5,h6⟩,h7,h8⟩:=hx;exact ⟨⟨h1,h2,vi,vd,h3,h4,zOV hw h5,zOV hw h6⟩,Nat.le_trans hw h7,h8⟩
theorem twin03 (w:World) (vr vn:Value) (R:List Issue) (N:List Note) (hr:Sl zAY 5 w vr R) (hn:Sl zBL 10 w vn N) (hS:Small R) (hN:N.length<=16) :
  Calls prog 52 #[.agg #[vr,vn]] w fun e w'=>∃ ur un,e = .returned (.agg #[ur,un]) /\
   Sl (Fr w.heap.size 118 (zGI w.heap.size)) 5 w' ur R/\Sl (Fr w.heap.size 74 zBL) 10 w' un N/\Below w.heap.size w w'/\Capd ur R.length/\Capd un N.length:=by
 obtain ⟨i0,hi0,hz0,hz1,hz2⟩:=info_parts infoNote;have HS:=zE hS;clear hS;obtain ⟨ar,capr,rfl,_⟩:=zD hr;obtain ⟨an,capn,rfl,_⟩:=zD hn;obtain ⟨hb1,B1,B2⟩:=zJF w #[.slice ar R.length capr,.slice an N.length capn] #[.slice none 0 0,.slice none 0 0] 27 27;have c0:=B1 0 (.slice ar R.length capr) rfl;have c1:=B1 1 (.slice an N.length capn) rfl;have r0:=B2 0 (.slice none 0 0) rfl;have r1:=B2 1 (.slice none 0 0) rfl;have f2:=free_new (w.alloc (.cells #[.slice ar R.length capr,.slice an N.length capn] 27)) #[.slice none 0 0,.slice none 0 0] 27;rw [World.size_alloc] at f2;clear B1 B2;have F2:=zE f2;clear f2;go_enter func52,ntmps52;go_wp2_with fail;generalize (w.alloc _).alloc _=w1 at *;have hr1:=zJ zU hb1 hr;have hn1:=zJ zAN hb1 hn;have K0:=zH c0;have K1:=zH c1;refine zM 6 (by kernel_rfl) (by kernel_rfl) ?_;simp only [tk_];iterate 2 (apply gx_;focus (intro vs xq hd;(try simp [hq_] at hd);simp only [pf_];go_simp;exact ⟨br_,rfl⟩))
 refine zL (RetReg w1.heap.size R) (retReg_stays _ R) ?_ ?_
 ·intro vs xq hd
  (try simp [hq_] at hd)
  simp only [pf_];go_simp;have hbx:=zG w1 xq;refine (twin02 _ _ R (zJ zU hbx hr1) HS.out).mono ?_;rintro e w2 ⟨u,rfl,h1,h2,h3⟩;obtain ⟨a',cap',rfl,_⟩:=zD h1;exact ⟨_,rfl,h2,a',_,cap',rfl,issueN_weak hbx.size h1,h3⟩
 refine zL (fun v _=>NilSl v) nilSl_stays ?_ ?_
 ·intro vs xq hd
  (try simp [hq_] at hd)
  simp only [pf_];go_simp;exact ⟨zB _ _,_,rfl⟩
 iterate 2 (apply gx_;focus (intro vs xq hd;(try simp [hq_] at hd);simp only [pf_];go_simp;exact ⟨br_,rfl⟩))
 refine zQ rfl (fun vs xq hd=>?_);simp [zW,zAI,List.range,List.range.loop] at hd;simp only [pf_];obtain ⟨_,_,⟨a2,n2,cap2,e2,s2,hcd⟩,s3,_,e5⟩:=hd;generalize vs 0=u0 at *;generalize vs 1=u1 at *;generalize vs 2=u2 at *;generalize vs 3=u3 at *;generalize vs 4=u4 at *;generalize vs 5=u5 at *;subst e2 e5;have hbl:=zG w1 xq;replace r0:=zC hbl r0;replace r1:=zC hbl r1;have f2:=free_ext hbl F2.out;replace hn1:=zJ zAN hbl hn1;have hbb:=zA hb1 hbl;have hzz:=hbl.size;have hz9:w.heap.size+1 < w1.heap.size:=F2.out.1;clear K0 K1 c0 c1 hr1 hr hn F2 hb1 hbl;generalize w1.heap.size=z1 at *;generalize w1.later xq=w2 at *;refine wpList_grows rfl (grows_append_copyC (.tmp 6) (.tmp 8) 25 rfl 74 i0 _ 10 72 underlying25 hi0 hz0 hz1 hz2 rfl (by decide) (by decide) copies_note cells_note u3 (.slice an N.length capn) N rfl s3 rfl hn1 (by omega) z1 hzz) ?_;rintro v3 w3 hb3 ⟨s4,hcd4⟩;obtain ⟨a4,cap4,rfl,_⟩:=zD s4;replace r0:=zC hb3 r0;replace r1:=zC hb3 r1;replace f2:=free_ext hb3 f2;replace s2:=zJ (zFG stays_issueN) hb3 s2;replace hbb:=zA hbb hb3;have hl2:=f2.1;have q0:=f2.2 0;have q1:=f2.2 1;have S2:=zE s2;have S4:=zE s4;have HCD:=zE (And.intro hcd hcd4);clear f2 s2 s4 hn1 s3 hb3 hcd hcd4;unfold zK at r0 r1;simp only [Act.put,List.setIfInBounds_toArray,List.set_cons_succ,List.set_cons_zero];go_wp2;refine bodyPost_ret (v:=.agg #[.slice a2 n2 cap2,.slice a4 N.length cap4]) ?_ rfl ⟨_,_,rfl,?_,?_,?_,HCD.out⟩
 ·simp [results,results52,go_sem,r0,r1,hl2]
 ·refine issueN_weak (base:=z1) (by omega) ?_;refine zIZ ?_ ?_ ?_ S2.out;all_goals exact (zRG (by omega)).trans (zRG (by omega))
 ·refine zOV (base:=z1) (by omega) ?_;refine sl_set zGM (by omega) (sl_set zGM (by omega) S4.out)
 ·exact zI (by omega) (zI (by omega) hbb)
end
end Go.Proofs.YtipaopbmklbmnaaGreatDoor
