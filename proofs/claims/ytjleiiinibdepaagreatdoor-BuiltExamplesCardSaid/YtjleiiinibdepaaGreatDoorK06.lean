/- The reference's notes and machines in new memory. -/
import Derived.Test.YtjleiiinibdepaaGreatDoorK05
set_option linter.all false
set_option maxRecDepth 100000
set_option maxHeartbeats 12800000

namespace Go.Proofs.YtjleiiinibdepaaGreatDoor
section
open Go.RowKit
theorem sameIssue02 (w:World) (x:Issue) (vi vi' vd vd':Value) (hi:Sl zBV 2 w vi x.items) (hi':Sl zBV 2 w vi' x.items) (hd:Sl zGJ 3 w vd x.dims) (hd':Sl zGJ 3 w vd' x.dims) :
  Calls Tryz.prog 148 #[.agg #[.int .i64 x.d,.int .i64 x.l,.int .u8 x.k,vi,vd],.agg #[.int .i64 x.d,.int .i64 x.l,.int .u8 x.k,vi',vd']] w fun e w'=>e = .returned (.bool true)∧Below w.heap.size w w':=by
 have hb1:=zA (zB w (.cells #[.int .i64 x.d,.int .i64 x.l,.int .u8 x.k,vi,vd] 94)) (zB _ (.cells #[.int .i64 x.d,.int .i64 x.l,.int .u8 x.k,vi',vd'] 94))
 have c3:=new_cell2 w (.cells #[.int .i64 x.d,.int .i64 x.l,.int .u8 x.k,vi,vd] 94) (.cells #[.int .i64 x.d,.int .i64 x.l,.int .u8 x.k,vi',vd'] 94) _ 3 vi (zR w _ _ 3 vi rfl)
 have c4:=new_cell2 w (.cells #[.int .i64 x.d,.int .i64 x.l,.int .u8 x.k,vi,vd] 94) (.cells #[.int .i64 x.d,.int .i64 x.l,.int .u8 x.k,vi',vd'] 94) _ 4 vd (zR w _ _ 4 vd rfl)
 have c3':=zR (w.alloc (.cells #[.int .i64 x.d,.int .i64 x.l,.int .u8 x.k,vi,vd] 94)) #[.int .i64 x.d,.int .i64 x.l,.int .u8 x.k,vi',vd'] 94 3 vi' rfl
 have c4':=zR (w.alloc (.cells #[.int .i64 x.d,.int .i64 x.l,.int .u8 x.k,vi,vd] 94)) #[.int .i64 x.d,.int .i64 x.l,.int .u8 x.k,vi',vd'] 94 4 vd' rfl
 rw [World.size_alloc] at c3' c4'
 obtain ⟨ad,capd,rfl,hmd⟩:=zD hd
 obtain ⟨ad',capd',rfl,_⟩:=zD hd'
 go_enter Tryz.func148,Tryz.ntmps148
 go_wp2_with fail
 generalize (w.alloc _).alloc _=w1 at *
 refine (sameItems02 _ _ _ x.items (zJ zAX hb1 hi) (zJ zAX hb1 hi')).mono ?_
 rintro e w2 ⟨rfl,hb2⟩
 have d4:=zC hb2 c4
 have d4':=zC hb2 c4'
 have hb3:=hb1.trans (hb2.mono hb1.size)
 have hd3:=zJ zBS hb3 hd
 have hd3':=zJ zBS hb3 hd'
 clear c3 c4 c3' c4' hb1 hb2 hd hd' hi hi'
 have D4:=Lib.hid d4
 have D4':=Lib.hid d4'
 unfold zK at d4 d4'
 go_wp2
 clear d4 d4'
 go_loopw [5] (fun i wr=>∃ k:Nat,i = .int .i64 k∧k≤x.dims.length∧Below w2.heap.size w2 wr) (fun i _=>x.dims.length - (intOf i).toNat)
 case atStart=>exact ⟨0,rfl,by omega,Below.refl _ _⟩
 case round =>
  obtain ⟨k,rfl,hk,hb⟩:=hrel
  have e4:=zC hb D4.out
  have e4':=zC hb D4'.out
  unfold zK at e4 e4'
  by_cases hlt:k < x.dims.length
  ·have X:=(zY (zJ zBS hb hd3)).2 k hlt
   have Y:=(zY (zJ zBS hb hd3')).2 k hlt
   obtain ⟨b,off,rfl,⟨hc0,hc1,hc2⟩,_⟩:=X
   obtain ⟨b',off',rfl,⟨hc0',hc1',hc2'⟩,_⟩:=Y
   unfold zK at hc0 hc1 hc2 hc0' hc1' hc2'
   generalize x.dims[k]=y at *
   clear hd3 hd3' D4 D4'
   go_wp2
   go_quiet (fail)
   go_wp2
   go_roundw
   case rel=>exact ⟨k+1,by go_num,by omega,zA hb (zAJ _ _)⟩
   case measure=>simp [intOf];omega
  ·go_wp2
   go_ret
   exact ⟨rfl,hb3.trans (hb.mono hb3.size)⟩
end
section
open Go.RowKit
theorem sameReg02 (w:World) (v v':Value) (R:List Issue) (h:Sl zAY 5 w v R) (h':Sl zAY 5 w v' R) :
  Calls Tryz.prog 116 #[.agg #[v],.agg #[v']] w fun e w'=>e = .returned (.bool true)∧Below w.heap.size w w':=by
 obtain ⟨hb1,B1,B2⟩:=zJF w #[v] #[v'] 26 26
 have c:=B1 0 v rfl
 have c':=B2 0 v' rfl
 clear B1 B2
 obtain ⟨a,cap,rfl,hm⟩:=zD h
 obtain ⟨a',cap',rfl,_⟩:=zD h'
 have h1:=zJ zU hb1 h
 have h1':=zJ zU hb1 h'
 clear h h'
 go_enter Tryz.func116,Tryz.ntmps116
 go_wp2
 generalize (w.alloc _).alloc _=w1 at *
 go_loopw [5] (fun i wr=>∃ k:Nat,i = .int .i64 k∧k≤R.length∧Below w1.heap.size w1 wr) (fun i _=>R.length - (intOf i).toNat)
 case atStart=>exact ⟨0,rfl,by omega,Below.refl _ _⟩
 case round =>
  obtain ⟨k,rfl,hk,hb⟩:=hrel
  have e:=zC hb c
  have e':=zC hb c'
  clear c c'
  unfold zK at e e'
  by_cases hlt:k < R.length
  ·have X:=(zY (zJ zU hb h1)).2 k hlt
   have Y:=(zY (zJ zU hb h1')).2 k hlt
   clear h1 h1'
   obtain ⟨b,off,rfl,⟨hc0,hc1,hc2⟩,_,vi,vd,hc3,hc4,si,sd⟩:=X
   obtain ⟨b',off',rfl,⟨hc0',hc1',hc2'⟩,_,vi',vd',hc3',hc4',si',sd'⟩:=Y
   unfold zK at hc0 hc1 hc2 hc3 hc4 hc0' hc1' hc2' hc3' hc4'
   generalize R[k]=x at *
   go_wp2
   go_still_tail 10,(by kernel_rfl)
   go_wp2_with fail
   refine (sameIssue02 _ x vi vi' vd vd' (zJ zAX (zO wr) si) (zJ zAX (zO wr) si') (zJ zBS (zO wr) sd) (zJ zBS (zO wr) sd')).mono ?_
   rintro ee w2 ⟨rfl,hb2⟩
   go_wp2
   go_roundw
   case rel=>exact ⟨k+1,by go_num,by omega,zA hb (zA (zO wr) hb2)⟩
   case measure=>simp [intOf];omega
  ·go_wp2
   go_ret
   exact ⟨rfl,zA hb1 hb⟩
end
section
open Go.RowKit
theorem sameNotes03 (w:World) (vr vn vr' vn':Value) (R:List Issue) (N:List Note) (hr:Sl zAY 5 w vr R) (hr':Sl zAY 5 w vr' R) (hn:Sl zBL 10 w vn N) (hn':Sl zBL 10 w vn' N) :
  Calls Tryz.prog 90 #[.agg #[vr,vn],.agg #[vr',vn']] w fun e w'=>e = .returned (.bool true)∧Below w.heap.size w w':=by
 obtain ⟨hb1,B1,B2⟩:=zJF w #[vr,vn] #[vr',vn'] 29 29
 have c:=B1 1 vn rfl
 have c':=B2 1 vn' rfl
 clear B1 B2
 obtain ⟨a,cap,rfl,hm⟩:=zD hn
 obtain ⟨a',cap',rfl,_⟩:=zD hn'
 go_enter Tryz.func90,Tryz.ntmps90
 go_wp2_with fail
 generalize (w.alloc _).alloc _=w1 at *
 refine (sameReg02 _ vr vr' R (zJ zU hb1 hr) (zJ zU hb1 hr')).mono ?_
 rintro e w2 ⟨rfl,hb2⟩
 have d:=zC hb2 c
 have d':=zC hb2 c'
 have hb3:=zA hb1 hb2
 have h3:=zJ zAN hb3 hn
 have h3':=zJ zAN hb3 hn'
 clear hn hn' hr hr' c c' hb1 hb2
 have D:=Lib.hid d
 have D':=Lib.hid d'
 unfold zK at d d'
 go_wp2
 clear d d'
 go_loopw [5] (fun i wr=>∃ k:Nat,i = .int .i64 k∧k≤N.length∧Below w2.heap.size w2 wr) (fun i _=>N.length - (intOf i).toNat)
 case atStart=>exact ⟨0,rfl,by omega,Below.refl _ _⟩
 case round =>
  obtain ⟨k,rfl,hk,hb⟩:=hrel
  have e4:=zC hb D.out
  have e4':=zC hb D'.out
  clear D D'
  unfold zK at e4 e4'
  by_cases hlt:k < N.length
  ·have X:=(zY (zJ zAN hb h3)).2 k hlt
   have Y:=(zY (zJ zAN hb h3')).2 k hlt
   clear h3 h3'
   obtain ⟨b,off,rfl,⟨p0,p1,p2,p3,p4,p5,p6,p7,p8,p9⟩,_⟩:=X
   obtain ⟨b',off',rfl,⟨q0,q1,q2,q3,q4,q5,q6,q7,q8,q9⟩,_⟩:=Y
   unfold zK at p0 p1 p2 p3 p4 p5 p6 p7 p8 p9 q0 q1 q2 q3 q4 q5 q6 q7 q8 q9
   generalize N[k]=y at *
   go_wp2
   go_quiet (fail)
   go_wp2
   go_roundw
   case rel=>exact ⟨k+1,by go_num,by omega,zA hb (zAJ _ _)⟩
   case measure=>simp [intOf];omega
  ·go_wp2
   go_ret
   exact ⟨rfl,zA hb3 hb⟩
end
section
open Go.RowKit
structure BuiltAt (w:World) (vr vn vm vh vs:Value) (b:Built) : Prop where
 reg:Sl zAY 5 w vr b.ns.reg
 notes:Sl zBL 10 w vn b.ns.notes
 ms:Sl zAM 1 w vm b.ms
 hs:Sl zDO 4 w vh b.hs
 rs:Sl zAT 5 w vs b.rs
 of:I64 b.of
theorem BuiltAt.ext {w w':World} {vr vn vm vh vs:Value} {b:Built} (hb:Below w.heap.size w w') (h:BuiltAt w vr vn vm vh vs b) : BuiltAt w' vr vn vm vh vs b :=
 ⟨zJ zU hb h.reg,zJ zAN hb h.notes,zJ zN hb h.ms,zJ zCU hb h.hs,zJ zAP hb h.rs,h.of⟩
theorem sameBuilt08 (w:World) (vr vn vm vh vs vr' vn' vm' vh' vs':Value) (b:Built) (h:BuiltAt w vr vn vm vh vs b) (h':BuiltAt w vr' vn' vm' vh' vs' b) :
  Calls Tryz.prog 38 #[.agg #[vr,vn,.int .i64 b.of,vm,vh,vs],.agg #[vr',vn',.int .i64 b.of,vm',vh',vs']] w fun e w'=>e = .returned (.bool true)∧Below w.heap.size w w':=by
 obtain ⟨hb1,B1,B2⟩:=zJF w #[vr,vn,.int .i64 b.of,vm,vh,vs] #[vr',vn',.int .i64 b.of,vm',vh',vs'] 34 34
 have c2:=B1 2 _ rfl
 have c2':=B2 2 _ rfl
 have c3:=B1 3 vm rfl
 have c3':=B2 3 vm' rfl
 have c4:=B1 4 vh rfl
 have c4':=B2 4 vh' rfl
 have c5:=B1 5 vs rfl
 have c5':=B2 5 vs' rfl
 clear B1 B2
 obtain ⟨ah,caph,rfl,hmh⟩:=zD h.hs
 obtain ⟨ah',caph',rfl,_⟩:=zD h'.hs
 obtain ⟨az,capz,rfl,hms⟩:=zD h.rs
 obtain ⟨az',capz',rfl,_⟩:=zD h'.rs
 go_enter Tryz.func38,Tryz.ntmps38
 go_wp2_with fail
 generalize (w.alloc _).alloc _=w1 at *
 refine (sameNotes03 _ vr vn vr' vn' b.ns.reg b.ns.notes (h.ext hb1).reg (h'.ext hb1).reg (h.ext hb1).notes (h'.ext hb1).notes).mono ?_
 rintro e w2 ⟨rfl,hb2⟩
 have hb3:=zA hb1 hb2
 have d2:=zC hb2 c2
 have d2':=zC hb2 c2'
 have d3:=zC hb2 c3
 have d3':=zC hb2 c3'
 have d4:=zC hb2 c4
 have d4':=zC hb2 c4'
 have d5:=zC hb2 c5
 have d5':=zC hb2 c5'
 clear c2 c2' c3 c3' c4 c4' c5 c5' hb1 hb2
 have D4:=Lib.hid d4
 have D4':=Lib.hid d4'
 have D5:=Lib.hid d5
 have D5':=Lib.hid d5'
 clear d4 d4' d5 d5'
 unfold zK at d2 d2' d3 d3'
 go_wp2_with fail
 clear d2 d2' d3 d3'
 refine (zKT _ vm vm' b.ms (h.ext hb3).ms (h'.ext hb3).ms).mono ?_
 rintro e w3 ⟨rfl,hb4⟩
 have hb5:=zA hb3 hb4
 have d4:=zC hb4 D4.out
 have d4':=zC hb4 D4'.out
 have d5:=zC hb4 D5.out
 have d5':=zC hb4 D5'.out
 clear D4 D4' D5 D5' hb3 hb4
 have D4:=Lib.hid d4
 have D4':=Lib.hid d4'
 have D5:=Lib.hid d5
 have D5':=Lib.hid d5'
 unfold zK at d4 d4' d5 d5'
 have k1:=(h.ext hb5).hs
 have k1':=(h'.ext hb5).hs
 have k2:=(h.ext hb5).rs
 have k2':=(h'.ext hb5).rs
 clear h h'
 go_wp2
 clear d4 d4' d5 d5'
 go_loopw [5] (fun i wr=>∃ k:Nat,i = .int .i64 k∧k≤b.hs.length∧Below w3.heap.size w3 wr) (fun i _=>b.hs.length - (intOf i).toNat)
 case atStart=>exact ⟨0,rfl,by omega,Below.refl _ _⟩
 case round =>
  obtain ⟨k,rfl,hk,hb⟩:=hrel
  have e4:=zC hb D4.out
  have e4':=zC hb D4'.out
  unfold zK at e4 e4'
  by_cases hlt:k < b.hs.length
  ·have X:=(zY (zJ zCU hb k1)).2 k hlt
   have Y:=(zY (zJ zCU hb k1')).2 k hlt
   clear k1 k1' k2 k2'
   obtain ⟨g,off,rfl,⟨p0,p1,p2,p3⟩,_⟩:=X
   obtain ⟨g',off',rfl,⟨q0,q1,q2,q3⟩,_⟩:=Y
   unfold zK at p0 p1 p2 p3 q0 q1 q2 q3
   generalize b.hs[k]=y at *
   go_wp2
   go_quiet (fail)
   go_wp2
   go_roundw
   case rel=>exact ⟨k+1,by go_num,by omega,zA hb (zAJ _ _)⟩
   case measure=>simp [intOf];omega
  ·have hb6:=zA hb5 hb
   have e5:=zC hb D5.out
   have e5':=zC hb D5'.out
   have m2:=zJ zAP hb k2
   have m2':=zJ zAP hb k2'
   clear k1 k1' k2 k2' D4 D4' D5 D5' hb5 hb
   have E5:=Lib.hid e5
   have E5':=Lib.hid e5'
   clear e5 e5'
   obtain ⟨wo,rfl⟩ : ∃ wo:World,wo=wr:=⟨_,rfl⟩
   go_wp2
   clear e4 e4' hk hlt
   go_loopw [6] (fun i wr=>∃ k:Nat,i = .int .i64 k∧k≤b.rs.length∧Below wo.heap.size wo wr) (fun i _=>b.rs.length - (intOf i).toNat)
   case atStart=>exact ⟨0,rfl,by omega,Below.refl _ _⟩
   case round =>
    obtain ⟨k,rfl,hk,hb⟩:=hrel
    have e5:=zC hb E5.out
    have e5':=zC hb E5'.out
    unfold zK at e5 e5'
    by_cases hlt:k < b.rs.length
    ·have X:=(zY (zJ zAP hb m2)).2 k hlt
     have Y:=(zY (zJ zAP hb m2')).2 k hlt
     clear m2 m2'
     obtain ⟨g,off,rfl,⟨p0,p1,p2,p3,p4⟩,_⟩:=X
     obtain ⟨g',off',rfl,⟨q0,q1,q2,q3,q4⟩,_⟩:=Y
     unfold zK at p0 p1 p2 p3 p4 q0 q1 q2 q3 q4
     generalize b.rs[k]=y at *
     go_wp2
     go_quiet (fail)
     go_wp2
     go_roundw
     case rel=>exact ⟨k+1,by go_num,by omega,zA hb (zAJ _ _)⟩
     case measure=>simp [intOf];omega
    ·go_wp2
     go_ret
     exact ⟨rfl,zA hb6 hb⟩
end
end Go.Proofs.YtjleiiinibdepaaGreatDoor
namespace Go.Proofs.YtjleiiinibdepaaGreatDoor
open Tryz
open Go.RowKit
attribute [local go_sem] zAE Oper.grows Oper.growUpon
theorem issueN_weak {base base':Nat} (hw:base'≤base) {w:World} {v:Value} {R:List Issue} (h:Sl (Fr base 94 (zGI base)) 5 w v R) : Sl (Fr base' 94 (zGI base')) 5 w v R:=by
 refine sl_to (fun b o x hx=>?_) h
 obtain ⟨⟨h1,h2,vi,vd,h3,h4,h5,h6⟩,h7,h8⟩:=hx
 exact ⟨⟨h1,h2,vi,vd,h3,h4,zOV hw h5,zOV hw h6⟩,Nat.le_trans hw h7,h8⟩
end Go.Proofs.YtjleiiinibdepaaGreatDoor
