/- Lemmas. -/
import Derived.Test.YtipaopbmklbmnaaGreatDoorT02
set_option linter.all false
set_option maxRecDepth 100000
set_option maxHeartbeats 0
namespace Go.Proofs.YtipaopbmklbmnaaGreatDoor
section
open Go.RowKit
def zNO (x:Note) : Prop:=In x.num 1 9999/\In x.day 0 14610/\x.sg<=2/\In x.fr 1 x.to/\x.to<=999/\x.ways<=3
def NoteRef (R:List Issue) (x:Note) : Prop:=(x.d=0/\x.l=0/\x.ca≠0)\/(¬ (x.d=0/\x.l=0)/\zCQ R x.d x.l≠none)
def NoteUse (x:Note) : Prop:=x.l < 2->x.use=false/\x.ways<=0
def NoteNew (N:List Note) (i:Nat) (x:Note) : Prop:=∀ k,k < i->∀ h:k < N.length,N[k].num≠x.num
def zDW (N:List Note) (i:Nat) (x:Note) : Prop:=x.ca=0\/∃ k,k < i/\∃ h:k < N.length,N[k].num=x.ca
def zMB (N:List Note) (i:Nat) (x:Note) : Prop:=∀ h0:0 < i,∀ h:i - 1 < N.length,N[i - 1].day < x.day\/N[i - 1].day=x.day/\N[i - 1].num < x.num
def zNE (R:List Issue) (N:List Note) (i:Nat) (x:Note) : Prop:=zNO x/\NoteRef R x/\NoteUse x/\NoteNew N i x/\zDW N i x/\zMB N i x
theorem zMQ (N:List Note) (x:Note) : (x.ca == 0)=true↔zDW N 0 x:=by
 unfold zDW;constructor
 ·intro h;exact .inl (by simpa using h)
 ·rintro (h | ⟨k,hk,_⟩)
  ·simpa using h
  ·omega
theorem back_succ (N:List Note) (x:Note) (k:Nat) (hk:k < N.length) : zDW N (k+1) x↔zDW N k x\/N[k].num=x.ca:=by
 unfold zDW;constructor
 ·rintro (h | ⟨j,hj,hl,h⟩)
  ·exact .inl (.inl h)
  ·by_cases e:j=k
   ·subst e;exact .inr h
   ·exact .inl (.inr ⟨j,by omega,hl,h⟩)
 ·rintro ((h | ⟨j,hj,hl,h⟩) | h)
  ·exact .inl h
  ·exact .inr ⟨j,by omega,hl,h⟩
  ·exact .inr ⟨k,by omega,hk,h⟩
theorem note03 (w:World) (vr vn:Value) (R:List Issue) (N:List Note) (hr:Sl zAY 5 w vr R) (hn:Sl zBL 10 w vn N) (i:Nat) (hiN:i < N.length) :
  Calls Tryz.prog 177 #[.agg #[vr,vn],.int .i64 i] w (zAK (zNE R N i N[i]) w):=by
 obtain ⟨hb1,B1⟩:=zBY w #[vr,vn] 27;have c0:=B1 0 vr rfl;have c1:=B1 1 vn rfl;clear B1;obtain ⟨an,capn,rfl,hmn⟩:=zD hn;obtain ⟨ar,capr,rfl,hmr⟩:=zD hr;have hn1:=zJ zAN hb1 hn;have hr1:=zJ zU hb1 hr;clear hn hr;obtain ⟨b,off,rfl,⟨p0,p1,p2,p3,p4,p5,p6,p7,p8,p9⟩,hnum⟩:=(zY hn1).2 i hiN;have C0:=Lib.hid c0;have C1:=Lib.hid c1;unfold zK at c0 c1 p0 p1 p2 p3 p4 p5 p6 p7 p8 p9;generalize hx:N[i]=x at *;have HX:=Lib.hid hx;clear hx;obtain ⟨⟨n1,n2⟩,⟨n3,n4⟩,n5,⟨n6,n7⟩,⟨n8,n9⟩,⟨n10,n11⟩,⟨n12,n13⟩,⟨n14,n15⟩,n16⟩:=hnum;go_enter Tryz.func177,Tryz.ntmps177;obtain ⟨hbx,BX⟩:=zBY (w.alloc (.cells #[.slice ar R.length capr,.slice (some ⟨b,off,none⟩) N.length capn] 27)) #[.int .i64 x.num,.int .i64 x.day,.int .u8 x.sg,.int .i64 x.d,.int .i64 x.l,.int .i64 x.fr,.int .i64 x.to,.int .i64 x.ca,.bool x.use,.int .u8 x.ways] 74;have x0:=BX 0 (.int .i64 x.num) rfl;have x1:=BX 1 (.int .i64 x.day) rfl;have x2:=BX 2 (.int .u8 x.sg) rfl;have x3:=BX 3 (.int .i64 x.d) rfl;have x4:=BX 4 (.int .i64 x.l) rfl;have x5:=BX 5 (.int .i64 x.fr) rfl;have x6:=BX 6 (.int .i64 x.to) rfl;have x7:=BX 7 (.int .i64 x.ca) rfl;have x8:=BX 8 (.bool x.use) rfl;have x9:=BX 9 (.int .u8 x.ways) rfl;have d0:=zC hbx C0.out;have d1:=zC hbx C1.out;rw [World.size_alloc] at x0 x1 x2 x3 x4 x5 x6 x7 x8 x9;have hb2:=zA hb1 hbx;have hn2:=zJ zAN hbx hn1;have hr2:=zJ zU hbx hr1;clear BX;go_wp2_with fail;clear c0 c1 p0 p1 p2 p3 p4 p5 p6 p7 p8 p9 hbx hn1 hr1 hb1 C0 C1;generalize (w.alloc _).alloc _=w2 at *;generalize w.heap.size+1=xb at *;have D0:=Lib.hid d0;have D1:=Lib.hid d1;have X0:=Lib.hid x0;have X1:=Lib.hid x1;have X3:=Lib.hid x3;have X4:=Lib.hid x4;have X7:=Lib.hid x7;have X8:=Lib.hid x8;have X9:=Lib.hid x9;unfold zK at d0 d1 x0 x1 x2 x3 x4 x5 x6 x7 x8 x9;refine (within03 _ _ _ _).mono ?_;intro e w3 hh;rcases hh.both with ⟨h1,rfl,rfl⟩ | ⟨h1,rfl,rfl⟩
 case inr=>go_wp2;go_ret;exact zAK.f (fun h=>h1 h.1.1) hb2
 clear hh;go_wp2_with fail;refine (within03 _ _ _ _).mono ?_;intro e w3 hh;rcases hh.both with ⟨h2,rfl,rfl⟩ | ⟨h2,rfl,rfl⟩
 case inr=>go_wp2;go_ret;exact zAK.f (fun h=>h2 h.1.2.1) hb2
 clear hh;by_cases h3:2 < x.sg
 case pos=>go_wp2;go_ret;exact zAK.f (fun h=>by have:=h.1.2.2.1;omega) hb2
 go_wp2_with fail;refine (within03 _ _ _ _).mono ?_;intro e w3 hh;rcases hh.both with ⟨h4,rfl,rfl⟩ | ⟨h4,rfl,rfl⟩
 case inr=>go_wp2;go_ret;exact zAK.f (fun h=>h4 h.1.2.2.2.1) hb2
 clear hh;by_cases h5:999 < x.to
 case pos=>go_wp2;go_ret;exact zAK.f (fun h=>by have:=h.1.2.2.2.2.1;omega) hb2
 by_cases h6:3 < x.ways
 case pos=>go_wp2;go_ret;exact zAK.f (fun h=>by have:=h.1.2.2.2.2.2;omega) hb2
 have HH:zNO x:=⟨h1,h2,by omega,h4,by omega,by omega⟩;by_cases g1:x.d=0/\x.l=0
 case' pos =>
  have b1:(x.d == 0)=true:=by simp [g1.1]
  have b2:(x.l == 0)=true:=by simp [g1.2]
  have G1:=Lib.hid g1;clear g1;by_cases g2:(x.ca == 0)=true
  case pos=>go_wp2;go_ret;exact zAK.f (fun h=>by rcases h.2.1 with h | h;(simp at g2;exact h.2.2 g2);(exact h.1 G1.out)) hb2
  have g2':(x.ca == 0)=false:=by simpa using g2
  have HR:NoteRef R x:=.inl ⟨G1.out.1,G1.out.2,by simpa using g2'⟩;clear h1 h2 h4
 case' neg =>
  by_cases g2:(x.d == 0)=true
  case' pos =>have g3:(x.l == 0)=false:=by simp at g2 ⊢;exact fun h=>g1 ⟨g2,h⟩
  case' neg =>have g3:(x.d == 0)=false:=by simpa using g2
  all_goals
   have G1:=Lib.hid g1;clear g1;go_wp2_with fail;refine (find02 _ _ R x.d x.l hr2).mono ?_;intro e w4 hf;obtain ⟨hb4,hf⟩:=hf;have X0':=Lib.hid (zC hb4 X0.out);have X1':=Lib.hid (zC hb4 X1.out);have X4':=Lib.hid (zC hb4 X4.out);have X7':=Lib.hid (zC hb4 X7.out);have X8':=Lib.hid (zC hb4 X8.out);have X9':=Lib.hid (zC hb4 X9.out);have D1':=Lib.hid (zC hb4 D1.out);have hn4:=zJ zAN hb4 hn2;have hb5:=zA hb2 hb4;clear X0 X1 X3 X4 X7 X8 X9 D0 D1 hn2 hr2 hb2 d0 d1 x0 x1 x2 x3 x4 x5 x6 x7 x8 x9 hb4 h1 h2 h3 h4 h5 h6;rcases hf with ⟨y,vi,vd,hfy,rfl,hy⟩ | ⟨hfy,rfl⟩
   case' inr =>have HFY:=Lib.hid hfy;clear hfy;go_wp2;go_ret;exact zAK.f (fun h=>by rcases h.2.1 with h | h;(exact G1.out ⟨h.1,h.2.1⟩);(exact h.2 HFY.out)) (zA hb5 (zB _ _))
   have HR:NoteRef R x:=.inr ⟨G1.out,by rw [hfy];simp⟩;obtain ⟨ai,capi,rfl,_⟩:=zD hy.items;obtain ⟨ad,capd,rfl,_⟩:=zD hy.dims;clear hy hfy;have hbl:=zB w4 (.cells #[.int .i64 y.d,.int .i64 y.l,.int .u8 y.k,.slice ai y.items.length capi,.slice ad y.dims.length capd] 118);have X0:=Lib.hid (zC hbl X0'.out);have X1:=Lib.hid (zC hbl X1'.out);have X4:=Lib.hid (zC hbl X4'.out);have X7:=Lib.hid (zC hbl X7'.out);have X8:=Lib.hid (zC hbl X8'.out);have X9:=Lib.hid (zC hbl X9'.out);have D1:=Lib.hid (zC hbl D1'.out);have hn2:=zJ zAN hbl hn4;have hb2:=zA hb5 hbl;have x4:=X4.out;have x7:=X7.out;have x8:=X8.out;have x9:=X9.out;unfold zK at x4 x7 x8 x9;have hxl:=zAD X4'.out;clear X0' X1' X4' X7' X8' X9' D1' hn4 hb5 hbl
 all_goals
  by_cases u1:x.l < 2
  ·by_cases u2:x.use=true
   ·have U2:=Lib.hid u2;go_wp2;go_ret;exact zAK.f (fun h=>by have:=(h.2.2.1 u1).1;rw [U2.out] at this;simp at this) hb2
   ·have u2':x.use=false:=by simpa using u2
    by_cases u3:0 < x.ways
    ·go_wp2;go_ret;exact zAK.f (fun h=>by have:=(h.2.2.1 u1).2;omega) hb2
    ·have HU:NoteUse x:=fun _=>⟨u2',by omega⟩
     have U2:=Lib.hid u2';go_wp2;clear x4 x7 x8 x9;go_loopw [8,9] (fun bf kk wr=>∃ (k:Nat) (bb:Bool),kk = .int .i64 k/\bf = .bool bb/\k<=i/\Below w.heap.size w wr/\zK wr w.heap.size 1 (.slice (some ⟨b,off,none⟩) N.length capn)/\zK wr xb 0 (.int .i64 x.num)/\zK wr xb 1 (.int .i64 x.day)/\zK wr xb 7 (.int .i64 x.ca) /\
      Sl zBL 10 wr (.slice (some ⟨b,off,none⟩) N.length capn) N/\(∀ j,j < k->∀ h:j < N.length,N[j].num≠x.num)/\(bb=true↔zDW N k x)) (fun _ kk _=>i - (intOf kk).toNat)
     case atStart =>refine ⟨0,_,rfl,rfl,by omega,hb2,D1.out,X0.out,X1.out,X7.out,hn2,fun j hj=>absurd hj (by omega),?_⟩;first | exact zMQ N x | (rw [<- g2'];exact zMQ N x)
     case round =>
      obtain ⟨k,bb,rfl,rfl,hk,hb,y1,z0,z1,z7,hnn,hall,hback⟩:=hrel;have HALL:=Lib.hid hall;have HBACK:=Lib.hid hback;clear hall hback D1 X0 X1 X4 X7 X8 X9 hn2 hb2;by_cases hlt:k < i
      ·have hkN:k < N.length:=by omega
       obtain ⟨b',off',hbb,⟨p0,p1,p2,p3,p4,p5,p6,p7,p8,p9⟩,_⟩:=(zY hnn).2 k hkN;cases hbb;have hbs:=Lib.hid (back_succ N x k hkN);generalize hy:N[k]=yy at *;have HY:=Lib.hid hy;clear hy;have hlo:=zAD p0;have hlx:=zAD z0;have hlw:=zAD y1;have hbl:=zB wr (.cells #[.int .i64 yy.num,.int .i64 yy.day,.int .u8 yy.sg,.int .i64 yy.d,.int .i64 yy.l,.int .i64 yy.fr,.int .i64 yy.to,.int .i64 yy.ca,.bool yy.use,.int .u8 yy.ways] 74);have K:=Lib.hid (And.intro (zC hbl y1) (And.intro (zC hbl z0) (And.intro (zC hbl z1) (And.intro (zC hbl z7) (zJ zAN hbl hnn)))));clear hnn hbl z1;unfold zK at p0 p1 p2 p3 p4 p5 p6 p7 p8 p9 y1 z0 z7;by_cases e1:(yy.num == x.num)=true
       ·go_wp2;go_ret;exact zAK.f (fun h=>by have:=h.2.2.2.1 k hlt hkN;rw [HY.out] at this;simp at e1;exact this e1) (zA hb (zB _ _))
       ·have e1':(yy.num == x.num)=false:=by simpa using e1
        cases bb
        ·by_cases e2:(yy.num == x.ca)=true
         ·go_wp2
          go_roundw
          case rel=>exact ⟨k+1,true,by go_num,rfl,by omega,zA hb (zB _ _),K.out.1,K.out.2.1,K.out.2.2.1,K.out.2.2.2.1,K.out.2.2.2.2,zAO _ k HALL.out (fun _=>by rw [HY.out];simpa using e1'),by rw [hbs.out];simp at e2;simp [e2]⟩
          case measure=>simp [intOf];omega
         ·have e2':(yy.num == x.ca)=false:=by simpa using e2
          go_wp2;go_roundw
          case rel=>exact ⟨k+1,false,by go_num,rfl,by omega,zA hb (zB _ _),K.out.1,K.out.2.1,K.out.2.2.1,K.out.2.2.2.1,K.out.2.2.2.2,zAO _ k HALL.out (fun _=>by rw [HY.out];simpa using e1'),by rw [hbs.out,<- HBACK.out];simp at e2;simp [e2]⟩
          case measure=>simp [intOf];omega
        ·go_wp2
         go_roundw
         case rel=>exact ⟨k+1,true,by go_num,rfl,by omega,zA hb (zB _ _),K.out.1,K.out.2.1,K.out.2.2.1,K.out.2.2.2.1,K.out.2.2.2.2,zAO _ k HALL.out (fun _=>by rw [HY.out];simpa using e1'),by rw [hbs.out,<- HBACK.out];simp⟩
         case measure=>simp [intOf];omega
      ·have hki:k=i:=by omega
       have hbk:bb=true↔zDW N i x:=by rw [<- hki];exact HBACK.out
       have hnw:NoteNew N i x:=fun j hj h=>HALL.out j (by omega) h
       have HBK:=Lib.hid hbk;have HNW:=Lib.hid hnw;clear hbk hnw HALL HBACK hki;by_cases e0:i=0
       ·have e1:((i:Int) == 0)=true:=by simp [e0]
        have hor:zMB N i x:=fun h0=>absurd h0 (by omega)
        have HOR:=Lib.hid hor;clear e0 hnn hor;unfold zK at y1 z0 z1 z7;cases bb
        ·go_wp2;go_ret;exact zAK.f (fun h=>by have:=HBK.out.2 h.2.2.2.2.1;simp at this) hb
        ·go_wp2;go_ret;exact zAK.t ⟨HH,HR,HU,HNW.out,HBK.out.1 (by simp),HOR.out⟩ hb
       ·have e1:((i:Int) == 0)=false:=by simp;omega
        have hi1:i - 1 < N.length:=by omega
        obtain ⟨b',off',hbb,⟨p0,p1,p2,p3,p4,p5,p6,p7,p8,p9⟩,_⟩:=(zY hnn).2 (i - 1) hi1;cases hbb;have hor:zMB N i x↔N[i - 1].day < x.day\/N[i - 1].day=x.day/\N[i - 1].num < x.num:=⟨fun h=>h (by omega) hi1,fun h _ _=>h⟩;have HOR:=Lib.hid hor;clear hor;generalize N[i - 1]=yy at *;have hlo:=zAD p0;have hlx:=zAD z0;have hlw:=zAD y1;have hi0:0 < i:=by omega
        clear hnn e0;unfold zK at p0 p1 p2 p3 p4 p5 p6 p7 p8 p9 y1 z0 z1 z7;cases bb
        ·go_wp2;go_ret;exact zAK.f (fun h=>by have:=HBK.out.2 h.2.2.2.2.1;simp at this) (zA hb (zB _ _))
        ·by_cases e2:yy.day < x.day
         ·go_wp2;go_ret;exact zAK.t ⟨HH,HR,HU,HNW.out,HBK.out.1 (by simp),HOR.out.2 (.inl e2)⟩ (zA hb (zB _ _))
         ·by_cases e3:(yy.day == x.day)=true
          ·by_cases e4:yy.num < x.num
           ·go_wp2;go_ret;exact zAK.t ⟨HH,HR,HU,HNW.out,HBK.out.1 (by simp),HOR.out.2 (.inr ⟨by simpa using e3,e4⟩)⟩ (zA hb (zB _ _))
           ·go_wp2;go_ret;exact zAK.f (fun h=>by have:=HOR.out.1 h.2.2.2.2.2;omega) (zA hb (zB _ _))
          ·have e3':(yy.day == x.day)=false:=by simpa using e3
           go_wp2;go_ret;exact zAK.f (fun h=>by have:=HOR.out.1 h.2.2.2.2.2;simp at e3;omega) (zA hb (zB _ _))
  ·have HU:NoteUse x:=fun h=>absurd h u1
   go_wp2;clear x4 x7 x8 x9;go_loopw [8,9] (fun bf kk wr=>∃ (k:Nat) (bb:Bool),kk = .int .i64 k/\bf = .bool bb/\k<=i/\Below w.heap.size w wr/\zK wr w.heap.size 1 (.slice (some ⟨b,off,none⟩) N.length capn)/\zK wr xb 0 (.int .i64 x.num)/\zK wr xb 1 (.int .i64 x.day)/\zK wr xb 7 (.int .i64 x.ca) /\
    Sl zBL 10 wr (.slice (some ⟨b,off,none⟩) N.length capn) N/\(∀ j,j < k->∀ h:j < N.length,N[j].num≠x.num)/\(bb=true↔zDW N k x)) (fun _ kk _=>i - (intOf kk).toNat)
   case atStart =>refine ⟨0,_,rfl,rfl,by omega,hb2,D1.out,X0.out,X1.out,X7.out,hn2,fun j hj=>absurd hj (by omega),?_⟩;first | exact zMQ N x | (rw [<- g2'];exact zMQ N x)
   case round =>
    obtain ⟨k,bb,rfl,rfl,hk,hb,y1,z0,z1,z7,hnn,hall,hback⟩:=hrel;have HALL:=Lib.hid hall;have HBACK:=Lib.hid hback;clear hall hback D1 X0 X1 X4 X7 X8 X9 hn2 hb2;by_cases hlt:k < i
    ·have hkN:k < N.length:=by omega
     obtain ⟨b',off',hbb,⟨p0,p1,p2,p3,p4,p5,p6,p7,p8,p9⟩,_⟩:=(zY hnn).2 k hkN;cases hbb;have hbs:=Lib.hid (back_succ N x k hkN);generalize hy:N[k]=yy at *;have HY:=Lib.hid hy;clear hy;have hlo:=zAD p0;have hlx:=zAD z0;have hlw:=zAD y1;have hbl:=zB wr (.cells #[.int .i64 yy.num,.int .i64 yy.day,.int .u8 yy.sg,.int .i64 yy.d,.int .i64 yy.l,.int .i64 yy.fr,.int .i64 yy.to,.int .i64 yy.ca,.bool yy.use,.int .u8 yy.ways] 74);have K:=Lib.hid (And.intro (zC hbl y1) (And.intro (zC hbl z0) (And.intro (zC hbl z1) (And.intro (zC hbl z7) (zJ zAN hbl hnn)))));clear hnn hbl z1;unfold zK at p0 p1 p2 p3 p4 p5 p6 p7 p8 p9 y1 z0 z7;by_cases e1:(yy.num == x.num)=true
     ·go_wp2;go_ret;exact zAK.f (fun h=>by have:=h.2.2.2.1 k hlt hkN;rw [HY.out] at this;simp at e1;exact this e1) (zA hb (zB _ _))
     ·have e1':(yy.num == x.num)=false:=by simpa using e1
      cases bb
      ·by_cases e2:(yy.num == x.ca)=true
       ·go_wp2
        go_roundw
        case rel=>exact ⟨k+1,true,by go_num,rfl,by omega,zA hb (zB _ _),K.out.1,K.out.2.1,K.out.2.2.1,K.out.2.2.2.1,K.out.2.2.2.2,zAO _ k HALL.out (fun _=>by rw [HY.out];simpa using e1'),by rw [hbs.out];simp at e2;simp [e2]⟩
        case measure=>simp [intOf];omega
       ·have e2':(yy.num == x.ca)=false:=by simpa using e2
        go_wp2;go_roundw
        case rel=>exact ⟨k+1,false,by go_num,rfl,by omega,zA hb (zB _ _),K.out.1,K.out.2.1,K.out.2.2.1,K.out.2.2.2.1,K.out.2.2.2.2,zAO _ k HALL.out (fun _=>by rw [HY.out];simpa using e1'),by rw [hbs.out,<- HBACK.out];simp at e2;simp [e2]⟩
        case measure=>simp [intOf];omega
      ·go_wp2
       go_roundw
       case rel=>exact ⟨k+1,true,by go_num,rfl,by omega,zA hb (zB _ _),K.out.1,K.out.2.1,K.out.2.2.1,K.out.2.2.2.1,K.out.2.2.2.2,zAO _ k HALL.out (fun _=>by rw [HY.out];simpa using e1'),by rw [hbs.out,<- HBACK.out];simp⟩
       case measure=>simp [intOf];omega
    ·have hki:k=i:=by omega
     have hbk:bb=true↔zDW N i x:=by rw [<- hki];exact HBACK.out
     have hnw:NoteNew N i x:=fun j hj h=>HALL.out j (by omega) h
     have HBK:=Lib.hid hbk;have HNW:=Lib.hid hnw;clear hbk hnw HALL HBACK hki;by_cases e0:i=0
     ·have e1:((i:Int) == 0)=true:=by simp [e0]
      have hor:zMB N i x:=fun h0=>absurd h0 (by omega)
      have HOR:=Lib.hid hor;clear e0 hnn hor;unfold zK at y1 z0 z1 z7;cases bb
      ·go_wp2;go_ret;exact zAK.f (fun h=>by have:=HBK.out.2 h.2.2.2.2.1;simp at this) hb
      ·go_wp2;go_ret;exact zAK.t ⟨HH,HR,HU,HNW.out,HBK.out.1 (by simp),HOR.out⟩ hb
     ·have e1:((i:Int) == 0)=false:=by simp;omega
      have hi1:i - 1 < N.length:=by omega
      obtain ⟨b',off',hbb,⟨p0,p1,p2,p3,p4,p5,p6,p7,p8,p9⟩,_⟩:=(zY hnn).2 (i - 1) hi1;cases hbb;have hor:zMB N i x↔N[i - 1].day < x.day\/N[i - 1].day=x.day/\N[i - 1].num < x.num:=⟨fun h=>h (by omega) hi1,fun h _ _=>h⟩;have HOR:=Lib.hid hor;clear hor;generalize N[i - 1]=yy at *;have hlo:=zAD p0;have hlx:=zAD z0;have hlw:=zAD y1;have hi0:0 < i:=by omega
      clear hnn e0;unfold zK at p0 p1 p2 p3 p4 p5 p6 p7 p8 p9 y1 z0 z1 z7;cases bb
      ·go_wp2;go_ret;exact zAK.f (fun h=>by have:=HBK.out.2 h.2.2.2.2.1;simp at this) (zA hb (zB _ _))
      ·by_cases e2:yy.day < x.day
       ·go_wp2;go_ret;exact zAK.t ⟨HH,HR,HU,HNW.out,HBK.out.1 (by simp),HOR.out.2 (.inl e2)⟩ (zA hb (zB _ _))
       ·by_cases e3:(yy.day == x.day)=true
        ·by_cases e4:yy.num < x.num
         ·go_wp2;go_ret;exact zAK.t ⟨HH,HR,HU,HNW.out,HBK.out.1 (by simp),HOR.out.2 (.inr ⟨by simpa using e3,e4⟩)⟩ (zA hb (zB _ _))
         ·go_wp2;go_ret;exact zAK.f (fun h=>by have:=HOR.out.1 h.2.2.2.2.2;omega) (zA hb (zB _ _))
        ·have e3':(yy.day == x.day)=false:=by simpa using e3
         go_wp2;go_ret;exact zAK.f (fun h=>by have:=HOR.out.1 h.2.2.2.2.2;simp at e3;omega) (zA hb (zB _ _))
end
end Go.Proofs.YtipaopbmklbmnaaGreatDoor
