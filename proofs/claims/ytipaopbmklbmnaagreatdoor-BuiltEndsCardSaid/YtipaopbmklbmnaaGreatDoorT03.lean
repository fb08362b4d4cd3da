/- Lemmas. -/
import Derived.Test.YtipaopbmklbmnaaGreatDoorT02
set_option linter.all false
set_option maxRecDepth 100000
set_option maxHeartbeats 0
namespace Go.Proofs.YtipaopbmklbmnaaGreatDoor
section
open Tryz
open Go.RowKit Go.Shelf
attribute [local go_sem] zAE Oper.grows Oper.growUpon
def zKF (x:Int) (v:Value) (w:World) : Prop:=∃ b,v = .slice (some ⟨b,0,none⟩) 1 1/\zK w b 0 (.int .i64 x)
theorem zEB (x:Int) : zED (zKF x):=fun _ _ _ hb ⟨b,h,hc⟩=>⟨b,h,zC hb hc⟩
theorem zGZ {n lo hi:Int} (h:¬ In n lo hi) : inB n lo hi=false:=by
 by_cases e:inB n lo hi=true
 ·exact (h (zGA e)).elim
 ·simpa using e
theorem zGY {n lo hi:Int} (h:In n lo hi) : inB n lo hi=true:=by unfold inB;simpa [In] using h
theorem zHG (w:World) (lo hi x:Int) (v:Value) (h:zKF x v w) (hx:I64 x) :
  Calls prog 161 #[.int .i64 lo,.int .i64 hi,v] w fun e w'=>e = .returned (.bool (inB x lo hi))/\Below w.heap.size w w':=by
 obtain ⟨b,rfl,hc⟩:=h;refine (in_sheet w lo hi _ [x] (sl_row1 hc hx)).mono ?_;intro e w' h;rcases h.both with ⟨g1,rfl,hb⟩ | ⟨g1,rfl,hb⟩
 ·exact ⟨zFH (zGY (g1 x (by simp))).symm,hb⟩
 ·exact ⟨zFH (zGZ (fun h=>g1 (fun y hy=>by simp at hy;rw [hy];exact h))).symm,hb⟩
structure IssBox (w:World) (g:Nat) (x:Issue) (ai ad:Option Addr) (ci cd:Nat) : Prop where
 c0:zK w g 0 (.int .i64 x.d)
 c1:zK w g 1 (.int .i64 x.l)
 c2:zK w g 2 (.int .u8 x.k)
 c3:zK w g 3 (.slice ai x.items.length ci)
 c4:zK w g 4 (.slice ad x.dims.length cd)
theorem IssBox.ext {w w':World} {g:Nat} {x:Issue} {ai ad:Option Addr} {ci cd:Nat} (hb:Below w.heap.size w w') (h:IssBox w g x ai ad ci cd) : IssBox w' g x ai ad ci cd :=
 ⟨zC hb h.c0,zC hb h.c1,zC hb h.c2,zC hb h.c3,zC hb h.c4⟩
theorem zKW (w:World) (x:Issue) (ai ad:Option Addr) (ci cd:Nat) : IssBox (w.alloc (.cells #[.int .i64 x.d,.int .i64 x.l,.int .u8 x.k,.slice ai x.items.length ci,.slice ad x.dims.length cd] 118)) w.heap.size x ai ad ci cd :=
 ⟨zR _ _ _ 0 _ rfl,zR _ _ _ 1 _ rfl,zR _ _ _ 2 _ rfl,zR _ _ _ 3 _ rfl,zR _ _ _ 4 _ rfl⟩
def Chk1 (x:Issue) : Prop:=In x.d 1 9999/\In x.l 1 8
def Chk2 (x:Issue) : Prop:=(x.k=1->In x.items.length 1 8/\x.dims.length=0)/\(x.k≠1->In x.k 2 3/\x.dims.length<=4/\x.items.length=0)
def Chk3 (x:Issue) : Prop:=∀ k,k < x.items.length->zKC x k
def Chk4 (x:Issue) : Prop:=∀ d∈x.dims,zOA d
theorem chk_all (x:Issue) (hk:U8 x.k) : zGW x↔Chk1 x/\Chk2 x/\Chk3 x/\Chk4 x:=by
 unfold zGW HeadOk Chk1 Chk2 Chk3 Chk4 In;constructor
 ·rintro ⟨⟨h1,h2,h3,h4,h5⟩,h6,h7⟩
  refine ⟨⟨h1,h2⟩,⟨h4,fun h=>?_⟩,h6,fun d hd=>?_⟩
  ·have:=h5 (by omega);omega
  ·obtain ⟨k,hk,rfl⟩:=List.getElem_of_mem hd;exact h7 k hk
 ·rintro ⟨⟨h1,h2⟩,⟨h3,h4⟩,h5,h6⟩
  refine ⟨⟨h1,h2,?_,h3,fun h=>?_⟩,h5,fun k hk=>h6 _ (List.getElem_mem hk)⟩
  ·by_cases e:x.k=1
   ·omega
   ·have:=(h4 e).1;omega
  ·have:=h4 (by omega);omega
theorem checks1 (w:World) (x:Issue) (vi vd:Value) (h:IssueAt w vi vd x) :
  Calls prog 254 #[.agg #[.int .i64 x.d,.int .i64 x.l,.int .u8 x.k,vi,vd]] w (zAK (Chk1 x) w):=by
 obtain ⟨ai,capi,rfl,_⟩:=zD h.items;obtain ⟨ad,capd,rfl,_⟩:=zD h.dims;obtain ⟨hd0,hd1,hd2⟩:=h.num;have B:=zKW w x ai ad capi capd;have hb1:=zB w (.cells #[.int .i64 x.d,.int .i64 x.l,.int .u8 x.k,.slice ai x.items.length capi,.slice ad x.dims.length capd] 118);go_enter func254,ntmps254;go_wp2_with fail;have row:=zR (w.alloc (.cells #[.int .i64 x.d,.int .i64 x.l,.int .u8 x.k,.slice ai x.items.length capi,.slice ad x.dims.length capd] 118)) #[.int .i64 x.d] 3 0 (.int .i64 x.d) rfl;rw [World.size_alloc] at row;have hb2:=zA hb1 (zB (w.alloc (.cells #[.int .i64 x.d,.int .i64 x.l,.int .u8 x.k,.slice ai x.items.length capi,.slice ad x.dims.length capd] 118)) (.cells #[.int .i64 x.d] 3));have B:=B.ext (zB _ (.cells #[.int .i64 x.d] 3));clear hb1;generalize (w.alloc _).alloc _=w1 at *;refine (zHG _ _ _ x.d _ ⟨_,rfl,row⟩ hd0).mono ?_;rintro e w2 ⟨rfl,hb3⟩;have hbb:=zA hb2 hb3;have c1:=(B.ext hb3).c1;clear B row hb2 hb3 h;by_cases g1:inB x.d 1 9999=true
 ·have hl:=zAD c1
  unfold zK at c1;go_wp2_with fail;have row:=zR w2 #[.int .i64 x.l] 3 0 (.int .i64 x.l) rfl;have hb4:=zA hbb (zB w2 (.cells #[.int .i64 x.l] 3));generalize w2.alloc _=w3 at *;refine (zHG _ _ _ x.l _ ⟨_,rfl,row⟩ hd1).mono ?_;rintro e w4 ⟨rfl,hb5⟩;clear c1 row;by_cases g2:inB x.l 1 8=true
  ·go_wp2;go_ret;exact zAK.t ⟨zGA g1,zGA g2⟩ (zA hb4 hb5)
  ·have g2':=zGD g2;go_wp2;go_ret;exact zAK.f (fun h=>zLW g2 h.2) (zA hb4 hb5)
 ·have g1':=zGD g1;clear c1;go_wp2;go_ret;exact zAK.f (fun h=>zLW g1 h.1) hbb
theorem checks3 (w:World) (x:Issue) (vi vd:Value) (h:IssueAt w vi vd x) :
  Calls prog 256 #[.agg #[.int .i64 x.d,.int .i64 x.l,.int .u8 x.k,vi,vd]] w (zAK (Chk3 x) w):=by
 obtain ⟨ai,capi,rfl,hmi⟩:=zD h.items;obtain ⟨ad,capd,rfl,_⟩:=zD h.dims;have hb1:=zB w (.cells #[.int .i64 x.d,.int .i64 x.l,.int .u8 x.k,.slice ai x.items.length capi,.slice ad x.dims.length capd] 118);have B:=zE (zKW w x ai ad capi capd);go_enter func256,ntmps256;go_wp2;generalize w.alloc _=w1 at *;go_loopw [8] (fun i wr=>∃ k:Nat,i = .int .i64 k/\k<=x.items.length/\Below w1.heap.size w1 wr/\Hid (∀ j,j < k->zKC x j)) (fun i _=>x.items.length - (intOf i).toNat)
 case atStart=>exact ⟨0,rfl,by omega,br_,fun j hj=>absurd hj (by omega)⟩
 case round =>
  obtain ⟨k,rfl,hk,hb,hall⟩:=hrel;by_cases hlt:k < x.items.length
  ·have hbw:=zA hb1 hb
   have hXX:=(zY (zJ zAX hbw h.items)).2;obtain ⟨b,off,rfl,⟨q0,q1⟩,hn0,hn1⟩:=hXX k hlt;have hY:Hid (zKC x k↔In x.items[k].d 1 9999/\In x.items[k].c 1 20/\x.items[k].d≠x.d/\(∀ h1:0 < k,x.items[k - 1].d < x.items[k].d)):=⟨fun h=>h hlt,fun h _=>h⟩;have HP:Hid (∀ h0:0 < k,zK wr b (off+(k - 1)*2) (.int .i64 x.items[k - 1].d)):=fun h0=>by
    obtain ⟨b',off',hh,⟨p0,_⟩,_⟩:=hXX (k - 1) (by omega);cases hh;exact p0
   generalize x.items[k]=y at *;unfold zK at q0 q1;go_wp2;have n0:=zR wr #[.int .i64 y.d,.int .i64 y.c] 97 0 (.int .i64 y.d) rfl;have n1:=zR wr #[.int .i64 y.d,.int .i64 y.c] 97 1 (.int .i64 y.c) rfl;have hba:=zB wr (.cells #[.int .i64 y.d,.int .i64 y.c] 97);have B2:=B.out.ext (zA hb hba);have HP2:Hid (∀ h0:0 < k,zK (wr.alloc (.cells #[.int .i64 y.d,.int .i64 y.c] 97)) b (off+(k - 1)*2) (.int .i64 x.items[k - 1].d)):=fun h0=>zC hba (HP.out h0)
   have hb2:=zA hb hba;clear HP hXX q0 q1 hba;generalize wr.alloc _=w2 at *;generalize wr.heap.size=s2 at *;have K0:=zH n0;have K1:=zH n1;have K2:=zH B2.c0;have K3:=zH B2.c3;have hz:∀ h0:0 < k,IntKind.i64.wrap ((k:Int) - 1)=((k - 1:Nat) : Int):=fun h0=>by rw [IntWalk.i64_in _ (by omega)];omega
   have HZ:=zE hz;clear hz n0 n1 B2;refine (Classical.em (inB y.d 1 9999=true)).elim (fun g1=>(Classical.em (inB y.c 1 20=true)).elim (fun g2=>(Classical.em ((y.d == x.d)=true)).elim (fun g3=>?a3) (fun g3=>(Classical.em (0 < k)).elim (fun h0=>?a5) (fun h0=>?a4))) (fun g2=>?a2)) (fun g1=>?a1)
   case' a1=>have g1':=zGD g1
   case' a2=>have g2':=zGD g2
   case' a4 =>
    have g3':(y.d == x.d)=false:=by simpa using g3
    have h0i:¬ (0 < (k:Int)):=by omega
    have h0d:decide (0 < (k:Int))=false:=by simpa using h0
   case' a5 =>
    have g3':(y.d == x.d)=false:=by simpa using g3
    have KP:=zH (HP2.out h0);have hz:=HZ.out h0;have hYY:Hid (zKC x k↔In y.d 1 9999/\In y.c 1 20/\y.d≠x.d/\x.items[k - 1].d < y.d):=⟨fun h=>by have:=hY.out.1 h;exact ⟨this.1,this.2.1,this.2.2.1,this.2.2.2 h0⟩,fun h=>hY.out.2 ⟨h.1,h.2.1,h.2.2.1,fun _=>h.2.2.2⟩⟩;have hk1:k - 1 < x.items.length:=by omega
    clear HP2 hY HZ;generalize x.items[k - 1]=z at *;refine (Classical.em (y.d<=z.d)).elim (fun g4=>?b5) (fun g4=>?a6)
   case' a6=>have g4':decide (y.d<=z.d)=false:=by simpa using g4
   all_goals
    refine zM 35 (by kernel_rfl) (by kernel_rfl) ?_;simp only [tk_];iterate 2 (apply gx_;focus (intro vs xq hd;(try simp [hq_] at hd);simp only [pf_];go_simp;first | exact ⟨br_,rfl⟩ | exact rfl))
    first | (apply gx_;focus (intro vs xq hd;(try simp [hq_] at hd);simp only [pf_];go_simp;exact rfl)) | (refine zL (fun v w9=>zKF y.d v w9) (zEB y.d) (fun vs xq hd=>?_) ?_;focus ((try simp [hq_] at hd);simp only [pf_];go_simp;exact ⟨zB _ _,_,rfl,zR _ _ _ 0 _ rfl⟩))
    apply gx_;focus (intro vs xq hd;(try simp [hq_] at hd);simp only [pf_];go_simp;first | exact ⟨br_,rfl⟩ | exact rfl | (refine (zHG _ _ _ y.d _ hd hn0).mono ?_;rintro e w9 ⟨rfl,hb9⟩;exact ⟨rfl,hb9⟩))
    iterate 4 (apply gx_;focus (intro vs xq hd;(try simp [hq_] at hd);simp only [pf_];go_simp;first | exact ⟨br_,rfl⟩ | exact rfl))
    first | (apply gx_;focus (intro vs xq hd;(try simp [hq_] at hd);simp only [pf_];go_simp;exact rfl)) | (refine zL (fun v w9=>zKF y.c v w9) (zEB y.c) (fun vs xq hd=>?_) ?_;focus ((try simp [hq_] at hd);simp only [pf_];go_simp;exact ⟨zB _ _,_,rfl,zR _ _ _ 0 _ rfl⟩))
    apply gx_;focus (intro vs xq hd;(try simp [hq_] at hd);simp only [pf_];go_simp;first | exact ⟨br_,rfl⟩ | exact rfl | (refine (zHG _ _ _ y.c _ hd.1 hn1).mono ?_;rintro e w9 ⟨rfl,hb9⟩;exact ⟨rfl,hb9⟩))
    iterate 25 (apply gx_;focus (intro vs xq hd;(try simp [hq_] at hd);simp only [pf_];go_simp;first | exact ⟨br_,rfl⟩ | exact rfl))
    refine zQ (by simp only [List.length_append,List.length_cons,List.length_nil]) (fun vs xq hd=>?_);simp [zW,zAI,List.range,List.range.loop] at hd;simp only [pf_];have e34:=hd.2.2.2.2.2.2.2.2.2.2.2.2.2.2.2.2.2.2.2.2.2.2.2.2.2.2.2.2.2.2.2.2.2.2;clear hd;generalize vs 34=u34 at *;subst e34;have hbl:=zA hb2 (zG w2 xq);clear K0 K1 K2 K3;generalize w2.later xq=w3 at *
   case a1 =>go_wp2;go_ret;exact zAK.f (fun h=>zLW g1 (hY.out.1 (h k hlt)).1) (zA hb1 hbl)
   case a2 =>go_wp2;go_ret;exact zAK.f (fun h=>zLW g2 (hY.out.1 (h k hlt)).2.1) (zA hb1 hbl)
   case a3 =>go_wp2;go_ret;exact zAK.f (fun h=>(hY.out.1 (h k hlt)).2.2.1 (by simpa using g3)) (zA hb1 hbl)
   case a4 =>
    go_wp2;go_roundw
    ·exact ⟨k+1,by go_num,by omega,hbl,zAO _ k hall.out (hY.out.2 ⟨zGA g1,zGA g2,by simpa using g3',fun h=>absurd h h0⟩)⟩
    ·simp [intOf];omega
   case b5 =>clear KP hz;go_wp2;go_ret;exact zAK.f (fun h=>by have:=(hYY.out.1 (h k hlt)).2.2.2;omega) (zA hb1 hbl)
   case a6 =>
    clear KP hz;go_wp2;go_roundw
    ·exact ⟨k+1,by go_num,by omega,hbl,zAO _ k hall.out (hYY.out.2 ⟨zGA g1,zGA g2,by simpa using g3',by omega⟩)⟩
    ·simp [intOf];omega
  ·clear h;go_wp2;go_ret;exact zAK.t (fun j hj=>hall.out j (by omega)) (zA hb1 hb)
theorem checks2 (w:World) (x:Issue) (vi vd:Value) (h:IssueAt w vi vd x) :
  Calls prog 255 #[.agg #[.int .i64 x.d,.int .i64 x.l,.int .u8 x.k,vi,vd]] w (zAK (Chk2 x) w):=by
 obtain ⟨ai,capi,rfl,hli⟩:=zD h.items;obtain ⟨ad,capd,rfl,hld⟩:=zD h.dims;obtain ⟨hd0,hd1,hd2,hd3⟩:=h.num;clear h;have B:=zKW w x ai ad capi capd;have hb1:=zB w (.cells #[.int .i64 x.d,.int .i64 x.l,.int .u8 x.k,.slice ai x.items.length capi,.slice ad x.dims.length capd] 118);by_cases k1:x.k=1
 ·have b1:(x.k == 1)=true:=by simp [k1]
  have K1:=zE k1;clear k1;go_enter func255,ntmps255;go_wp2_with fail;have row:=zR (w.alloc (.cells #[.int .i64 x.d,.int .i64 x.l,.int .u8 x.k,.slice ai x.items.length capi,.slice ad x.dims.length capd] 118)) #[.int .i64 x.items.length] 3 0 (.int .i64 x.items.length) rfl;rw [World.size_alloc] at row;have hb2:=zA hb1 (zB (w.alloc (.cells #[.int .i64 x.d,.int .i64 x.l,.int .u8 x.k,.slice ai x.items.length capi,.slice ad x.dims.length capd] 118)) (.cells #[.int .i64 x.items.length] 3));have B:=B.ext (zB _ (.cells #[.int .i64 x.items.length] 3));clear hb1;generalize (w.alloc _).alloc _=w1 at *;refine (zHG _ _ _ x.items.length _ ⟨_,rfl,row⟩ ⟨by omega,by omega⟩).mono ?_;rintro e w2 ⟨rfl,hb3⟩;have hbb:=zA hb2 hb3;have c4:=(B.ext hb3).c4;clear B row hb2 hb3;unfold zK at c4;by_cases g1:inB x.items.length 1 8=true
  ·have G1:=zE (zGA g1)
   go_wp2;go_ret;refine ⟨_,rfl,?_,hbb⟩;constructor
   ·intro h;exact ⟨fun _=>⟨G1.out,by simpa using h⟩,fun h=>absurd K1.out h⟩
   ·intro h;have:=(h.1 K1.out).2;simpa using this
  ·have g1':=zGD g1;go_wp2;go_ret;exact zAK.f (fun h=>zLW g1 (h.1 K1.out).1) hbb
 ·have b1:(x.k == 1)=false:=by simp [k1]
  have K1:=zE k1;clear k1;go_enter func255,ntmps255;go_wp2_with fail;have row:=zR (w.alloc (.cells #[.int .i64 x.d,.int .i64 x.l,.int .u8 x.k,.slice ai x.items.length capi,.slice ad x.dims.length capd] 118)) #[.int .i64 x.k] 3 0 (.int .i64 x.k) rfl;rw [World.size_alloc] at row;have hb2:=zA hb1 (zB (w.alloc (.cells #[.int .i64 x.d,.int .i64 x.l,.int .u8 x.k,.slice ai x.items.length capi,.slice ad x.dims.length capd] 118)) (.cells #[.int .i64 x.k] 3));have B:=B.ext (zB _ (.cells #[.int .i64 x.k] 3));clear hb1;generalize (w.alloc _).alloc _=w1 at *;refine (zHG _ _ _ x.k _ ⟨_,rfl,row⟩ ⟨by omega,by omega⟩).mono ?_;rintro e w2 ⟨rfl,hb3⟩;have hbb:=zA hb2 hb3;have c4:=(B.ext hb3).c4;have c3:=(B.ext hb3).c3;clear B row hb2 hb3;unfold zK at c3 c4;by_cases g1:inB x.k 2 3=true
  ·have G1:=zE (zGA g1)
   by_cases g2:x.dims.length<=4
   ·go_wp2
    go_ret;refine ⟨_,rfl,?_,hbb⟩;constructor
    ·intro h;exact ⟨fun h=>absurd h K1.out,fun _=>⟨G1.out,g2,by simpa using h⟩⟩
    ·intro h;have:=(h.2 K1.out).2.2;simpa using this
   ·go_wp2;go_ret;exact ⟨_,rfl,⟨fun h=>by simp at h,fun h=>by have:=(h.2 K1.out).2.1;omega⟩,hbb⟩
  ·have g1':=zGD g1;go_wp2;go_ret;exact zAK.f (fun h=>zLW g1 (h.2 K1.out).1) hbb
theorem enter_checks41:Enters prog 259:=enters_of func259 (by kernel_rfl) rfl
theorem checks41 (w:World) (d:Dim) (hd:I64 d.n/\I64 d.lo/\I64 d.up) :
  Calls prog 259 #[.agg #[.int .i64 d.n,.int .i64 d.lo,.int .i64 d.up]] w (zAK (¬ zOA d) w):=by
 have hb1:=zB w (.cells #[.int .i64 d.n,.int .i64 d.lo,.int .i64 d.up] 167);go_enter func259,ntmps259;go_wp2_with fail;generalize w.alloc _=w1 at *;refine (check_size _ d hd).mono ?_;rintro e w2 ⟨rfl,hb2⟩;have H:Hid (zIV d≠0↔¬ zOA d):=by
  unfold zIV;constructor
  ·intro h h1;exact h (if_pos h1)
  ·intro h h1;rw [if_neg h] at h1;cases h1
 generalize zIV d=c at *;go_wp2;go_ret;exact ⟨c != 0,rfl,by rw [bne_iff_ne];exact H.out,zA hb1 hb2⟩
theorem checks4 (w:World) (x:Issue) (vi vd:Value) (h:IssueAt w vi vd x) :
  Calls prog 257 #[.agg #[.int .i64 x.d,.int .i64 x.l,.int .u8 x.k,vi,vd]] w (zAK (Chk4 x) w):=by
 obtain ⟨ai,capi,rfl,_⟩:=zD h.items;obtain ⟨ad,capd,rfl,_⟩:=zD h.dims;have hb1:=zB w (.cells #[.int .i64 x.d,.int .i64 x.l,.int .u8 x.k,.slice ai x.items.length capi,.slice ad x.dims.length capd] 118);go_enter func257,ntmps257;go_wp2_with fail;generalize w.alloc _=w1 at *;refine (zQR _ _ x.dims (h.ext hb1).dims 259 #[] enter_checks41 (fun d=>¬ zOA d) (fun d hdm w' hb=>?_)).mono ?_
 ·simp only [Array.append_empty];refine checks41 w' d ?_;obtain ⟨k,hk,rfl⟩:=List.getElem_of_mem hdm;obtain ⟨b,off,_,he⟩:=(zY h.dims).2 k hk;exact he.2
 ·intro e w2 hr
  rcases hr.both with ⟨k1,rfl,hb2⟩ | ⟨k1,rfl,hb2⟩
  ·have K:=zE k1;clear k1 hr;go_wp2;go_ret;exact zAK.f (fun h=>by obtain ⟨x,hx,hn⟩:=K.out;exact hn (h x hx)) (zA hb1 hb2)
  ·have K:=zE k1;clear k1 hr;go_wp2;go_ret;exact zAK.t (fun x hx=>Classical.byContradiction fun hn=>K.out ⟨x,hx,hn⟩) (zA hb1 hb2)
end
end Go.Proofs.YtipaopbmklbmnaaGreatDoor
