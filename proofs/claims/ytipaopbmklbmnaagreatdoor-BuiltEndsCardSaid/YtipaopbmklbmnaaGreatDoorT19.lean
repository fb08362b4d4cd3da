/- Lemmas. -/
import Derived.Test.YtipaopbmklbmnaaGreatDoorT18
set_option linter.all false
set_option maxRecDepth 100000
set_option maxHeartbeats 0
namespace Go.Proofs.YtipaopbmklbmnaaGreatDoor
section
open Tryz
open Go.RowKit
def zNT (b:Built) (S:List Int) (m:Int) (d:Int) (k:Nat) : Int:=zLG b.hs d (zAA S m b.ns.notes d) (zMD b.ns.notes (zLR S m b.ns.notes d)) k
def bfAt (b:Built) (S:List Int) (i:Nat) (h:Int) : Int:=if 0<=h then zCX b S h.toNat i else 0
def zQZ (c l h bf:Int) : Value:=.agg #[.int .i64 c,.int .i64 l,.int .i64 h,.int .i64 bf]
def vis2 (b:Built) (S:List Int) (m:Int) (D:List Int) (d:Int) : Option Value:=if d∈D then some (zQZ 0 (zAA S m b.ns.notes d) (-1) 0) else none
def vis4 (b:Built) (S:List Int) (m:Int) (L:List Item) (j:Nat) (d:Int) : Option Value:=if d∈nums b.ns.reg then some (zQZ (zQN L d j) (zAA S m b.ns.notes d) (-1) 0) else none
def vis6 (b:Built) (S:List Int) (m:Int) (i k:Nat) (d:Int) : Option Value:=if d∈nums b.ns.reg then some (zQZ (zIE b.ns.reg (zAA S m b.ns.notes) b.of d) (zAA S m b.ns.notes d) (zNT b S m d k) (bfAt b S i (zNT b S m d k))) else none
def visF (b:Built) (S:List Int) (i:Nat) (d:Int) : Option Value:=if d∈nums b.ns.reg then
 some (zQZ (zZ b S ((b.ms[i]?).getD 0) d).c (zZ b S ((b.ms[i]?).getD 0) d).l (zZ b S ((b.ms[i]?).getD 0) d).h (bfAt b S i (zZ b S ((b.ms[i]?).getD 0) d).h)) else none
theorem visF_is {b:Built} {S:List Int} {i:Nat} {m:Int} (hm:b.ms[i]? = some m) : vis6 b S m i b.hs.length=visF b S i:=by
 funext d
 unfold vis6 visF zNT;rw [hm];rfl
theorem vis6_zero {b:Built} (h:zF b=0) (S:List Int) (m:Int) (i:Nat) : vis4 b S m (zIL b.ns.reg (zAA S m b.ns.notes) b.of) (zIL b.ns.reg (zAA S m b.ns.notes) b.of).length=vis6 b S m i 0:=by
 funext d
 unfold vis4 vis6;by_cases hd:d∈nums b.ns.reg
 ·rw [if_pos hd,if_pos hd];congr 1;unfold zIL;rw [lastC_pos hd (cnt_bd (zBJ (zS h).1).1 _ (zQS h) d).1];rfl
 ·rw [if_neg hd,if_neg hd]
theorem heap_one {b:Built} (h:zF b=0) {i j:Nat} (hi:i < j) (hj:j < b.hs.length) : ¬ (b.hs[i].d=b.hs[j].d/\b.hs[i].l=b.hs[j].l):=by
 have:=(zS h).2.2.2.2.2.2.1 j hj hj;exact this.2.2.2.2 i hi (by omega)
theorem zMZ {b:Built} {S:List Int} {m d:Int} {k:Nat} : zNT b S m d (k+1)=if zMD b.ns.notes (zLR S m b.ns.notes d)=true/\(∃ h:k < b.hs.length,b.hs[k].d=d/\b.hs[k].l=zAA S m b.ns.notes d - 1) then (k:Int) else zNT b S m d k:=rfl
theorem hpTo_after {b:Built} (h:zF b=0) {S:List Int} {m d:Int} {k:Nat} (hk:k < b.hs.length) (hp:zNT b S m d (k+1)=k) : ∀ j,k < j->zNT b S m d j=k:=by
 have hm:zMD b.ns.notes (zLR S m b.ns.notes d)=true/\(∃ h:k < b.hs.length,b.hs[k].d=d/\b.hs[k].l=zAA S m b.ns.notes d - 1):=by
  rw [zMZ] at hp;split at hp
  ·assumption
  ·have:=(zNY b.hs d (zAA S m b.ns.notes d) (zMD b.ns.notes (zLR S m b.ns.notes d)) k).2;unfold zNT at hp;omega
 intro j;induction j with
 | zero=>intro h;omega
 | succ j ih =>
   intro hj;by_cases e:k=j
   ·subst e;exact hp
   ·rw [zMZ,if_neg,ih (by omega)];rintro ⟨_,hjl,h1,h2⟩;obtain ⟨_,_,h3,h4⟩:=hm;exact heap_one h (show k < j by omega) hjl ⟨by rw [h3,h1],by rw [h4,h2]⟩
theorem takeB_step {b:Built} (h:zF b=0) {S:List Int} {m:Int} {k:Nat} (hk:k < b.hs.length) : zHZ b S k m=if zNT b S m b.hs[k].d (k+1)=k then zIE b.ns.reg (zAA S m b.ns.notes) b.of b.hs[k].d else 0:=by
 have e:(b.hs[k]?).elim 0 (·.d)=b.hs[k].d:=by rw [List.getElem?_eq_getElem hk];rfl
 unfold zHZ;rw [e];have hfull:(zZ b S m b.hs[k].d).h=zNT b S m b.hs[k].d b.hs.length:=rfl;have hc:(zZ b S m b.hs[k].d).c=zIE b.ns.reg (zAA S m b.ns.notes) b.of b.hs[k].d:=rfl;rw [hfull,hc];by_cases hp:zNT b S m b.hs[k].d (k+1)=k
 ·rw [if_pos hp,if_pos (hpTo_after h hk hp _ hk)]
 ·rw [if_neg hp,if_neg];intro hf;apply hp;obtain ⟨hu,hj,h1,h2⟩:=heapTo_at hf;rw [zMZ,if_pos ⟨hu,hj,h1,h2⟩]
def zQU (b:Built) (S:List Int) (i k j:Nat) : Int:=if j < k then zCX b S j (i+1) else zCX b S j i
theorem tkTo_zero (b:Built) (S:List Int) (i:Nat) : zQU b S i 0=fun j=>zCX b S j i:=by funext j;unfold zQU;rw [if_neg (by omega)]
theorem tkTo_all {b:Built} {S:List Int} {i j:Nat} (hj:j < b.hs.length) : zQU b S i b.hs.length j=zCX b S j (i+1):=by unfold zQU;rw [if_pos hj]
theorem zPI {b:Built} {S:List Int} {i k:Nat} {m:Int} (hm:b.ms[i]? = some m) : zCX b S k (i+1)=zCX b S k i+zHZ b S k m:=by
 simp only [zCX];rw [hm];rfl
end
section
open Tryz
open Go.RowKit Go.Shelf
attribute [local go_sem] zAE Oper.grows Oper.growUpon
theorem sl_take {α:Type} {E:World->Nat->Nat->α->Prop} {sz:Nat} {w:World} {a:Option Addr} {n c:Nat} {xs:List α} (h:Sl E sz w (.slice a n c) xs) (i c':Nat) (hi:i<=xs.length) : Sl E sz w (.slice a i c') (xs.take i):=by
 obtain ⟨a',cap,e,hm,hc⟩:=h;cases e;refine ⟨a,c',by rw [List.length_take,Nat.min_eq_left hi],by rw [List.length_take];omega,fun k hk=>?_⟩;rw [List.length_take] at hk;obtain ⟨b,off,ha,he⟩:=hc k (by omega);exact ⟨b,off,ha,by rw [List.getElem_take];exact he⟩
theorem zNB (w:World) (lo hi x:Int) (v:Value) (h:zKF x v w) (hx:I64 x) :
  Calls prog 123 #[.int .i64 lo,.int .i64 hi,v] w fun e w'=>e = .returned (.bool (inB x lo hi))/\Below w.heap.size w w':=by
 obtain ⟨b,rfl,hc⟩:=h;refine (in_note w lo hi _ [x] (sl_row1 hc hx)).mono ?_;intro e w' h;rcases h.both with ⟨g1,rfl,hb⟩ | ⟨g1,rfl,hb⟩
 ·exact ⟨zFH (zGY (g1 x (by simp))).symm,hb⟩
 ·exact ⟨zFH (zGZ (fun h=>g1 (fun y hy=>by simp at hy;rw [hy];exact h))).symm,hb⟩
theorem in_note2 (w:World) (lo hi x y:Int) (b:Nat) (h:zK w b 0 (.int .i64 x)/\zK w b 1 (.int .i64 y)) (hx:I64 x) (hy:I64 y) :
  Calls prog 123 #[.int .i64 lo,.int .i64 hi,.slice (some ⟨b,0,none⟩) 2 2] w fun e w'=>e = .returned (.bool (inB x lo hi && inB y lo hi))/\Below w.heap.size w w':=by
 refine (in_note w lo hi _ [x,y] (sl_row2 h hx hy)).mono ?_;intro e w' h;rcases h.both with ⟨g1,rfl,hb⟩ | ⟨g1,rfl,hb⟩
 ·exact ⟨zFH (by rw [zGY (g1 x (by simp)),zGY (g1 y (by simp))];rfl),hb⟩
 ·refine ⟨zFH ?_,hb⟩
  by_cases h1:In x lo hi
  ·by_cases h2:In y lo hi
   ·exact absurd (fun z hz=>by
     simp at hz;rcases hz with rfl | rfl
     ·exact h1
     ·exact h2) g1
   ·rw [zGZ h2];simp
  ·rw [zGZ h1];rfl
structure NoteArg (w:World) (vr vn:Value) (R:List Issue) (N:List Note) : Prop where
 reg:RegArg w vr R
 sl:Sl zBL 10 w vn N
 cap:∃ a c,vn = .slice a N.length c/\N.length<=c
theorem NoteArg.ext {w w':World} {vr vn:Value} {R:List Issue} {N:List Note} (hb:Below w.heap.size w w') (h:NoteArg w vr vn R N) : NoteArg w' vr vn R N:=⟨h.reg.ext hb,zJ zAN hb h.sl,h.cap⟩
def zOS (x:Note) : Prop:=In x.num 1 9999/\In x.day 0 14610
def zPC (x:Note) : Prop:=x.sg<=2/\x.ways<=3
def zLA (x:Note) : Prop:=(In x.fr 1 999/\In x.to 1 999)/\x.fr<=x.to
def zLN (R:List Issue) (x:Note) : Prop:=if x.d=0/\x.l=0 then x.ca≠0 else zGC R x.d x.l=0
def zLX (x:Note) : Prop:=2<=x.l\/(x.use=false/\x.ways=0)
def zJV (N:List Note) (i:Nat) (x:Note) : Prop:=x.ca=0\/∃ y∈N.take i,y.num=x.ca
def zLE (N:List Note) (i:Nat) (x:Note) : Prop:=¬ ∃ y∈N.take i,y.num=x.num
theorem ncheck1 (w:World) (vr vn:Value) (R:List Issue) (N:List Note) (i:Nat) (h:NoteArg w vr vn R N) (hi:i < N.length) :
  Calls prog 244 #[.agg #[vr,vn],.int .i64 i] w (zAK (zOS N[i]) w):=by
 obtain ⟨ar,cr,rfl,_⟩:=zD h.reg.sl;obtain ⟨an,cn,rfl,hcn⟩:=h.cap;obtain ⟨b,off,rfl,hx⟩:=(zY h.sl).2 i hi;have QX:=zE hx;obtain ⟨⟨q0,q1,q2,q3,q4,q5,q6,q7,q8,q9⟩,hnum⟩:=hx;have hlb:=zAD q0;generalize N[i]=x at *;have hb1:=zB w (.cells #[.slice ar R.length cr,.slice (some ⟨b,off,none⟩) N.length cn] 27);have LB:=Lay.new w 27 #[.slice ar R.length cr,.slice (some ⟨b,off,none⟩) N.length cn];have HA:=zE (h.ext hb1);have HI:Hid (i < N.length):=hi;have hil:(i:Int) < N.length:=by omega
 clear h;unfold zK at q0 q1 q2 q3 q4 q5 q6 q7 q8 q9;go_enter func244,ntmps244;go_wp2_with fail;have row:=zR (w.alloc (.cells #[.slice ar R.length cr,.slice (some ⟨b,off,none⟩) N.length cn] 27)) #[.int .i64 x.num] 3 0 (.int .i64 x.num) rfl;rw [World.size_alloc] at row;have hb2:=zA hb1 (zB (w.alloc (.cells #[.slice ar R.length cr,.slice (some ⟨b,off,none⟩) N.length cn] 27)) (.cells #[.int .i64 x.num] 3));have L2:=LB.alloc (.cells #[.int .i64 x.num] 3);clear hb1 LB;generalize (w.alloc _).alloc _=w1 at *;refine (zNB _ _ _ x.num _ ⟨_,rfl,row⟩ hnum.1).mono ?_;rintro e w2 ⟨rfl,hb3⟩;have hbb:=zA hb2 hb3;have c1:=(L2.ext hb3).cell 1 _ rfl;obtain ⟨⟨p0,p1,_⟩,_⟩:=zAN _ _ _ _ _ hbb QX.out;have hl:=zAD p0;have hl2:=(L2.ext hb3).lt;unfold zK at p0 p1;clear row hb2 hb3 L2 q0 q1 q2 q3 q4 q5 q6 q7 q8 q9;by_cases g1:inB x.num 1 9999=true
 ·go_wp2_with fail
  have row:=zR w2 #[.int .i64 x.day] 3 0 (.int .i64 x.day) rfl;have hb4:=zA hbb (zB w2 (.cells #[.int .i64 x.day] 3));generalize w2.alloc _=w3 at *;refine (zNB _ _ _ x.day _ ⟨_,rfl,row⟩ hnum.2.1).mono ?_;rintro e w4 ⟨rfl,hb5⟩;clear c1 row p0 p1;by_cases g2:inB x.day 0 14610=true
  ·go_wp2;go_ret;exact zAK.t ⟨zGA g1,zGA g2⟩ (zA hb4 hb5)
  ·have g2':=zGD g2;go_wp2;go_ret;exact zAK.f (fun h=>zLW g2 h.2) (zA hb4 hb5)
 ·have g1':=zGD g1;clear c1 p0 p1;go_wp2;go_ret;exact zAK.f (fun h=>zLW g1 h.1) hbb
theorem ncheck2 (w:World) (vr vn:Value) (R:List Issue) (N:List Note) (i:Nat) (h:NoteArg w vr vn R N) (hi:i < N.length) :
  Calls prog 245 #[.agg #[vr,vn],.int .i64 i] w (zAK (zPC N[i]) w):=by
 obtain ⟨ar,cr,rfl,_⟩:=zD h.reg.sl;obtain ⟨an,cn,rfl,hcn⟩:=h.cap;obtain ⟨b,off,rfl,hx⟩:=(zY h.sl).2 i hi;have QX:=zE hx;obtain ⟨⟨q0,q1,q2,q3,q4,q5,q6,q7,q8,q9⟩,hnum⟩:=hx;have hlb:=zAD q0;generalize N[i]=x at *;have hb1:=zB w (.cells #[.slice ar R.length cr,.slice (some ⟨b,off,none⟩) N.length cn] 27);have LB:=Lay.new w 27 #[.slice ar R.length cr,.slice (some ⟨b,off,none⟩) N.length cn];have HA:=zE (h.ext hb1);have HI:Hid (i < N.length):=hi;have hil:(i:Int) < N.length:=by omega
 clear h;unfold zK at q0 q1 q2 q3 q4 q5 q6 q7 q8 q9;go_enter func245,ntmps245;by_cases g1:x.sg<=2
 ·by_cases g2:x.ways<=3
  ·go_wp2;go_ret;exact zAK.t ⟨g1,g2⟩ hb1
  ·go_wp2;go_ret;exact zAK.f (fun h=>by have:=h.2;omega) hb1
 ·go_wp2;go_ret;exact zAK.f (fun h=>by have:=h.1;omega) hb1
theorem ncheck5 (w:World) (vr vn:Value) (R:List Issue) (N:List Note) (i:Nat) (h:NoteArg w vr vn R N) (hi:i < N.length) :
  Calls prog 248 #[.agg #[vr,vn],.int .i64 i] w (zAK (zLX N[i]) w):=by
 obtain ⟨ar,cr,rfl,_⟩:=zD h.reg.sl;obtain ⟨an,cn,rfl,hcn⟩:=h.cap;obtain ⟨b,off,rfl,hx⟩:=(zY h.sl).2 i hi;have QX:=zE hx;obtain ⟨⟨q0,q1,q2,q3,q4,q5,q6,q7,q8,q9⟩,hnum⟩:=hx;have hlb:=zAD q0;generalize N[i]=x at *;have hb1:=zB w (.cells #[.slice ar R.length cr,.slice (some ⟨b,off,none⟩) N.length cn] 27);have LB:=Lay.new w 27 #[.slice ar R.length cr,.slice (some ⟨b,off,none⟩) N.length cn];have HA:=zE (h.ext hb1);have HI:Hid (i < N.length):=hi;have hil:(i:Int) < N.length:=by omega
 clear h;unfold zK at q0 q1 q2 q3 q4 q5 q6 q7 q8 q9;have hb2:=zA hb1 (zB _ (.cells #[.int .i64 x.num,.int .i64 x.day,.int .u8 x.sg,.int .i64 x.d,.int .i64 x.l,.int .i64 x.fr,.int .i64 x.to,.int .i64 x.ca,.bool x.use,.int .u8 x.ways] 74));go_enter func248,ntmps248;by_cases g1:2<=x.l
 ·go_wp2;go_ret;exact zAK.t (show zLX x from .inl g1) hb2
 ·cases hu:x.use with
  | true =>
    have HU:=zE hu;rw [hu] at q8 hb2;clear hu;go_wp2;go_ret;exact zAK.f (fun h=>by
     rcases (show _\/_ from h) with h | h
     ·omega
     ·rw [HU.out] at h;cases h.1) hb2
  | false =>
    have HU:=zE hu;rw [hu] at q8 hb2;clear hu;by_cases g2:x.ways=0
    ·have g2':(x.ways == 0)=true:=by simp [g2]
     have G2:=zE g2;clear g2;go_wp2;go_ret;exact zAK.t (show zLX x from .inr ⟨HU.out,G2.out⟩) hb2
    ·have g2':(x.ways == 0)=false:=by simp [g2]
     have G2:=zE g2;clear g2;go_wp2;go_ret;exact zAK.f (fun h=>by
      rcases (show _\/_ from h) with h | h
      ·omega
      ·exact G2.out h.2) hb2
theorem ncheck3 (w:World) (vr vn:Value) (R:List Issue) (N:List Note) (i:Nat) (h:NoteArg w vr vn R N) (hi:i < N.length) :
  Calls prog 246 #[.agg #[vr,vn],.int .i64 i] w (zAK (zLA N[i]) w):=by
 obtain ⟨ar,cr,rfl,_⟩:=zD h.reg.sl;obtain ⟨an,cn,rfl,hcn⟩:=h.cap;obtain ⟨b,off,rfl,hx⟩:=(zY h.sl).2 i hi;have QX:=zE hx;obtain ⟨⟨q0,q1,q2,q3,q4,q5,q6,q7,q8,q9⟩,hnum⟩:=hx;have hlb:=zAD q0;generalize N[i]=x at *;have hb1:=zB w (.cells #[.slice ar R.length cr,.slice (some ⟨b,off,none⟩) N.length cn] 27);have LB:=Lay.new w 27 #[.slice ar R.length cr,.slice (some ⟨b,off,none⟩) N.length cn];have HA:=zE (h.ext hb1);have HI:Hid (i < N.length):=hi;have hil:(i:Int) < N.length:=by omega
 clear h;unfold zK at q0 q1 q2 q3 q4 q5 q6 q7 q8 q9;have hb2:=zA hb1 (zB _ (.cells #[.int .i64 x.num,.int .i64 x.day,.int .u8 x.sg,.int .i64 x.d,.int .i64 x.l,.int .i64 x.fr,.int .i64 x.to,.int .i64 x.ca,.bool x.use,.int .u8 x.ways] 74));have LX:=Lay.new (w.alloc (.cells #[.slice ar R.length cr,.slice (some ⟨b,off,none⟩) N.length cn] 27)) 74 #[.int .i64 x.num,.int .i64 x.day,.int .u8 x.sg,.int .i64 x.d,.int .i64 x.l,.int .i64 x.fr,.int .i64 x.to,.int .i64 x.ca,.bool x.use,.int .u8 x.ways];rw [World.size_alloc] at LX;go_enter func246,ntmps246;go_wp2_with fail;have row:=zR ((w.alloc (.cells #[.slice ar R.length cr,.slice (some ⟨b,off,none⟩) N.length cn] 27)).alloc (.cells #[.int .i64 x.num,.int .i64 x.day,.int .u8 x.sg,.int .i64 x.d,.int .i64 x.l,.int .i64 x.fr,.int .i64 x.to,.int .i64 x.ca,.bool x.use,.int .u8 x.ways] 74)) #[.int .i64 x.fr,.int .i64 x.to] 3;have r0:=row 0 (.int .i64 x.fr) rfl;have r1:=row 1 (.int .i64 x.to) rfl;simp only [World.size_alloc] at r0 r1;have LX:=LX.alloc (.cells #[.int .i64 x.fr,.int .i64 x.to] 3);have hb2:=zA hb2 (zB _ (.cells #[.int .i64 x.fr,.int .i64 x.to] 3));clear row hb1 LB q0 q1 q2 q3 q4 q5 q6 q7 q8 q9;generalize ((w.alloc _).alloc _).alloc _=w1 at *;refine (in_note2 _ _ _ x.fr x.to _ ⟨r0,r1⟩ hnum.2.2.2.2.2.1 hnum.2.2.2.2.2.2.1).mono ?_;rintro e w2 ⟨rfl,hb3⟩;have L2:=LX.ext hb3;have c5:=L2.cell 5 _ rfl;have c6:=L2.cell 6 _ rfl;have hbb:=zA hb2 hb3;clear r0 r1 LX L2 hb2 hb3;have hiff:(inB x.fr 1 999 && inB x.to 1 999)=true↔In x.fr 1 999/\In x.to 1 999:=by rw [Bool.and_eq_true];exact ⟨fun h=>⟨zGA h.1,zGA h.2⟩,fun h=>⟨zGY h.1,zGY h.2⟩⟩
 generalize (inB x.fr 1 999 && inB x.to 1 999)=bb at *;have HIFF:=zE hiff;clear hiff;cases bb with
 | true =>
   by_cases g1:x.fr<=x.to
   ·go_wp2;go_ret;exact zAK.t (show zLA x from ⟨HIFF.out.1 (by simp),g1⟩) hbb
   ·have g1':decide (x.fr<=x.to)=false:=by simp;omega
    go_wp2;go_ret;exact zAK.f (fun (h:zLA x)=>by have:=h.2;omega) hbb
 | false =>go_wp2;go_ret;exact zAK.f (fun (h:zLA x)=>by have:=HIFF.out.2 h.1;simp at this) hbb
theorem ncheck4 (w:World) (vr vn:Value) (R:List Issue) (N:List Note) (i:Nat) (h:NoteArg w vr vn R N) (hi:i < N.length) :
  Calls prog 247 #[.agg #[vr,vn],.int .i64 i] w (zAK (zLN R N[i]) w):=by
 obtain ⟨ar,cr,rfl,_⟩:=zD h.reg.sl;obtain ⟨an,cn,rfl,hcn⟩:=h.cap;obtain ⟨b,off,rfl,hx⟩:=(zY h.sl).2 i hi;have QX:=zE hx;obtain ⟨⟨q0,q1,q2,q3,q4,q5,q6,q7,q8,q9⟩,hnum⟩:=hx;have hlb:=zAD q0;generalize N[i]=x at *;have hb1:=zB w (.cells #[.slice ar R.length cr,.slice (some ⟨b,off,none⟩) N.length cn] 27);have LB:=Lay.new w 27 #[.slice ar R.length cr,.slice (some ⟨b,off,none⟩) N.length cn];have HA:=zE (h.ext hb1);have HI:Hid (i < N.length):=hi;have hil:(i:Int) < N.length:=by omega
 clear h;unfold zK at q0 q1 q2 q3 q4 q5 q6 q7 q8 q9;have hb2:=zA hb1 (zB _ (.cells #[.int .i64 x.num,.int .i64 x.day,.int .u8 x.sg,.int .i64 x.d,.int .i64 x.l,.int .i64 x.fr,.int .i64 x.to,.int .i64 x.ca,.bool x.use,.int .u8 x.ways] 74));have h4:zLN R x↔if x.d=0/\x.l=0 then x.ca≠0 else zGC R x.d x.l=0:=Iff.rfl
 have H4:=zE h4;have HA2:=zE (HA.out.ext (zB _ (.cells #[.int .i64 x.num,.int .i64 x.day,.int .u8 x.sg,.int .i64 x.d,.int .i64 x.l,.int .i64 x.fr,.int .i64 x.to,.int .i64 x.ca,.bool x.use,.int .u8 x.ways] 74)));clear h4;go_enter func247,ntmps247;by_cases g1:((0:Int) == x.d)=true
 ·by_cases g2:((0:Int) == x.l)=true
  ·have e1:x.d=0/\x.l=0:=by
    have h1:=beq_iff_eq.1 g1;have h2:=beq_iff_eq.1 g2;exact ⟨h1.symm,h2.symm⟩
   rw [if_pos e1] at H4;have HH4:=zE H4.out;clear H4 e1;by_cases g3:x.ca=0
   ·have g3':(x.ca != 0)=false:=by simp [g3]
    have G3:=zE g3;clear g3;go_wp2;go_ret;exact zAK.f (fun h=>(HH4.out.1 h) G3.out) hb2
   ·have g3':(x.ca != 0)=true:=by simp [g3]
    have G3:=zE g3;clear g3;go_wp2;go_ret;exact zAK.t (HH4.out.2 G3.out) hb2
  ·have g2':((0:Int) == x.l)=false:=by simpa using g2
   have G1:=zE (show ¬ (x.d=0/\x.l=0) from fun h=>g2 (by rw [h.2];rfl));clear g2;go_wp2_with fail;refine (at_sheet _ _ R x.d x.l HA2.out.reg).mono ?_;rintro e w2 ⟨⟨x1,x2,x3,vi,vs,rfl,⟨a1,n1,c1,rfl⟩,⟨a2,n2,c2,rfl⟩,-⟩,hb3⟩;have hbb:=zA hb2 (zA hb3 (zB w2 (.cells #[.int .i64 x1,.int .i64 x2,.int .u8 x3,.slice a1 n1 c1,.slice a2 n2 c2] 118)));rw [if_neg G1.out] at H4;have H4b:=zE H4.out;clear H4;generalize zGC R x.d x.l=c at *;by_cases gc:c=0
   ·subst gc;go_wp2;go_ret;exact zAK.t (H4b.out.2 (by simp)) hbb
   ·have gc':(c == 0)=false:=by simp [gc]
    have GC:=zE gc;clear gc;go_wp2;go_ret;exact zAK.f (fun h=>GC.out (H4b.out.1 h)) hbb
 ·have g1':((0:Int) == x.d)=false:=by simpa using g1
  have G1:=zE (show ¬ (x.d=0/\x.l=0) from fun h=>g1 (by rw [h.1];rfl));clear g1;go_wp2_with fail;refine (at_sheet _ _ R x.d x.l HA2.out.reg).mono ?_;rintro e w2 ⟨⟨x1,x2,x3,vi,vs,rfl,⟨a1,n1,c1,rfl⟩,⟨a2,n2,c2,rfl⟩,-⟩,hb3⟩;have hbb:=zA hb2 (zA hb3 (zB w2 (.cells #[.int .i64 x1,.int .i64 x2,.int .u8 x3,.slice a1 n1 c1,.slice a2 n2 c2] 118)));rw [if_neg G1.out] at H4;have H4b:=zE H4.out;clear H4;generalize zGC R x.d x.l=c at *;by_cases gc:c=0
  ·subst gc;go_wp2;go_ret;exact zAK.t (H4b.out.2 (by simp)) hbb
  ·have gc':(c == 0)=false:=by simp [gc]
   have GC:=zE gc;clear gc;go_wp2;go_ret;exact zAK.f (fun h=>GC.out (H4b.out.1 h)) hbb
end
end Go.Proofs.YtipaopbmklbmnaaGreatDoor
