/- Lemmas. -/
import Derived.Maps.AppendAt
import Derived.Tactics
import Derived.Tactics2
import Derived.KernelRfl
import Derived.Test.YtipaopbmklbmnaaGreatDoorT01
set_option linter.all false
set_option maxRecDepth 100000
set_option maxHeartbeats 0
namespace Go.Proofs.YtipaopbmklbmnaaGreatDoor
section
open Go.RowKit
def zKD (l:List Int) (n:Int) : Int:=if n∈l then (l.idxOf n:Int) else -1
theorem idxI_at (l:List Int) (n:Int) (k:Nat) (hk:k < l.length) (h:l[k]=n) (hf:∀ j,j < k->(hj:j < l.length)->l[j]≠n) : zKD l n=k:=by
 unfold zKD;rw [if_pos (h ▸ List.getElem_mem hk)];congr 1;induction l generalizing k with
 | nil=>simp at hk
 | cons a l ih =>
   cases k with
   | zero=>simp at h;simp [h]
   | succ k =>have ha:a≠n:=hf 0 (by omega) (by simp);rw [List.idxOf_cons];simp only [cond_false,beq_eq_false_iff_ne.2 ha];congr 1;exact ih k (by simpa using hk) (by simpa using h) (fun j hj hjl=>by have:=hf (j+1) (by omega) (by simp;omega);simpa using this)
theorem reg_num {w:World} {v:Value} {R:List Issue} (h:Sl zAY 5 w v R) : ∀ x∈R,I64 x.d/\I64 x.l/\U8 x.k:=by
 intro x hx;obtain ⟨k,hk,rfl⟩:=List.getElem_of_mem hx;obtain ⟨a,cap,rfl,_,hc⟩:=h;obtain ⟨_,_,_,_,h2,_⟩:=hc k hk;exact h2
theorem nums_I64 {w:World} {v:Value} {R:List Issue} (h:Sl zAY 5 w v R) : ∀ n∈nums R,I64 n:=by
 intro n hn;obtain ⟨x,hx,rfl⟩:=numsTo_mem R _ n hn;exact (reg_num h x hx).1
theorem idxI_none (l:List Int) (n:Int) (hf:∀ j,(hj:j < l.length)->l[j]≠n) : zKD l n = -1:=by
 unfold zKD;rw [if_neg];intro h;obtain ⟨i,hi,rfl⟩:=List.getElem_of_mem h;exact hf i hi rfl
theorem idxI_in (l:List Int) (n:Int) (h:n∈l) : 0<=zKD l n:=by unfold zKD;rw [if_pos h];omega
theorem idxI_out (l:List Int) (n:Int) (h:¬ n∈l) : zKD l n < 0:=by unfold zKD;rw [if_neg h];omega
theorem index02 (w:World) (v:Value) (l:List Int) (n:Int) (h:Sl zAM 1 w v l) :
  Calls Tryz.prog 25 #[v,.int .i64 n] w fun e w'=>e = .returned (.int .i64 (zKD l n))/\w=w':=by
 obtain ⟨a,cap,rfl,hm⟩:=zD h;go_enter Tryz.func25,Tryz.ntmps25;go_wp2;go_loop [5] (fun i=>∃ k:Nat,i = .int .i64 k/\k<=l.length/\∀ j,j < k->(hj:j < l.length)->l[j]≠n) (fun i=>l.length - (intOf i).toNat)
 case atStart=>exact ⟨0,rfl,by omega,fun j hj=>absurd hj (by omega)⟩
 case round =>
  obtain ⟨k,rfl,hk,hall⟩:=hrel;have HALL:=Lib.hid hall;clear hall;by_cases hlt:k < l.length
  ·obtain ⟨b,off,rfl,hc,_⟩:=(zY h).2 k hlt
   unfold zK at hc;rw [Nat.mul_one] at hc;generalize hx:l[k]=x at *;have HX:=Lib.hid hx;clear hx h;by_cases he:(x == n)=true
   ·go_wp2;go_ret;exact ⟨zBT (idxI_at l n k hlt (by rw [HX.out];simpa using he) HALL.out).symm,rfl⟩
   ·have he':(x == n)=false:=by simpa using he
    go_wp2;go_round
    case rel=>exact ⟨k+1,by go_num,by omega,zAO _ k HALL.out (fun _=>by rw [HX.out];simpa using he)⟩
    case measure=>simp [intOf];omega
  ·clear h;go_wp2;go_ret;exact ⟨zBT (idxI_none l n (fun j hj=>HALL.out j (by omega) hj)).symm,rfl⟩
theorem numbers02 (w:World) (v:Value) (R:List Issue) (h:Sl zAY 5 w v R) (hR:R.length<=1000) :
  Calls Tryz.prog 35 #[.agg #[v]] w fun e w'=>∃ u,e = .returned u/\Sl zAM 1 w' u (nums R)/\Below w.heap.size w w':=by
 obtain ⟨i0,hi,hz0,hz1,hz2⟩:=info_parts zFY;obtain ⟨hb1,B1⟩:=zBY w #[v] 24;have c0:=B1 0 v rfl;clear B1;obtain ⟨a,cap,rfl,hm⟩:=zD h;have h1:=zJ zU hb1 h;have C0:=Lib.hid c0;clear h c0;go_enter Tryz.func35,Tryz.ntmps35;go_wp2;generalize w.alloc _=w1 at *;go_loopw [3,4] (fun o i wr=>∃ k:Nat,i = .int .i64 k/\k<=R.length/\wr.ownsRow w1.heap.size 3 1 o (zBN R k).length ((zBN R k).map (Value.int .i64))/\Below w1.heap.size w1 wr) (fun _ i _=>R.length - (intOf i).toNat)
 case atStart=>exact ⟨0,rfl,by omega,World.ownsRow_nil _ _ _ _,Below.refl _ _⟩
 case round =>
  obtain ⟨k,rfl,hk,hown,hb⟩:=hrel;have e0:=zC hb C0.out;unfold zK at e0;have hle:=numsTo_le R k;by_cases hlt:k < R.length
  ·have hX:=(zY (zJ zU hb h1)).2
   obtain ⟨b,off,rfl,⟨q0,_⟩,_⟩:=hX k hlt;have hnew:=Lib.hid (zHV R k hlt);have hsame:=Lib.hid (zLQ R k hlt);unfold zK at q0;generalize hx:R[k]=x at *;have HX:=Lib.hid hx;clear hx;by_cases h0:k=0
   ·have hk0:((k:Int) == 0)=true:=by simp [h0]
    have H0:=Lib.hid h0;clear hX h0;go_wp2_with (at_builtin;refine wpList_append_own _ rfl _ _ 28 rfl w1.heap.size 3 i0 (.int .i64 0) 1 8 Tryz.underlying28 hi hz0 hz1 hz2 rfl (by decide) _ _ _ rfl (hown.alloc _) ⟨wr.heap.size,0,none⟩ 1 1 [.int .i64 x.d] rfl rfl (cell_one_new _ _ _) (by simp [Value.oneCell']) (by unfold maxLen;omega) (by omega) (by have:=hb.size;simp;omega) ?_;intro v' w2 hown' hgrow _);have hb2:=(hb.alloc hb.size (.cells #[.int .i64 x.d] 3)).grown hgrow (by have:=hb.size;simp;omega) (fun k e=>(hown.lt k e).1);go_roundw
    case rel=>exact ⟨k+1,by go_num,by omega,by rw [hnew.out (.inl H0.out)];simpa using hown',hb2⟩
    case measure=>simp [intOf];omega
   ·obtain ⟨b',off',hbb,⟨p0,_⟩,_⟩:=hX (k - 1) (by omega)
    cases hbb;unfold zK at p0;generalize hz:R[k - 1]=z at *;have HZ:=Lib.hid hz;have hk0:((k:Int) == 0)=false:=by simp;omega
    clear hX hz;by_cases he:(z.d != x.d)=true
    ·go_wp2_with (at_builtin;refine wpList_append_own _ rfl _ _ 28 rfl w1.heap.size 3 i0 (.int .i64 0) 1 8 Tryz.underlying28 hi hz0 hz1 hz2 rfl (by decide) _ _ _ rfl (hown.alloc _) ⟨wr.heap.size,0,none⟩ 1 1 [.int .i64 x.d] rfl rfl (cell_one_new _ _ _) (by simp [Value.oneCell']) (by unfold maxLen;omega) (by omega) (by have:=hb.size;simp;omega) ?_;intro v' w2 hown' hgrow _)
     have hb2:=(hb.alloc hb.size (.cells #[.int .i64 x.d] 3)).grown hgrow (by have:=hb.size;simp;omega) (fun k e=>(hown.lt k e).1);go_roundw
     case rel=>exact ⟨k+1,by go_num,by omega,by rw [hnew.out (.inr (by simpa using he))];simpa using hown',hb2⟩
     case measure=>simp [intOf];omega
    ·have he':(z.d != x.d)=false:=by simpa using he
     go_wp2;go_roundw
     case rel=>exact ⟨k+1,by go_num,by omega,by rw [hsame.out h0 (by simpa using he')];exact hown,hb⟩
     case measure=>simp [intOf];omega
  ·go_wp2
   go_ret;obtain rfl:k=R.length:=by omega
   exact ⟨_,rfl,zBF hown (nums_I64 h1),zA hb1 hb⟩
def zHI (R:List Issue) (k:Nat) : Prop:=∀ h:k < R.length,
 (k=0->R[k].l=1)/\(∀ h0:0 < k,R[k - 1].d < R[k].d/\R[k].l=1\/R[k - 1].d=R[k].d/\R[k].l=R[k - 1].l+1/\R[k].k=R[k - 1].k)
def zLH (R:List Issue) (k:Nat) : Prop:=(∀ h:k < R.length,zGW R[k])/\zHI R k
def zIT (R:List Issue) (k:Nat) : Prop:=∀ h:k < R.length,∀ j,(hj:j < R[k].items.length)->R[k].items[j].d∈nums R
def zDR (R:List Issue) : Prop:=In R.length 1 60/\(∀ k,k < R.length->zLH R k)/\(∀ k,k < R.length->zIT R k)/\(nums R).length<=20
theorem listed02 (w:World) (v:Value) (R:List Issue) (h:Sl zAY 5 w v R) :
  Calls Tryz.prog 175 #[.agg #[v]] w (zAK (zDR R) w):=by
 obtain ⟨hb1,B1⟩:=zBY w #[v] 24;have c0:=B1 0 v rfl;clear B1;obtain ⟨a,cap,rfl,hm⟩:=zD h;have h1:=zJ zU hb1 h;have C0:=Lib.hid c0;unfold zK at c0;clear h;go_enter Tryz.func175,Tryz.ntmps175;go_wp2_with fail;generalize w.alloc _=w1 at *;refine (zKO _ _ _ _).mono ?_;intro e w2 hh;rcases hh.both with ⟨hl,rfl,rfl⟩ | ⟨hl,rfl,rfl⟩
 case inr=>go_wp2;go_ret;exact zAK.f (fun h=>hl h.1) hb1
 clear hh;go_wp2;clear c0;have hl2:=hl.2;go_loopw [3] (fun i wr=>∃ k:Nat,i = .int .i64 k/\k<=R.length/\Below w1.heap.size w1 wr/\∀ j,j < k->zLH R j) (fun i _=>R.length - (intOf i).toNat)
 case atStart=>exact ⟨0,rfl,by omega,Below.refl _ _,fun j hj=>absurd hj (by omega)⟩
 case round =>
  obtain ⟨k,rfl,hk,hb,hall⟩:=hrel;have HALL:=Lib.hid hall;clear hall;have e0:=zC hb C0.out;unfold zK at e0;by_cases hlt:k < R.length
  ·have hX:=(zY (zJ zU hb h1)).2
   obtain ⟨b,off,rfl,⟨q0,q1,q2⟩,hnum,vi,vd,q3,q4,si,sd⟩:=hX k hlt;have HEA:Hid (zLH R k↔zGW R[k]/\(k=0->R[k].l=1)/\(∀ h0:0 < k,R[k - 1].d < R[k].d/\R[k].l=1\/R[k - 1].d=R[k].d/\R[k].l=R[k - 1].l+1/\R[k].k=R[k - 1].k)) :=
    ⟨fun h=>⟨h.1 hlt,h.2 hlt⟩,fun h=>⟨fun _=>h.1,fun _=>h.2⟩⟩
   unfold zK at q0 q1 q2 q3 q4;generalize hx:R[k]=x at *;clear hx hX;obtain ⟨ai,capi,rfl,_⟩:=zD si;obtain ⟨ad,capd,rfl,_⟩:=zD sd;have hbx:=zB wr (.cells #[.int .i64 x.d,.int .i64 x.l,.int .u8 x.k,.slice ai x.items.length capi,.slice ad x.dims.length capd] 118);have x0:=zR wr #[.int .i64 x.d,.int .i64 x.l,.int .u8 x.k,.slice ai x.items.length capi,.slice ad x.dims.length capd] 118 0 (.int .i64 x.d) rfl;have x1:=zR wr #[.int .i64 x.d,.int .i64 x.l,.int .u8 x.k,.slice ai x.items.length capi,.slice ad x.dims.length capd] 118 1 (.int .i64 x.l) rfl;have x2:=zR wr #[.int .i64 x.d,.int .i64 x.l,.int .u8 x.k,.slice ai x.items.length capi,.slice ad x.dims.length capd] 118 2 (.int .u8 x.k) rfl;go_wp2_with fail;generalize hwA:wr.alloc _=wA at *;clear hwA;refine (issue02 _ _ _ x ⟨zJ zAX hbx si,zJ zBS hbx sd,hnum⟩).mono ?_;intro e w2 hh;rcases hh.both with ⟨hok,rfl,hb2⟩ | ⟨hok,rfl,hb2⟩
   case inr =>go_wp2;go_ret;exact zAK.f (fun h=>hok (HEA.out.1 (h.2.1 k hlt)).1) (zA hb1 (zA hb (zA hbx hb2)))
   clear hh;have hb3:=zA hb (zA hbx hb2);have y0:=zC hb2 x0;have y1:=zC hb2 x1;have y2:=zC hb2 x2;have hxd:=hok.1.1.1;have hX:=(zY (zJ zU hb3 h1)).2;have e1:=zC hb3 C0.out;have z1:=zAD y0;have z2:=zAD e1;clear x0 x1 x2 q0 q1 q2 q3 q4 si sd hbx hb2;unfold zK at y0 y1 y2 e1;by_cases h0:k=0
   ·have hk0:(k:Int)<=0:=by omega
    have H0:=Lib.hid h0;clear h0 hX;by_cases hl1:(x.l != 1)=true
    ·go_wp2;go_ret;exact zAK.f (fun h=>by have:=(HEA.out.1 (h.2.1 k hlt)).2.1 H0.out;rw [this] at hl1;simp at hl1) (zA hb1 (zA hb3 (zB _ _)))
    ·have hl1':(x.l != 1)=false:=by simpa using hl1
     go_wp2;go_roundw
     case rel=>exact ⟨k+1,by go_num,by omega,zA hb3 (zB _ _),zAO _ k HALL.out (HEA.out.2 ⟨hok,fun _=>by simpa using hl1',fun h=>absurd h (by have:=H0.out;omega)⟩)⟩
     case measure=>simp [intOf];omega
   ·obtain ⟨b',off',hbb,⟨p0,p1,p2⟩,hpn,pi,pd,p3,p4,ssi,ssd⟩:=hX (k - 1) (by omega)
    cases hbb;obtain ⟨bi,bapi,rfl,_⟩:=zD ssi;obtain ⟨bd,bapd,rfl,_⟩:=zD ssd;have z3:=zAD p0;unfold zK at p0 p1 p2 p3 p4;have hk0:0 < k:=by omega
    have hpok:=(HALL.out (k - 1) (by omega)).1 (by omega);generalize hz:R[k - 1]=z at *;have HZ:=Lib.hid hz;clear hX hz h0;have hpl:=hpok.1.2.1;clear ssi ssd hpok;have hp1:=hpl.1;have hp2:=hpl.2;have HEB:Hid (zLH R k↔zGW x/\(z.d < x.d/\x.l=1\/z.d=x.d/\x.l=z.l+1/\x.k=z.k)) :=
     ⟨fun h=>⟨(HEA.out.1 h).1,by have:=(HEA.out.1 h).2.2 hk0;rw [HZ.out] at this;exact this⟩,
      fun h=>HEA.out.2 ⟨h.1,fun h0=>absurd hk0 (by omega),fun _=>by rw [HZ.out];exact h.2⟩⟩
    clear HEA;by_cases hlt1:x.d < z.d
    ·go_wp2;go_ret;exact zAK.f (fun h=>by have:=(HEB.out.1 (h.2.1 k hlt)).2;rcases this with h | h <;> omega) (zA hb1 (zA hb3 (zB _ _)))
    ·by_cases hlt2:z.d < x.d
     ·by_cases hl1:(x.l != 1)=true
      ·go_wp2;go_ret;exact zAK.f (fun h=>by have:=(HEB.out.1 (h.2.1 k hlt)).2;rcases this with h | h;(rw [h.2] at hl1;simp at hl1);(omega)) (zA hb1 (zA hb3 (zB _ _)))
      ·have hl1':(x.l != 1)=false:=by simpa using hl1
       go_wp2;go_roundw
       case rel=>exact ⟨k+1,by go_num,by omega,zA hb3 (zB _ _),zAO _ k HALL.out (HEB.out.2 ⟨hok,.inl ⟨hlt2,by simpa using hl1'⟩⟩)⟩
       case measure=>simp [intOf];omega
     ·by_cases hl1:(x.l != z.l+1)=true
      ·go_wp2;go_ret;exact zAK.f (fun h=>by have:=(HEB.out.1 (h.2.1 k hlt)).2;rcases this with h | h;(omega);(rw [h.2.1] at hl1;simp at hl1)) (zA hb1 (zA hb3 (zB _ _)))
      ·have hl1':(x.l != z.l+1)=false:=by simpa using hl1
       by_cases hl2:(x.k != z.k)=true
       ·go_wp2;go_ret;exact zAK.f (fun h=>by have:=(HEB.out.1 (h.2.1 k hlt)).2;rcases this with h | h;(omega);(rw [h.2.2] at hl2;simp at hl2)) (zA hb1 (zA hb3 (zB _ _)))
       ·have hl2':(x.k != z.k)=false:=by simpa using hl2
        go_wp2;go_roundw
        case rel=>exact ⟨k+1,by go_num,by omega,zA hb3 (zB _ _),zAO _ k HALL.out (HEB.out.2 ⟨hok,.inr ⟨by omega,by simpa using hl1',by simpa using hl2'⟩⟩)⟩
        case measure=>simp [intOf];omega
  ·have HA:Hid (∀ j,j < R.length->zLH R j):=fun j hj=>HALL.out j (by omega)
   have hb2:=zA hb1 hb;have hr:=zJ zU hb h1;clear HALL hb1;go_wp2_with fail;refine (numbers02 _ _ R hr (by omega)).mono ?_;rintro e w3 ⟨u,rfl,hu,hb3⟩;have hb4:=zA hb2 hb3;have e3:=zC hb3 e0;have hr3:=zJ zU hb3 hr;clear e0 h1 hr hb hb2 hb3 C0 hk hlt;unfold zK at e3;obtain ⟨au,capu,rfl,hmu⟩:=zD hu;go_wp2;go_loop [7] (fun i=>∃ k:Nat,i = .int .i64 k/\k<=R.length/\∀ j,j < k->zIT R j) (fun i=>R.length - (intOf i).toNat)
   case atStart=>exact ⟨0,rfl,by omega,fun j hj=>absurd hj (by omega)⟩
   case round =>
    obtain ⟨k,rfl,hk,hall⟩:=hrel;have HALL:=Lib.hid hall;clear hall;by_cases hlt:k < R.length
    ·obtain ⟨b,off,rfl,⟨q0,q1,q2⟩,hnum,vi,vd,q3,q4,si,sd⟩:=(zY hr3).2 k hlt
     have HIN:Hid (zIT R k↔∀ j,(hj:j < R[k].items.length)->R[k].items[j].d∈nums R):=⟨fun h=>h hlt,fun h _=>h⟩;unfold zK at q3;generalize hx:R[k]=x at *;clear hx q0 q1 q2 q4 sd;obtain ⟨ai,capi,rfl,hmi⟩:=zD si;go_wp2;go_loop [8] (fun i=>∃ m:Nat,i = .int .i64 m/\m<=x.items.length/\∀ j,j < m->(hj:j < x.items.length)->x.items[j].d∈nums R) (fun i=>x.items.length - (intOf i).toNat)
     case atStart=>exact ⟨0,rfl,by omega,fun j hj=>absurd hj (by omega)⟩
     case round =>
      obtain ⟨m,rfl,hmk,hall⟩:=hrel;have HALM:=Lib.hid hall;clear hall;by_cases hlm:m < x.items.length
      ·obtain ⟨b',off',rfl,⟨p0,_⟩,_⟩:=(zY si).2 m hlm
       unfold zK at p0;generalize hy:x.items[m]=y at *;have HY:=Lib.hid hy;clear hy si;go_wp2_with fail;refine (index02 _ _ _ y.d hu).mono ?_;rintro e w4 ⟨rfl,rfl⟩;by_cases hin:y.d∈nums R
       ·have hge:=idxI_in _ _ hin
        generalize zKD (nums R) y.d=ix at *;go_wp2;go_round
        case rel=>exact ⟨m+1,by go_num,by omega,zAO _ m HALM.out (fun _=>by rw [HY.out];exact hin)⟩
        case measure=>simp [intOf];omega
       ·have hge:=idxI_out _ _ hin;generalize zKD (nums R) y.d=ix at *;go_wp2;go_ret;exact zAK.f (fun h=>hin (by have:=HIN.out.1 (h.2.2.1 k hlt) m hlm;rw [HY.out] at this;exact this)) hb4
      ·clear si
       go_wp2;go_round
       case rel=>exact ⟨k+1,by go_num,by omega,zAO _ k HALL.out (HIN.out.2 (fun j hj=>HALM.out j (by omega) hj))⟩
       case measure=>simp [intOf];omega
    ·clear hr3
     by_cases h20:((nums R).length:Int)<=20
     ·go_wp2;go_ret;exact (zAK.t ⟨hl,HA.out,fun j hj=>HALL.out j (by omega),by omega⟩ hb4:zAK (zDR R) w (Ending.returned (Value.bool true)) _)
     ·go_wp2;go_ret;exact (zAK.f (fun h=>by have:=h.2.2.2;omega) hb4:zAK (zDR R) w (Ending.returned (Value.bool false)) _)
end
section
def zDI (f:Int->Int) (x:Issue) : Nat->Int->Int
 | 0,acc=>acc
 | j+1,acc=>match x.items[j]? with
   | none=>zDI f x j acc
   | some y=>max (zDI f x j acc) (1+f y.d)
def zDH (R:List Issue) (f:Int->Int) : Nat->Int->Int
 | 0,_=>0
 | k+1,n=>match R[k]? with
   | none=>zDH R f k n
   | some x=>if n=x.d then zDI f x x.items.length (max (zDH R f k x.d) 1) else zDH R f k n
def dep (R:List Issue) : Nat->Int->Int
 | 0,_=>0
 | r+1,n=>zDH R (dep R r) R.length n
def mid (R:List Issue) (f:Int->Int) (k:Nat) (x:Issue) (m:Nat) (n:Int) : Int :=
 if n=x.d then zDI f x m (max (zDH R f k x.d) 1) else zDH R f k n
theorem zOT (R:List Issue) (f:Int->Int) (k:Nat) (h:k < R.length) (n:Int) : zDH R f (k+1) n=mid R f k R[k] R[k].items.length n:=by
 simp only [zDH,List.getElem?_eq_getElem h,mid]
theorem mid_zero (R:List Issue) (f:Int->Int) (k:Nat) (x:Issue) (n:Int) : mid R f k x 0 n=if n=x.d then max (zDH R f k x.d) 1 else zDH R f k n:=rfl
theorem mid_at (R:List Issue) (f:Int->Int) (k:Nat) (x:Issue) (m:Nat) : mid R f k x m x.d=zDI f x m (max (zDH R f k x.d) 1):=by
 unfold mid;rw [if_pos rfl]
theorem mid_succ (R:List Issue) (f:Int->Int) (k:Nat) (x:Issue) (m:Nat) (h:m < x.items.length) (n:Int) :
  mid R f k x (m+1) n=if n=x.d then max (mid R f k x m x.d) (1+f x.items[m].d) else mid R f k x m n:=by
 unfold mid;by_cases e:n=x.d
 ·simp [e,zDI,List.getElem?_eq_getElem h]
 ·simp [e]
theorem issFold_bd (f:Int->Int) (x:Issue) (B:Int) (hf:∀ n,0<=f n/\f n<=B) (m:Nat) (acc:Int) (h0:0<=acc) (h1:acc<=B+1) : 0<=zDI f x m acc/\zDI f x m acc<=B+1:=by
 induction m with
 | zero=>exact ⟨h0,h1⟩
 | succ m ih =>
   simp only [zDI];split
   ·exact ih
   ·rename_i y _;have:=hf y.d;omega
theorem zRJ (R:List Issue) (f:Int->Int) (B:Int) (hB:0<=B) (hf:∀ n,0<=f n/\f n<=B) (k:Nat) (n:Int) : 0<=zDH R f k n/\zDH R f k n<=B+1:=by
 induction k generalizing n with
 | zero=>simp [zDH];omega
 | succ k ih =>
   simp only [zDH];split
   ·exact ih n
   ·rename_i x _
    split
    ·have:=ih x.d;exact issFold_bd f x B hf _ _ (by omega) (by omega)
    ·exact ih n
theorem zNF (R:List Issue) (r:Nat) (n:Int) : 0<=dep R r n/\dep R r n<=r:=by
 induction r generalizing n with
 | zero=>simp [dep]
 | succ r ih =>have:=zRJ R (dep R r) r (by omega) ih R.length n;simp only [dep];omega
theorem mid_bd (R:List Issue) (r k:Nat) (x:Issue) (m:Nat) (n:Int) : 0<=mid R (dep R r) k x m n/\mid R (dep R r) k x m n<=r+1:=by
 unfold mid;split
 ·have:=zRJ R (dep R r) r (by omega) (zNF R r) k x.d;exact issFold_bd _ x r (zNF R r) m _ (by omega) (by omega)
 ·exact zRJ R (dep R r) r (by omega) (zNF R r) k n
theorem set_map (l:List Int) (g:Int->Value) (d:Int) (v:Value) (hd:d∈l) (hl:l.Nodup) : (l.map g).set (l.idxOf d) v=l.map (fun n=>if n=d then v else g n):=by
 induction l with
 | nil=>simp at hd
 | cons a l ih =>
   by_cases e:a=d
   ·subst e
    simp only [List.map_cons,List.idxOf_cons_self,List.set_cons_zero,if_true];congr 1;refine List.map_congr_left fun n hn=>?_
    have:a ∉ l:=(List.nodup_cons.1 hl).1;rw [if_neg];intro h;subst h;exact this hn
   ·have hd':d∈l:=by
     rcases List.mem_cons.1 hd with h | h
     ·exact absurd h.symm e
     ·exact h
    rw [List.idxOf_cons];simp only [cond_false,beq_eq_false_iff_ne.2 e,List.map_cons,List.set_cons_succ,if_neg e];rw [ih hd' (List.nodup_cons.1 hl).2]
theorem idxI_mem (l:List Int) (n:Int) (h:n∈l) : zKD l n=((l.idxOf n:Nat) : Int):=by unfold zKD;rw [if_pos h]
theorem numsTo_last (R:List Issue) (k:Nat) (hk:k < R.length) (h:∀ j,j<=k->zHI R j) : (∀ n∈zBN R (k+1),n<=R[k].d)/\R[k].d∈zBN R (k+1)/\(zBN R (k+1)).Pairwise (· < ·):=by
 induction k with
 | zero =>rw [zHV R 0 hk (.inl rfl)];simp [zBN]
 | succ k ih =>
   have ih:=ih (by omega) (fun j hj=>h j (by omega));have ho:=(h (k+1) (Nat.le_refl _) hk).2 (by omega);simp only [Nat.add_sub_cancel] at ho;rcases ho with ⟨h1,_⟩ | ⟨h1,_⟩
   ·rw [zHV R (k+1) hk (.inr (by simp only [Nat.add_sub_cancel];omega))]
    refine ⟨fun n hn=>?_,by simp,?_⟩
    ·rcases List.mem_append.1 hn with h2 | h2
     ·have:=ih.1 n h2;omega
     ·simp at h2;omega
    ·rw [List.pairwise_append];refine ⟨ih.2.2,by simp,fun a ha b hb=>?_⟩;simp at hb;have:=ih.1 a ha;omega
   ·rw [zLQ R (k+1) hk (by omega) (by simp only [Nat.add_sub_cancel];omega)];rw [<- h1];exact ih
theorem nums_sorted (R:List Issue) (h:∀ j,j < R.length->zHI R j) : (nums R).Pairwise (· < ·):=by
 unfold nums;cases hl:R.length with
 | zero=>simp [zBN]
 | succ k=>exact (numsTo_last R k (by omega) (fun j hj=>h j (by omega))).2.2
theorem nums_nodup (R:List Issue) (h:∀ j,j < R.length->zHI R j) : (nums R).Nodup:=by
 have:=nums_sorted R h;exact this.imp fun hab=>by omega
theorem numsTo_mono (R:List Issue) (k m:Nat) (h:k<=m) (n:Int) (hn:n∈zBN R k) : n∈zBN R m:=by
 induction m with
 | zero =>
   obtain rfl:k=0:=by omega
   exact hn
 | succ m ih =>
   by_cases e:k=m+1
   ·subst e;exact hn
   ·simp only [zBN,List.mem_append];exact .inl (ih (by omega))
theorem zOE (R:List Issue) (h:∀ j,j < R.length->zHI R j) (k:Nat) (hk:k < R.length) : R[k].d∈nums R :=
 numsTo_mono R (k+1) R.length (by omega) _ (numsTo_last R k hk (fun j hj=>h j (by omega))).2.1
end
section
open Go.RowKit
def row (R:List Issue) (g:Int->Int) : List Value:=(nums R).map (fun n=>Value.int .i64 (g n))
theorem row_at (R:List Issue) (g:Int->Int) (d:Int) (hd:d∈nums R) : (row R g)[(nums R).idxOf d]? = some (.int .i64 (g d)):=by
 unfold row;rw [List.getElem?_map,List.getElem?_eq_getElem (List.idxOf_lt_length_of_mem hd)];simp
theorem row_set (R:List Issue) (g g':Int->Int) (d:Int) (hd:d∈nums R) (hn:(nums R).Nodup) (u:Int) (h:∀ n,g' n=if n=d then u else g n) : (row R g).set ((nums R).idxOf d) (.int .i64 u)=row R g':=by
 unfold row;rw [set_map _ _ _ _ hd hn];refine List.map_congr_left fun n _=>?_
 rw [h];split <;> rfl
theorem row_zero (R:List Issue) (g:Int->Int) (h:∀ n,g n=0) (N:Nat) (hN:(nums R).length=N) : (madeCells (Value.int IntKind.i64 0).cells (N*1)).toList=row R g:=by
 rw [Nat.mul_one];show (madeCells #[Value.int IntKind.i64 0] N).toList=_
 rw [toList_madeCells_one,<- hN];unfold row;rw [show (fun n=>Value.int .i64 (g n))=(fun _=>Value.int .i64 0) from funext fun n=>by rw [h]];exact List.map_const'.symm
theorem depths02 (w:World) (v:Value) (R:List Issue) (h:Sl zAY 5 w v R) (hL:zDR R) :
  Calls Tryz.prog 176 #[.agg #[v]] w fun e w'=>∃ u,e = .returned u/\Sl zAM 1 w' u ((nums R).map (dep R ((nums R).length+1)))/\Below w.heap.size w w':=by
 obtain ⟨i0,hi,hz0,hz1,hz2⟩:=info_parts zFY;have hR60:R.length<=60:=by have:=hL.1.2;omega
 have hN20:=hL.2.2.2;have hnd:=Lib.hid (nums_nodup R (fun j hj=>(hL.2.1 j hj).2));have hhas:=Lib.hid (zOE R (fun j hj=>(hL.2.1 j hj).2));have hitm:=Lib.hid hL.2.2.1;clear hL;obtain ⟨hb1,B1⟩:=zBY w #[v] 24;have c0:=B1 0 v rfl;clear B1;obtain ⟨a,cap,rfl,hm⟩:=zD h;have h1:=zJ zU hb1 h;have C0:=Lib.hid c0;unfold zK at c0;clear h;go_enter Tryz.func176,Tryz.ntmps176;go_wp2_with fail;generalize w.alloc _=w1 at *;refine (numbers02 _ _ R h1 (by omega)).mono ?_;rintro e w2 ⟨u,rfl,hu,hb2⟩;have hb3:=zA hb1 hb2;have h2:=zJ zU hb2 h1;have C2:=Lib.hid (zC hb2 C0.out);clear C0 c0 hb1 hb2 h1;obtain ⟨au,capu,rfl,hmu⟩:=zD hu;generalize hN:(nums R).length=N at *;have HN:=Lib.hid hN;clear hN;go_wp2_with (at_make;refine wpList_make_full _ rfl _ _ 28 rfl w2.heap.size 3 i0 (.int .i64 0) 1 Tryz.underlying28 hi hz0 hz1 .i64 .i64 _ _ N rfl rfl rfl rfl (by rw [hz2];omega) (by unfold maxLen;omega) (Nat.le_refl _) ?_;intro w3 hown0 hg0);have hrow0:w3.ownsRow w2.heap.size 3 1 (.slice (some ⟨w2.heap.size,0,none⟩) N N) N (row R (dep R 0)):=by have e:=row_zero R (dep R 0) (fun _=>rfl) N HN.out;rw [<- e];exact hown0
 have hb4:Below w2.heap.size w2 w3:=(Below.refl _ w2).grown hg0 (Nat.le_refl _) (fun k e=>by cases e);clear hown0 hg0;go_loopw [4,5] (fun o i wr=>∃ (r go:Nat),i = .int .i64 r/\r<=N+1/\o = .slice (some ⟨go,0,none⟩) N N/\wr.ownsRow w2.heap.size 3 1 o N (row R (dep R r))/\Below w2.heap.size w2 wr) (fun _ i _=>N+1 - (intOf i).toNat)
 case atStart=>exact ⟨0,w2.heap.size,rfl,by omega,rfl,hrow0,hb4⟩
 case round =>
  obtain ⟨r,go,rfl,hr,rfl,hown,hb⟩:=hrel;clear hrow0 hb4;by_cases hrn:r<=N
  ·go_wp2_with (at_make;refine wpList_make_full _ rfl _ _ 28 rfl w2.heap.size 3 i0 (.int .i64 0) 1 Tryz.underlying28 hi hz0 hz1 .i64 .i64 _ _ N rfl rfl rfl rfl (by rw [hz2];omega) (by unfold maxLen;omega) hb.size ?_;intro w4 hown1 hg1)
   have hne:go≠wr.heap.size:=by have:=(hown.lt go rfl).2;omega
   have hgb:w2.heap.size<=wr.heap.size:=hb.size;have hb5:Below w2.heap.size w2 w4:=hb.grown hg1 hb.size (fun k e=>by cases e);have hown2:=hown.kept hg1 (.inr (by simp [Value.ownBlock]));have hrow1:w4.ownsRow w2.heap.size 3 1 (.slice (some ⟨wr.heap.size,0,none⟩) N N) N (row R (zDH R (dep R r) 0)):=by rw [<- row_zero R (zDH R (dep R r) 0) (fun _=>rfl) N HN.out];exact hown1
   clear hown1 hg1 hown hb;generalize wr.heap.size=g at *;go_loopw [7] (fun i wm=>∃ k:Nat,i = .int .i64 k/\k<=R.length/\wm.ownsRow w2.heap.size 3 1 (.slice (some ⟨go,0,none⟩) N N) N (row R (dep R r))/\wm.ownsRow w2.heap.size 3 1 (.slice (some ⟨g,0,none⟩) N N) N (row R (zDH R (dep R r) k))/\Below w2.heap.size w2 wm) (fun i _=>R.length - (intOf i).toNat)
   case atStart=>exact ⟨0,rfl,by omega,hown2,hrow1,hb5⟩
   case round =>
    obtain ⟨k,rfl,hk,ho,hn,hb⟩:=hrel;clear hown2 hrow1 hb5;have e0:=zC hb C2.out;unfold zK at e0;by_cases hlt:k < R.length
    ·obtain ⟨b,off,rfl,⟨q0,q1,q2⟩,hnum,vi,vd,q3,q4,si,sd⟩:=(zY h2).2 k hlt
     have q0:=zC hb q0;have q1:=zC hb q1;have q2:=zC hb q2;have q3:=zC hb q3;have q4:=zC hb q4;have hd:=hhas.out k hlt;have hit:=Lib.hid (fun j hj=>hitm.out k hlt hlt j hj);have hsucc:=Lib.hid (zOT R (dep R r) k hlt);unfold zK at q0 q1 q2 q3 q4;generalize hx:R[k]=x at *;clear hx;obtain ⟨ai,capi,rfl,hmi⟩:=zD si;obtain ⟨ad,capd,rfl,_⟩:=zD sd;have x3:=zR wr #[.int .i64 x.d,.int .i64 x.l,.int .u8 x.k,.slice ai x.items.length capi,.slice ad x.dims.length capd] 118 3 (.slice ai x.items.length capi) rfl;have hb6:=hb.alloc hb.size (.cells #[.int .i64 x.d,.int .i64 x.l,.int .u8 x.k,.slice ai x.items.length capi,.slice ad x.dims.length capd] 118);have ho2:=ho.alloc (.cells #[.int .i64 x.d,.int .i64 x.l,.int .u8 x.k,.slice ai x.items.length capi,.slice ad x.dims.length capd] 118);have hn2:=hn.alloc (.cells #[.int .i64 x.d,.int .i64 x.l,.int .u8 x.k,.slice ai x.items.length capi,.slice ad x.dims.length capd] 118);have e1:=zC hb6 C2.out;have xlt:=zAD x3;have glt:=(hn.lt g rfl).2;unfold zK at e1;go_wp2_with fail;clear e0 q0 q1 q2 q3 q4 ho hn;have hxb:w2.heap.size<=wr.heap.size:=hb.size;clear sd hb;generalize wr.alloc _=w5 at *;generalize wr.heap.size=xb at *;refine (index02 _ _ _ x.d (zJ zN hb6 hu)).mono ?_;rintro e w6 ⟨rfl,rfl⟩;rw [idxI_mem _ _ hd];have hat:(nums R).idxOf x.d < N:=by rw [<- HN.out];exact List.idxOf_lt_length_of_mem hd
     have ga:=hn2.cells (g:=g) rfl _ _ (row_at R (zDH R (dep R r) k) x.d hd);rw [zAZ] at ga;have fa:=hn2.frozenAt ((nums R).idxOf x.d);have hbd:=zRJ R (dep R r) r (by omega) (zNF R r) k x.d;have hset:=Lib.hid (fun u h=>row_set R (zDH R (dep R r) k) (mid R (dep R r) k x 0) x.d hd hnd.out u h);generalize hatn:(nums R).idxOf x.d=at0 at *;have HAT:=Lib.hid hatn;clear hatn;generalize hacc:zDH R (dep R r) k x.d=acc at *;have HACC:=Lib.hid hacc;clear hacc;by_cases h1:1<=acc
     case' pos =>
      have h1':¬ (1 > acc):=by omega
      go_wp2;obtain ⟨hn3,hgr⟩:=hn2.stored at0 (.int .i64 acc);rw [hset.out acc (fun n=>by rw [mid_zero,HACC.out,Int.max_eq_left h1])] at hn3;have x7:=zBR (j:=at0) (u:=Value.int .i64 acc) x3 (by omega:xb≠g)
     case' neg =>
      have h1':1 > acc:=by omega
      go_wp2;obtain ⟨hn3,hgr⟩:=hn2.stored at0 (.int .i64 1);rw [hset.out 1 (fun n=>by rw [mid_zero,HACC.out,Int.max_eq_right (by omega)])] at hn3;have x7:=zBR (j:=at0) (u:=Value.int .i64 1) x3 (by omega:xb≠g)
     all_goals
      have ho3:=ho2.kept hgr (.inr (by simp [Value.ownBlock];omega));have hb7:=hb6.grown hgr hb6.size (fun k e=>by cases e;exact (hn2.lt g rfl).1);clear h1 h1' hgr ho2 hn2 hb6 x3 ga fa hset;generalize w5.setCell _ _=w7 at *;go_loopw [10] (fun i wi=>∃ m:Nat,i = .int .i64 m/\m<=x.items.length/\wi.ownsRow w2.heap.size 3 1 (.slice (some ⟨go,0,none⟩) N N) N (row R (dep R r))/\wi.ownsRow w2.heap.size 3 1 (.slice (some ⟨g,0,none⟩) N N) N (row R (mid R (dep R r) k x m))/\Below w2.heap.size w2 wi/\zK wi xb 3 (.slice ai x.items.length capi)) (fun i _=>x.items.length - (intOf i).toNat)
      case atStart=>exact ⟨0,rfl,by omega,ho3,hn3,hb7,x7⟩
      case round =>
       obtain ⟨m,rfl,hmi2,ho,hn,hb,hx3⟩:=hrel;clear ho3 hn3 hb7 x7;unfold zK at hx3;by_cases hlm:m < x.items.length
       ·obtain ⟨b',off',rfl,⟨p0,_⟩,_⟩:=(zY si).2 m hlm
        have p0:=zC hb p0;unfold zK at p0;have hyd:=hit.out m hlm;have hsucc2:=Lib.hid (mid_succ R (dep R r) k x m hlm);generalize hy:x.items[m]=y at *;clear hy;have hmem:y.d∈nums R:=hyd;have hcall:=fun W (hW:Below w2.heap.size w2 W)=>(index02 W _ _ y.d (zJ zN hW hu)).mono (fun e w' (h:e = .returned (.int .i64 (zKD (nums R) y.d))/\W=w')=>(show e = .returned (.int .i64 (((nums R).idxOf y.d:Nat) : Int))/\w'=W from ⟨by rw [h.1,idxI_mem _ _ hmem],h.2.symm⟩))
        have hat1:(nums R).idxOf y.d < N:=by rw [<- HN.out];exact List.idxOf_lt_length_of_mem hmem
        have ga:=hn.cells (g:=g) rfl _ _ (row_at R (mid R (dep R r) k x m) x.d hd);have gb:=ho.cells (g:=go) rfl _ _ (row_at R (dep R r) y.d hmem);rw [zAZ] at ga gb;rw [HAT.out] at ga;have fa:=hn.frozenAt at0;have hbd1:=mid_bd R r k x m x.d;have hbd2:=zNF R r y.d;have hset:=Lib.hid (fun u h=>row_set R (mid R (dep R r) k x m) (mid R (dep R r) k x (m+1)) x.d hd hnd.out u h);generalize (nums R).idxOf y.d=at1 at *;generalize hmv:mid R (dep R r) k x m x.d=mv at *;generalize hdv:dep R r y.d=dv at *;have HMV:=Lib.hid hmv;have HDV:=Lib.hid hdv;clear hmv hdv hyd;have hcW:=hcall wr.drew (hb.drew);clear hcall;have HC:=Lib.hid hcW;clear hcW;by_cases h1:1+dv<=mv
        case' pos =>
         have h1':¬ (1+dv > mv):=by omega
         go_wp2;go_still_tail 20,(by kernel_rfl)
         still_call HC.out
         repeat still_step
         refine wpStill_nil ?_;go_wp2;obtain ⟨hn3,hgr⟩:=hn.drew.stored at0 (.int .i64 mv);rw [<- HAT.out,hset.out mv (fun n=>by rw [hsucc2.out,Int.max_eq_left h1]),HAT.out] at hn3;go_roundw
         case rel=>exact ⟨m+1,by go_num,by omega,ho.drew.kept hgr (.inr (by simp [Value.ownBlock];omega)),hn3,hb.drew.grown hgr (by have:=hb.size;simpa using this) (fun k e=>by cases e;exact (hn.lt g rfl).1),zBR (w:=wr.drew) hx3 (by omega)⟩
         case measure=>simp [intOf];omega
        case' neg =>
         have h1':1+dv > mv:=by omega
         go_wp2;go_still_tail 20,(by kernel_rfl)
         still_call HC.out
         repeat still_step
         refine wpStill_nil ?_;go_wp2;obtain ⟨hn3,hgr⟩:=hn.drew.stored at0 (.int .i64 (1+dv));rw [<- HAT.out,hset.out (1+dv) (fun n=>by rw [hsucc2.out,Int.max_eq_right (by omega)]),HAT.out] at hn3;go_roundw
         case rel=>exact ⟨m+1,by go_num,by omega,ho.drew.kept hgr (.inr (by simp [Value.ownBlock];omega)),hn3,hb.drew.grown hgr (by have:=hb.size;simpa using this) (fun k e=>by cases e;exact (hn.lt g rfl).1),zBR (w:=wr.drew) hx3 (by omega)⟩
         case measure=>simp [intOf];omega
       ·go_wp2
        go_roundw
        case rel=>exact ⟨k+1,by go_num,by omega,ho,by rw [show m=x.items.length by omega] at hn;rw [show zDH R (dep R r) (k+1)=mid R (dep R r) k x x.items.length from funext hsucc.out];exact hn,hb⟩
        case measure=>simp [intOf];omega
    ·go_wp2
     go_roundw
     case rel=>exact ⟨r+1,g,by go_num,by omega,rfl,by rw [show k=R.length by omega] at hn;exact hn,hb⟩
     case measure=>simp [intOf];omega
  ·go_wp2
   go_ret;obtain rfl:r=N+1:=by omega
   refine ⟨_,rfl,?_,zA hb3 hb⟩;rw [HN.out];refine zBF (by simpa [row,HN.out,Function.comp_def] using hown) (fun x hx=>?_);obtain ⟨n,_,rfl⟩:=List.mem_map.1 hx;have:=zNF R (N+1) n;unfold I64;omega
def zHB (R:List Issue) (B:Int) : Prop:=∃ n∈nums R,B < dep R ((nums R).length+1) n
open Classical in
noncomputable def zX (R:List Issue) : Int :=
 if zDR R then (if zHB R (nums R).length then 21 else if zHB R 6 then 20 else 0) else 20
theorem zCP {R:List Issue} (h:¬ zDR R) : zX R=20:=by unfold zX;rw [if_neg h]
theorem zLF {R:List Issue} (h:zDR R) (h1:zHB R (nums R).length) : zX R=21:=by unfold zX;rw [if_pos h,if_pos h1]
theorem zPW {R:List Issue} (h:zDR R) (h1:¬ zHB R (nums R).length) (h2:zHB R 6) : zX R=20:=by unfold zX;rw [if_pos h,if_neg h1,if_pos h2]
theorem zOZ {R:List Issue} (h:zDR R) (h1:¬ zHB R (nums R).length) (h2:¬ zHB R 6) : zX R=0:=by unfold zX;rw [if_pos h,if_neg h1,if_neg h2]
def zJA (l:List Int) : Nat->Int
 | 0=>0
 | k+1=>max (zJA l k) (l[k]?.getD 0)
theorem maxTo_gt (l:List Int) (B:Int) (hB:0<=B) (k:Nat) (hk:k<=l.length) : B < zJA l k↔∃ j,j < k/\B < l[j]?.getD 0:=by
 induction k with
 | zero=>simp [zJA];omega
 | succ k ih =>
   have ih:=ih (by omega);simp only [zJA];constructor
   ·intro h
    by_cases h1:B < zJA l k
    ·obtain ⟨j,hj,hb⟩:=ih.1 h1;exact ⟨j,by omega,hb⟩
    ·exact ⟨k,by omega,by omega⟩
   ·rintro ⟨j,hj,hb⟩
    by_cases e:j=k
    ·subst e;omega
    ·have:=ih.2 ⟨j,by omega,hb⟩;omega
theorem zQH (R:List Issue) (B:Int) (hB:0<=B) : B < zJA ((nums R).map (dep R ((nums R).length+1))) (nums R).length↔zHB R B:=by
 rw [maxTo_gt _ B hB _ (by simp)];constructor
 ·rintro ⟨j,hj,hb⟩;simp [hj] at hb;exact ⟨_,List.getElem_mem hj,hb⟩
 ·rintro ⟨n,hn,hb⟩;obtain ⟨j,hj,rfl⟩:=List.getElem_of_mem hn;exact ⟨j,hj,by simpa [hj] using hb⟩
theorem maxTo_bd (l:List Int) (k:Nat) (h:∀ x∈l,0<=x/\x<=1000) : 0<=zJA l k/\zJA l k<=1000:=by
 induction k with
 | zero=>simp [zJA]
 | succ k ih =>
   simp only [zJA];cases hk:l[k]? with
   | none=>simp;omega
   | some x =>have:=h x (List.mem_of_getElem? hk);simp;omega
theorem check02 (w:World) (v:Value) (R:List Issue) (h:Sl zAY 5 w v R) :
  Calls Tryz.prog 143 #[.agg #[v]] w fun e w'=>e = .returned (.int .i64 (zX R))/\Below w.heap.size w w':=by
 obtain ⟨hb1,B1⟩:=zBY w #[v] 24;have c0:=B1 0 v rfl;clear B1;obtain ⟨a,cap,rfl,hm⟩:=zD h;have h1:=zJ zU hb1 h;have C0:=Lib.hid c0;unfold zK at c0;clear h;go_enter Tryz.func143,Tryz.ntmps143;go_wp2_with fail;clear c0;generalize w.alloc _=w1 at *;refine (listed02 _ _ R h1).mono ?_;intro e w2 hh;rcases hh.both with ⟨hl,rfl,hb2⟩ | ⟨hl,rfl,hb2⟩
 case inr =>clear hh;go_wp2;go_ret;exact ⟨zBT (zCP hl).symm,zA hb1 hb2⟩
 clear hh;have hb3:=zA hb1 hb2;have c2:=zC hb2 C0.out;have h2:=zJ zU hb2 h1;unfold zK at c2;clear hb1 hb2 h1 C0;go_wp2_with fail;refine (depths02 _ _ R h2 hl).mono ?_;rintro e w3 ⟨u,rfl,hu,hb4⟩;have hb5:=zA hb3 hb4;clear hb3 hb4 h2 c2;have hN20:=hl.2.2.2;have k1:=Lib.hid (@zLF R hl);have k2:=Lib.hid (@zPW R hl);have k3:=Lib.hid (@zOZ R hl);have hd1:=Lib.hid (zQH R (nums R).length (by omega));have hd2:=Lib.hid (zQH R 6 (by omega));have hbd:=Lib.hid (fun k=>maxTo_bd ((nums R).map (dep R ((nums R).length+1))) k (fun x hx=>by
  obtain ⟨n,_,rfl⟩:=List.mem_map.1 hx;have:=zNF R ((nums R).length+1) n;omega))
 have hlen:((nums R).map (dep R ((nums R).length+1))).length=(nums R).length:=by simp
 clear hl;generalize hL:(nums R).map (dep R ((nums R).length+1))=L at *;clear hL;generalize (nums R).length=N at *;obtain ⟨au,capu,rfl,hmu⟩:=zD hu;have HLEN:=Lib.hid hlen;clear hlen;go_wp2;go_loop [4,5] (fun m i=>∃ k:Nat,i = .int .i64 k/\k<=L.length/\m = .int .i64 (zJA L k)) (fun _ i=>L.length - (intOf i).toNat)
 case atStart=>exact ⟨0,rfl,by omega,rfl⟩
 case round =>
  obtain ⟨k,rfl,hk,rfl⟩:=hrel;by_cases hlt:k < L.length
  ·obtain ⟨b,off,rfl,hc,_⟩:=(zY hu).2 k hlt
   unfold zK at hc;rw [Nat.mul_one] at hc;have hs:Hid (zJA L (k+1)=max (zJA L k) L[k]):=by
    show zJA L (k+1)=_
    simp only [zJA,List.getElem?_eq_getElem hlt,Option.getD_some]
   generalize L[k]=x at *;clear hu;generalize zJA L k=mk at *;by_cases hx:x<=mk
   ·have hx':¬ (x > mk):=by omega
    go_wp2;go_round
    case rel=>exact ⟨k+1,by go_num,by omega,by rw [hs.out,Int.max_eq_left hx]⟩
    case measure=>simp [intOf];omega
   ·have hx':x > mk:=by omega
    go_wp2;go_round
    case rel=>exact ⟨k+1,by go_num,by omega,by rw [hs.out,Int.max_eq_right (by omega)]⟩
    case measure=>simp [intOf];omega
  ·obtain rfl:k=L.length:=by omega
   have hb:=hbd.out L.length;have hb0:=hb.1;have hb6:=hb.2;clear hu hb;have hd1':=Lib.hid (show (N:Int) < zJA L L.length↔zHB R N from by rw [HLEN.out];exact hd1.out);have hd2':=Lib.hid (show (6:Int) < zJA L L.length↔zHB R 6 from by rw [HLEN.out];exact hd2.out);have hN':L.length<=20:=by rw [HLEN.out];exact hN20
   generalize zJA L L.length=mx at *;by_cases h1:(N:Int) < mx
   ·have h1':(L.length:Int) < mx:=by rw [HLEN.out];exact h1
    go_wp2;go_ret;exact ⟨zBT (k1.out (hd1'.out.1 h1)).symm,hb5⟩
   ·have h1':¬ (L.length:Int) < mx:=by rw [HLEN.out];exact h1
    by_cases h2:6 < mx
    ·go_wp2;go_ret;exact ⟨zBT (k2.out (fun h=>by have:=hd1'.out.2 h;omega) (hd2'.out.1 h2)).symm,hb5⟩
    ·go_wp2;go_ret;exact ⟨zBT (k3.out (fun h=>by have:=hd1'.out.2 h;omega) (fun h=>by have:=hd2'.out.2 h;omega)).symm,hb5⟩
def Free (w:World) (b:Nat) : Prop:=b < w.heap.size/\∀ j,w.frozen? ⟨b,j,none⟩=false
theorem free_new (w:World) (cs:Array Value) (t:TypeId) : Free (w.alloc (.cells cs t)) w.heap.size :=
 ⟨by simp,fun _=>World.frozen?_alloc_at _ _ _ _ rfl⟩
theorem free_ext {w w':World} (hb:Below w.heap.size w w') {b:Nat} (h:Free w b) : Free w' b :=
 ⟨Nat.lt_of_lt_of_le h.1 hb.size,fun j=>(hb.frozen (p:=⟨b,j,none⟩) h.1).trans (h.2 j)⟩
def zEV (d l:Int) (x:Issue) : Bool:=x.d == d && x.l == l
def zCQ (R:List Issue) (d l:Int) : Option Issue:=R.find? (zEV d l)
theorem findR_at (R:List Issue) (d l:Int) (k:Nat) (hk:k < R.length) (h:zEV d l R[k]=true) (hf:∀ j,j < k->(hj:j < R.length)->zEV d l R[j]=false) : zCQ R d l=some R[k]:=by
 unfold zCQ;rw [List.find?_eq_some_iff_getElem];exact ⟨h,k,hk,rfl,fun j hj=>by simp [hf j hj (by omega)]⟩
theorem findR_none (R:List Issue) (d l:Int) (hf:∀ j,(hj:j < R.length)->zEV d l R[j]=false) : zCQ R d l=none:=by
 unfold zCQ;rw [List.find?_eq_none];intro x hx;obtain ⟨j,hj,rfl⟩:=List.getElem_of_mem hx;simp [hf j hj]
def zIC:Array Value:=#[.int .i64 0,.int .i64 0,.int .u8 0,.slice none 0 0,.slice none 0 0]
def RetFind (R:List Issue) (d l:Int) (w:World) (e:Ending) (w':World) : Prop :=
 Below w.heap.size w w' /\
 ((∃ x vi vd,zCQ R d l=some x/\e = .returned (.tuple #[.agg #[.int .i64 x.d,.int .i64 x.l,.int .u8 x.k,vi,vd],.bool true])/\IssueAt w' vi vd x) \/
  (zCQ R d l=none/\e = .returned (.tuple #[.agg #[.int .i64 0,.int .i64 0,.int .u8 0,.slice none 0 0,.slice none 0 0],.bool false])))
def RetFindW (R:List Issue) (d l:Int) (w0 w:World) (e:Ending) (w':World) : Prop :=
 Below w.heap.size w w' /\
 ((∃ x vi vd,zCQ R d l=some x/\e = .returned (.tuple #[.agg #[.int .i64 x.d,.int .i64 x.l,.int .u8 x.k,vi,vd],.bool true])/\IssueAt w0 vi vd x) \/
  (zCQ R d l=none/\e = .returned (.tuple #[.agg #[.int .i64 0,.int .i64 0,.int .u8 0,.slice none 0 0,.slice none 0 0],.bool false])))
theorem boxed3 (w:World) (cs cs' cs'':Array Value) (t t' t'':TypeId) : Below w.heap.size w (((w.alloc (.cells cs t)).alloc (.cells cs' t')).alloc (.cells cs'' t'')) /\
  (∀ j v,cs[j]? = some v->zK (((w.alloc (.cells cs t)).alloc (.cells cs' t')).alloc (.cells cs'' t'')) w.heap.size j v) /\
  (∀ j v,cs'[j]? = some v->zK (((w.alloc (.cells cs t)).alloc (.cells cs' t')).alloc (.cells cs'' t'')) (w.heap.size+1) j v) /\
  (∀ j v,cs''[j]? = some v->zK (((w.alloc (.cells cs t)).alloc (.cells cs' t')).alloc (.cells cs'' t'')) (w.heap.size+1+1) j v) /\
  Free (((w.alloc (.cells cs t)).alloc (.cells cs' t')).alloc (.cells cs'' t'')) (w.heap.size+1+1):=by
 obtain ⟨h1,h2,h3⟩:=zJF w cs cs' t t';refine ⟨zA h1 (zB _ _),fun j v h=>zC (zB _ _) (h2 j v h),fun j v h=>zC (zB _ _) (h3 j v h),fun j v h=>?_,?_⟩
 ·have:=zR ((w.alloc (.cells cs t)).alloc (.cells cs' t')) cs'' t'' j v h;rwa [World.size_alloc,World.size_alloc] at this
 ·have:=free_new ((w.alloc (.cells cs t)).alloc (.cells cs' t')) cs'' t'';rwa [World.size_alloc,World.size_alloc] at this
theorem find02w (w0 w:World) (v:Value) (R:List Issue) (d l:Int) (h:Sl zAY 5 w0 v R) (hb0:Below w0.heap.size w0 w) :
  Calls Tryz.prog 178 #[.agg #[v],.agg #[.int .i64 d,.int .i64 l]] w (RetFindW R d l w0 w):=by
 obtain ⟨hb1,B1,B2,B3,hfr⟩:=boxed3 w #[v] #[.int .i64 d,.int .i64 l] #[.int .i64 0,.int .i64 0,.int .u8 0,.slice none 0 0,.slice none 0 0] 24 45 118;have c0:=B1 0 v rfl;have d0:=B2 0 (.int .i64 d) rfl;have d1:=B2 1 (.int .i64 l) rfl;have r0:=B3 0 (.int .i64 0) rfl;have r1:=B3 1 (.int .i64 0) rfl;have r2:=B3 2 (.int .u8 0) rfl;have r3:=B3 3 (.slice none 0 0) rfl;have r4:=B3 4 (.slice none 0 0) rfl;clear B1 B2 B3;obtain ⟨a,cap,rfl,hm⟩:=zD h;have HF:=Lib.hid hfr;have K:Hid (zK (((w.alloc (.cells #[.slice a R.length cap] 24)).alloc (.cells #[.int .i64 d,.int .i64 l] 45)).alloc (.cells #[.int .i64 0,.int .i64 0,.int .u8 0,.slice none 0 0,.slice none 0 0] 118)) w.heap.size 0 (.slice a R.length cap)):=c0;have D0:=Lib.hid d0;have D1:=Lib.hid d1;have R0:=Lib.hid r0;have R1:=Lib.hid r1;have R2:=Lib.hid r2;have R3:=Lib.hid r3;have R4:=Lib.hid r4;clear hfr c0 d0 d1 r0 r1 r2 r3 r4;go_enter Tryz.func178,Tryz.ntmps178;go_wp2;generalize ((w.alloc _).alloc _).alloc _=w1 at *;generalize hpr:w.heap.size+1+1=pr at *;generalize hpd:w.heap.size+1=pd at *;have hpw:w.heap.size<=pr:=by omega
 clear hpr hpd;go_loopw [6] (fun i wr=>∃ k:Nat,i = .int .i64 k/\k<=R.length/\Below w1.heap.size w1 wr/\∀ j,j < k->(hj:j < R.length)->zEV d l R[j]=false) (fun i _=>R.length - (intOf i).toNat)
 case atStart=>exact ⟨0,rfl,by omega,Below.refl _ _,fun j hj=>absurd hj (by omega)⟩
 case round =>
  obtain ⟨k,rfl,hk,hb,hall⟩:=hrel;have HALL:=Lib.hid hall;clear hall;have e0:=zC hb K.out;have x0:=zC hb D0.out;have x1:=zC hb D1.out;have y0:=zC hb R0.out;have y1:=zC hb R1.out;have y2:=zC hb R2.out;have y3:=zC hb R3.out;have y4:=zC hb R4.out;have fr:=free_ext hb HF.out;have f0:=fr.2 0;have f1:=fr.2 1;have f2:=fr.2 2;have f3:=fr.2 3;have f4:=fr.2 4;have hsz2:=fr.1;have hsz1:=zAD x0;have hsz0:=zAD e0;unfold zK at e0 x0 x1 y0 y1 y2 y3 y4;clear fr;by_cases hlt:k < R.length
  ·obtain ⟨b,off,rfl,⟨q0,q1,q2⟩,hnum,vi,vd,q3,q4,si,sd⟩:=(zY h).2 k hlt
   have hw:=zA hb1 hb;have hw0:=zA hb0 hw;have q0:=zC hw0 q0;have q1:=zC hw0 q1;have q2:=zC hw0 q2;have q3:=zC hw0 q3;have q4:=zC hw0 q4;clear hw0;have hbl:=zAD q0;unfold zK at q0 q1 q2 q3 q4;generalize hx:R[k]=x at *;have HX:=Lib.hid hx;clear hx;obtain ⟨ai,capi,rfl,_⟩:=zD si;obtain ⟨ad,capd,rfl,_⟩:=zD sd;by_cases g1:(x.d == d)=true
   ·by_cases g2:(x.l == l)=true
    ·go_wp2
     refine bodyPost_ret (v:=.tuple #[.agg #[.int .i64 x.d,.int .i64 x.l,.int .u8 x.k,.slice ai x.items.length capi,.slice ad x.dims.length capd],.bool true]) ?_ rfl ?_
     ·simp [results,Tryz.results178,go_sem,y0,y1,y2,y3,y4,hsz2]
     ·have hW:=((((((hw.setCell (p:=⟨pr,0,none⟩) hpw (.int .i64 x.d)).setCell (p:=⟨pr,1,none⟩) hpw (.int .i64 x.l)).setCell (p:=⟨pr,2,none⟩) hpw (.int .u8 x.k)).setCell (p:=⟨pr,3,none⟩) hpw (.slice ai x.items.length capi)).setCell (p:=⟨pr,4,none⟩) hpw (.slice ad x.dims.length capd)).alloc (by simpa using hw.size) (.cells #[.int .i64 x.d,.int .i64 x.l,.int .u8 x.k,.slice ai x.items.length capi,.slice ad x.dims.length capd] 118));refine ⟨hW,.inl ⟨x,_,_,?_,rfl,si,sd,hnum⟩⟩;rw [<- HX.out];exact findR_at R d l k hlt (by rw [HX.out];simp [zEV,g1,g2]) HALL.out
    ·have g2':(x.l == l)=false:=by simpa using g2
     go_wp2;go_roundw
     case rel=>exact ⟨k+1,by go_num,by omega,hb.alloc hb.size _,zAO _ k HALL.out (fun _=>by rw [HX.out];simp [zEV,g2'])⟩
     case measure=>simp [intOf];omega
   ·have g1':(x.d == d)=false:=by simpa using g1
    go_wp2;go_roundw
    case rel=>exact ⟨k+1,by go_num,by omega,hb.alloc hb.size _,zAO _ k HALL.out (fun _=>by rw [HX.out];simp [zEV,g1'])⟩
    case measure=>simp [intOf];omega
  ·clear h
   go_wp2;refine bodyPost_ret (v:=.tuple #[.agg #[.int .i64 0,.int .i64 0,.int .u8 0,.slice none 0 0,.slice none 0 0],.bool false]) ?_ rfl ?_
   ·simp [results,Tryz.results178,go_sem,y0,y1,y2,y3,y4]
   ·have hw:=zA hb1 hb;have hW:=(((((hw.setCell (p:=⟨pr,0,none⟩) hpw (.int .i64 0)).setCell (p:=⟨pr,1,none⟩) hpw (.int .i64 0)).setCell (p:=⟨pr,2,none⟩) hpw (.int .u8 0)).setCell (p:=⟨pr,3,none⟩) hpw (.slice none 0 0)).setCell (p:=⟨pr,4,none⟩) hpw (.slice none 0 0));exact ⟨hW,.inr ⟨findR_none R d l (fun j hj=>HALL.out j (by omega) hj),rfl⟩⟩
theorem find02 (w:World) (v:Value) (R:List Issue) (d l:Int) (h:Sl zAY 5 w v R) :
  Calls Tryz.prog 178 #[.agg #[v],.agg #[.int .i64 d,.int .i64 l]] w (RetFind R d l w):=by
 refine (find02w w w v R d l h (Below.refl _ _)).mono ?_;rintro e w' ⟨hb,hf⟩;refine ⟨hb,?_⟩;rcases hf with ⟨x,vi,vd,h1,h2,h3⟩ | h
 ·exact .inl ⟨x,vi,vd,h1,h2,h3.ext hb⟩
 ·exact .inr h
end
section
open Go.RowKit Go.Shelf
theorem zJQ (w:World) (n:Int) : Calls Tryz.prog 140 #[.int .i64 n] w fun e w'=>e = .returned (.bool false)/\w=w':=by
 go_enter Tryz.func140,Tryz.ntmps140;go_wp2;go_ret;exact ⟨by simp,rfl⟩
def zLD (a b:Int) : Int:=if a < b then -1 else if b < a then 1 else 0
theorem zER (w:World) (a b:Int) : Calls Tryz.prog 101 #[.int .i64 a,.int .i64 b] w fun e w'=>e = .returned (.int .i64 (zLD a b))/\w=w':=by
 by_cases h1:a < b
 ·go_enter Tryz.func101,Tryz.ntmps101;go_wp2_with (go_at_call 140;refine (zJQ _ _).mono ?_;rintro e w' ⟨rfl,rfl⟩);go_ret;exact ⟨zBT (by unfold zLD;rw [if_pos h1]),rfl⟩
 ·by_cases h2:b < a
  ·go_enter Tryz.func101,Tryz.ntmps101;go_wp2_with (go_at_call 140;refine (zJQ _ _).mono ?_;rintro e w' ⟨rfl,rfl⟩);go_ret;exact ⟨zBT (by unfold zLD;rw [if_neg (by omega),if_pos h2]),rfl⟩
  ·go_enter Tryz.func101,Tryz.ntmps101;go_wp2_with (go_at_call 140;refine (zJQ _ _).mono ?_;rintro e w' ⟨rfl,rfl⟩);go_ret;exact ⟨zBT (by unfold zLD;rw [if_neg (by omega),if_neg (by omega)]),rfl⟩
theorem zJX (w:World) (v:Value) (l:List Int) (n:Int) (h:Sl zAM 1 w v l) :
  Calls Tryz.prog 66 #[v,.int .i64 n] w fun e w'=>e = .returned (.int .i64 (zKD l n))/\w=w':=by
 obtain ⟨a,cap,rfl,hm⟩:=zD h;go_enter Tryz.func66,Tryz.ntmps66;go_wp2;go_loop [8] (fun i=>∃ k:Nat,i = .int .i64 k/\k<=l.length/\Hid (∀ j,j < k->(hj:j < l.length)->l[j]≠n)) (fun i=>l.length - (intOf i).toNat)
 case atStart=>exact ⟨0,rfl,by omega,fun j hj=>absurd hj (by omega)⟩
 case round =>
  obtain ⟨k,rfl,hk,hall⟩:=hrel;by_cases hlt:k < l.length
  ·obtain ⟨b,off,rfl,h0,_⟩:=(zY h).2 k hlt
   generalize hx:l[k]=x at *;have HX:=Lib.hid hx;clear hx h;unfold zK at h0;rw [Nat.mul_one] at h0;by_cases he:(n == x)=true
   ·go_wp2;go_ret;exact ⟨zBT (by rw [idxI_at l n k hlt (by rw [HX.out];simpa using (by simpa using he:n=x).symm) hall.out]),rfl⟩
   ·have he':(n == x)=false:=by simpa using he
    clear he;go_wp2;go_round
    case rel=>exact ⟨k+1,by go_num,by omega,zAO _ k hall.out (fun _=>by rw [HX.out];simpa using fun h=>(by simpa using he':¬ n=x) h.symm)⟩
    case measure=>simp [intOf];omega
  ·clear h;go_wp2;go_ret;exact ⟨zBT (by rw [idxI_none l n (fun j hj=>hall.out j (by omega) hj)]),rfl⟩
theorem zDF (w:World) (v:Value) (l:List Int) (n:Int) (h:Sl zAM 1 w v l) :
  Calls Tryz.prog 74 #[v,.int .i64 n] w (RetS (n∈l) w):=by
 go_enter Tryz.func74,Tryz.ntmps74;go_wp2_with fail;refine (zJX _ _ l n h).mono ?_;rintro e w' ⟨rfl,rfl⟩;have H:Hid (0<=zKD l n↔n∈l):=⟨fun h=>Classical.byContradiction fun hn=>by have:=idxI_out l n hn;omega,fun h=>idxI_in l n h⟩;generalize zKD l n=i at *;clear h;go_wp2;go_ret;exact ⟨decide (0<=i),rfl,by rw [decide_eq_true_eq];exact H.out,rfl⟩
theorem zFF (w:World) (x:Heap) :
  Calls Tryz.prog 132 #[.agg #[.int .i64 x.d,.int .i64 x.l,.int .i64 x.lo,.int .i64 x.hi]] w fun e w'=>e = .returned (.agg #[.int .i64 x.d,.int .i64 x.l])/\Below w.heap.size w w':=by
 go_enter Tryz.func132,Tryz.ntmps132;go_wp2;refine bodyPost_ret (v:=.agg #[.int .i64 x.d,.int .i64 x.l]) ?_ rfl ⟨rfl,?_⟩
 ·simp [results,Tryz.results132,go_sem]
 ·exact zA (zB _ _) (zB _ _)
theorem name_sheet (w:World) (x:Issue) (vi vd:Value) (a a':Option Addr) (n n' c c':Nat) (h1:vi = .slice a n c) (h2:vd = .slice a' n' c') :
  Calls Tryz.prog 166 #[.agg #[.int .i64 x.d,.int .i64 x.l,.int .u8 x.k,vi,vd]] w fun e w'=>e = .returned (.agg #[.int .i64 x.d,.int .i64 x.l])/\Below w.heap.size w w':=by
 subst h1 h2;go_enter Tryz.func166,Tryz.ntmps166;go_wp2;refine bodyPost_ret (v:=.agg #[.int .i64 x.d,.int .i64 x.l]) ?_ rfl ⟨rfl,?_⟩
 ·simp [results,Tryz.results166,go_sem]
 ·exact zA (zB _ _) (zB _ _)
def DimOkP (d:Dim) : Prop:=(∀ x∈[d.n,d.lo,d.up],In x 0 1000000000)/\d.lo<=d.up
theorem dimOkP (d:Dim) : DimOkP d↔zOA d:=by
 unfold DimOkP zOA In;simp;omega
def Row3 (w:World) (b:Nat) (x y z:Int) : Prop:=zK w b 0 (.int .i64 x)/\zK w b 1 (.int .i64 y)/\zK w b 2 (.int .i64 z)
theorem sl_row3 {w:World} {b:Nat} {x y z:Int} (h:Row3 w b x y z) (hx:I64 x) (hy:I64 y) (hz:I64 z) : Sl zAM 1 w (.slice (some ⟨b,0,none⟩) 3 3) [x,y,z]:=by
 refine ⟨_,3,rfl,by simp,fun k hk=>⟨b,0,rfl,?_⟩⟩;match k,hk with
 | 0,_=>exact ⟨h.1,hx⟩
 | 1,_=>exact ⟨h.2.1,hy⟩
 | 2,_=>exact ⟨h.2.2,hz⟩
theorem sl_row2 {w:World} {b:Nat} {x y:Int} (h:zK w b 0 (.int .i64 x)/\zK w b 1 (.int .i64 y)) (hx:I64 x) (hy:I64 y) : Sl zAM 1 w (.slice (some ⟨b,0,none⟩) 2 2) [x,y]:=by
 refine ⟨_,2,rfl,by simp,fun k hk=>⟨b,0,rfl,?_⟩⟩;match k,hk with
 | 0,_=>exact ⟨h.1,hx⟩
 | 1,_=>exact ⟨h.2,hy⟩
theorem sl_row1 {w:World} {b:Nat} {x:Int} (h:zK w b 0 (.int .i64 x)) (hx:I64 x) : Sl zAM 1 w (.slice (some ⟨b,0,none⟩) 1 1) [x]:=by
 refine ⟨_,1,rfl,by simp,fun k hk=>⟨b,0,rfl,?_⟩⟩;match k,hk with
 | 0,_=>exact ⟨h,hx⟩
open Classical in
noncomputable def zIV (d:Dim) : Int:=if zOA d then 0 else 10
theorem check_size (w:World) (d:Dim) (hd:I64 d.n/\I64 d.lo/\I64 d.up) : Calls Tryz.prog 260 #[.agg #[.int .i64 d.n,.int .i64 d.lo,.int .i64 d.up]] w fun e w'=>e = .returned (.int .i64 (zIV d))/\Below w.heap.size w w':=by
 obtain ⟨hb1,B1⟩:=zBY w #[.int .i64 d.n,.int .i64 d.lo,.int .i64 d.up] 167;have c0:=B1 0 (.int .i64 d.n) rfl;have c1:=B1 1 (.int .i64 d.lo) rfl;have c2:=B1 2 (.int .i64 d.up) rfl;clear B1;have C1:=Lib.hid c1;have C2:=Lib.hid c2;unfold zK at c0 c1 c2;have hlt:=zAD C1.out;go_enter Tryz.func260,Tryz.ntmps260;go_wp2_with fail;have hb2:=zA hb1 (zB (w.alloc (.cells #[.int .i64 d.n,.int .i64 d.lo,.int .i64 d.up] 167)) (.cells #[.int .i64 d.n,.int .i64 d.lo,.int .i64 d.up] 3));have B2:=zR (w.alloc (.cells #[.int .i64 d.n,.int .i64 d.lo,.int .i64 d.up] 167)) #[.int .i64 d.n,.int .i64 d.lo,.int .i64 d.up] 3;rw [World.size_alloc] at B2;have row:Row3 ((w.alloc (.cells #[.int .i64 d.n,.int .i64 d.lo,.int .i64 d.up] 167)).alloc (.cells #[.int .i64 d.n,.int .i64 d.lo,.int .i64 d.up] 3)) (w.heap.size+1) d.n d.lo d.up:=⟨B2 0 _ rfl,B2 1 _ rfl,B2 2 _ rfl⟩;have C1:=Lib.hid (zC (zB _ (.cells #[.int .i64 d.n,.int .i64 d.lo,.int .i64 d.up] 3)) C1.out);have C2:=Lib.hid (zC (zB _ (.cells #[.int .i64 d.n,.int .i64 d.lo,.int .i64 d.up] 3)) C2.out);clear c0 c1 c2 B2 hlt hb1;generalize (w.alloc _).alloc _=w1 at *;refine (in_size _ _ _ _ [d.n,d.lo,d.up] (sl_row3 row hd.1 hd.2.1 hd.2.2)).mono ?_;intro e w2 h;rcases h.both with ⟨g1,rfl,hb3⟩ | ⟨g1,rfl,hb3⟩
 ·have G1:=Lib.hid g1
  clear h g1;have c1:=zC hb3 C1.out;have c2:=zC hb3 C2.out;unfold zK at c1 c2;by_cases g2:d.up < d.lo
  ·go_wp2;go_ret;exact ⟨zBT (by unfold zIV;rw [if_neg];intro h;have:=((dimOkP d).2 h).2;omega),zA hb2 hb3⟩
  ·go_wp2;go_ret;exact ⟨zBT (by unfold zIV;rw [if_pos ((dimOkP d).1 ⟨G1.out,by omega⟩)]),zA hb2 hb3⟩
 ·have G1:=Lib.hid g1;clear h g1;go_wp2;go_ret;exact ⟨zBT (by unfold zIV;rw [if_neg];intro h;exact G1.out ((dimOkP d).2 h).1),zA hb2 hb3⟩
theorem isNaN_sl (w:World) (n:Int) : Calls Tryz.prog 191 #[.int .i64 n] w fun e w'=>e = .returned (.bool false)/\w=w':=by
 go_enter Tryz.func191,Tryz.ntmps191;go_wp2;go_ret;exact ⟨by simp,rfl⟩
theorem zRB (w:World) (a b:Int) : Calls Tryz.prog 190 #[.int .i64 a,.int .i64 b] w fun e w'=>e = .returned (.bool (decide (a < b)))/\w=w':=by
 by_cases h1:a < b
 ·go_enter Tryz.func190,Tryz.ntmps190;go_wp2_with (go_at_call 140;refine (zJQ _ _).mono ?_;rintro e w' ⟨rfl,rfl⟩);go_ret;exact ⟨by simp [h1],rfl⟩
 ·go_enter Tryz.func190,Tryz.ntmps190;go_wp2_with (go_at_call 140;refine (zJQ _ _).mono ?_;rintro e w' ⟨rfl,rfl⟩);go_ret;exact ⟨by simp [h1],rfl⟩
def Mount (xs:List Int) : Prop:=∀ i j,(hij:i<=j)->(h:j < xs.length)->(xs[i]'(by omega))<=xs[j]
theorem search_int (w:World) (v:Value) (xs:List Int) (x:Int) (h:Sl zAM 1 w v xs) (hs:Mount xs) (hlen:xs.length<=1000) :
  Calls Tryz.prog 167 #[v,.int .i64 x] w fun e w'=>(∃ i:Nat,e = .returned (.tuple #[.int .i64 i,.bool (decide (x∈xs))]))/\w=w':=by
 obtain ⟨a,cap,rfl,_⟩:=zD h;have S:=Lib.hid hs;have HX:=Lib.hid (zY h).2;clear hs h;go_enter Tryz.func167,Tryz.ntmps167;go_wp2;go_loopw [7,8] (fun s7 s8 wr=>∃ lo hi:Nat,s7 = .int .i64 lo/\s8 = .int .i64 hi/\lo<=hi/\hi<=xs.length/\wr=w/\Hid ((∀ t,t < lo->(ht:t < xs.length)->xs[t] < x)/\(∀ t,hi<=t->(ht:t < xs.length)->x<=xs[t]))) (fun s7 s8 _=>(intOf s8 - intOf s7).toNat)
 case atStart=>exact ⟨0,xs.length,rfl,rfl,Nat.zero_le _,Nat.le_refl _,rfl,Lib.hid ⟨fun t ht=>absurd ht (Nat.not_lt_zero _),fun t h1 h2=>absurd h2 (by omega)⟩⟩
 case round =>
  obtain ⟨lo,hi,rfl,rfl,hlh,hin,rfl,I⟩:=hrel;by_cases hlt:lo < hi
  ·have hm:(lo+hi) / 2 < xs.length:=by omega
   obtain ⟨b,off,rfl,c0,_⟩:=HX.out ((lo+hi) / 2) hm;have YL:=Lib.hid (fun (hy:xs[(lo+hi) / 2] < x) t (ht:t < (lo+hi) / 2+1) (htl:t < xs.length)=>show xs[t] < x from by have:=S.out t ((lo+hi) / 2) (by omega) hm;omega);have YR:=Lib.hid (fun (hy:¬ xs[(lo+hi) / 2] < x) t (ht:(lo+hi) / 2<=t) (htl:t < xs.length)=>show x<=xs[t] from by have:=S.out ((lo+hi) / 2) t ht htl;omega);generalize xs[(lo+hi) / 2]=y at *;unfold zK at c0;simp only [Nat.mul_one] at c0;by_cases hyx:y < x
   ·go_wp2_with (go_at_call 190;refine (zRB _ _ _).mono ?_;rintro e w' ⟨rfl,rfl⟩)
    go_roundw
    case rel=>exact ⟨(lo+hi) / 2+1,hi,by rw [show ((lo:Int)+(hi:Int)) / 2+1=(((lo+hi) / 2+1:Nat) : Int) by omega],rfl,by omega,hin,trivial,Lib.hid ⟨YL.out hyx,I.out.2⟩⟩
    case measure=>simp [intOf];omega
   ·go_wp2_with (go_at_call 190;refine (zRB _ _ _).mono ?_;rintro e w' ⟨rfl,rfl⟩)
    go_roundw
    case rel=>exact ⟨lo,(lo+hi) / 2,rfl,by rw [show ((lo:Int)+(hi:Int)) / 2=(((lo+hi) / 2:Nat) : Int) by omega],by omega,by omega,trivial,Lib.hid ⟨I.out.1,YR.out hyx⟩⟩
    case measure=>simp [intOf];omega
  ·obtain rfl:hi=lo:=by omega
   by_cases hn:hi < xs.length
   ·obtain ⟨b,off,rfl,c0,_⟩:=HX.out hi hn
    unfold zK at c0;simp only [Nat.mul_one] at c0;have hmem:Hid (x∈xs↔xs[hi]=x):=⟨fun hx=>by
     obtain ⟨j,hj,e⟩:=List.getElem_of_mem hx;by_cases h1:j < hi
     ·have:=I.out.1 j h1 hj;omega
     ·have h2:=I.out.2 hi (Nat.le_refl _) hn;have h3:=S.out hi j (by omega) hj;omega,fun e=>e ▸ List.getElem_mem hn⟩
    generalize xs[hi]=y at *;by_cases hyx:y=x
    ·go_wp2_with (go_at_call 191;refine (isNaN_sl _ _).mono ?_;rintro e w' ⟨rfl,rfl⟩);go_ret2;exact ⟨⟨hi,by rw [decide_eq_true (hmem.out.2 hyx)];try simp [hyx,hn]⟩,rfl⟩
    ·go_wp2_with (go_at_call 191;refine (isNaN_sl _ _).mono ?_;rintro e w' ⟨rfl,rfl⟩);go_ret2;exact ⟨⟨hi,by rw [decide_eq_false (fun h=>hyx (hmem.out.1 h))];try simp [hyx,hn]⟩,rfl⟩
   ·have hmem:Hid (x ∉ xs):=fun hx=>by
     obtain ⟨j,hj,e⟩:=List.getElem_of_mem hx;have:=I.out.1 j (by omega) hj;omega
    go_wp2;go_ret2;exact ⟨⟨hi,by rw [decide_eq_false hmem.out];try simp [hn]⟩,rfl⟩
end
end Go.Proofs.YtipaopbmklbmnaaGreatDoor
namespace Go
section
open Go.RowKit
def zAB (vs:Nat->Value) : List Oper->Nat->Act->Act
 | [],_,a=>a
 | o :: l,k,a=>zAB vs l (k+1) (a.put o.dst (vs k))
def zHX (d:Option Tmp) : List Oper->Bool
 | []=>true
 | o :: l=>(match d with | none=>true | some t=>!(o.dst == some t)) && zHX d l
def zDN:List Oper->Bool
 | []=>true
 | o :: l=>zHX o.dst l && zDN l
theorem act_put_put (a:Act) (d:Option Tmp) (v u:Value) : (a.put d v).put d u=a.put d u:=by
 cases d with
 | none=>rfl
 | some d =>
   have e:(a.tmps.setIfInBounds d v).setIfInBounds d u=a.tmps.setIfInBounds d u:=by
    apply Array.ext_getElem?;intro i;by_cases h:d=i
    ·subst h;simp
    ·simp [h]
   simp only [Act.put,e]
theorem act_put_self (a:Act) (d:Option Tmp) : ∃ v,a.put d v=a:=by
 cases d with
 | none=>exact ⟨.bool false,rfl⟩
 | some d =>
   refine ⟨a.tmps.getD d undef,?_⟩;obtain ⟨ts,df⟩:=a;have e:ts.setIfInBounds d (ts.getD d undef)=ts:=by
    apply Array.ext_getElem?;intro i;by_cases h:d=i
    ·subst h
     by_cases hl:d < ts.size
     ·simp [hl]
     ·simp [hl]
    ·simp [h]
   simp only [Act.put,e]
theorem puts_comm (vs:Nat->Value) (d:Option Tmp) (v:Value) : ∀ (l:List Oper) (k:Nat) (a:Act),zHX d l=true->(zAB vs l k a).put d v=zAB vs l k (a.put d v):=by
 intro l;induction l with
 | nil=>intro k a _;rfl
 | cons o l ih =>
   intro k a h;simp only [zHX,Bool.and_eq_true] at h;simp only [zAB];rw [ih _ _ h.2];congr 1;refine Act.put_comm a _ _ fun t ht=>?_
   intro hd;subst hd;simp [ht] at h
theorem zEZ (vs us:Nat->Value) : ∀ (l:List Oper) (k:Nat) (a:Act),(∀ j,k<=j->vs j=us j)->zAB vs l k a=zAB us l k a:=by
 intro l;induction l with
 | nil=>intro k a _;rfl
 | cons o l ih =>intro k a h;simp only [zAB];rw [h k (Nat.le_refl _),ih _ _ fun j hj=>h j (by omega)]
theorem zRD (vs:Nat->Value) (v:Value) : ∀ (l:List Oper) (k i:Nat) (a:Act) (o:Oper),zDN l=true->l[i]? = some o ->
  (zAB vs l k a).put o.dst v=zAB (fun j=>if j=k+i then v else vs j) l k a:=by
 intro l;induction l with
 | nil=>intro k i a o _ h;simp at h
 | cons o' l ih =>
   intro k i a o hd h;simp only [zDN,Bool.and_eq_true] at hd;cases i with
   | zero =>simp only [List.getElem?_cons_zero,Option.some.injEq] at h;subst h;simp only [zAB,Nat.add_zero,if_true];rw [puts_comm _ _ _ _ _ _ hd.1,act_put_put];exact zEZ _ _ _ _ _ fun j hj=>by rw [if_neg (by omega)]
   | succ i =>simp only [List.getElem?_cons_succ] at h;simp only [zAB];rw [ih (k+1) i _ o hd.2 h,if_neg (by omega)];exact zEZ _ _ _ _ _ fun j hj=>by rw [show k+1+i=k+(i+1) by omega]
theorem zNX:∀ (l:List Oper) (k:Nat) (a:Act),∃ vs,zAB vs l k a=a:=by
 intro l;induction l with
 | nil=>intro k a;exact ⟨fun _=>.bool false,rfl⟩
 | cons o l ih =>intro k a;obtain ⟨v,hv⟩:=act_put_self a o.dst;obtain ⟨vs,hvs⟩:=ih (k+1) a;refine ⟨fun j=>if j=k then v else vs j,?_⟩;simp only [zAB,if_true,hv];rw [<- hvs];rw [hvs];rw [zEZ _ vs l (k+1) a fun j hj=>by rw [if_neg (by omega)]];exact hvs
def Oper.waitsOn (o:Oper) : List Nat:=(o.after.toList.filter (Region.binds .any)).map (·.on)
def noDups:List Nat->List Nat
 | []=>[]
 | x :: l=>if (noDups l).contains x then noDups l else x :: noDups l
theorem mem_noDups {x:Nat} : ∀ {l:List Nat},x∈noDups l->x∈l:=by
 intro l;induction l with
 | nil=>intro h;exact h
 | cons y l ih =>
   intro h;simp only [noDups] at h;split at h
   ·exact List.mem_cons_of_mem _ (ih h)
   ·rcases List.mem_cons.1 h with h | h
    ·exact h ▸ List.mem_cons_self
    ·exact List.mem_cons_of_mem _ (ih h)
def zMK (ops:List Oper) : Nat->List Nat->List Nat
 | 0,S=>S
 | f+1,S=>zMK ops f (noDups (S++S.flatMap fun k=>match ops[k]? with | none=>[] | some o=>o.waitsOn))
def zJK (ops:List Oper) (m:Nat) : Bool :=
 zDN (ops.take m) && decide (m<=ops.length) &&
 (List.range ops.length).all (fun i=>match ops[i]? with | none=>true | some o=>o.waitsOn.all (· < i)) &&
 (List.range ops.length).all (fun k=>decide (k < m) || (List.range k).all (fun j=>(zMK ops 12 ((ops[k]?).elim [] Oper.waitsOn)).contains j))
def zEY (ops:List Oper) (L:Array Bool) : Prop:=∀ i o,L.getD i false=true->ops[i]? = some o->∀ j∈o.waitsOn,L.getD j false=true
theorem zCL {ops:List Oper} {L:Array Bool} (hd:zEY ops L) : ∀ (f:Nat) (S:List Nat),(∀ j∈S,L.getD j false=true)->∀ j∈zMK ops f S,L.getD j false=true:=by
 intro f;induction f with
 | zero=>intro S h j hj;exact h j hj
 | succ f ih =>
   intro S h j hj;refine ih _ (fun i hi=>?_) j hj;rcases List.mem_append.1 (mem_noDups hi) with h1 | h1
   ·exact h i h1
   ·obtain ⟨k,hk,hik⟩:=List.mem_flatMap.1 h1
    cases hok:ops[k]? with
    | none=>simp [hok] at hik
    | some o =>simp only [hok] at hik;exact hd k o (h k hk) hok i hik
theorem mem_waitsOn {o:Oper} {j:Nat} : j∈o.waitsOn↔∃ e∈o.after,Region.binds .any e=true/\e.on=j:=by
 unfold Oper.waitsOn;simp only [List.mem_map,List.mem_filter,Array.mem_toList_iff];constructor
 ·rintro ⟨e,⟨h1,h2⟩,h3⟩;exact ⟨e,h1,h2,h3⟩
 ·rintro ⟨e,h1,h2,h3⟩;exact ⟨e,⟨h1,h2⟩,h3⟩
theorem zDE {ops:List Oper} {L:Array Bool} {k:Nat} : k∈Region.ready .any ops.toArray L↔L.getD k true=false/\∃ o,ops[k]? = some o/\∀ j∈o.waitsOn,L.getD j false=true:=by
 rw [mem_ready];simp only [List.getElem?_toArray];constructor
 ·rintro ⟨h0,o,ho,h⟩;exact ⟨h0,o,ho,fun j hj=>by obtain ⟨e,he,hb,rfl⟩:=mem_waitsOn.1 hj;exact h e he hb⟩
 ·rintro ⟨h0,o,ho,h⟩;exact ⟨h0,o,ho,fun e he hb=>h _ (mem_waitsOn.2 ⟨e,he,hb,rfl⟩)⟩
def unTo (L:Array Bool) : Nat->Nat
 | 0=>0
 | k+1=>unTo L k+(if L.getD k true then 0 else 1)
theorem unTo_le (L:Array Bool) (i:Nat) (k:Nat) : unTo (L.setIfInBounds i true) k<=unTo L k:=by
 induction k with
 | zero=>simp [unTo]
 | succ k ih =>
   simp only [unTo];by_cases h:i=k
   ·subst h
    have:(L.setIfInBounds i true).getD i true=true:=by simp only [Array.getD_eq_getD_getElem?,Array.getElem?_setIfInBounds];by_cases hl:i < L.size <;> simp [hl]
    rw [this];simp;omega
   ·rw [getD_set_ne true h];omega
theorem zOL (L:Array Bool) (i:Nat) (hi:L.getD i true=false) (k:Nat) (hk:i < k) : unTo (L.setIfInBounds i true) k+1<=unTo L k:=by
 induction k with
 | zero=>omega
 | succ k ih =>
   simp only [unTo];by_cases h:i=k
   ·subst h
    have:(L.setIfInBounds i true).getD i true=true:=by simp only [Array.getD_eq_getD_getElem?,Array.getElem?_setIfInBounds];by_cases hl:i < L.size <;> simp [hl]
    rw [this,hi];have:=unTo_le L i i;simp;omega
   ·rw [getD_set_ne true h];have:=ih (by omega);omega
theorem zJM (L:Array Bool) (k:Nat) (h:unTo L k=0) : ∀ i,i < k->L.getD i true=true:=by
 induction k with
 | zero=>intro i hi;omega
 | succ k ih =>
   simp only [unTo] at h;intro i hi;by_cases e:i=k
   ·subst e
    by_cases hh:L.getD i true=true
    ·exact hh
    ·simp [hh] at h
   ·exact ih (by omega) i (by omega)
theorem zKQ (n k:Nat) : unTo (Array.replicate n false) k<=k:=by
 induction k with
 | zero=>simp [unTo]
 | succ k ih=>simp only [unTo];split <;> omega
theorem zDV (n i:Nat) : (Array.replicate n false).getD i false=false:=by
 simp only [Array.getD_eq_getD_getElem?,Array.getElem?_replicate];split <;> rfl
theorem zGB {L:Array Bool} {i:Nat} (h:L.getD i false=true) : L.getD i true=true:=by
 simp only [Array.getD_eq_getD_getElem?] at *;cases hh:L[i]? <;> simp_all
theorem zDK {L:Array Bool} {i:Nat} (hi:i < L.size) (h:L.getD i true=true) : L.getD i false=true:=by
 simp only [Array.getD_eq_getD_getElem?] at *;simp_all
section
variable {P:Program} {Q:Exit->Act->World->Prop} {ops:List Oper} {m:Nat}
theorem zEN (hB:zJK ops m=true) {i:Nat} {o:Oper} (ho:ops[i]? = some o) : ∀ j∈o.waitsOn,j < i:=by
 simp only [zJK,Bool.and_eq_true] at hB;have h:=List.all_eq_true.1 hB.1.2 i (List.mem_range.2 (List.getElem?_eq_some_iff.1 ho).1);simp only [ho] at h;intro j hj;simpa using List.all_eq_true.1 h j hj
theorem zHW (hB:zJK ops m=true) {k:Nat} (hk:k < ops.length) (hm:m<=k) : ∀ j,j < k->j∈zMK ops 12 ((ops[k]?).elim [] Oper.waitsOn):=by
 simp only [zJK,Bool.and_eq_true] at hB;have h:=List.all_eq_true.1 hB.2 k (List.mem_range.2 hk);simp only [Bool.or_eq_true,decide_eq_true_eq] at h;rcases h with h | h
 ·omega
 ·intro j hj;simpa using List.all_eq_true.1 h j (List.mem_range.2 hj)
theorem zME (hB:zJK ops m=true) : zDN (ops.take m)=true:=by
 simp only [zJK,Bool.and_eq_true] at hB;exact hB.1.1.1
theorem zMT (hB:zJK ops m=true) : m<=ops.length:=by
 simp only [zJK,Bool.and_eq_true,decide_eq_true_eq] at hB;exact hB.1.1.2
theorem zDQ {L:Array Bool} {i:Nat} {o:Oper} (hd:zEY ops L) (ho:ops[i]? = some o) (hw:∀ j∈o.waitsOn,L.getD j false=true) : zEY ops (L.setIfInBounds i true):=by
 intro k ok hk hok j hj;by_cases e:i=k
 ·subst e;rw [ho] at hok;cases hok;exact getD_set_true (hw j hj)
 ·rw [getD_set_ne false e] at hk;exact getD_set_true (hd k ok hk hok j hj)
theorem zHY (hB:zJK ops m=true) {L:Array Bool} (hL:L.size=ops.length) (h:Region.ready .any ops.toArray L=[]) : ∀ i,i < ops.length->L.getD i true=true:=by
 intro i;induction i using Nat.strongRecOn with
 | _ i ih =>
   intro hi;by_cases hh:L.getD i true=true
   ·exact hh
   ·exfalso
    have ho:ops[i]? = some ops[i]:=List.getElem?_eq_getElem hi;have:i∈Region.ready .any ops.toArray L:=zDE.2 ⟨by simpa using hh,_,ho,fun j hj=>by
     have hji:=zEN hB ho j hj;exact zDK (by omega) (ih j hji (by omega))⟩
    rw [h] at this;cases this
theorem zKN (hB:zJK ops m=true) : ∀ (fuel:Nat) (L:Array Bool) (t:Nat) (a:Act) (w:World),L.size=ops.length->m<=t->(∀ i,i < ops.length->L.getD i true=decide (i < t))->unTo L ops.length<=fuel ->
  wpList P ops.toArray Q (ops.drop t) a w->wpAny P .any ops.toArray Q fuel L a w:=by
 intro fuel;induction fuel with
 | zero =>
   intro L t a w hs hm hl hu h;have hall:=zJM L ops.length (by omega);have ht:ops.length<=t:=by
    by_cases e:ops.length<=t
    ·exact e
    ·have h1:=hall t (by omega);rw [hl t (by omega)] at h1;simp at h1
   refine ⟨?_,?_⟩
   ·apply List.eq_nil_iff_forall_not_mem.2;intro k hk;obtain ⟨h0,o,ho,_⟩:=zDE.1 hk;rw [hall k (List.getElem?_eq_some_iff.1 ho).1] at h0;cases h0
   ·rw [List.drop_eq_nil_of_le ht] at h;exact h
 | succ fuel ih =>
   intro L t a w hs hm hl hu h;by_cases ht:ops.length<=t
   ·refine ⟨fun _=>by rw [List.drop_eq_nil_of_le ht] at h;exact h,fun k hk=>?_⟩;obtain ⟨h0,o,ho,_⟩:=zDE.1 hk;rw [hl k (List.getElem?_eq_some_iff.1 ho).1] at h0;have:=(List.getElem?_eq_some_iff.1 ho).1;simp at h0;omega
   ·have htl:t < ops.length:=by omega
    have ho:ops[t]? = some ops[t]:=List.getElem?_eq_getElem htl;refine ⟨fun h0=>?_,fun k hk=>?_⟩
    ·have:=zHY hB hs h0 t htl;rw [hl t htl] at this;simp at this
    ·obtain ⟨h0,o,hok,hw⟩:=zDE.1 hk
     have hkl:=(List.getElem?_eq_some_iff.1 hok).1;rw [hl k hkl] at h0;have hkt:k=t:=by
      by_cases e:k=t
      ·exact e
      ·exfalso
       have hlt:t < k:=by simp at h0;omega
       have hdc:zEY ops L:=by intro i oi hi hoi j hj;have hil:=(List.getElem?_eq_some_iff.1 hoi).1;have h1:=zGB hi;rw [hl i hil] at h1;have hji:=zEN hB hoi j hj;refine zDK (by omega) ?_;rw [hl j (by omega)];simp at h1 ⊢;omega
       have h2:=zCL hdc 12 _ (by rw [hok];exact hw) t (zHW hB hkl (by omega) t hlt);have h3:=zGB h2;rw [hl t htl] at h3;simp at h3
     subst hkt;rw [List.drop_eq_getElem_cons htl] at h;unfold wpOp;simp only [List.getElem?_toArray,ho];unfold wpList at h;have hnext:∀ a' w',wpList P ops.toArray Q (ops.drop (k+1)) a' w'->wpAny P .any ops.toArray Q fuel (L.setIfInBounds k true) a' w':=fun a' w' h'=>by
      refine ih _ (k+1) a' w' (by simpa using hs) (by omega) (fun i hi=>?_) ?_ h'
      ·by_cases e:k=i
       ·subst e;have:(L.setIfInBounds k true).getD k true=true:=zGB (by simp [hs,htl]);rw [this];simp
       ·rw [getD_set_ne true e,hl i hi];simp;omega
      ·have:=zOL L k (by rw [hl k htl];simp) ops.length htl;omega
     split
     ·rename_i hwn
      rw [if_pos hwn] at h;rcases h with h | h
      ·exact .inl (Oper.wp_mono hnext h)
      ·exact .inr h
     ·rename_i hwn;rw [if_neg hwn] at h;exact hnext _ _ h
def Oper.growUpon (P:Program) (w:World) (R:Value->World->Prop) : Result Next->Prop
 | .ok (.value v) w'=>Below w.heap.size w w'/\R v w'
 | .ok .skip w'=>Below w.heap.size w w'/\R undef w'
 | .ok (.enter f args) w'=>Calls P f args w' (fun e w''=>∃ v,e = .returned v/\Below w.heap.size w w''/\R v w'')
 | _=>False
def Oper.grows (P:Program) (o:Oper) (a:Act) (w:World) (R:Value->World->Prop) : Prop:=Oper.growUpon P w R ((execOp a.eval o).run P w)
def zAE (P:Program) (ops:Array Oper) (o:Oper) (a:Act) (w:World) (R:Value->World->Prop) : Prop :=
 if Region.wanted o (yielded ops a.tmps) then o.grows P a w R else R undef w
theorem Oper.wp_of_grows {o:Oper} {a:Act} {w:World} {R:Value->World->Prop} {K:Act->World->Prop} {Q':Exit->Act->World->Prop} (hh:o.grows P a w R)
  (h:∀ v w',Below w.heap.size w w'->R v w'->K (a.put o.dst v) w') : o.wp P a w K Q':=by
 unfold Oper.grows at hh;unfold Oper.wp;generalize (execOp a.eval o).run P w=r at *;cases r with
 | ok n w' =>
   cases n <;> simp only [Oper.growUpon] at hh <;> simp only [Oper.upon]
   case value u=>exact h _ _ hh.1 hh.2
   case skip=>exact h _ _ hh.1 hh.2
   case enter f args=>exact hh.mono fun e w'' ⟨v,he,hb,hr⟩=>by subst he;exact h _ _ hb hr
 | halt x w'=>simp only [Oper.growUpon] at hh
def zED (R:Value->World->Prop) : Prop:=∀ v w w',Below w.heap.size w w'->R v w->R v w'
theorem grow_any (hB:zJK ops m=true) {a0:Act} {w0:World} (H:Nat->Value->World->Prop) (hs:∀ i,zED (H i))
  (step:∀ i o,i < m->ops[i]? = some o->∀ vs w,Below w0.heap.size w0 w->(∀ j∈o.waitsOn,H j (vs j) w)->zAE P ops.toArray o (zAB vs (ops.take m) 0 a0) w (H i))
  (done:∀ vs w,Below w0.heap.size w0 w->(∀ i,i < m->H i (vs i) w)->wpList P ops.toArray Q (ops.drop m) (zAB vs (ops.take m) 0 a0) w) :
  ∀ (fuel:Nat) (L:Array Bool) (a:Act) (w:World),L.size=ops.length->zEY ops L->(∀ j,m<=j->L.getD j false=false)->unTo L ops.length<=fuel ->
   (∃ vs,a=zAB vs (ops.take m) 0 a0/\Below w0.heap.size w0 w/\∀ i,i < m->L.getD i false=true->H i (vs i) w)->wpAny P .any ops.toArray Q fuel L a w:=by
 have hml:=zMT hB;intro fuel;induction fuel with
 | zero =>
   intro L a w hL hd ht hu ⟨vs,ha,hb,hf⟩;have hall:=zJM L ops.length (by omega);refine zKN hB 0 L m a w hL (Nat.le_refl _) (fun i hi=>?_) hu ?_
   ·rw [hall i hi]
    by_cases e:i < m
    ·simp [e]
    ·have h1:=zDK (by omega) (hall i hi);rw [ht i (by omega)] at h1;cases h1
   ·rw [ha];exact done vs w hb fun i hi=>hf i hi (zDK (by omega) (hall i (by omega)))
 | succ fuel ih =>
   intro L a w hL hd ht hu ⟨vs,ha,hb,hf⟩;by_cases hall:∀ i,i < m->L.getD i true=true
   ·refine zKN hB (fuel+1) L m a w hL (Nat.le_refl _) (fun i hi=>?_) hu ?_
    ·by_cases e:i < m
     ·rw [hall i e];simp [e]
     ·have h1:=ht i (by omega)
      have h2:L.getD i true=false:=by
       by_cases h3:L.getD i true=true
       ·rw [zDK (by omega) h3] at h1;cases h1
       ·simpa using h3
      rw [h2];simp;omega
    ·rw [ha];exact done vs w hb fun i hi=>hf i hi (zDK (by omega) (hall i hi))
   ·refine ⟨fun h0=>(hall fun i hi=>zHY hB hL h0 i (by omega)).elim,fun k hk=>?_⟩
    obtain ⟨h0,o,hok,hw⟩:=zDE.1 hk;have hkl:=(List.getElem?_eq_some_iff.1 hok).1;have hkm:k < m:=by
     by_cases e:k < m
     ·exact e
     ·exfalso
      refine hall fun i hi=>zGB ?_
      exact zCL hd 12 _ (by rw [hok];exact hw) i (zHW hB hkl (by omega) i (by omega))
    have hdeps:∀ j∈o.waitsOn,H j (vs j) w:=fun j hj=>hf j (by have:=zEN hB hok j hj;omega) (hw j hj)
    have hst:=step k o hkm hok vs w hb hdeps;have hnext:∀ v w',Below w.heap.size w w'->H k v w'->wpAny P .any ops.toArray Q fuel (L.setIfInBounds k true) (a.put o.dst v) w':=fun v w' hbw hv=>by
     refine ih _ _ w' (by simpa using hL) (zDQ hd hok hw) (fun j hj=>?_) ?_ ⟨fun j=>if j=k then v else vs j,?_,hb.trans (hbw.mono hb.size),fun i hi hli=>?_⟩
     ·rw [getD_set_ne false (by omega)];exact ht j hj
     ·have:=zOL L k h0 ops.length hkl;omega
     ·rw [ha];have:=zRD vs v (ops.take m) 0 k a0 o (zME hB) (by rw [List.getElem?_take_of_lt hkm];exact hok);rw [this];exact zEZ _ _ _ _ _ fun j _=>by rw [Nat.zero_add]
     ·simp only
      by_cases e:i=k
      ·subst e;rw [if_pos rfl];exact hv
      ·rw [if_neg e];rw [getD_set_ne false (Ne.symm e)] at hli;exact hs i _ _ _ hbw (hf i hi hli)
    unfold wpOp;simp only [List.getElem?_toArray,hok];unfold zAE at hst;rw [<- ha] at hst;split
    ·rename_i hwn;rw [if_pos hwn] at hst;exact .inl (Oper.wp_of_grows hst hnext)
    ·rename_i hwn;rw [if_neg hwn] at hst;exact hnext _ _ (Below.refl _ _) hst
theorem wp_region_grow {id:Nat} {a0:Act} {w0:World} (m:Nat) (hm:P.follows .mixedOrders=true) (hB:zJK ops m=true) (H:Nat->Value->World->Prop) (hs:∀ i,zED (H i))
  (step:∀ i o,i < m->ops[i]? = some o->∀ vs w,Below w0.heap.size w0 w->(∀ j∈o.waitsOn,H j (vs j) w)->zAE P ops.toArray o (zAB vs (ops.take m) 0 a0) w (H i))
  (done:∀ vs w,Below w0.heap.size w0 w->(∀ i,i < m->H i (vs i) w)->wpList P ops.toArray Q (ops.drop m) (zAB vs (ops.take m) 0 a0) w) :
  (Code.region id ops.toArray true).wp P Q a0 w0:=by
 refine wp_region_any hm ?_;obtain ⟨vs,hvs⟩:=zNX (ops.take m) 0 a0;refine grow_any hB H hs step done _ _ _ _ (by simp) ?_ (fun j _=>?_) ?_ ⟨vs,hvs.symm,⟨rfl,rfl,rfl,Nat.le_refl _,fun _ _=>rfl⟩,fun i hi hli=>?_⟩
 ·intro i o hi;rw [zDV] at hi;cases hi
 ·exact zDV _ _
 ·simpa using zKQ ops.length ops.length
 ·rw [zDV] at hli
  cases hli
def zAI (Hs:List (Value->World->Prop)) (i:Nat) : Value->World->Prop:=(Hs[i]?).getD fun _ _=>True
def zFC (P:Program) (ops:Array Oper) (pre:List Oper) (a0:Act) (w0:World) (Q:List (Value->World->Prop)->Prop) : List Oper->List (Value->World->Prop)->Prop
 | [],Hs=>Q Hs
 | o :: l,Hs=>∃ R:Value->World->Prop,zED R /\
   (∀ vs w,Below w0.heap.size w0 w->(∀ j∈o.waitsOn,zAI Hs j (vs j) w)->zAE P ops o (zAB vs pre 0 a0) w R)/\zFC P ops pre a0 w0 Q l (Hs++[R])
theorem zMJ {a0:Act} {w0:World} {Q':List (Value->World->Prop)->Prop} (hlt:∀ (i:Nat) (o:Oper),ops[i]? = some o->∀ j∈o.waitsOn,j < i) : ∀ (l:List Oper) (Hs:List (Value->World->Prop)),(∀ R∈Hs,zED R)->(∀ i,l[i]? = (ops.take m)[Hs.length+i]?)->Hs.length+l.length=m ->
  zFC P ops.toArray (ops.take m) a0 w0 Q' l Hs->∃ Hs',Q' (Hs++Hs')/\(∀ R∈Hs++Hs',zED R)/\Hs'.length=l.length /\
   ∀ (i:Nat) (o:Oper),Hs.length<=i->i < m->ops[i]? = some o->∀ (vs:Nat->Value) (w:World),Below w0.heap.size w0 w->(∀ j∈o.waitsOn,zAI (Hs++Hs') j (vs j) w)->zAE P ops.toArray o (zAB vs (ops.take m) 0 a0) w (zAI (Hs++Hs') i):=by
 intro l;induction l with
 | nil =>intro Hs hst _ hlen h;exact ⟨[],by simpa [zFC] using h,by simpa using hst,rfl,fun i o h1 h2=>by simp at hlen;omega⟩
 | cons o l ih =>
   intro Hs hst hl hlen h;obtain ⟨R,hR,hstep,h⟩:=h;obtain ⟨Hs',hQ,hst',hlen',hstep'⟩:=ih (Hs++[R]) (fun R' hR'=>by
    rcases List.mem_append.1 hR' with h1 | h1
    ·exact hst _ h1
    ·simp at h1;subst h1;exact hR) (fun i=>by
    have:=hl (i+1);simp only [List.getElem?_cons_succ] at this;rw [this,List.length_append];congr 1;simp;omega) (by simp at hlen ⊢;omega) h
   refine ⟨R :: Hs',by simpa using hQ,by simpa using hst',by simp [hlen'],fun i o' h1 h2 ho' vs w hb hd=>?_⟩;have e:Hs++R :: Hs'=Hs++[R]++Hs':=by simp
   by_cases hi:i=Hs.length
   ·subst hi
    have h0:=hl 0;simp only [List.getElem?_cons_zero,Nat.add_zero] at h0;rw [List.getElem?_take_of_lt h2,ho'] at h0;cases h0;have hf:zAI (Hs++R :: Hs') Hs.length=R:=by unfold zAI;simp
    rw [hf];refine hstep vs w hb fun j hj=>?_
    have hjl:=hlt _ _ ho' j hj;have:=hd j hj;unfold zAI at this ⊢;rwa [List.getElem?_append_left hjl] at this
   ·rw [e] at hd ⊢;exact hstep' i o' (by simp;omega) h2 ho' vs w hb hd
theorem zM {id:Nat} {a0:Act} {w0:World} (m:Nat) (hm:P.follows .mixedOrders=true) (hB:zJK ops m=true)
  (h:zFC P ops.toArray (ops.take m) a0 w0 (fun Hs=>∀ vs w,Below w0.heap.size w0 w->(∀ i,i < m->zAI Hs i (vs i) w)->wpList P ops.toArray Q (ops.drop m) (zAB vs (ops.take m) 0 a0) w) (ops.take m) []) :
  (Code.region id ops.toArray true).wp P Q a0 w0:=by
 have hml:=zMT hB;obtain ⟨Hs,hQ,hst,_,hstep⟩:=zMJ (fun i o ho=>zEN hB ho) (ops.take m) [] (fun R hR=>by simp at hR) (fun i=>by simp) (by simp;omega) h;simp only [List.nil_append] at hQ hst hstep;refine wp_region_grow m hm hB (zAI Hs) (fun i=>?_) (fun i o hi ho=>hstep i o (Nat.zero_le _) hi ho) hQ;unfold zAI;cases hh:Hs[i]? with
 | none=>exact fun _ _ _ _ h=>h
 | some R=>exact hst R (List.mem_of_getElem? hh)
theorem stepOk_plain {pops:Array Oper} {o:Oper} {a:Act} {w:World} {R R':Value->World->Prop} (hg:o.guard=none) (h:o.grows P a w R') (hR:∀ v w',R' v w'->R v w') : zAE P pops o a w R:=by
 unfold zAE Region.wanted;simp only [hg,if_true];unfold Oper.grows at *;generalize (execOp a.eval o).run P w=r at *;cases r with
 | ok n w' =>
   cases n <;> simp only [Oper.growUpon] at h ⊢
   case value u=>exact ⟨h.1,hR _ _ h.2⟩
   case skip=>exact ⟨h.1,hR _ _ h.2⟩
   case enter f args=>exact h.mono fun e w'' ⟨v,he,hb,hr⟩=>⟨v,he,hb,hR _ _ hr⟩
 | halt x w'=>simp only [Oper.growUpon] at h
theorem wpList_grows {pops:Array Oper} {o:Oper} {rest:List Oper} {a:Act} {w:World} {R:Value->World->Prop} (hg:o.guard=none) (h:o.grows P a w R)
  (k:∀ v w',Below w.heap.size w w'->R v w'->wpList P pops Q rest (a.put o.dst v) w') : wpList P pops Q (o :: rest) a w :=
 wpList_plain hg fun _ hK=>Oper.wp_of_grows h fun v w' hb hr=>hK _ _ (k v w' hb hr)
def zW (Hs:List (Value->World->Prop)) (vs:Nat->Value) (w:World) : List Nat->Prop
 | []=>True
 | j :: l=>zAI Hs j (vs j) w/\zW Hs vs w l
theorem zGV {Hs:List (Value->World->Prop)} {vs:Nat->Value} {w:World} : ∀ {l:List Nat},(∀ j∈l,zAI Hs j (vs j) w)->zW Hs vs w l
 | [],_=>trivial
 | j :: l,h=>⟨h j (by simp),zGV fun i hi=>h i (by simp [hi])⟩
theorem zL {pops:Array Oper} {pre:List Oper} {a0:Act} {w0:World} {Q':List (Value->World->Prop)->Prop} {o:Oper} {l:List Oper} {Hs:List (Value->World->Prop)} (R:Value->World->Prop) (hR:zED R)
  (h:∀ vs x,zW Hs vs (w0.later x) o.waitsOn->zAE P pops o (zAB vs pre 0 a0) (w0.later x) R) (k:zFC P pops pre a0 w0 Q' l (Hs++[R])) : zFC P pops pre a0 w0 Q' (o :: l) Hs :=
 ⟨R,hR,fun vs w hb hd=>by obtain ⟨x,rfl⟩:=zFI hb;exact h vs x (zGV hd),k⟩
theorem zT {pops:Array Oper} {pre:List Oper} {a0:Act} {w0:World} {Q':List (Value->World->Prop)->Prop} {o:Oper} {l:List Oper} {Hs:List (Value->World->Prop)}
  (h:∃ u,(∀ vs x,zW Hs vs (w0.later x) o.waitsOn->zAE P pops o (zAB vs pre 0 a0) (w0.later x) (fun v _=>v=u))/\zFC P pops pre a0 w0 Q' l (Hs++[fun v _=>v=u])) : zFC P pops pre a0 w0 Q' (o :: l) Hs:=by
 obtain ⟨u,h,k⟩:=h;exact zL _ (fun _ _ _ _ h=>h) h k
theorem zQ {pops:Array Oper} {pre:List Oper} {a0:Act} {w0:World} {m':Nat} {K:(Nat->Value)->World->Prop} {Hs:List (Value->World->Prop)} (hm:m'=Hs.length) (h:∀ vs x,zW Hs vs (w0.later x) (List.range m')->K vs (w0.later x)) :
  zFC P pops pre a0 w0 (fun Hs=>∀ vs w,Below w0.heap.size w0 w->(∀ i,i < m'->zAI Hs i (vs i) w)->K vs w) [] Hs:=by
 intro vs w hb hd;obtain ⟨x,rfl⟩:=zFI hb;exact h vs x (zGV fun j hj=>hd j (List.mem_range.1 hj))
end
theorem pf_:(∀ (vs:Nat->Value) (k:Nat) (a:Act),zAB vs [] k a=a)/\(∀ (vs:Nat->Value) (k:Nat) (a:Act) (o:Oper) (l:List Oper),zAB vs (o :: l) k a=zAB vs l (k+1) (a.put o.dst (vs k))) /\
  (∀ (a:Act) (d:Option Tmp) (v:Value),a.put d v=match d with | some d=>{ a with tmps:=a.tmps.setIfInBounds d v } | none=>a)/\(∀ (l:List Value) (i:Nat) (v:Value),l.toArray.setIfInBounds i v=(l.set i v).toArray) /\
  (∀ (x:Value) (l:List Value) (i:Nat) (v:Value),(x :: l).set (i+1) v=x :: l.set i v)/\(∀ (x:Value) (l:List Value) (v:Value),(x :: l).set 0 v=v :: l) /\
  (∀ (o:Oper) (l:List Oper) (i:Nat),(o :: l).drop (i+1)=l.drop i)/\(∀ l:List Oper,l.drop 0=l) :=
 ⟨fun _ _ _=>rfl,fun _ _ _ _ _=>rfl,fun _ _ _=>rfl,fun _ _ _=>by simp,fun _ _ _ _=>rfl,fun _ _ _=>rfl,fun _ _ _=>rfl,fun _=>rfl⟩
theorem tk_:(∀ (o:Oper) (l:List Oper) (i:Nat),(o :: l).take (i+1)=o :: l.take i)/\(∀ l:List Oper,l.take 0=[]):=⟨fun _ _ _=>rfl,fun _=>rfl⟩
theorem hq_:(∀ o:Oper,o.waitsOn=(o.after.toList.filter (Region.binds .any)).map (·.on))/\(∀ (m:Region.Mode) (e:Edge),Region.binds m e=match e.ground with | .textOnly _=>m == .text | .gcOnly _=>m == .gc | _=>true) /\
  (∀ (p:Edge->Bool) (e:Edge) (l:List Edge),(e :: l).filter p=if p e then e :: l.filter p else l.filter p)/\(∀ (Hs:List (Value->World->Prop)) (i:Nat),zAI Hs i=(Hs[i]?).getD fun _ _=>True) /\
  (∀ (Hs:List (Value->World->Prop)) (vs:Nat->Value) (w:World),zW Hs vs w []=True)/\(∀ (Hs:List (Value->World->Prop)) (vs:Nat->Value) (w:World) (j:Nat) (l:List Nat),zW Hs vs w (j :: l)=(zAI Hs j (vs j) w/\zW Hs vs w l)) :=
 ⟨fun _=>rfl,fun _ _=>rfl,fun _ _ _=>List.filter_cons,fun _ _=>rfl,fun _ _ _=>rfl,fun _ _ _ _ _=>rfl⟩
theorem gx_ {P:Program} {pops:Array Oper} {pre:List Oper} {a0:Act} {w0:World} {Q':List (Value->World->Prop)->Prop} {o:Oper} {l:List Oper} {Hs:List (Value->World->Prop)} {u:Value}
  (h:∀ vs x,zW Hs vs (w0.later x) o.waitsOn->zAE P pops o (zAB vs pre 0 a0) (w0.later x) (fun v _=>v=u)) (k:zFC P pops pre a0 w0 Q' l (Hs++[fun v _=>v=u])) : zFC P pops pre a0 w0 Q' (o :: l) Hs :=
 zT ⟨u,h,k⟩
theorem br_ {n:Nat} {w:World} : Below n w w:=Below.refl _ _
theorem zE {p:Prop} (h:p) : Hid p:=Lib.hid h
end
end Go
