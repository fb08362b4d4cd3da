/- Lemmas. -/
import Derived.Test.YtipaopbmklbmnaaGreatDoorT06
import Derived.Test.YtipaopbmklbmnaaGreatDoorT08
set_option linter.all false
set_option maxRecDepth 100000
set_option maxHeartbeats 0
namespace Go.Proofs.YtipaopbmklbmnaaGreatDoor
section
open Go.RowKit
def zFN (N:List Note) : Nat->Nat
 | 0=>0
 | k+1=>zFN N k+(match N[k]? with | none=>0 | some x=>if x.sg=1 then 1 else 0)
theorem openTo_le (N:List Note) (k:Nat) : zFN N k<=k:=by
 induction k with
 | zero=>simp [zFN]
 | succ k ih =>
   simp only [zFN];split
   ·omega
   ·split <;> omega
theorem zMA (N:List Note) (k:Nat) (h:k < N.length) : zFN N (k+1)=zFN N k+if N[k].sg=1 then 1 else 0:=by
 simp only [zFN,List.getElem?_eq_getElem h]
def zDL (R:List Issue) (N:List Note) : Prop:=N.length<=12/\(∀ k,(h:k < N.length)->zNE R N k N[k])/\zFN N N.length<=5
theorem notes03 (w:World) (vr vn:Value) (R:List Issue) (N:List Note) (hr:Sl zAY 5 w vr R) (hn:Sl zBL 10 w vn N) :
  Calls Tryz.prog 144 #[.agg #[vr,vn]] w (zAK (zDL R N) w):=by
 obtain ⟨hb1,B1⟩:=zBY w #[vr,vn] 27;have c0:=B1 0 vr rfl;have c1:=B1 1 vn rfl;clear B1;obtain ⟨an,capn,rfl,hmn⟩:=zD hn;obtain ⟨ar,capr,rfl,hmr⟩:=zD hr;have hn1:=zJ zAN hb1 hn;have hr1:=zJ zU hb1 hr;have C0:=Lib.hid c0;have C1:=Lib.hid c1;clear hn hr;unfold zK at c1;by_cases h12:12 < N.length
 ·go_enter Tryz.func144,Tryz.ntmps144;go_wp2;go_ret;exact zAK.f (fun h=>by have:=h.1;omega) hb1
 go_enter Tryz.func144,Tryz.ntmps144;go_wp2;clear c0 c1;generalize w.alloc _=w1 at *;go_loopw [3,4] (fun o i wr=>∃ k:Nat,i = .int .i64 k/\k<=N.length/\o = .int .i64 (zFN N k:Nat)/\Below w1.heap.size w1 wr/\∀ j,j < k->(h:j < N.length)->zNE R N j N[j]) (fun _ i _=>N.length - (intOf i).toNat)
 case atStart=>exact ⟨0,rfl,by omega,rfl,Below.refl _ _,fun j hj=>absurd hj (by omega)⟩
 case round =>
  obtain ⟨k,rfl,hk,rfl,hb,hall⟩:=hrel;have HALL:=Lib.hid hall;clear hall;have hol:=openTo_le N k;have e0:=zC hb C0.out;have e1:=zC hb C1.out;unfold zK at e0 e1;by_cases hlt:k < N.length
  ·have hn2:=zJ zAN hb hn1
   have hos:=Lib.hid (zMA N k hlt);go_wp2_with fail;refine (note03 _ _ _ R N (zJ zU hb hr1) hn2 k hlt).mono ?_;intro e w2 hh;rcases hh.both with ⟨hok,rfl,hb2⟩ | ⟨hok,rfl,hb2⟩
   case inr =>have HOK:=Lib.hid hok;clear hok hh;go_wp2;go_ret;exact zAK.f (fun h=>HOK.out (h.2.1 k hlt)) (zA hb1 (zA hb hb2))
   have HOK:=Lib.hid hok;have hb3:=zA hb hb2;have e1:=zC hb3 C1.out;obtain ⟨b,off,rfl,⟨_,_,p2,_⟩,_⟩:=(zY (zJ zAN hb3 hn1)).2 k hlt;clear hok hh hn2;unfold zK at e1 p2;generalize hx:N[k]=x at *;have HX:=Lib.hid hx;clear hx;generalize zFN N k=m at *;by_cases hs:(x.sg == 1)=true
   ·go_wp2
    go_roundw
    case rel=>exact ⟨k+1,by go_num,by omega,by rw [hos.out,if_pos (by simpa using hs)];go_num,hb3,zAO _ k HALL.out (fun _=>by rw [HX.out];exact HOK.out)⟩
    case measure=>simp [intOf];omega
   ·have hs':(x.sg == 1)=false:=by simpa using hs
    go_wp2;go_roundw
    case rel=>exact ⟨k+1,by go_num,by omega,by rw [hos.out,if_neg (by simpa using hs')];rfl,hb3,zAO _ k HALL.out (fun _=>by rw [HX.out];exact HOK.out)⟩
    case measure=>simp [intOf];omega
  ·have hkn:k=N.length:=by omega
   have HK:=Lib.hid hkn;clear hkn;by_cases h5:zFN N k<=5
   ·generalize hm:zFN N k=m at *
    have HM:=Lib.hid hm;clear hm;have h5':(m:Int)<=5:=by omega
    go_wp2;go_ret;exact zAK.t ⟨by omega,fun j hj=>HALL.out j (by rw [HK.out];exact hj) hj,by rw [<- HK.out,HM.out];exact h5⟩ (zA hb1 hb)
   ·generalize hm:zFN N k=m at *
    have HM:=Lib.hid hm;clear hm;have h5':¬ (m:Int)<=5:=by omega
    go_wp2;go_ret;exact zAK.f (fun h=>by have:=h.2.2;rw [<- HK.out,HM.out] at this;omega) (zA hb1 hb)
open Classical in
noncomputable def zP (R:List Issue) (N:List Note) : Int:=if zX R≠0 then zX R else if zDL R N then 0 else 30
theorem check03 (w:World) (vr vn:Value) (R:List Issue) (N:List Note) (hr:Sl zAY 5 w vr R) (hn:Sl zBL 10 w vn N) :
  Calls Tryz.prog 104 #[.agg #[vr,vn]] w fun e w'=>e = .returned (.int .i64 (zP R N))/\Below w.heap.size w w':=by
 obtain ⟨hb1,B1⟩:=zBY w #[vr,vn] 27;have c0:=B1 0 vr rfl;have c1:=B1 1 vn rfl;clear B1;have hn1:=zJ zAN hb1 hn;have hr1:=zJ zU hb1 hr;have C0:=Lib.hid c0;have C1:=Lib.hid c1;clear hn hr;unfold zK at c0;go_enter Tryz.func104,Tryz.ntmps104;go_wp2_with fail;clear c0 c1;generalize w.alloc _=w1 at *;refine (check02 _ _ R hr1).mono ?_;rintro e w2 ⟨rfl,hb2⟩;have hb3:=zA hb1 hb2;have e0:=zC hb2 C0.out;have e1:=zC hb2 C1.out;have hn2:=zJ zAN hb2 hn1;have hr2:=zJ zU hb2 hr1;have k1:Hid (zX R≠0->zP R N=zX R):=fun h=>by unfold zP;rw [if_pos h]
 have k2:Hid (¬ zX R≠0->zDL R N->zP R N=0):=fun h h'=>by unfold zP;rw [if_neg h,if_pos h']
 have k3:Hid (¬ zX R≠0->¬ zDL R N->zP R N=30):=fun h h'=>by unfold zP;rw [if_neg h,if_neg h']
 clear hb1 hb2 hn1 hr1 C0 C1;unfold zK at e0 e1;generalize zX R=c at *;by_cases hc:(c != 0)=true
 ·go_wp2;go_ret;exact ⟨zBT (k1.out (by simpa using hc)).symm,hb3⟩
 ·have hc':(c != 0)=false:=by simpa using hc
  go_wp2_with fail;refine (notes03 _ _ _ R N hr2 hn2).mono ?_;intro e w3 hh;rcases hh.both with ⟨hok,rfl,hb4⟩ | ⟨hok,rfl,hb4⟩
  ·have HOK:=Lib.hid hok;clear hok hh;go_wp2;go_ret;exact ⟨zBT (k2.out (by simpa using hc') HOK.out).symm,zA hb3 hb4⟩
  ·have HOK:=Lib.hid hok;clear hok hh;go_wp2;go_ret;exact ⟨zBT (k3.out (by simpa using hc') HOK.out).symm,zA hb3 hb4⟩
def zJI (R:List Issue) (d:Int) : Nat->Int
 | 0=>0
 | k+1=>match R[k]? with
   | none=>zJI R d k
   | some x=>if x.d=d then max (zJI R d k) x.l else zJI R d k
def zKG (R:List Issue) (d:Int) : Int:=zJI R d R.length
theorem lastTo_succ (R:List Issue) (d:Int) (k:Nat) (h:k < R.length) : zJI R d (k+1)=if R[k].d=d then max (zJI R d k) R[k].l else zJI R d k:=by
 simp only [zJI,List.getElem?_eq_getElem h]
theorem zNJ (w:World) (v:Value) (R:List Issue) (d:Int) (h:Sl zAY 5 w v R) :
  Calls Tryz.prog 84 #[.agg #[v],.int .i64 d] w fun e w'=>e = .returned (.int .i64 (zKG R d))/\Below w.heap.size w w':=by
 obtain ⟨hb1,B1⟩:=zBY w #[v] 24;have c0:=B1 0 v rfl;clear B1;obtain ⟨a,cap,rfl,hm⟩:=zD h;have h1:=zJ zU hb1 h;clear h;unfold zK at c0;go_enter Tryz.func84,Tryz.ntmps84;go_wp2;generalize w.alloc _=w1 at *;go_loop [5,6] (fun n i=>∃ k:Nat,i = .int .i64 k/\k<=R.length/\n = .int .i64 (zJI R d k)) (fun _ i=>R.length - (intOf i).toNat)
 case atStart=>exact ⟨0,rfl,by omega,rfl⟩
 case round =>
  obtain ⟨k,rfl,hk,rfl⟩:=hrel;by_cases hlt:k < R.length
  ·obtain ⟨b,off,rfl,⟨q0,q1,_⟩,_⟩:=(zY h1).2 k hlt
   have hs:=Lib.hid (lastTo_succ R d k hlt);unfold zK at q0 q1;generalize R[k]=x at *;generalize zJI R d k=m at *;clear h1;by_cases e1:(x.d == d)=true
   ·by_cases e2:x.l<=m
    ·have e2':¬ (x.l > m):=by omega
     go_wp2;go_round
     case rel=>exact ⟨k+1,by go_num,by omega,by rw [hs.out,if_pos (by simpa using e1),Int.max_eq_left e2]⟩
     case measure=>simp [intOf];omega
    ·have e2':x.l > m:=by omega
     go_wp2;go_round
     case rel=>exact ⟨k+1,by go_num,by omega,by rw [hs.out,if_pos (by simpa using e1),Int.max_eq_right (by omega)]⟩
     case measure=>simp [intOf];omega
   ·have e1':(x.d == d)=false:=by simpa using e1
    go_wp2;go_round
    case rel=>exact ⟨k+1,by go_num,by omega,by rw [hs.out,if_neg (by simpa using e1')]⟩
    case measure=>simp [intOf];omega
  ·obtain rfl:k=R.length:=by omega
   clear h1;go_wp2;go_ret;exact ⟨rfl,hb1⟩
def zFO (R:List Issue) (d l:Int) : Prop:=∃ x,zCQ R d l=some x/\1 < x.k
theorem part08 (w:World) (v:Value) (R:List Issue) (d l:Int) (h:Sl zAY 5 w v R) :
  Calls Tryz.prog 146 #[.agg #[v],.int .i64 d,.int .i64 l] w (zAK (zFO R d l) w):=by
 obtain ⟨hb1,B1⟩:=zBY w #[v] 24;have c0:=B1 0 v rfl;clear B1;have h1:=zJ zU hb1 h;clear h;unfold zK at c0;go_enter Tryz.func146,Tryz.ntmps146;go_wp2_with fail;clear c0;generalize w.alloc _=w1 at *;refine (find02 _ _ R d l h1).mono ?_;rintro e w2 ⟨hb2,hf⟩;rcases hf with ⟨x,vi,vd,hfx,rfl,hx⟩ | ⟨hfx,rfl⟩
 ·obtain ⟨ai,capi,rfl,_⟩:=zD hx.items
  obtain ⟨ad,capd,rfl,_⟩:=zD hx.dims;have HF:=Lib.hid hfx;clear hx hfx;by_cases hk:1 < x.k
  ·go_wp2;go_ret;exact zAK.t ⟨x,HF.out,hk⟩ (zA hb1 (zA hb2 (zB _ _)))
  ·go_wp2
   go_ret;show zAK (zFO R d l) w (Ending.returned (.bool (decide (1 < x.k)))) _
   rw [decide_eq_false (by omega)];exact zAK.f (fun h=>by obtain ⟨y,hy,hky⟩:=h;rw [HF.out] at hy;cases hy;omega) (zA hb1 (zA hb2 (zB _ _)))
 ·have HF:=Lib.hid hfx;clear hfx;go_wp2;go_ret;exact zAK.f (fun h=>by obtain ⟨y,hy,hky⟩:=h;rw [HF.out] at hy;cases hy) (zA hb1 (zA hb2 (zB _ _)))
def zCE (R:List Issue) (ms:List Int) (x:Report) : Prop:=In x.num 1 9999/\In x.k 1 3/\x.m∈ms/\zFO R x.d x.l
theorem zQT (w:World) (vr vn vm vh vs:Value) (b:Built) (x:Report) (h:BuiltAt w vr vn vm vh vs b) (hu:U8 x.k) :
  Calls Tryz.prog 147 #[.agg #[vr,vn,.int .i64 b.of,vm,vh,vs],.agg #[.int .i64 x.num,.int .i64 x.m,.int .i64 x.d,.int .i64 x.l,.int .u8 x.k]] w (zAK (zCE b.ns.reg b.ms x) w):=by
 obtain ⟨hb1,B1,B2⟩:=zJF w #[vr,vn,.int .i64 b.of,vm,vh,vs] #[.int .i64 x.num,.int .i64 x.m,.int .i64 x.d,.int .i64 x.l,.int .u8 x.k] 32 49;have c0:=B1 0 vr rfl;have c2:=B1 3 vm rfl;have x1:=B2 1 (.int .i64 x.m) rfl;have x2:=B2 2 (.int .i64 x.d) rfl;have x3:=B2 3 (.int .i64 x.l) rfl;have x4:=B2 4 (.int .u8 x.k) rfl;clear B1 B2;have hr1:=zJ zU hb1 h.reg;have hm1:=zJ zN hb1 h.ms;clear h;obtain ⟨hu0,hu1⟩:=hu;unfold zK at c0 c2 x1 x2 x3 x4;go_enter Tryz.func147,Tryz.ntmps147;go_wp2_with fail;generalize (w.alloc _).alloc _=w1 at *;refine (within08 _ _ _ _).mono ?_;intro e w2 hh;rcases hh.both with ⟨h1,rfl,rfl⟩ | ⟨h1,rfl,rfl⟩
 case inr=>go_wp2;go_ret;exact zAK.f (fun h=>h1 h.1) hb1
 clear hh;go_wp2_with fail;refine (within08 _ _ _ _).mono ?_;intro e w2 hh;rcases hh.both with ⟨h2,rfl,rfl⟩ | ⟨h2,rfl,rfl⟩
 case inr=>go_wp2;go_ret;exact zAK.f (fun h=>h2 h.2.1) hb1
 clear hh;go_wp2_with fail;refine (index02 _ _ b.ms x.m hm1).mono ?_;rintro e w2 ⟨rfl,rfl⟩;by_cases hin:x.m∈b.ms
 ·have hge:=idxI_in _ _ hin
  have HIN:=Lib.hid hin;clear hin;generalize zKD b.ms x.m=ix at *;go_wp2_with fail;refine (part08 _ _ b.ns.reg x.d x.l hr1).mono ?_;intro e w2 hh;rcases hh.both with ⟨h3,rfl,hb2⟩ | ⟨h3,rfl,hb2⟩
  ·clear hh;have H3:=Lib.hid h3;clear h3;go_wp2;go_ret;exact zAK.t ⟨h1,h2,HIN.out,H3.out⟩ (zA hb1 hb2)
  ·clear hh;have H3:=Lib.hid h3;clear h3;go_wp2;go_ret;exact zAK.f (fun h=>H3.out h.2.2.2) (zA hb1 hb2)
 ·have hge:=idxI_out _ _ hin;have HIN:=Lib.hid hin;clear hin;generalize zKD b.ms x.m=ix at *;go_wp2;go_ret;exact zAK.f (fun h=>HIN.out h.2.2.1) hb1
end
end Go.Proofs.YtipaopbmklbmnaaGreatDoor
