/- Lemmas. -/
import Derived.Test.YtipaopbmklbmnaaGreatDoorT19
set_option linter.all false
set_option maxRecDepth 100000
set_option maxHeartbeats 0
namespace Go.Proofs.YtipaopbmklbmnaaGreatDoor
section
open Tryz
open Go.RowKit Go.Shelf
attribute [local go_sem] zAE Oper.grows Oper.growUpon
def RowTwo (x y:Int) (v:Value) (w:World) : Prop:=∃ b,v = .slice (some ⟨b,0,none⟩) 2 2/\zK w b 0 (.int .i64 x)/\zK w b 1 (.int .i64 y)
theorem zHL (x y:Int) : zED (RowTwo x y):=fun _ _ _ hb ⟨b,h,h0,h1⟩=>⟨b,h,zC hb h0,zC hb h1⟩
def orI (x y:Int) : Int:=if x=0 then y else x
theorem or_int (w:World) (x y:Int) (b:Nat) (h:zK w b 0 (.int .i64 x)/\zK w b 1 (.int .i64 y)) :
  Calls prog 137 #[.slice (some ⟨b,0,none⟩) 2 2] w fun e w'=>e = .returned (.int .i64 (orI x y))/\w=w':=by
 obtain ⟨c0,c1⟩:=h;unfold zK at c0 c1;go_enter func137,ntmps137;go_wp2;go_loop [8] (fun i=>∃ k:Nat,i = .int .i64 k/\k<=2/\(0 < k->x=0)/\(1 < k->y=0)) (fun i=>2 - (intOf i).toNat)
 case atStart=>exact ⟨0,rfl,by omega,fun h=>absurd h (by omega),fun h=>absurd h (by omega)⟩
 case round =>
  obtain ⟨k,rfl,hk,hx,hy⟩:=hrel;have hkc:k=0\/k=1\/k=2:=by omega
  rcases hkc with rfl | rfl | rfl
  ·by_cases g:x=0
   ·have g':(x != 0)=false:=by simp [g]
    have G:=zE g;clear g hx hy;go_wp2;go_round
    ·exact ⟨1,by go_num,by omega,fun _=>G.out,fun h=>absurd h (by omega)⟩
    ·simp [intOf]
   ·have g':(x != 0)=true:=by simp [g]
    have G:=zE g;clear g hx hy;go_wp2;go_ret;exact ⟨by unfold orI;rw [if_neg G.out];rfl,rfl⟩
  ·have HX:=zE (hx (by omega))
   clear hx hy;by_cases g:y=0
   ·have g':(y != 0)=false:=by simp [g]
    have G:=zE g;clear g;go_wp2;go_round
    ·exact ⟨2,by go_num,by omega,fun _=>HX.out,fun _=>G.out⟩
    ·simp [intOf]
   ·have g':(y != 0)=true:=by simp [g]
    have G:=zE g;clear g;go_wp2;go_ret;exact ⟨by unfold orI;rw [if_pos HX.out];rfl,rfl⟩
  ·have HX:=zE (hx (by omega));have HY:=zE (hy (by omega));clear hx hy;go_wp2;go_ret;exact ⟨by unfold orI;rw [if_pos HX.out,HY.out];rfl,rfl⟩
theorem enter_n6:Enters prog 250:=enters_of func250 (by kernel_rfl) rfl
theorem note61 (w:World) (y:Note) (g:Nat) (ca:Int) (hc:zK w g 7 (.int .i64 ca)) :
  Calls prog 250 #[.agg #[.int .i64 y.num,.int .i64 y.day,.int .u8 y.sg,.int .i64 y.d,.int .i64 y.l,.int .i64 y.fr,.int .i64 y.to,.int .i64 y.ca,.bool y.use,.int .u8 y.ways],.pointer (some ⟨g,0,none⟩)] w (zAK (y.num=ca) w):=by
 have hb1:=zB w (.cells #[.int .i64 y.num,.int .i64 y.day,.int .u8 y.sg,.int .i64 y.d,.int .i64 y.l,.int .i64 y.fr,.int .i64 y.to,.int .i64 y.ca,.bool y.use,.int .u8 y.ways] 74);have hl:=zAD hc;unfold zK at hc;go_enter func250,ntmps250;go_wp2;go_ret;exact ⟨y.num == ca,rfl,beq_iff_eq,hb1⟩
theorem ncheck6 (w:World) (vr vn:Value) (R:List Issue) (N:List Note) (i:Nat) (h:NoteArg w vr vn R N) (hi:i < N.length) :
  Calls prog 249 #[.agg #[vr,vn],.int .i64 i] w (zAK (zJV N i N[i]) w):=by
 obtain ⟨ar,cr,rfl,_⟩:=zD h.reg.sl;obtain ⟨an,cn,rfl,hcn⟩:=h.cap;obtain ⟨b,off,rfl,hx⟩:=(zY h.sl).2 i hi;have QX:=zE hx;obtain ⟨⟨q0,q1,q2,q3,q4,q5,q6,q7,q8,q9⟩,hnum⟩:=hx;have hlb:=zAD q0;generalize N[i]=x at *;have hb1:=zB w (.cells #[.slice ar R.length cr,.slice (some ⟨b,off,none⟩) N.length cn] 27);have LB:=Lay.new w 27 #[.slice ar R.length cr,.slice (some ⟨b,off,none⟩) N.length cn];have HA:=zE (h.ext hb1);have HI:Hid (i < N.length):=hi;have hil:(i:Int) < N.length:=by omega
 clear h;unfold zK at q0 q1 q2 q3 q4 q5 q6 q7 q8 q9;have hb2:=zA hb1 (zB _ (.cells #[.int .i64 x.num,.int .i64 x.day,.int .u8 x.sg,.int .i64 x.d,.int .i64 x.l,.int .i64 x.fr,.int .i64 x.to,.int .i64 x.ca,.bool x.use,.int .u8 x.ways] 74));have LX:=Lay.new (w.alloc (.cells #[.slice ar R.length cr,.slice (some ⟨b,off,none⟩) N.length cn] 27)) 74 #[.int .i64 x.num,.int .i64 x.day,.int .u8 x.sg,.int .i64 x.d,.int .i64 x.l,.int .i64 x.fr,.int .i64 x.to,.int .i64 x.ca,.bool x.use,.int .u8 x.ways];rw [World.size_alloc] at LX;have hic:(i:Int)<=cn:=by omega
 have HSL:=zE (sl_take (HA.out.ext (zB _ (.cells #[.int .i64 x.num,.int .i64 x.day,.int .u8 x.sg,.int .i64 x.d,.int .i64 x.l,.int .i64 x.fr,.int .i64 x.to,.int .i64 x.ca,.bool x.use,.int .u8 x.ways] 74))).sl i cn (by omega));have HLX:=zE (show zK _ (w.heap.size+1) 7 (.int .i64 x.ca) from LX.cell 7 _ rfl);go_enter func249,ntmps249;by_cases g:x.ca=0
 ·have g':(x.ca == 0)=true:=by simp [g]
  have G:=zE g;clear g;go_wp2;go_ret;exact zAK.t (show zJV N i x from .inl G.out) hb2
 ·have g':(x.ca == 0)=false:=by simp [g]
  have G:=zE g;clear g LX;go_wp2_with fail;refine (zEQ _ _ (N.take i) HSL.out 250 #[.pointer (some ⟨w.heap.size+1,0,none⟩)] enter_n6 (fun y=>y.num=x.ca) (fun y hy w' hb=>note61 w' y _ x.ca (zC hb HLX.out))).mono ?_;intro e w2 hh;rcases hh.both with ⟨h1,rfl,hb3⟩ | ⟨h1,rfl,hb3⟩
  ·have H1:=zE h1;clear hh h1;go_wp2;go_ret;exact zAK.t (show zJV N i x from .inr H1.out) (zA hb2 hb3)
  ·have H1:=zE h1
   clear hh h1;go_wp2;go_ret;exact zAK.f (fun (h:zJV N i x)=>by
    rcases h with h | h
    ·exact G.out h
    ·exact H1.out h) (zA hb2 hb3)
theorem enter_n7:Enters prog 252:=enters_of func252 (by kernel_rfl) rfl
theorem note71 (w:World) (y x:Note) (g h:Nat) (b off:Nat) (n c i:Nat) (hi:i < n) (h1:zK w g 1 (.slice (some ⟨b,off,none⟩) n c)) (h2:zK w h 0 (.int .i64 i)) (h3:zK w b (off+i*10) (.int .i64 x.num)) :
  Calls prog 252 #[.agg #[.int .i64 y.num,.int .i64 y.day,.int .u8 y.sg,.int .i64 y.d,.int .i64 y.l,.int .i64 y.fr,.int .i64 y.to,.int .i64 y.ca,.bool y.use,.int .u8 y.ways],.pointer (some ⟨g,0,none⟩),.pointer (some ⟨h,0,none⟩)] w (zAK (y.num=x.num) w):=by
 have hb1:=zB w (.cells #[.int .i64 y.num,.int .i64 y.day,.int .u8 y.sg,.int .i64 y.d,.int .i64 y.l,.int .i64 y.fr,.int .i64 y.to,.int .i64 y.ca,.bool y.use,.int .u8 y.ways] 74);have LY:=Lay.new w 74 #[.int .i64 y.num,.int .i64 y.day,.int .u8 y.sg,.int .i64 y.d,.int .i64 y.l,.int .i64 y.fr,.int .i64 y.to,.int .i64 y.ca,.bool y.use,.int .u8 y.ways];have k0:=zH (show zK _ w.heap.size 0 (.int .i64 y.num) from LY.cell 0 _ rfl);have k1:=zH (zC hb1 h1);have k2:=zH (zC hb1 h2);have k3:=zH (zC hb1 h3);have hil:(i:Int) < n:=by omega
 go_enter func252,ntmps252;go_wp2;generalize w.alloc _=w1 at *;refine zM 10 (by kernel_rfl) (by kernel_rfl) ?_;simp only [tk_];iterate 10 (apply gx_;focus (intro vs xq hd;(try simp [hq_] at hd);simp only [pf_];go_simp;first | exact ⟨br_,rfl⟩ | exact rfl))
 refine zQ rfl (fun vs xq hd=>?_);simp [zW,zAI,List.range,List.range.loop] at hd;simp only [pf_];obtain ⟨_,_,_,_,_,_,_,_,_,e9⟩:=hd;simp only [Nat.zero_add,Nat.reduceAdd] at e9 ⊢;simp only [e9];clear k0 k1 k2 k3;have hb:=zA hb1 (zG w1 xq);go_wp2;go_ret;exact ⟨y.num == x.num,rfl,beq_iff_eq,hb⟩
theorem ncheck7 (w:World) (vr vn:Value) (R:List Issue) (N:List Note) (i:Nat) (h:NoteArg w vr vn R N) (hi:i < N.length) :
  Calls prog 251 #[.agg #[vr,vn],.int .i64 i] w (zAK (zLE N i N[i]) w):=by
 obtain ⟨ar,cr,rfl,_⟩:=zD h.reg.sl;obtain ⟨an,cn,rfl,hcn⟩:=h.cap;obtain ⟨b,off,rfl,hx⟩:=(zY h.sl).2 i hi;have QX:=zE hx;obtain ⟨⟨q0,q1,q2,q3,q4,q5,q6,q7,q8,q9⟩,hnum⟩:=hx;have hlb:=zAD q0;generalize N[i]=x at *;have hb1:=zB w (.cells #[.slice ar R.length cr,.slice (some ⟨b,off,none⟩) N.length cn] 27);have LB:=Lay.new w 27 #[.slice ar R.length cr,.slice (some ⟨b,off,none⟩) N.length cn];have HA:=zE (h.ext hb1);have HI:Hid (i < N.length):=hi;have hil:(i:Int) < N.length:=by omega
 clear h;unfold zK at q0 q1 q2 q3 q4 q5 q6 q7 q8 q9;have hb2:=zA hb1 (zB _ (.cells #[.int .i64 i] 3));have LI:=Lay.new (w.alloc (.cells #[.slice ar R.length cr,.slice (some ⟨b,off,none⟩) N.length cn] 27)) 3 #[.int .i64 i];rw [World.size_alloc] at LI;have hic:(i:Int)<=cn:=by omega
 have HSL:=zE (sl_take (HA.out.ext (zB _ (.cells #[.int .i64 i] 3))).sl i cn (by omega));have HB1:=zE (show zK _ w.heap.size 1 (.slice (some ⟨b,off,none⟩) N.length cn) from (LB.alloc (.cells #[.int .i64 i] 3)).cell 1 _ rfl);have HB2:=zE (show zK _ (w.heap.size+1) 0 (.int .i64 i) from LI.cell 0 _ rfl);have HB3:=zE (zC hb2 QX.out.1.1);clear LI LB;go_enter func251,ntmps251;go_wp2_with fail;refine (zEQ _ _ (N.take i) HSL.out 252 #[.pointer (some ⟨w.heap.size,0,none⟩),.pointer (some ⟨w.heap.size+1,0,none⟩)] enter_n7 (fun y=>y.num=x.num) (fun y hy w' hb=>note71 w' y x _ _ b off _ cn i HI.out (zC hb HB1.out) (zC hb HB2.out) (zC hb HB3.out))).mono ?_;intro e w2 hh;rcases hh.both with ⟨h1,rfl,hb3⟩ | ⟨h1,rfl,hb3⟩
 ·have H1:=zE h1;clear hh h1;go_wp2;go_ret;exact zAK.f (fun (h:zLE N i x)=>h H1.out) (zA hb2 hb3)
 ·have H1:=zE h1;clear hh h1;go_wp2;go_ret;exact zAK.t (show zLE N i x from H1.out) (zA hb2 hb3)
def zLB (N:List Note) (i:Nat) (x:Note) : Prop:=∀ h0:0 < i,∀ h:i - 1 < N.length,orI (zLD N[i - 1].day x.day) (zLD N[i - 1].num x.num) < 0
theorem ncheck8 (w:World) (vr vn:Value) (R:List Issue) (N:List Note) (i:Nat) (h:NoteArg w vr vn R N) (hi:i < N.length) :
  Calls prog 253 #[.agg #[vr,vn],.int .i64 i] w (zAK (zLB N i N[i]) w):=by
 obtain ⟨ar,cr,rfl,_⟩:=zD h.reg.sl;obtain ⟨an,cn,rfl,hcn⟩:=h.cap;obtain ⟨b,off,rfl,hx⟩:=(zY h.sl).2 i hi;have QX:=zE hx;obtain ⟨⟨q0,q1,q2,q3,q4,q5,q6,q7,q8,q9⟩,hnum⟩:=hx;have hlb:=zAD q0;generalize N[i]=x at *;have hb1:=zB w (.cells #[.slice ar R.length cr,.slice (some ⟨b,off,none⟩) N.length cn] 27);have LB:=Lay.new w 27 #[.slice ar R.length cr,.slice (some ⟨b,off,none⟩) N.length cn];have HA:=zE (h.ext hb1);have HI:Hid (i < N.length):=hi;have hil:(i:Int) < N.length:=by omega
 clear h;unfold zK at q0 q1 q2 q3 q4 q5 q6 q7 q8 q9;have k1:=zH (show zK _ w.heap.size 1 (.slice (some ⟨b,off,none⟩) N.length cn) from LB.cell 1 _ rfl);have QX1:=zAN _ _ _ _ _ hb1 QX.out;have x0:=zH QX1.1.1;have x1:=zH QX1.1.2.1;clear q0 q1 q2 q3 q4 q5 q6 q7 q8 q9;go_enter func253,ntmps253;by_cases h0:i=0
 ·have H8:=zE (show zLB N i x from fun h=>absurd h (by omega))
  subst h0;go_wp2;generalize w.alloc _=w1 at *;refine zM 35 (by kernel_rfl) (by kernel_rfl) ?_;simp only [tk_];iterate 35 (apply gx_;focus (intro vs xq hd;(try simp [hq_] at hd);simp only [pf_];go_simp;first | exact ⟨br_,rfl⟩ | exact rfl))
  refine zQ (by simp only [List.length_append,List.length_cons,List.length_nil]) (fun vs xq hd=>?_);simp [zW,zAI,List.range,List.range.loop] at hd;simp only [pf_];obtain ⟨_,_,_,_,_,_,_,_,_,_,_,_,_,_,_,_,_,_,_,_,_,_,_,_,_,_,_,_,_,_,_,_,_,_,e34⟩:=hd;simp only [Nat.zero_add,Nat.reduceAdd] at e34 ⊢;simp only [e34];clear k1 x0 x1;have hb:=zA hb1 (zG w1 xq);go_wp2;go_ret;exact zAK.t H8.out hb
 ·obtain ⟨b',off',hh,⟨y0,y1,_⟩,hnum2⟩:=(zY HA.out.sl).2 (i - 1) (by omega)
  cases hh;have H8:Hid (zLB N i x↔orI (zLD N[i - 1].day x.day) (zLD N[i - 1].num x.num) < 0):=⟨fun h=>h (by omega) (by omega),fun h _ _=>h⟩;have hz:IntKind.i64.wrap ((i:Int) - 1)=((i - 1:Nat) : Int):=by rw [IntWalk.i64_in _ (by have:=HA.out.sl;obtain ⟨_,_,_,hm,_⟩:=this;omega)];omega
  have hz2:((i - 1:Nat) : Int) < N.length:=by omega
  have hi0:((i:Int) == 0)=false:=by simp [h0]
  generalize N[i - 1]=y at *;have y0:=zH y0;have y1:=zH y1;clear h0 QX1;go_wp2;generalize w.alloc _=w1 at *;refine zM 35 (by kernel_rfl) (by kernel_rfl) ?_;simp only [tk_];iterate 16 (apply gx_;focus (intro vs xq hd;(try simp [hq_] at hd);simp only [pf_];go_simp;first | exact ⟨br_,rfl⟩ | exact rfl))
  apply gx_;focus (intro vs xq hd;(try simp [hq_] at hd);simp only [pf_];go_simp;first | exact ⟨br_,rfl⟩ | exact rfl | (refine (zER _ _ _).mono ?_;rintro e w' ⟨rfl,rfl⟩;exact ⟨rfl,br_⟩))
  iterate 13 (apply gx_;focus (intro vs xq hd;(try simp [hq_] at hd);simp only [pf_];go_simp;first | exact ⟨br_,rfl⟩ | exact rfl))
  apply gx_;focus (intro vs xq hd;(try simp [hq_] at hd);simp only [pf_];go_simp;first | exact ⟨br_,rfl⟩ | exact rfl | (refine (zER _ _ _).mono ?_;rintro e w' ⟨rfl,rfl⟩;exact ⟨rfl,br_⟩))
  refine zL (RowTwo (zLD y.day x.day) (zLD y.num x.num)) (zHL _ _) ?_ ?_
  ·intro vs xq hd
   (try simp [hq_] at hd)
   simp only [pf_];go_simp;exact ⟨zB _ _,_,rfl,zR _ _ _ 0 _ rfl,zR _ _ _ 1 _ rfl⟩
  refine zL (fun v _=>v = .int .i64 (orI (zLD y.day x.day) (zLD y.num x.num))) (fun _ _ _ _ h=>h) ?_ ?_
  ·intro vs xq hd
   (try simp [hq_] at hd)
   simp only [pf_];obtain ⟨⟨bb,e,hc⟩,-,eg⟩:=hd;simp only [e,eg];go_simp;refine (or_int _ _ _ bb hc).mono ?_;rintro e w' ⟨rfl,rfl⟩;exact ⟨rfl,br_⟩
  iterate 2 (apply gx_;focus (intro vs xq hd;(try simp [hq_] at hd);simp only [pf_];go_simp;first | exact ⟨br_,rfl⟩ | exact rfl))
  refine zQ (by simp only [List.length_append,List.length_cons,List.length_nil]) (fun vs xq hd=>?_);simp [zW,zAI,List.range,List.range.loop] at hd;simp only [pf_];obtain ⟨_,_,_,_,_,_,_,_,_,_,_,_,_,_,_,_,_,_,_,_,_,_,_,_,_,_,_,_,_,_,_,_,_,_,e34⟩:=hd;simp only [Nat.zero_add,Nat.reduceAdd] at e34 ⊢;simp only [e34];clear k1 x0 x1 y0 y1;have hb:=zA hb1 (zG w1 xq);generalize orI (zLD y.day x.day) (zLD y.num x.num)=c at *;go_wp2;go_ret;exact ⟨decide (c < 0),rfl,by rw [decide_eq_true_iff];exact H8.out.symm,hb⟩
end
end Go.Proofs.YtipaopbmklbmnaaGreatDoor
