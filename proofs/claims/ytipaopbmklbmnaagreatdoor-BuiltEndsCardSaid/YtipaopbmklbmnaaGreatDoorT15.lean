/- Lemmas. -/
import Derived.WalkMore
import Derived.Laws.EntriesVeiled
import Derived.Test.YtipaopbmklbmnaaGreatDoorT14
set_option linter.all false
set_option maxRecDepth 100000
set_option maxHeartbeats 0
namespace Go.Proofs.YtipaopbmklbmnaaGreatDoor
section
open Tryz
open Go.RowKit Go.Shelf
attribute [local go_sem] zAE Oper.grows Oper.growUpon Oper.wild Oper.wildUpon
theorem enter_open1:Enters prog 163:=enters_of func163 (by kernel_rfl) rfl
theorem open1 (w:World) (q pb:Nat) (vd:Value) (D:List Int) (y:Item) (hq:zK w q 0 (.pointer (some ⟨pb,0,none⟩))) (hc:zK w pb 1 vd) (hd:Sl zAM 1 w vd D) (hs:Mount D) (hlen:D.length<=1000) :
  Calls prog 163 #[.agg #[.int .i64 y.d,.int .i64 y.c],.pointer (some ⟨q,0,none⟩)] w (zAK (y.d ∉ D) w):=by
 have hb1:=zB w (.cells #[.int .i64 y.d,.int .i64 y.c] 97);have hq1:=zC hb1 hq;have hc1:=zC hb1 hc;have hd1:=zJ zN hb1 hd;have lq:=zAD hq;have QH:=zE hq;unfold zK at hq;go_enter func163,ntmps163;go_wp2_with fail;refine (has_int _ pb vd vd [] D y.d hc1 hd1 hs hlen).mono ?_;rintro e w' ⟨rfl,rfl⟩;clear hq hd hd1;go_wp2;go_ret;exact ⟨_,rfl,by simp,hb1⟩
def Looks (w:World) : Prop:=zK w 2 0 (.func (.func 254) #[] #[])/\zK w 2 1 (.func (.func 255) #[] #[])/\zK w 2 2 (.func (.func 256) #[] #[])/\zK w 2 3 (.func (.func 257) #[] #[])
theorem Looks.ext {w w':World} (hb:Below w.heap.size w w') (h:Looks w) : Looks w':=⟨zC hb h.1,zC hb h.2.1,zC hb h.2.2.1,zC hb h.2.2.2⟩
structure Mid0 (w wr:World) (v vd:Value) (L:List Int) : Prop where
 below:Below w.heap.size w wr
 reg:zK wr w.heap.size 0 v
 box:zK wr (w.heap.size+1+1) 0 (.pointer (some ⟨w.heap.size+1,0,none⟩))
 book:Lay wr (w.heap.size+1) #[v,vd] 159
 own:wr.ownsRow (w.heap.size+3) 3 1 vd L.length (L.map (Value.int .i64))
theorem Mid0.ext {w wr wr':World} {v vd:Value} {L:List Int} (h:Mid0 w wr v vd L) (hb:Below wr.heap.size wr wr') : Mid0 w wr' v vd L :=
 ⟨zA h.below hb,zC hb h.reg,zC hb h.box,h.book.ext hb,zAC hb h.own⟩
theorem nums_of (R:List Issue) (n:Int) (h:n∈nums R) : ∃ x∈R,x.d=n:=by
 have h1:=zOU R n h;cases hi:zAL R n with
 | nil=>exact absurd hi h1
 | cons x l =>
   have:x∈zAL R n:=by rw [hi];simp
   unfold zAL at this;rw [List.mem_filter] at this;exact ⟨x,this.1,by simpa using this.2⟩
theorem nums_i64 {w:World} {v:Value} {R:List Issue} (h:Sl zAY 5 w v R) : ∀ n∈nums R,I64 n:=fun n hn=>by
 obtain ⟨x,hx,rfl⟩:=nums_of R n hn;obtain ⟨k,hk,rfl⟩:=List.getElem_of_mem hx;obtain ⟨a,cap,rfl,_⟩:=zD h;obtain ⟨b,off,_,_,hnum,_⟩:=(zY h).2 k hk;exact hnum.1
theorem mount_of (R:List Issue) (h:∀ k,k < R.length->zHI R k) : zLJ R:=by
 intro i j hij hj;induction j with
 | zero =>
   obtain rfl:i=0:=by omega
   exact Int.le_refl _
 | succ j ih =>
   by_cases e:i=j+1
   ·subst e;exact Int.le_refl _
   ·have h1:=ih (by omega) (by omega);have h2:=(h (j+1) hj hj).2 (by omega);simp only [Nat.add_sub_cancel] at h2;omega
theorem mount_nums (R:List Issue) (h:∀ k,k < R.length->zHI R k) : Mount (nums R):=by
 have hs:=nums_sorted R h;intro i j hij hj;by_cases e:i=j
 ·subst e;exact Int.le_refl _
 ·have:=List.pairwise_iff_getElem.1 hs i j (by omega) hj (by omega);omega
theorem sons_in (R:List Issue) (h:∀ k,k < R.length->zIT R k) : ∀ n,∀ y∈zBD (zAL R n),y∈nums R:=by
 intro n y hy;unfold zBD zAL at hy;rw [List.mem_flatMap] at hy;obtain ⟨x,hx,hy⟩:=hy;rw [List.mem_map] at hy;obtain ⟨z,hz,rfl⟩:=hy;obtain ⟨k,hk,rfl⟩:=List.getElem_of_mem (List.mem_filter.1 hx).1;obtain ⟨j,hj,rfl⟩:=List.getElem_of_mem hz;exact h k hk hk j hj
theorem Lay.set1 {W:World} {B:Nat} {u v:Value} {t:TypeId} (h:Lay W B #[u,v] t) (v':Value) : Lay (W.setCell ⟨B,1,none⟩ v') B #[u,v'] t:=by
 obtain ⟨hlt,hk⟩:=Array.getElem?_eq_some_iff.1 (show W.heap[B]? = _ from h);show (W.heap.modify B _)[B]? = _
 rw [Array.getElem?_eq_getElem (by rw [Array.size_modify];exact hlt),Array.getElem_modify_self,hk];rfl
theorem Mid0.app {w wq w7:World} {v vd v':Value} {L:List Int} {x:Int} (h:Mid0 w wq v vd L) (hown:w7.ownsRow (w.heap.size+3) 3 1 v' (L.length+1) (L.map (Value.int .i64)++[.int .i64 x])) (hg:wq.grownBy w7 vd.ownBlock) :
  Lay w7 (w.heap.size+1) #[v,vd] 159/\Mid0 w (w7.setCell ⟨w.heap.size+1,1,none⟩ v') v v' (L++[x]):=by
 have hl:Lay w7 (w.heap.size+1) #[v,vd] 159:=h.book.kept hg (fun e=>by have:=(h.own.lt _ e.symm).1;omega);refine ⟨hl,zI (by omega) (zEX h.own hg h.below (by omega)),zBR (zDG h.own hg (by omega) h.reg) (by omega),zBR (zDG h.own hg (by omega) h.box) (by omega),hl.set1 v',?_⟩;have:=own_set (g:=w.heap.size+1) (j:=1) (u:=v') hown (by omega);rw [List.length_append,List.map_append];exact this
theorem enter_checks1:Enters prog 254:=enters_of func254 (by kernel_rfl) rfl
theorem enter_checks2:Enters prog 255:=enters_of func255 (by kernel_rfl) rfl
theorem enter_checks3:Enters prog 256:=enters_of func256 (by kernel_rfl) rfl
theorem enter_checks4:Enters prog 257:=enters_of func257 (by kernel_rfl) rfl
theorem zQW (w:World) (v:Value) (R:List Issue) (h:Sl zAY 5 w v R) (hcap:∃ a c,v = .slice a R.length c/\R.length<=c) (hk:Looks w) :
  Calls prog 124 #[.agg #[v]] w fun e w'=>(∃ p,e = .returned (.tuple #[p,.int .i64 (zX R)])/\(zX R≠0->p = .pointer none) /\
   (zX R=0->∃ pb vd,p = .pointer (some ⟨pb,0,none⟩)/\BookAt w' pb v vd R (nums R)))/\Below w.heap.size w w':=by
 obtain ⟨i0,hif,iz0,iz1,iz2⟩:=info_parts zFY;obtain ⟨a,cap,rfl,hm⟩:=zD h;obtain ⟨hb1,B1⟩:=zBY w #[.slice a R.length cap] 24;have c0:=B1 0 (.slice a R.length cap) rfl;clear B1;have HR:=zE h;have HK:=zE hk;have HC:=zE hcap;have C0:=zE c0;unfold zK at c0;clear h hk hcap;go_enter func124,ntmps124;go_wp2;go_step3;go_wp2_with fail;clear c0;have hb2:Below w.heap.size w (((w.alloc (.cells #[.slice a R.length cap] 24)).alloc (.cells #[.slice a R.length cap,.slice none 0 0] 159)).alloc (.cells #[.pointer (some ⟨w.heap.size+1,0,none⟩)] 153)):=zA hb1 (zA (zB _ _) (zB _ _));have hmid:Mid0 w (((w.alloc (.cells #[.slice a R.length cap] 24)).alloc (.cells #[.slice a R.length cap,.slice none 0 0] 159)).alloc (.cells #[.pointer (some ⟨w.heap.size+1,0,none⟩)] 153)) (.slice a R.length cap) (.slice none 0 0) [] :=
  ⟨hb2,zC (zA (zB _ _) (zB _ _)) C0.out,
   by have:=zR ((w.alloc (.cells #[.slice a R.length cap] 24)).alloc (.cells #[.slice a R.length cap,.slice none 0 0] 159)) #[.pointer (some ⟨w.heap.size+1,0,none⟩)] 153 0 _ rfl
      simpa using this,
   by have:=(Lay.new (w.alloc (.cells #[.slice a R.length cap] 24)) 159 #[.slice a R.length cap,.slice none 0 0]).alloc (.cells #[.pointer (some ⟨w.heap.size+1,0,none⟩)] 153)
      simpa using this,
   World.ownsRow_nil _ _ _ _⟩
 have hb3:=zB (((w.alloc (.cells #[.slice a R.length cap] 24)).alloc (.cells #[.slice a R.length cap,.slice none 0 0] 159)).alloc (.cells #[.pointer (some ⟨w.heap.size+1,0,none⟩)] 153)) (.cells #[.int .i64 R.length] 3);have hmid:=hmid.ext hb3;have hrow:zKF R.length (.slice (some ⟨w.heap.size+3,0,none⟩) 1 1) ((((w.alloc (.cells #[.slice a R.length cap] 24)).alloc (.cells #[.slice a R.length cap,.slice none 0 0] 159)).alloc (.cells #[.pointer (some ⟨w.heap.size+1,0,none⟩)] 153)).alloc (.cells #[.int .i64 R.length] 3)) :=
  ⟨_,rfl,by have:=zR (((w.alloc (.cells #[.slice a R.length cap] 24)).alloc (.cells #[.slice a R.length cap,.slice none 0 0] 159)).alloc (.cells #[.pointer (some ⟨w.heap.size+1,0,none⟩)] 153)) #[.int .i64 R.length] 3 0 _ rfl;simpa using this⟩
 clear hb1 hb2 hb3;generalize (((w.alloc _).alloc _).alloc _).alloc _=w1 at *;refine (zHG _ _ _ (R.length:Int) _ hrow ⟨by omega,by omega⟩).mono ?_;rintro e w2 ⟨rfl,hb4⟩;have hmid:=hmid.ext hb4;have hbel:=hmid.below;have hnl:¬ In R.length 1 60->zX R=20:=fun h=>zCP (fun hl=>h hl.1)
 by_cases hin:In (R.length:Int) 1 60
 case neg =>
  have e1:=hnl hin;rw [zGZ hin];clear hmid hrow hb4;go_wp2;try rw [Exit.noGoto_ret]
  go_ret2;exact ⟨⟨.pointer none,by rw [e1];rfl,fun _=>rfl,fun h=>by rw [e1] at h;cases h⟩,hbel⟩
 have hR60:R.length<=60/\1<=R.length:=by have:=hin.1;have:=hin.2;omega
 rw [zGY hin];clear hnl hrow hb4;have c0:=hmid.reg;have hbel:=zE hbel;unfold zK at c0;go_wp2;go_step3;go_wp2;clear c0;go_loopw [28] (fun i wr=>∃ (k:Nat) (vd:Value),i = .int .i64 k/\k<=R.length/\Hid (Mid0 w wr (.slice a R.length cap) vd (zBN R k))/\Hid (∀ j,j < k->zLH R j)) (fun i _=>R.length - (intOf i).toNat)
 case atStart=>exact ⟨0,_,rfl,Nat.zero_le _,zE hmid,zE fun j hj=>absurd hj (Nat.not_lt_zero _)⟩
 case round =>
  obtain ⟨k,vd,rfl,hk,hmd,hall⟩:=hrel;clear hmid;have hreg:=hmd.out.reg;have hbw:=hmd.out.below;by_cases hlt:k < R.length
  ·obtain ⟨b,off,rfl,⟨q0,q1,q2⟩,hnum,vi,vs,q3,q4,si,sd⟩:=(zY HR.out).2 k hlt
   have hia:IssueAt wr vi vs R[k]:=IssueAt.ext hbw ⟨si,sd,hnum⟩;have q0:=zC hbw q0;have q1:=zC hbw q1;have q2:=zC hbw q2;have q3:=zC hbw q3;have q4:=zC hbw q4;have hlk:=HK.out.ext hbw;obtain ⟨n0,n1,n2,n3⟩:=hlk;have l1:=zAD n0;have hbad0:¬ zGW R[k]->zX R=20:=fun h=>zCP (fun hl=>h ((hl.2.1 k hlt).1 hlt))
   have hok0:=chk_all R[k] hnum.2.2;generalize hx:R[k]=x at *;have HX:=zE hx;clear hx;obtain ⟨ai,ci,rfl,_⟩:=zD si;obtain ⟨ad,cd,rfl,_⟩:=zD sd;have hbad:¬ (Chk1 x/\Chk2 x/\Chk3 x/\Chk4 x)->zX R=20:=fun h=>hbad0 (fun h2=>h (hok0.1 h2))
   clear hbad0 si sd;unfold zK at q0 q1 q2 q3 q4 n0 n1 n2 n3;go_wp2;have hmdA:=hmd.out.ext (zB wr (.cells #[.int .i64 x.d,.int .i64 x.l,.int .u8 x.k,.slice ai x.items.length ci,.slice ad x.dims.length cd] 118));have BX:=zKW wr x ai ad ci cd;have LX:=Lay.new wr 118 #[.int .i64 x.d,.int .i64 x.l,.int .u8 x.k,.slice ai x.items.length ci,.slice ad x.dims.length cd];have hia:=hia.ext (zB wr (.cells #[.int .i64 x.d,.int .i64 x.l,.int .u8 x.k,.slice ai x.items.length ci,.slice ad x.dims.length cd] 118));have hbA:=hmdA.below;clear q0 q1 q2 q3 q4 n0 n1 n2 n3 hreg hbw;generalize hgg:wr.heap.size=gx at *;generalize wr.alloc _=wA at *;have lgx:=zAD BX.c0;go_loopw [34] (fun j wm=>∃ m:Nat,j = .int .i64 m/\m<=4/\Hid (Below wA.heap.size wA wm)/\Hid ((0 < m->Chk1 x)/\(1 < m->Chk2 x)/\(2 < m->Chk3 x)/\(3 < m->Chk4 x))) (fun j _=>4 - (intOf j).toNat)
   case atStart=>exact ⟨0,rfl,by omega,zE (br_),zE ⟨fun h=>absurd h (by omega),fun h=>absurd h (by omega),fun h=>absurd h (by omega),fun h=>absurd h (by omega)⟩⟩
   case round =>
    obtain ⟨m,rfl,hm4,hbm,HCH⟩:=hrel;have BM:=BX.ext hbm.out;obtain ⟨c0,c1,c2,c3,c4⟩:=BM;unfold zK at c0 c1 c2 c3 c4;have lgm:=zAD (BX.ext hbm.out).c0;have hmc:m=0\/m=1\/m=2\/m=3\/m=4:=by omega
    rcases hmc with rfl | rfl | rfl | rfl | rfl
    ·have eg:=enter_checks1
     have ix:∀ w:World,(Instr.index 250 (.agg #[.func (.func 254) #[] #[],.func (.func 255) #[] #[],.func (.func 256) #[] #[],.func (.func 257) #[] #[]]) (.int .i64 0)).run prog w = .ok (.agg #[.func (.func 254) #[] #[]]) w:=fun _=>by kernel_rfl
     unfold Enters at eg;go_wp2_with (go_at_fn 254;refine (checks1 _ x _ _ (hia.ext (zA hbm.out (zB _ _)))).mono ?_;intro e w' hr;rcases hr.both with ⟨h1,rfl,hb'⟩ | ⟨h1,rfl,hb'⟩ <;> clear hr)
     ·have hbm2:=zA hbm.out (zA (zB _ _) hb')
      have HCH2:=zE (show (0 < 1->Chk1 x)/\(1 < 1->Chk2 x)/\(2 < 1->Chk3 x)/\(3 < 1->Chk4 x) from ⟨fun _=>h1,fun h=>absurd h (by omega),fun h=>absurd h (by omega),fun h=>absurd h (by omega)⟩);clear h1 hbm HCH;go_wp2;go_roundw
      ·exact ⟨1,by go_num,by omega,zE hbm2,HCH2⟩
      ·simp [intOf]
     ·have e1:=hbad (fun h=>h1 h.1)
      have hbe:=zA hbA (zA hbm.out (zA (zB _ _) hb'));clear h1 hbm HCH hbad;go_wp2;try rw [Exit.noGoto_ret]
      go_ret2;exact ⟨⟨.pointer none,by rw [e1];rfl,fun _=>rfl,fun h=>by rw [e1] at h;cases h⟩,hbe⟩
    ·have eg:=enter_checks2
     have ix:∀ w:World,(Instr.index 250 (.agg #[.func (.func 254) #[] #[],.func (.func 255) #[] #[],.func (.func 256) #[] #[],.func (.func 257) #[] #[]]) (.int .i64 1)).run prog w = .ok (.agg #[.func (.func 255) #[] #[]]) w:=fun _=>by kernel_rfl
     unfold Enters at eg;go_wp2_with (go_at_fn 255;refine (checks2 _ x _ _ (hia.ext (zA hbm.out (zB _ _)))).mono ?_;intro e w' hr;rcases hr.both with ⟨h1,rfl,hb'⟩ | ⟨h1,rfl,hb'⟩ <;> clear hr)
     ·have hbm2:=zA hbm.out (zA (zB _ _) hb')
      have HCH2:=zE (show (0 < 2->Chk1 x)/\(1 < 2->Chk2 x)/\(2 < 2->Chk3 x)/\(3 < 2->Chk4 x) from ⟨fun _=>HCH.out.1 (by omega),fun _=>h1,fun h=>absurd h (by omega),fun h=>absurd h (by omega)⟩);clear h1 hbm HCH;go_wp2;go_roundw
      ·exact ⟨2,by go_num,by omega,zE hbm2,HCH2⟩
      ·simp [intOf]
     ·have e1:=hbad (fun h=>h1 h.2.1)
      have hbe:=zA hbA (zA hbm.out (zA (zB _ _) hb'));clear h1 hbm HCH hbad;go_wp2;try rw [Exit.noGoto_ret]
      go_ret2;exact ⟨⟨.pointer none,by rw [e1];rfl,fun _=>rfl,fun h=>by rw [e1] at h;cases h⟩,hbe⟩
    ·have eg:=enter_checks3
     have ix:∀ w:World,(Instr.index 250 (.agg #[.func (.func 254) #[] #[],.func (.func 255) #[] #[],.func (.func 256) #[] #[],.func (.func 257) #[] #[]]) (.int .i64 2)).run prog w = .ok (.agg #[.func (.func 256) #[] #[]]) w:=fun _=>by kernel_rfl
     unfold Enters at eg;go_wp2_with (go_at_fn 256;refine (checks3 _ x _ _ (hia.ext (zA hbm.out (zB _ _)))).mono ?_;intro e w' hr;rcases hr.both with ⟨h1,rfl,hb'⟩ | ⟨h1,rfl,hb'⟩ <;> clear hr)
     ·have hbm2:=zA hbm.out (zA (zB _ _) hb')
      have HCH2:=zE (show (0 < 3->Chk1 x)/\(1 < 3->Chk2 x)/\(2 < 3->Chk3 x)/\(3 < 3->Chk4 x) from ⟨fun _=>HCH.out.1 (by omega),fun _=>HCH.out.2.1 (by omega),fun _=>h1,fun h=>absurd h (by omega)⟩);clear h1 hbm HCH;go_wp2;go_roundw
      ·exact ⟨3,by go_num,by omega,zE hbm2,HCH2⟩
      ·simp [intOf]
     ·have e1:=hbad (fun h=>h1 h.2.2.1)
      have hbe:=zA hbA (zA hbm.out (zA (zB _ _) hb'));clear h1 hbm HCH hbad;go_wp2;try rw [Exit.noGoto_ret]
      go_ret2;exact ⟨⟨.pointer none,by rw [e1];rfl,fun _=>rfl,fun h=>by rw [e1] at h;cases h⟩,hbe⟩
    ·have eg:=enter_checks4
     have ix:∀ w:World,(Instr.index 250 (.agg #[.func (.func 254) #[] #[],.func (.func 255) #[] #[],.func (.func 256) #[] #[],.func (.func 257) #[] #[]]) (.int .i64 3)).run prog w = .ok (.agg #[.func (.func 257) #[] #[]]) w:=fun _=>by kernel_rfl
     unfold Enters at eg;go_wp2_with (go_at_fn 257;refine (checks4 _ x _ _ (hia.ext (zA hbm.out (zB _ _)))).mono ?_;intro e w' hr;rcases hr.both with ⟨h1,rfl,hb'⟩ | ⟨h1,rfl,hb'⟩ <;> clear hr)
     ·have hbm2:=zA hbm.out (zA (zB _ _) hb')
      have HCH2:=zE (show (0 < 4->Chk1 x)/\(1 < 4->Chk2 x)/\(2 < 4->Chk3 x)/\(3 < 4->Chk4 x) from ⟨fun _=>HCH.out.1 (by omega),fun _=>HCH.out.2.1 (by omega),fun _=>HCH.out.2.2.1 (by omega),fun _=>h1⟩);clear h1 hbm HCH;go_wp2;go_roundw
      ·exact ⟨4,by go_num,by omega,zE hbm2,HCH2⟩
      ·simp [intOf]
     ·have e1:=hbad (fun h=>h1 h.2.2.2)
      have hbe:=zA hbA (zA hbm.out (zA (zB _ _) hb'));clear h1 hbm HCH hbad;go_wp2;try rw [Exit.noGoto_ret]
      go_ret2;exact ⟨⟨.pointer none,by rw [e1];rfl,fun _=>rfl,fun h=>by rw [e1] at h;cases h⟩,hbe⟩
    ·have hm1:=zE (hmdA.ext hbm.out)
     have c0':=hm1.out.reg;have l0:=zAD c0';have hbe:=hm1.out.below;have hio:=hok0.2 ⟨HCH.out.1 (by omega),HCH.out.2.1 (by omega),HCH.out.2.2.1 (by omega),HCH.out.2.2.2 (by omega)⟩;have BXr:=zE (BX.ext hbm.out);have LXr:=zE (LX.ext hbm.out);unfold zK at c0';clear hmdA BX LX hbm HCH hbad hbA hia hok0;by_cases hk0:0 < k
     ·obtain ⟨b',off',hh,⟨q0,q1,q2⟩,hnum2,vi,vs,q3,q4,si,sd⟩:=(zY HR.out).2 (k - 1) (by omega)
      cases hh;have q0:=zC hbe q0;have q1:=zC hbe q1;have q2:=zC hbe q2;have q3:=zC hbe q3;have q4:=zC hbe q4;have lb:=zAD q0;have hz:IntKind.i64.wrap ((k:Int) - 1)=((k - 1:Nat) : Int):=by rw [IntWalk.i64_in _ (by omega)];omega
      have hz2:((k - 1:Nat) : Int) < R.length:=by omega
      have hyl:In R[k - 1].l 1 8:=((hall.out (k - 1) (by omega)).1 (by omega)).1.2.1;have hord:zHI R k->zLH R k:=fun h=>⟨fun _=>by rw [HX.out];exact hio,h⟩
      have hordf:¬ zHI R k->zX R=20:=fun h=>zCP (fun hl=>h (hl.2.1 k hlt).2)
      have hoo:zHI R k↔(R[k - 1].d < x.d/\x.l=1\/R[k - 1].d=x.d/\x.l=R[k - 1].l+1/\x.k=R[k - 1].k):=by
       unfold zHI;constructor
       ·intro h;have:=(h hlt).2 hk0;rw [HX.out] at this;exact this
       ·intro h _;rw [HX.out];exact ⟨fun h0=>by omega,fun _=>h⟩
      have hns:=zLQ R k hlt (by omega);have hnn:=zHV R k hlt;rw [HX.out] at hns hnn;generalize hy:R[k - 1]=y at *;obtain ⟨aj,cj,rfl,_⟩:=zD si;obtain ⟨al,cl,rfl,_⟩:=zD sd;have hwy:IntKind.i64.wrap (y.l+1)=y.l+1:=IntWalk.i64_in _ (by have:=hyl.1;have:=hyl.2;omega);have HOF:=zE (And.intro hord hordf);have HOO:=zE hoo;have HNS:=zE hns;have HNN:=zE hnn;obtain ⟨c0,c1,c2,c3,c4⟩:=BXr.out;have lgm:=zAD c0;unfold zK at q0 q1 q2 q3 q4 c0 c1 c2 c3 c4;clear si sd hord hordf hoo hns hnn hy;have hbe:=fun o=>zA hbe (zB wr o)
      by_cases hde:y.d=x.d
      ·have hwx:IntKind.i64.wrap x.l=x.l:=IntWalk.i64_in _ (by have:=hnum.2.1;exact this)
       by_cases hle:y.l+1=x.l
       ·by_cases hke:y.k=x.k
        ·have hek:=HOF.out.1 (HOO.out.2 (.inr ⟨hde,hle.symm,hke.symm⟩))
         have hnk:=HNS.out hde;have hmq:=zE (fun o=>hm1.out.ext (zB wr o));clear hbe;go_wp2;go_roundw
         ·exact ⟨k+1,vd,by go_num,by omega,zE (by rw [hnk];exact hmq.out _),zE (zAO _ k hall.out hek)⟩
         ·simp [intOf];omega
        ·have e1:=HOF.out.2 (fun h=>by rcases HOO.out.1 h with h | h <;> omega)
         go_wp2;try rw [Exit.noGoto_ret]
         go_ret2;exact ⟨⟨.pointer none,by rw [e1];rfl,fun _=>rfl,fun h=>by rw [e1] at h;cases h⟩,hbe _⟩
       ·have e1:=HOF.out.2 (fun h=>by rcases HOO.out.1 h with h | h <;> omega)
        go_wp2;try rw [Exit.noGoto_ret]
        go_ret2;exact ⟨⟨.pointer none,by rw [e1];rfl,fun _=>rfl,fun h=>by rw [e1] at h;cases h⟩,hbe _⟩
      ·by_cases hgt:x.d < y.d
       ·have e1:=HOF.out.2 (fun h=>by rcases HOO.out.1 h with h | h <;> omega)
        go_wp2;try rw [Exit.noGoto_ret]
        go_ret2;exact ⟨⟨.pointer none,by rw [e1];rfl,fun _=>rfl,fun h=>by rw [e1] at h;cases h⟩,hbe _⟩
       ·by_cases hl1:x.l=1
        ·have hek:=HOF.out.1 (HOO.out.2 (.inl ⟨by omega,hl1⟩))
         have hnk:=HNN.out (.inr (by omega));have hmq:=zE (fun o=>hm1.out.ext (zB wr o));have hmq:=zE (hmq.out (.cells #[.int .i64 y.d,.int .i64 y.l,.int .u8 y.k,.slice aj y.items.length cj,.slice al y.dims.length cl] 118));have bxq:=BXr.out.ext (zB wr (.cells #[.int .i64 y.d,.int .i64 y.l,.int .u8 y.k,.slice aj y.items.length cj,.slice al y.dims.length cl] 118));go_wp2;have BXT:Hid (BoxT (wr.alloc (.cells #[.int .i64 y.d,.int .i64 y.l,.int .u8 y.k,.slice aj y.items.length cj,.slice al y.dims.length cl] 118)) gx 118):=⟨_,LXr.out.alloc _⟩;generalize wr.alloc _=wq at *;clear hbe q0 q1 q2 q3 q4 c0 c1 c2 c3 c4 lgm;have hbx:=BXT.out;have hnl:=numsTo_le R k;have hszq:w.heap.size+3<=wq.heap.size:=hmq.out.box |> zAD
         refine zBU 9 8 [7] (fun a c=>a.grownBy c vd.ownBlock) (fun c=>wq.grownBy c vd.ownBlock) (fun _ _ hb h=>zCG hb h) (zBH _ _ _ rfl rfl rfl rfl)
          (fun c=>c.ownsRow (w.heap.size+3) 3 1 vd (zBN R k).length ((zBN R k).map (Value.int .i64))/\w.heap.size+3<=c.heap.size) (fun _ _ hb h=>⟨zAC hb h.1,Nat.le_trans h.2 hb.size⟩) ⟨zAC ⟨rfl,rfl,rfl,Nat.le_refl _,fun _ _=>rfl⟩ hmq.out.own,hszq⟩ (by kernel_rfl) (by kernel_rfl) ?_
         simp only [tk_];apply gw_ (by rfl)
         ·intro vs w2 hw hd
          (try simp [hq_] at hd)
          have k0:=zDG hmq.out.own hw (by omega) hmq.out.box;unfold zK at k0;simp only [pf_];go_simp;exact ⟨br_,rfl⟩
         apply gw_ (by rfl)
         ·intro vs w2 hw hd
          (try simp [hq_] at hd)
          have k0:=zDG hmq.out.own hw (by omega) hmq.out.box;unfold zK at k0;simp only [pf_];go_simp;exact ⟨br_,rfl⟩
         apply gw_ (by rfl)
         ·intro vs w2 hw hd
          (try simp [hq_] at hd)
          simp only [pf_];go_simp;exact ⟨br_,rfl⟩
         apply gw_ (by rfl)
         ·intro vs w2 hw hd
          (try simp [hq_] at hd)
          simp only [pf_];go_simp;exact ⟨br_,rfl⟩
         apply gw_ (by rfl)
         ·intro vs w2 hw hd
          (try simp [hq_] at hd)
          have k0:=zDG hmq.out.own hw (by omega) (show zK wq (w.heap.size+1) 1 vd from hmq.out.book.cell 1 _ rfl);unfold zK at k0;simp only [pf_];go_simp;exact ⟨br_,rfl⟩
         apply gw_ (by rfl)
         ·intro vs w2 hw hd
          (try simp [hq_] at hd)
          simp only [pf_];go_simp;exact ⟨br_,rfl⟩
         apply gw_ (by rfl)
         ·intro vs w2 hw hd
          (try simp [hq_] at hd)
          have k0:=zAF (zOJ hmq.out.own hw hbx (by decide)) bxq.c0;unfold zK at k0;simp only [pf_];go_simp;exact ⟨br_,rfl⟩
         refine zCC (zKF x.d) (zEB x.d) (by rfl) (.inl (by rfl)) ?_ ?_
         ·intro vs w2 hw hd
          (try simp [hq_] at hd)
          simp only [pf_];go_simp;exact ⟨zB _ _,_,rfl,zR _ _ _ 0 _ rfl⟩
         refine zFD (fun v w'=>w'.ownsRow (w.heap.size+3) 3 1 v ((zBN R k).length+1) ((zBN R k).map (Value.int .i64)++[.int .i64 x.d])) (fun _ _ _ hb h=>zAC hb h) (by rfl) ?_ ?_
         ·intro vs w2 hw hi hd
          (try simp [hq_] at hd)
          simp only [pf_];obtain ⟨e3,bb,e5,hbb⟩:=hd;refine zEG (.tmp 81) (.tmp 84) 28 (by rfl) (w.heap.size+3) 3 i0 _ 1 8 underlying28 hif iz0 iz1 iz2 rfl (by decide) vd _ _ (by exact e3) hi.1 (vs 7) ⟨bb,0,none⟩ 1 1 e5 [.int .i64 x.d] (by rfl) rfl (fun j u hj=>by
           cases j with
           | zero=>simp at hj;subst hj;exact hbb
           | succ j=>simp at hj) (fun u hu=>by simp at hu;subst hu;rfl) (by unfold maxLen;omega) (by omega) hi.2 (fun v' w' h1 h2=>⟨zAG hw h2,h2,h1⟩)
         refine zEU rfl (fun vs w7 hw hd=>?_);simp [zW,zAI,List.range,List.range.loop,List.filter_cons,List.filter_nil] at hd;simp only [pf_];obtain ⟨e0,e1,e2,e3,e4,e5,e6,h8⟩:=hd;obtain ⟨hl7,hm7⟩:=hmq.out.app h8 hw;obtain ⟨g7,cap7,e8⟩:=zDM h8;rw [e8] at hm7;simp only [Nat.zero_add,Nat.reduceAdd] at e0 e1 e2 e3 e4 e5 e6 e8 ⊢;simp only [e0,e1,e2,e3,e4,e5,e6,e8];have hm7:=zE hm7;have c7:=hl7.cell 1 _ rfl;have f7:=hl7.frozen 1;clear h8 hw hl7 hbx hszq hmq bxq BXT e0 e1 e2 e3 e4 e5 e6 e8;generalize vs 7=u7 at *;go_wp2;go_roundw
         ·exact ⟨k+1,_,by go_num,by omega,zE (by rw [hnk];exact hm7.out),zE (zAO _ k hall.out hek)⟩
         ·simp [intOf];omega
        ·have e1:=HOF.out.2 (fun h=>by rcases HOO.out.1 h with h | h <;> omega)
         go_wp2;try rw [Exit.noGoto_ret]
         go_ret2;exact ⟨⟨.pointer none,by rw [e1];rfl,fun _=>rfl,fun h=>by rw [e1] at h;cases h⟩,hbe _⟩
     ·have HK0:=zE (show k=0 by omega)
      by_cases hl1:x.l=1
      ·have hek:zLH R k:=⟨fun _=>by rw [HX.out];exact hio,fun _=>⟨fun _=>by rw [HX.out];exact hl1,fun h=>absurd h hk0⟩⟩
       have hnk:zBN R (k+1)=zBN R k++[x.d]:=by rw [zHV R k hlt (.inl HK0.out),HX.out]
       have hmq:=hm1;have bxq:=BXr.out;obtain ⟨c0,c1,c2,c3,c4⟩:=BXr.out;have lgm:=zAD c0;unfold zK at c0 c1 c2 c3 c4;go_wp2;have BXT:Hid (BoxT wr gx 118):=⟨_,LXr.out⟩;clear hbe;generalize wr=wq at *;clear c0 c1 c2 c3 c4 lgm;have hbx:=BXT.out;have hnl:=numsTo_le R k;have hszq:w.heap.size+3<=wq.heap.size:=hmq.out.box |> zAD
       refine zBU 9 8 [7] (fun a c=>a.grownBy c vd.ownBlock) (fun c=>wq.grownBy c vd.ownBlock) (fun _ _ hb h=>zCG hb h) (zBH _ _ _ rfl rfl rfl rfl)
        (fun c=>c.ownsRow (w.heap.size+3) 3 1 vd (zBN R k).length ((zBN R k).map (Value.int .i64))/\w.heap.size+3<=c.heap.size) (fun _ _ hb h=>⟨zAC hb h.1,Nat.le_trans h.2 hb.size⟩) ⟨zAC ⟨rfl,rfl,rfl,Nat.le_refl _,fun _ _=>rfl⟩ hmq.out.own,hszq⟩ (by kernel_rfl) (by kernel_rfl) ?_
       simp only [tk_];apply gw_ (by rfl)
       ·intro vs w2 hw hd
        (try simp [hq_] at hd)
        have k0:=zDG hmq.out.own hw (by omega) hmq.out.box;unfold zK at k0;simp only [pf_];go_simp;exact ⟨br_,rfl⟩
       apply gw_ (by rfl)
       ·intro vs w2 hw hd
        (try simp [hq_] at hd)
        have k0:=zDG hmq.out.own hw (by omega) hmq.out.box;unfold zK at k0;simp only [pf_];go_simp;exact ⟨br_,rfl⟩
       apply gw_ (by rfl)
       ·intro vs w2 hw hd
        (try simp [hq_] at hd)
        simp only [pf_];go_simp;exact ⟨br_,rfl⟩
       apply gw_ (by rfl)
       ·intro vs w2 hw hd
        (try simp [hq_] at hd)
        simp only [pf_];go_simp;exact ⟨br_,rfl⟩
       apply gw_ (by rfl)
       ·intro vs w2 hw hd
        (try simp [hq_] at hd)
        have k0:=zDG hmq.out.own hw (by omega) (show zK wq (w.heap.size+1) 1 vd from hmq.out.book.cell 1 _ rfl);unfold zK at k0;simp only [pf_];go_simp;exact ⟨br_,rfl⟩
       apply gw_ (by rfl)
       ·intro vs w2 hw hd
        (try simp [hq_] at hd)
        simp only [pf_];go_simp;exact ⟨br_,rfl⟩
       apply gw_ (by rfl)
       ·intro vs w2 hw hd
        (try simp [hq_] at hd)
        have k0:=zAF (zOJ hmq.out.own hw hbx (by decide)) bxq.c0;unfold zK at k0;simp only [pf_];go_simp;exact ⟨br_,rfl⟩
       refine zCC (zKF x.d) (zEB x.d) (by rfl) (.inl (by rfl)) ?_ ?_
       ·intro vs w2 hw hd
        (try simp [hq_] at hd)
        simp only [pf_];go_simp;exact ⟨zB _ _,_,rfl,zR _ _ _ 0 _ rfl⟩
       refine zFD (fun v w'=>w'.ownsRow (w.heap.size+3) 3 1 v ((zBN R k).length+1) ((zBN R k).map (Value.int .i64)++[.int .i64 x.d])) (fun _ _ _ hb h=>zAC hb h) (by rfl) ?_ ?_
       ·intro vs w2 hw hi hd
        (try simp [hq_] at hd)
        simp only [pf_];obtain ⟨e3,bb,e5,hbb⟩:=hd;refine zEG (.tmp 81) (.tmp 84) 28 (by rfl) (w.heap.size+3) 3 i0 _ 1 8 underlying28 hif iz0 iz1 iz2 rfl (by decide) vd _ _ (by exact e3) hi.1 (vs 7) ⟨bb,0,none⟩ 1 1 e5 [.int .i64 x.d] (by rfl) rfl (fun j u hj=>by
         cases j with
         | zero=>simp at hj;subst hj;exact hbb
         | succ j=>simp at hj) (fun u hu=>by simp at hu;subst hu;rfl) (by unfold maxLen;omega) (by omega) hi.2 (fun v' w' h1 h2=>⟨zAG hw h2,h2,h1⟩)
       refine zEU rfl (fun vs w7 hw hd=>?_);simp [zW,zAI,List.range,List.range.loop,List.filter_cons,List.filter_nil] at hd;simp only [pf_];obtain ⟨e0,e1,e2,e3,e4,e5,e6,h8⟩:=hd;obtain ⟨hl7,hm7⟩:=hmq.out.app h8 hw;obtain ⟨g7,cap7,e8⟩:=zDM h8;rw [e8] at hm7;simp only [Nat.zero_add,Nat.reduceAdd] at e0 e1 e2 e3 e4 e5 e6 e8 ⊢;simp only [e0,e1,e2,e3,e4,e5,e6,e8];have hm7:=zE hm7;have c7:=hl7.cell 1 _ rfl;have f7:=hl7.frozen 1;clear h8 hw hl7 hbx hszq hmq bxq BXT e0 e1 e2 e3 e4 e5 e6 e8;generalize vs 7=u7 at *;go_wp2;go_roundw
       ·exact ⟨k+1,_,by go_num,by omega,zE (by rw [hnk];exact hm7.out),zE (zAO _ k hall.out hek)⟩
       ·simp [intOf];omega
      ·have e1:zX R=20:=zCP (fun hl=>hl1 (by have:=((hl.2.1 k hlt).2 hlt).1 HK0.out;rw [HX.out] at this;exact this))
       obtain ⟨c0,c1,c2,c3,c4⟩:=BXr.out;have lgm:=zAD c0;unfold zK at c0 c1 c2 c3 c4;go_wp2;try rw [Exit.noGoto_ret]
       go_ret2;exact ⟨⟨.pointer none,by rw [e1];rfl,fun _=>rfl,fun h=>by rw [e1] at h;cases h⟩,hbe⟩
  ·have hke:k=R.length:=by omega
   subst hke;have hmd:Hid (Mid0 w wr (.slice a R.length cap) vd (nums R)):=hmd;have hdr:=zBF hmd.out.own (nums_i64 HR.out);obtain ⟨ad,cd,rfl,_⟩:=zD hdr;have HMN:=zE (mount_nums R (fun j hj=>(hall.out j hj).2));have HMR:=zE (mount_of R (fun j hj=>(hall.out j hj).2));have HND:=zE (nums_nodup R (fun j hj=>(hall.out j hj).2));have c1:=hmd.out.box;have c2:zK wr (w.heap.size+1) 1 (.slice ad (nums R).length cd):=hmd.out.book.cell 1 _ rfl;have c3:=hmd.out.reg;have hbe:=hbw;unfold zK at c1 c2 c3;clear hdr hreg hbw;by_cases hN:20 < (nums R).length
   ·have e1:zX R=20:=zCP (fun hl=>by have:=hl.2.2.2;omega)
    generalize (nums R).length=N at *;go_wp2;try rw [Exit.noGoto_ret]
    go_ret2;exact ⟨⟨.pointer none,by rw [e1];rfl,fun _=>rfl,fun h=>by rw [e1] at h;cases h⟩,hbe⟩
   ·have hN20:(nums R).length<=20:=by omega
    generalize hNN:(nums R).length=N at c2 hN;go_wp2;subst hNN;clear c1 c2 c3 hbe;go_loopw [98] (fun i wm=>∃ k:Nat,i = .int .i64 k/\k<=R.length/\Hid (Mid0 w wm (.slice a R.length cap) (.slice ad (nums R).length cd) (nums R))/\Hid (∀ j,j < k->zIT R j)) (fun i _=>R.length - (intOf i).toNat)
    case atStart=>exact ⟨0,rfl,Nat.zero_le _,hmd,zE fun j hj=>absurd hj (Nat.not_lt_zero _)⟩
    case round =>
     obtain ⟨k,rfl,hk2,hme,hits⟩:=hrel;clear hmd;have hbw:=hme.out.below;have hdr:=zBF hme.out.own (nums_i64 HR.out);by_cases hlt2:k < R.length
     ·obtain ⟨b,off,rfl,⟨q0,q1,q2⟩,hnum,vi,vs,q3,q4,si,sd⟩:=(zY HR.out).2 k hlt2
      have si:=zJ zAX hbw si;have q0:=zC hbw q0;have q1:=zC hbw q1;have q2:=zC hbw q2;have q3:=zC hbw q3;have q4:=zC hbw q4;have hbad:¬ zIT R k->zX R=20:=fun h=>zCP (fun hl=>h (hl.2.2.1 k hlt2))
      have hiff:zIT R k↔¬ ∃ y∈R[k].items,y.d ∉ nums R:=by
       constructor
       ·rintro h ⟨y,hy,hn⟩;obtain ⟨j,hj,rfl⟩:=List.getElem_of_mem hy;exact hn (h hlt2 j hj)
       ·intro h _ j hj;exact Classical.byContradiction fun hn=>h ⟨_,List.getElem_mem hj,hn⟩
      generalize R[k]=x at *;obtain ⟨ai,ci,rfl,_⟩:=zD si;obtain ⟨aj,cj,rfl,_⟩:=zD sd;have HIFF:=zE (And.intro hbad hiff);have HBOX:=zE hme.out.box;have HBK:=zE (show zK wr (w.heap.size+1) 1 (.slice ad (nums R).length cd) from hme.out.book.cell 1 _ rfl);have HDR:=zE hdr;have HSI:=zE si;unfold zK at q0 q1 q2 q3 q4;clear hbad hiff sd hdr si;go_wp2_with fail;refine (zPL _ _ x.items (zJ zAX (zB _ _) HSI.out) 163 #[.pointer (some ⟨w.heap.size+1+1,0,none⟩)] enter_open1 (fun y=>y.d ∉ nums R) (fun y hy w' hb=>?qq)).mono ?_
      case qq =>have hb2:=zA (zB _ _) hb;exact open1 w' _ _ _ (nums R) y (zC hb2 HBOX.out) (zC hb2 HBK.out) (zJ zN hb2 HDR.out) HMN.out (by omega)
      intro e w2 hh;rcases hh.both with ⟨h1,rfl,hb2⟩ | ⟨h1,rfl,hb2⟩
      ·have e1:=HIFF.out.1 (fun h=>HIFF.out.2.1 h h1)
       have hbe:=zA hbw (zA (zB _ _) hb2);clear hh h1 hb2;go_wp2;try rw [Exit.noGoto_ret]
       go_ret2;exact ⟨⟨.pointer none,by rw [e1];rfl,fun _=>rfl,fun h=>by rw [e1] at h;cases h⟩,hbe⟩
      ·have hit:=HIFF.out.2.2 h1
       have hme:=zE (hme.out.ext (zA (zB _ _) hb2));clear hh h1 hb2 q0 q1 q2 q3 q4;go_wp2;go_roundw
       ·exact ⟨k+1,by go_num,by omega,hme,zE (zAO _ k hits.out hit)⟩
       ·simp [intOf];omega
     ·have hl:zDR R:=⟨hin,fun j hj=>hall.out j hj,fun j hj=>hits.out j (by omega),hN20⟩
      have c1:=hme.out.box;have hbook:BookAt wr (w.heap.size+1) (.slice a R.length cap) (.slice ad (nums R).length cd) R (nums R):=⟨hme.out.book.cell 0 _ rfl,hme.out.book.cell 1 _ rfl,zJ zU hbw HR.out,hdr,HC.out⟩;have hde:=depths_tell R HND.out (sons_in R (fun j hj=>hits.out j (by omega)));have HL:=zE hl;have HDE:=zE hde;have HBO:=zE hbook;unfold zK at c1;clear hl hde hbook hdr;go_wp2_with fail;clear c1;refine (depths_iss _ _ _ _ R (nums R) HBO.out HMR.out (by omega) (by intro h;rw [h] at hR60;simp at hR60) HND.out hN20).mono ?_;rintro e w2 ⟨⟨bm,m,rfl,hm,hmap⟩,hb2⟩;have hbe:=zA hbw hb2;by_cases hci:0 < (stD R (nums R) (nums R).length).1.length
      ·have e1:=zLF HL.out (HDE.out.1 hci)
       rw [decide_eq_true hci];go_wp2;try rw [Exit.noGoto_ret]
       go_ret2;exact ⟨⟨.pointer none,by rw [e1];rfl,fun _=>rfl,fun h=>by rw [e1] at h;cases h⟩,hbe⟩
      ·rw [decide_eq_false hci]
       obtain ⟨Dm,hown,hDm⟩:=hmap;have hci2:=HDE.out.2 hci;have c1:=zC hb2 hme.out.box;have hbk2:=zE (HBO.out.ext hb2);have HDM:=zE hDm;have HC2:=zE hci2;unfold zK at c1;clear hDm hci2;go_wp2_with (at_range;refine wpList_range_own _ rfl _ 92 rfl 3 3 zCS underlying92 _ bm m Dm rfl hown ?_;intro w3 hrg0 hg0 hs0);go_frame
       have hb3:Below w2.heap.size w2 w3:=(br_).grown hg0 (Nat.le_refl _) (fun k e=>by cases e);have hrel0:∀ x c,I64 x->(stD R (nums R) (nums R).length).2 x=some c->Maps.has Dm (.int .i64 x)=false->c<=6:=fun x c hx hc hf=>by
        rw [(HDM.out x hx).1,hc] at hf;cases hf
       have HR0:=zE hrel0;have c1':=zE (show zK w2 (w.heap.size+1+1) 0 (.pointer (some ⟨w.heap.size+1,0,none⟩)) from c1);clear c1 hrel0 hown hg0;go_loopw [115] (fun _ wm=>∃ (left:Lit->Bool) (cnt:Nat),wm.ranges prog 3 (plainElem prog 3) bm w2.heap.size m Dm left cnt/\Hid (Below w2.heap.size w2 wm)/\Hid (∀ x c,I64 x->(stD R (nums R) (nums R).length).2 x=some c->left (.int .i64 x)=false->c<=6)) (fun _ wm=>wm.rangeLeft bm w2.heap.size)
       case atStart=>exact ⟨_,_,hrg0,zE hb3,HR0⟩
       case round =>
        obtain ⟨left,cnt,hrg,hbm,hle⟩:=hrel;clear hrg0 hb3 HR0;have hbe:=zA hbe hbm.out;have c1:=zC hbm.out c1'.out;unfold zK at c1;go_wp2_with (at_next;refine wpList_next_ranges_ii _ rfl _ rfl 3 3 .i64 .i64 zCS underlying3 underlying3 bm w2.heap.size m _ _ _ rfl hrg ?_ ?_)
        ·intro hc0 hl0
         have hok:¬ zHB R 6:=fun h=>by
          obtain ⟨n,c,hn,hc,h6⟩:=HC2.out.2.1 h;have:=hle.out n c (nums_i64 HR.out n hn) hc (hl0 _);omega
         have e1:=zOZ HL.out HC2.out.1 hok;have hbk3:=hbk2.out.ext hbm.out;clear hrg hle hok hl0;go_wp2;try rw [Exit.noGoto_ret]
         go_ret2;exact ⟨⟨.pointer (some ⟨w.heap.size+1,0,none⟩),by rw [e1];rfl,fun h=>absurd e1 h,fun _=>⟨_,_,rfl,hbk3⟩⟩,hbe⟩
        ·intro x c w4 cnt1 hwx hwc hlx hat hrg1 hlt1 hg1 hs1 hen
         have hx:I64 x:=by have h:=hwx;change (decide (_<=x) && decide (x<=_))=true at h;rw [Bool.and_eq_true,decide_eq_true_iff,decide_eq_true_iff] at h;exact h
         have hfx:(stD R (nums R) (nums R).length).2 x=some c:=by
          have h1:=(HDM.out x hx).2 (.lit (.bool false));rw [hat] at h1;cases hf:(stD R (nums R) (nums R).length).2 x with
          | none=>rw [hf] at h1;cases h1
          | some c'=>rw [hf] at h1;cases h1;rfl
         have HAT:=zE hat;have hbm4:Below w2.heap.size w2 w4:=hbm.out.grown hg1 hbm.out.size (fun k e=>by cases e;exact Nat.le_refl _);have hbe4:Below w.heap.size w w4:=zA (zA hbw hb2) hbm4;have hlo:=hrg.left_eq;have hln:=hrg1.left_eq;have RR:=zE hrg1;clear hat hrg hg1 hbe c1 hrg1;by_cases h6:6 < c
         ·have e1:=zPW HL.out HC2.out.1 (HC2.out.2.2 x c hfx h6)
          have hbe:=hbe4;clear hle hfx HDM hlx;go_wp2;try rw [Exit.noGoto_ret]
          go_ret2;exact ⟨⟨.pointer none,by rw [e1];rfl,fun _=>rfl,fun h=>by rw [e1] at h;cases h⟩,hbe⟩
         ·have hle2:=zE (show ∀ y d,I64 y->(stD R (nums R) (nums R).length).2 y=some d->(left (.int .i64 y) && !(Lit.int .i64 y).sameKey (.int .i64 x))=false->d<=6 from fun y d hy hd hf=>by
           by_cases e:y=x
           ·subst e;rw [hfx] at hd;cases hd;omega
           ·refine hle.out y d hy hd ?_
            have h2:(Lit.int .i64 y).sameKey (.int .i64 x)=false:=by
             cases hs:(Lit.int .i64 y).sameKey (.int .i64 x) with
             | false=>rfl
             | true=>exact absurd (WideAt.sameKey_eq hs) (zNH e)
            rw [h2] at hf;simpa using hf)
          clear hle hfx HDM hlx;go_wp2;go_roundw
          ·exact ⟨_,cnt1,RR.out,zE hbm4,hle2⟩
          ·rw [hln,hlo];exact hlt1
end
end Go.Proofs.YtipaopbmklbmnaaGreatDoor
