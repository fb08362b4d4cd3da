/- The law's walk: what is known of a machine's pieces, and its parts, agree. -/
import Derived.Test.YtjleiiinibdepaaGreatDoorK49
import Derived.Test.YtjleiiinibdepaaGreatDoorK50
set_option linter.all false
set_option maxRecDepth 100000
set_option maxHeartbeats 12800000

namespace Go.Proofs.YtjleiiinibdepaaGreatDoor
open Tryz
open Go.RowKit Go.Shelf
attribute [local go_sem] zAE
def RetT (w:World) (e:Ending) (w':World) : Prop:=e = .returned (.bool true)∧Below w.heap.size w w'
theorem reg_i64 {w:World} {v:Value} {R:List Issue} (h:Sl zAY 5 w v R) {x:Issue} (hx:x∈R) : I64 x.d∧I64 x.l:=by
 obtain ⟨a,c,rfl,_⟩:=zD h
 obtain ⟨k,hk,rfl⟩:=List.getElem_of_mem hx
 obtain ⟨_,_,_,_,hn,_⟩:=(zY h).2 k hk
 exact ⟨hn.1,hn.2.1⟩
theorem tmod_in {n:Int} (hn:0≤n) {k:Nat} (hk:0 < k) : ∃ i:Nat,i < k∧n.tmod k=i:=by
 have h1:=Int.tmod_lt_of_pos n (show (0:Int) < k by omega)
 have h2:=Int.tmod_nonneg (k:Int) hn
 exact ⟨(n.tmod k).toNat,by omega,by omega⟩
theorem law_walk (w:World) (vr vn vm vh vs:Value) (b:Built) (x y:Int) (hB:BuiltAt w vr vn vm vh vs b) (kr:Capd vr b.ns.reg.length) (kn:Capd vn b.ns.notes.length) (kh:Capd vh b.hs.length) (hT:Tables w) (hx:U8 x) (hy:U8 y) :
  Calls prog 7 #[.agg #[vr,vn,.int .i64 b.of,vm,vh,vs],.int .u8 x,.int .u8 y] w (RetT w):=by
 obtain ⟨am,cm,rfl,_⟩:=zD hB.ms
 have S:=(Sta.of ((tables_ever hT).and (fun _ k=>hB.ext k))).new #[vr,vn,.int .i64 b.of,.slice am b.ms.length cm,vh,vs] 34
 clear hB hT
 go_enter func7,ntmps7
 go_wp2_with fail
 generalize hg0:w.heap.size=g0 at *
 generalize w.alloc _=w2 at *
 refine (alive_law _ S.now.2).mono ?_
 rintro e w2 ⟨rfl,h⟩
 replace S:=S.ext h
 clear h
 obtain ⟨l0,⟨q0,q1,q2,q3,q4,q5⟩,-⟩:=(S.get 0 rfl).q6
 go_wp2_with fail
 clear q0 q1 q2 q3 q4 q5 l0
 refine (ready_law _ _ _ _ _ _ b S.now.1).mono ?_
 intro e w2 hr
 rcases hr.both with ⟨⟨hT,hv⟩,rfl,h⟩ | ⟨_,rfl,h⟩
 case inr =>
  replace S:=S.ext h
  clear hr h
  go_wp2
  go_ret
  exact ⟨rfl,S.held.below⟩
 replace S:=S.ext h
 clear hr h
 have hA:BuiltArg w2 vr vn (.slice am b.ms.length cm) vh vs b:=⟨⟨⟨S.now.1.reg,kr,S.now.2.1⟩,S.now.1.notes,kn⟩,S.now.1,kh,S.now.2.2.1⟩
 replace S:=S.and (fun _ k=>hA.ext k)
 clear hA
 have HV:=zE (And.intro hT hv)
 have hl80:=hT.1.1.1
 clear hT hv
 obtain ⟨l0,⟨q0,q1,q2,q3,q4,q5⟩,-⟩:=(S.get 0 rfl).q6
 by_cases h0:b.ms.length=0
 ·have h0':((b.ms.length:Int) == 0)=true:=by simp [h0]
  go_wp2
  go_ret
  exact ⟨rfl,S.held.below⟩
 have h0':((b.ms.length:Int) == 0)=false:=by simpa using h0
 obtain ⟨i,hi,hix⟩:=tmod_in hx.1 (Nat.pos_of_ne_zero h0)
 obtain ⟨bm,om,rfl,c0,_⟩:=(zY S.now.2.1.ms).2 i hi
 have hm:=List.getElem_mem hi
 generalize b.ms[i]=m at *
 have HM:=zE hm
 have HX:=zE (And.intro hx hy)
 have hy2:=hy.2
 have hx2:=hx.2
 rw [Nat.mul_one] at c0
 unfold zK at c0
 clear hm h0
 go_wp2
 have hx0:=hx.1
 have hy0:=hy.1
 have w1:wrap64 x=x:=IntWalk.wrap64_in _ (by omega)
 have w3:IntKind.i64.wrap x=x:=IntWalk.i64_in _ (by omega)
 have w4:wrap64 y=y:=IntWalk.wrap64_in _ (by omega)
 have w5:IntKind.i64.wrap y=y:=IntWalk.i64_in _ (by omega)
 have hne:b.ms≠[]:=fun e=>by rw [e] at hi;simp at hi
 go_region
 replace S:=S.ext (zO w2)
 generalize w2.drew=w2 at *
 clear q0 q1 q2 q3 q4 q5 l0 c0 hix hi
 obtain ⟨l0,⟨q0,q1,q2,q3,q4,q5⟩,-⟩:=(S.get 0 rfl).q6
 go_wp2_with fail
 clear q0 q1 q2 q3 q4 q5 l0
 refine (issue_law _ _ _ _ _ _ b y S.now.2.1 (by omega) hy0 (by omega)).mono ?_
 rintro e w2 ⟨h,hcase⟩
 replace S:=S.ext h
 clear h
 rcases hcase with ⟨hR,rfl⟩ | ⟨p,hp,rfl⟩
 ·have hno:=no_parts HV.out.2 hR m
  have HR:=zE hR
  clear hR
  obtain ⟨l0,⟨q0,q1,q2,q3,q4,q5⟩,-⟩:=(S.get 0 rfl).q6
  go_wp2_with fail
  clear q0 q1 q2 q3 q4 q5 l0
  replace S:=S.new #[.int .i64 0,.int .i64 0] 40
  generalize w2.heap.size=g1 at *
  generalize w2.alloc _=w2 at *
  refine (zLT _ _ _ _ _ _ b m S.now.1 S.now.2.2.2.2).mono ?_
  rintro e w2 ⟨u,rfl,hs,h⟩
  replace S:=S.ext h
  rw [hno] at hs
  obtain ⟨a1,c1,rfl,-⟩:=zD hs
  clear hs h
  rcases ask_two HV.out.2 HM.out with ⟨ha,-⟩ | ⟨ha,-⟩
  all_goals
   rw [ha]
   go_wp2
   go_ret
   exact ⟨rfl,S.held.below⟩
 ·have hP:=ref_part (reg_of HV.out.2) hp
  obtain ⟨x1,hx1,-,rfl⟩:=refs_in hp
  obtain ⟨hd64,hl64⟩:=reg_i64 S.now.2.1.reg hx1
  have HP:=zE (And.intro hp hP)
  clear hp hP hx1
  generalize x1.d=d at *
  generalize x1.l=l at *
  simp only at *
  obtain ⟨l0,⟨q0,q1,q2,q3,q4,q5⟩,-⟩:=(S.get 0 rfl).q6
  go_wp2_with fail
  clear q0 q1 q2 q3 q4 q5 l0
  replace S:=S.new #[.int .i64 d,.int .i64 l] 40
  generalize w2.heap.size=g1 at *
  generalize w2.alloc _=w2 at *
  refine (zLT _ _ _ _ _ _ b m S.now.1 S.now.2.2.2.2).mono ?_
  rintro e w2 ⟨u,rfl,hs,h⟩
  replace S:=(S.ext h).and (fun _ k=>zJ zIK k hs)
  obtain ⟨a1,c1,rfl,-⟩:=zD hs
  clear hs h
  obtain ⟨l1,⟨r0,r1⟩,-⟩:=(S.get 0 rfl).q2
  obtain ⟨l0,⟨q0,q1,q2,q3,q4,q5⟩,-⟩:=(S.get 1 rfl).q6
  go_wp2_with fail
  clear q0 q1 q2 q3 q4 q5 l0 r0 r1 l1
  refine (zKB _ _ _ _ _ _ b m d l S.now.2.1 S.now.2.2.2.2.2 hd64).mono ?_
  rintro e w2 ⟨rfl,h⟩
  replace S:=S.ext h
  clear h
  rw [zNA m HP.out.2]
  obtain ⟨l1,⟨r0,r1⟩,-⟩:=(S.get 0 rfl).q2
  obtain ⟨l0,⟨q0,q1,q2,q3,q4,q5⟩,-⟩:=(S.get 1 rfl).q6
  go_wp2_with fail
  clear q0 q1 q2 q3 q4 q5 l0 r0 r1 l1
  replace S:=S.new #[.int .i64 (zBE b m d l).lo,.int .i64 (zBE b m d l).hi] 43
  generalize w2.heap.size=g2 at *
  generalize w2.alloc _=w2 at *
  refine (known_built _ _ _ _ _ _ b m d l S.now.2.1 S.now.2.2.2.2.2 hd64).mono ?_
  rintro e w2 ⟨rfl,h⟩
  replace S:=S.ext h
  clear h
  rw [zNA m HP.out.2]
  rcases ask_two HV.out.2 HM.out with ⟨ha,-⟩ | ⟨ha,-⟩
  case inr =>
   have hnil:zBA b m=[]:=by unfold zBA;rw [if_neg (by omega)]
   have hlen:((zBA b m).length:Int)=0:=by rw [hnil];rfl
   rw [ha]
   go_wp2
   go_ret
   exact ⟨rfl,S.held.below⟩
  have F1:Hid (∀ k (hk:k < (zBA b m).length),(zBA b m)[k].d=d∧(zBA b m)[k].l=l→(zBA b m)[k].lo=(zBE b m d l).lo∧(zBA b m)[k].hi=(zBE b m d l).hi):=fun k hk e=>by
   have:=parts_is ha (List.getElem_mem hk) (by rw [e.1,e.2];exact HP.out.2)
   rw [e.1,e.2] at this
   exact ⟨this.1,this.2.1⟩
  have F2:Hid (zCZ (zBA b m) (d,l) (zBA b m).length=decide (0 < (zBE b m d l).hi)):=thereTo_all HV.out.2 ha HP.out.1
  have F3:Hid (∀ k (hk:k < (zBA b m).length),(zBA b m)[k].d=d∧(zBA b m)[k].l=l→zCZ (zBA b m) (d,l) k=false∧zCZ (zBA b m) (d,l) (k+1)=true):=fun k hk e=>⟨thereTo_new HV.out.2 hk e,thereTo_yes hk e⟩
  have F4:Hid (∀ k (hk:k < (zBA b m).length),¬ ((zBA b m)[k].d=d∧(zBA b m)[k].l=l)→zCZ (zBA b m) (d,l) (k+1)=zCZ (zBA b m) (d,l) k):=fun k hk e=>thereTo_no hk e
  have F5:Hid (0≤(zBE b m d l).lo∧(zBE b m d l).lo≤(zBE b m d l).hi):=by unfold Hid;rw [zRH ha HP.out.2];exact pieces_le HV.out.2 _ _ _ _
  have F6:Hid (zCZ (zBA b m) (d,l) 0=false):=thereTo_zero _ _
  rw [ha]
  generalize zBE b m d l=s at *
  generalize zBA b m=L at *
  go_wp2
  have HS:=zE S
  have F0:L.length≤9223372036854775807:=by obtain ⟨_,_,_,h,_⟩:=S.now.1;exact h
  clear S ha
  go_loopw [17,113] (fun tt q wr=>∃ k:Nat,q = .int .i64 k∧k≤L.length∧tt = .bool (zCZ L (d,l) k)∧Hid (Below w2.heap.size w2 wr)) (fun _ q _=>L.length - (intOf q).toNat)
  case atStart=>exact ⟨0,rfl,by omega,by rw [F6.out],zE (br_)⟩
  case round =>
   obtain ⟨k,rfl,hk,rfl,HB⟩:=hrel
   have S:=HS.out.ext HB.out
   by_cases hlt:k < L.length
   case neg =>
    obtain rfl:k=L.length:=by omega
    rw [F2.out]
    obtain ⟨l2,⟨s0,s1⟩,-⟩:=(S.get 0 rfl).q2
    obtain ⟨f51,f52⟩:=F5.out
    have HE:=zE S.held.below
    clear S F1 F2 F3 F4 F5 F6 HS
    obtain ⟨lo,hi⟩:=s
    simp only at *
    by_cases z0:0 < lo
    ·have z1:0 < hi:=by omega
     have hK:zHD ⟨lo,hi⟩ 0=2:=by simp [zHD,z0]
     rw [hK,decide_eq_true z1]
     go_wp2
     go_ret
     exact ⟨rfl,HE.out⟩
    ·have z0':lo=0:=by omega
     subst z0'
     by_cases z1:hi=0
     ·subst z1
      rw [show zHD ⟨0,0⟩ 0=0 from rfl,show decide ((0:Int) < 0)=false from rfl]
      go_wp2
      go_ret
      exact ⟨rfl,HE.out⟩
     ·have z2:0 < hi:=by omega
      have z3:(hi == 0)=false:=by simpa using z1
      have hK:zHD ⟨0,hi⟩ 0=1:=by simp [zHD,z1]
      rw [hK,decide_eq_true z2]
      go_wp2
      go_ret
      exact ⟨rfl,HE.out⟩
   case pos =>
    obtain ⟨bh,oh,rfl,⟨c0,c1,c2,c3⟩,hn⟩:=(zY S.now.1).2 k hlt
    obtain ⟨l1,⟨r0,r1⟩,-⟩:=(S.get 1 rfl).q2
    obtain ⟨l2,⟨s0,s1⟩,-⟩:=(S.get 0 rfl).q2
    have f1:=zE (F1.out k hlt)
    have f3:=zE (F3.out k hlt)
    have f4:=zE (F4.out k hlt)
    generalize L[k]=z at *
    unfold zK at c0 c1 c2 c3
    by_cases hz:z.d=d∧z.l=l
    ·obtain ⟨g1',g2'⟩:=f1.out hz
     obtain ⟨g3,g4⟩:=f3.out hz
     rw [hz.1] at c0
     rw [hz.2] at c1
     rw [g1'] at c2
     rw [g2'] at c3
     rw [g3]
     clear S F1 F3 F4 f1 f3 f4
     go_wp2
     exact ⟨⟨k+1,by go_num,by omega,by rw [g4],zE (zA HB.out (zB _ _))⟩,by simp [intOf];omega⟩
    ·have hz1:(z.d == d && z.l == l)=false:=by
      rw [Bool.and_eq_false_iff]
      by_cases e:z.d=d
      ·exact .inr (by simpa using fun e2=>hz ⟨e,e2⟩)
      ·exact .inl (by simpa using e)
     have g4:=f4.out hz
     clear S F1 F3 F4 f1 f3 f4
     go_wp2
     all_goals exact ⟨⟨k+1,by go_num,by omega,by rw [g4],zE (zA HB.out (zB _ _))⟩,by simp [intOf];omega⟩
end Go.Proofs.YtjleiiinibdepaaGreatDoor
