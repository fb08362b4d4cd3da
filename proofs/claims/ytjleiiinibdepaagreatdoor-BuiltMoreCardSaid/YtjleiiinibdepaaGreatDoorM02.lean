/- The law's walk: one report more never adds a possibility. -/
import Derived.Deep.DeepCutAuto
import Derived.Test.YtjleiiinibdepaaGreatDoorK40
import Derived.Test.YtjleiiinibdepaaGreatDoorK48
import Derived.Test.YtjleiiinibdepaaGreatDoorK50
import Derived.Test.YtjleiiinibdepaaGreatDoorM01
set_option linter.all false
set_option maxRecDepth 100000
set_option maxHeartbeats 12800000

namespace Go.Proofs.YtjleiiinibdepaaGreatDoor
open Tryz
open Go.RowKit Go.Shelf
attribute [local go_sem] zAE
def RetT (w:World) (e:Ending) (w':World) : Prop:=e = .returned (.bool true)∧Below w.heap.size w w'
theorem reg_i64 {w:World} {v:Value} {R:List Issue} (h:Sl zAY 5 w v R) {x:Issue} (hx:x∈R) : I64 x.d∧I64 x.l:=by
 obtain ⟨a,c,rfl,_⟩:=zD h
 obtain ⟨k,hk,rfl⟩:=List.getElem_of_mem hx
 obtain ⟨_,_,_,_,hn,_⟩:=(zY h).2 k hk
 exact ⟨hn.1,hn.2.1⟩
theorem law_walk (w:World) (vr vn vm vh vs:Value) (b:Built) (r:Report) (x y:Int) (hB:BuiltAt w vr vn vm vh vs b) (kr:Capd vr b.ns.reg.length) (kn:Capd vn b.ns.notes.length) (kh:Capd vh b.hs.length) (hT:Tables w) (hr:RNum r) (hx:U8 x) (hy:U8 y) :
  Calls prog 4 #[.agg #[vr,vn,.int .i64 b.of,vm,vh,vs],.agg #[.int .i64 r.num,.int .i64 r.m,.int .i64 r.d,.int .i64 r.l,.int .u8 r.k],.int .u8 x,.int .u8 y] w (RetT w):=by
 obtain ⟨am,cm,rfl,_⟩:=zD hB.ms
 obtain ⟨ar,cr,rfl,_⟩:=zD hB.rs
 obtain ⟨ah,ch,rfl,_⟩:=zD hB.hs
 have S:=((Sta.of ((tables_ever hT).and (fun _ k=>hB.ext k))).new #[vr,vn,.int .i64 b.of,.slice am b.ms.length cm,.slice ah b.hs.length ch,.slice ar b.rs.length cr] 34).new #[.int .i64 r.num,.int .i64 r.m,.int .i64 r.d,.int .i64 r.l,.int .u8 r.k] 37
 rw [World.size_alloc] at S
 clear hB hT
 go_enter func4,ntmps4
 go_wp2_with fail
 generalize hg0:w.heap.size=g0 at *
 generalize (w.alloc _).alloc _=w2 at *
 refine (alive_law _ S.now.2).mono ?_
 rintro e w2 ⟨rfl,h⟩
 replace S:=S.ext h
 clear h
 obtain ⟨l0,⟨q0,q1,q2,q3,q4,q5⟩,-⟩:=(S.get 1 rfl).q6
 go_wp2_with fail
 clear q0 q1 q2 q3 q4 q5 l0
 refine (ready_law _ _ _ _ _ _ b S.now.1).mono ?_
 intro e w2 hr
 rcases hr.both with ⟨⟨hT,hv⟩,rfl,h⟩ | ⟨_,rfl,h⟩
 case inr =>
  replace S:=S.ext h
  clear hr h
  go_wp2
  go_ret
  exact ⟨rfl,S.held.below⟩
 replace S:=S.ext h
 clear hr h
 have hA:BuiltArg w2 vr vn (.slice am b.ms.length cm) (.slice ah b.hs.length ch) (.slice ar b.rs.length cr) b:=⟨⟨⟨S.now.1.reg,kr,S.now.2.1⟩,S.now.1.notes,kn⟩,S.now.1,kh,S.now.2.2.1⟩
 replace S:=S.and (fun _ k=>hA.ext k)
 clear hA
 have HV:=zE (And.intro hT hv)
 have hl80:=hT.1.1.1
 have h10:b.rs.length≤10:=(zS hv).2.2.2.2.1
 clear hT hv
 obtain ⟨l0,⟨q0,q1,q2,q3,q4,q5⟩,-⟩:=(S.get 1 rfl).q6
 by_cases h0:b.ms.length=0
 ·have h0':((b.ms.length:Int) == 0)=true:=by simp [h0]
  go_wp2
  go_ret
  exact ⟨rfl,S.held.below⟩
 have h0':((b.ms.length:Int) == 0)=false:=by simpa using h0
 obtain ⟨l1,⟨s0,s1,s2,s3,s4⟩,-⟩:=(S.get 0 rfl).q5
 go_wp2_with fail
 clear q0 q1 q2 q3 q4 q5 l0 s0 s1 s2 s3 s4 l1
 refine (add_builtK _ _ _ _ _ _ b r S.now.1 HV.out.1 hr).mono ?_
 rintro e w2 ⟨h,hcase⟩
 replace S:=S.ext h
 clear h
 rcases hcase with ⟨hne,rfl⟩ | ⟨hz,ur,un,um,uh,us,rfl,hN,k1,k2,k3⟩
 ·obtain ⟨l0,⟨q0,q1,q2,q3,q4,q5⟩,-⟩:=(S.get 1 rfl).q6
  replace S:=S.new #[.slice none 0 0,.slice none 0 0,.int .i64 0,.slice none 0 0,.slice none 0 0,.slice none 0 0] 34
  rcases add_two HV.out.2 hne with ⟨e1,e2⟩ | e1
  ·rw [e1]
   have e3:((b.rs.length:Int) == 10)=true:=by rw [e2];rfl
   have HB:=zE S.held.below
   clear S
   go_wp2
   go_ret
   exact ⟨rfl,HB.out⟩
  ·rw [e1]
   have HB:=zE S.held.below
   clear S
   go_wp2
   go_ret
   exact ⟨rfl,HB.out⟩
 have hz2:=add_zero HV.out.2 hz
 have HXv:Hid (zF (addB b r)=0):=code_ok (b:=addB b r) (code_zero HV.out.2).1 hz2.2
 have HXT:Hid (Tiny (addB b r)):=⟨HV.out.1.1,HV.out.1.2.1,HV.out.1.2.2.1,by rw [more_len];omega⟩
 have hlen:((addB b r).rs.length:Int)=(b.rs.length:Int)+1:=by rw [more_len];rfl
 have e1:(((addB b r).rs.length:Int) == (b.rs.length:Int)+1)=true:=by rw [beq_iff_eq];exact hlen
 have e2:(((addB b r).rs.length:Int) != (b.rs.length:Int)+1)=false:=by rw [hlen];simp
 have hA2:BuiltArg w2 ur un um uh us (addB b r):=⟨⟨⟨hN.at.reg,k1,S.now.2.2.1⟩,hN.at.notes,k2⟩,hN.at,k3,S.now.2.2.2.1⟩
 obtain ⟨a1,c1,rfl,_⟩:=zD hN.reg
 obtain ⟨a2,c2,rfl,_⟩:=zD hN.notes
 obtain ⟨a3,c3,rfl,_⟩:=zD hN.ms
 obtain ⟨a4,c4,rfl,_⟩:=zD hN.hs
 obtain ⟨a5,c5,rfl,_⟩:=zD hN.rs
 replace S:=(S.and (fun _ k=>hA2.ext k)).new #[.slice a1 (addB b r).ns.reg.length c1,.slice a2 (addB b r).ns.notes.length c2,.int .i64 b.of,.slice a3 (addB b r).ms.length c3,.slice a4 (addB b r).hs.length c4,.slice a5 (addB b r).rs.length c5] 34
 clear hz hz2 hN k1 k2 k3 hA2 hlen
 go_wp2_with fail
 generalize w2.heap.size=g2 at *
 generalize w2.alloc _=w2 at *
 refine (ready_law _ _ _ _ _ _ (addB b r) S.now.1.at_).mono ?_
 intro e w2 hr2
 rcases hr2.both with ⟨_,rfl,h⟩ | ⟨hno,_⟩
 case inr=>exact absurd ⟨HXT.out,HXv.out⟩ hno
 replace S:=S.ext h
 clear hr2 h
 obtain ⟨l0,⟨q0,q1,q2,q3,q4,q5⟩,-⟩:=(S.get 2 rfl).q6
 obtain ⟨l1,⟨p0,p1,p2,p3,p4,p5⟩,-⟩:=(S.get 0 rfl).q6
 go_wp2_with fail
 clear q0 q1 q2 q3 q4 q5 l0 p0 p1 p2 p3 p4 p5 l1 e1 e2
 refine (signed_built _ _ _ _ _ _ b S.now.2.1 S.now.2.2.2.2.2).mono ?_
 rintro e w2 ⟨u,rfl,hs,h⟩
 rw [signedL_of HV.out.2] at hs
 replace S:=(S.ext h).and (fun _ k=>zJ zGK k hs)
 obtain ⟨al,cl,rfl,_⟩:=zD hs
 rw [HV.out.2]
 clear hs h
 obtain ⟨l1,⟨p0,p1,p2,p3,p4,p5⟩,-⟩:=(S.get 0 rfl).q6
 go_wp2_with fail
 clear p0 p1 p2 p3 p4 p5 l1
 refine (signed_built _ _ _ _ _ _ (addB b r) S.now.2.1 S.now.2.2.2.2.2.2).mono ?_
 rintro e w2 ⟨u,rfl,hs,h⟩
 rw [signedL_of HXv.out] at hs
 replace S:=(S.ext h).and (fun _ k=>zJ zGK k hs)
 obtain ⟨ax,cx,rfl,_⟩:=zD hs
 rw [HXv.out]
 clear hs h
 have HX:Hid (zAQ (addB b r)=(zAQ b).filter (fun S=>decide (S∈zAQ (addB b r)))):=ord_filter (zFQ HV.out.2).1 (zFQ HXv.out).1 (more_less.sublist HXv.out HV.out.2)
 have hle:¬ (zAQ b).length < (zAQ (addB b r)).length:=by
  have:=congrArg List.length HX.out
  have h2:=List.length_filter_le (fun S=>decide (S∈zAQ (addB b r))) (zAQ b)
  omega
 by_cases hx0:(zAQ (addB b r)).length=0
 ·have e0:(((zAQ (addB b r)).length:Int) == 0)=true:=by simp [hx0]
  have HB:=zE S.held.below
  clear S
  go_wp2
  go_ret
  exact ⟨rfl,HB.out⟩
 have e0:(((zAQ (addB b r)).length:Int) == 0)=false:=by simpa using hx0
 have hS:=zE S
 clear S
 go_wp2
 go_loopw [16,118] (fun va q wr=>∃ k:Nat,q = .int .i64 k∧k≤(zAQ b).length∧va = .int .i64 (atTo (zAQ b) (zAQ (addB b r)) k)∧Below w2.heap.size w2 wr) (fun _ q _=>(zAQ b).length - (intOf q).toNat)
 case atStart=>exact ⟨0,rfl,by omega,rfl,br_⟩
 case round =>
  obtain ⟨k,rfl,hk,rfl,hb⟩:=hrel
  have S:=hS.out.ext hb
  by_cases hlt:k < (zAQ b).length
  case pos =>
   obtain ⟨ba,oa,rfl,v,c0,hv⟩:=(zY S.now.2.1).2 k hlt
   obtain ⟨av,cv,rfl,_⟩:=zD hv
   rw [Nat.mul_one] at c0
   unfold zK at c0
   by_cases hm:(zAQ b)[k]∈zAQ (addB b r)
   ·obtain ⟨hj,hje⟩:=at_lt HX.out hlt hm
    obtain ⟨bx,ox,rfl,v2,d0,hv2⟩:=(zY S.now.1).2 _ hj
    obtain ⟨av2,cv2,rfl,_⟩:=zD hv2
    rw [Nat.mul_one] at d0
    unfold zK at d0
    simp only [hje] at d0 hv2
    have hs:=zE (at_yes hlt hm)
    have hj2:((atTo (zAQ b) (zAQ (addB b r)) k:Nat) : Int) < ((zAQ (addB b r)).length:Int):=by omega
    have hjk:=zE (at_le (zAQ b) (zAQ (addB b r)) k)
    clear S hm hje
    generalize (zAQ b)[k]=l at *
    go_wp2_with fail
    refine (sameInts_law _ _ _ _ _ hv hv2).mono ?_
    rintro e w7 ⟨rfl,h⟩
    rw [decide_eq_true rfl]
    have hb2:=hb.trans (h.mono hb.size)
    have hjk2:=hjk.out
    clear c0 d0 hv hv2 h
    go_wp2
    go_roundw
    ·exact ⟨k+1,by go_num,by omega,by rw [hs.out];go_num,hb2⟩
    ·simp [intOf];omega
   ·have hs:=zE (at_no hlt hm)
    by_cases hj:atTo (zAQ b) (zAQ (addB b r)) k < (zAQ (addB b r)).length
    ·obtain ⟨bx,ox,rfl,v2,d0,hv2⟩:=(zY S.now.1).2 _ hj
     obtain ⟨av2,cv2,rfl,_⟩:=zD hv2
     rw [Nat.mul_one] at d0
     unfold zK at d0
     have hne:=zE (decide_eq_false (at_ne hlt hm hj))
     have hj2:((atTo (zAQ b) (zAQ (addB b r)) k:Nat) : Int) < ((zAQ (addB b r)).length:Int):=by omega
     clear S hm
     generalize (zAQ b)[k]=l at *
     generalize (zAQ (addB b r))[atTo (zAQ b) (zAQ (addB b r)) k]=l2 at *
     go_wp2_with fail
     refine (sameInts_law _ _ _ _ _ hv hv2).mono ?_
     rintro e w7 ⟨rfl,h⟩
     rw [hne.out]
     have hb2:=hb.trans (h.mono hb.size)
     clear c0 d0 hv hv2 h
     go_wp2
     exact ⟨⟨k+1,by go_num,by omega,by rw [hs.out],hb2⟩,by simp [intOf];omega⟩
    ·have hj2:¬ (((atTo (zAQ b) (zAQ (addB b r)) k:Nat) : Int) < ((zAQ (addB b r)).length:Int)):=by omega
     clear S hm
     go_wp2
     exact ⟨⟨k+1,by go_num,by omega,by rw [hs.out],hb⟩,by simp [intOf];omega⟩
  case neg =>
   obtain rfl:k=(zAQ b).length:=by omega
   have eAt:=at_all HX.out
   obtain ⟨i,hi,hix⟩:=tmod_in hx.1 (Nat.pos_of_ne_zero h0)
   obtain ⟨bm,om,rfl,c0,_⟩:=(zY S.now.2.2.2.2.1.ms).2 i hi
   have hm:=List.getElem_mem hi
   generalize b.ms[i]=m at *
   have HM:=zE hm
   have hy2:=hy.2
   have hx2:=hx.2
   have hx0':=hx.1
   have hy0:=hy.1
   rw [Nat.mul_one] at c0
   unfold zK at c0
   rw [eAt]
   clear hm h0 eAt
   obtain ⟨l0,⟨q0,q1,q2,q3,q4,q5⟩,-⟩:=(S.get 2 rfl).q6
   have w1:wrap64 x=x:=IntWalk.wrap64_in _ (by omega)
   have w3:IntKind.i64.wrap x=x:=IntWalk.i64_in _ (by omega)
   have w4:wrap64 y=y:=IntWalk.wrap64_in _ (by omega)
   have w5:IntKind.i64.wrap y=y:=IntWalk.i64_in _ (by omega)
   have hne:b.ms≠[]:=fun e=>by rw [e] at hi;simp at hi
   go_wp2
   go_region
   replace S:=S.ext (zO wr)
   generalize wr.drew=w2 at *
   clear q0 q1 q2 q3 q4 q5 l0 c0 hix hi HX
   obtain ⟨l0,⟨q0,q1,q2,q3,q4,q5⟩,-⟩:=(S.get 2 rfl).q6
   go_wp2_with fail
   clear q0 q1 q2 q3 q4 q5 l0
   refine (issue_law _ _ _ _ _ _ b y S.now.2.2.2.2.1 (by omega) hy0 (by omega)).mono ?_
   rintro e w2 ⟨h,hcase⟩
   replace S:=S.ext h
   clear h
   rcases hcase with ⟨hR,rfl⟩ | ⟨p,hp,rfl⟩
   ·have HB:=zE (S.new #[.int .i64 0,.int .i64 0] 40).held.below
    clear S
    go_wp2
    go_ret
    exact ⟨rfl,HB.out⟩
   ·have hP:=ref_part (reg_of HV.out.2) hp
    obtain ⟨x1,hx1,-,rfl⟩:=refs_in hp
    obtain ⟨hd64,hl64⟩:=reg_i64 S.now.2.2.2.2.1.reg hx1
    have HP:=zE (And.intro hp hP)
    clear hp hP hx1
    generalize x1.d=d at *
    generalize x1.l=l at *
    simp only at *
    obtain ⟨l0,⟨q0,q1,q2,q3,q4,q5⟩,-⟩:=(S.get 2 rfl).q6
    go_wp2_with fail
    clear q0 q1 q2 q3 q4 q5 l0
    replace S:=S.new #[.int .i64 d,.int .i64 l] 40
    generalize w2.heap.size=g3 at *
    generalize w2.alloc _=w2 at *
    refine (zKB _ _ _ _ _ _ b m d l S.now.2.2.2.1 S.now.2.2.2.2.2.2.2 hd64).mono ?_
    rintro e w2 ⟨rfl,h⟩
    replace S:=S.ext h
    clear h
    have hXne:zAQ (addB b r)≠[]:=fun e=>hx0 (by rw [e];rfl)
    have hAne:zAQ b≠[]:=by
     obtain ⟨T,t,e⟩:=List.exists_cons_of_ne_nil hXne
     exact List.ne_nil_of_mem (more_less.sublist HXv.out HV.out.2 T (by rw [e];exact List.mem_cons_self ..))
    have ha:=zE ((ask_two HV.out.2 HM.out).elim And.left (fun h=>absurd h.2 hAne))
    have ha2:Hid (zBK (addB b r) m=0):=(ask_two (b:=addB b r) HXv.out HM.out).elim And.left (fun h=>absurd h.2 hXne)
    have HXn:=zE hXne
    clear hAne hXne
    rw [zNA m HP.out.2,ha.out]
    obtain ⟨l1,⟨r0,r1⟩,-⟩:=(S.get 0 rfl).q2
    obtain ⟨l0,⟨q0,q1,q2,q3,q4,q5⟩,-⟩:=(S.get 1 rfl).q6
    go_wp2_with fail
    clear q0 q1 q2 q3 q4 q5 l0 r0 r1 l1
    replace S:=S.new #[.int .i64 (zBE b m d l).lo,.int .i64 (zBE b m d l).hi] 43
    generalize w2.heap.size=g4 at *
    generalize w2.alloc _=w2 at *
    refine (zKB _ _ _ _ _ _ (addB b r) m d l S.now.2.2.1 S.now.2.2.2.2.2.2.2 hd64).mono ?_
    rintro e w2 ⟨rfl,h⟩
    replace S:=S.ext h
    clear h
    rw [zNA (b:=addB b r) m HP.out.2,ha2.out]
    obtain ⟨l1,⟨r0,r1⟩,-⟩:=(S.get 1 rfl).q2
    obtain ⟨l0,⟨q0,q1,q2,q3,q4,q5⟩,-⟩:=(S.get 4 rfl).q6
    go_wp2_with fail
    clear q0 q1 q2 q3 q4 q5 l0 r0 r1 l1
    replace S:=S.new #[.int .i64 (zBE (addB b r) m d l).lo,.int .i64 (zBE (addB b r) m d l).hi] 43
    generalize w2.heap.size=g5 at *
    generalize w2.alloc _=w2 at *
    refine (known_built _ _ _ _ _ _ b m d l S.now.2.2.2.1 S.now.2.2.2.2.2.2.2 hd64).mono ?_
    rintro e w2 ⟨rfl,h⟩
    replace S:=S.ext h
    clear h
    rw [zNA m HP.out.2,ha.out]
    obtain ⟨l1,⟨r0,r1⟩,-⟩:=(S.get 2 rfl).q2
    obtain ⟨l0,⟨q0,q1,q2,q3,q4,q5⟩,-⟩:=(S.get 3 rfl).q6
    go_wp2_with fail
    clear q0 q1 q2 q3 q4 q5 l0 r0 r1 l1
    refine (known_built _ _ _ _ _ _ (addB b r) m d l S.now.2.2.1 S.now.2.2.2.2.2.2.2 hd64).mono ?_
    rintro e w2 ⟨rfl,h⟩
    replace S:=S.ext h
    clear h
    rw [zNA (b:=addB b r) m HP.out.2,ha2.out]
    have hpc:=more_less.pieces HXv.out HV.out.2 HXn.out m d l
    rw [← zRH ha.out HP.out.2,← zRH (b:=addB b r) ha2.out HP.out.2] at hpc
    have hp1:0≤(zBE b m d l).lo∧(zBE b m d l).lo≤(zBE b m d l).hi:=by rw [zRH ha.out HP.out.2];exact pieces_le HV.out.2 _ _ _ _
    have hp2:0≤(zBE (addB b r) m d l).lo∧(zBE (addB b r) m d l).lo≤(zBE (addB b r) m d l).hi:=by rw [zRH (b:=addB b r) ha2.out HP.out.2];exact pieces_le HXv.out _ _ _ _
    have hkk:=known_mono hpc.1 hpc.2 hp2.1 hp2.2
    generalize zBE b m d l=s at *
    generalize zBE (addB b r) m d l=t at *
    obtain ⟨h1,h2⟩:=hpc
    have g1:¬ t.lo < s.lo:=by omega
    have g2':¬ s.hi < t.hi:=by omega
    generalize zHD s 0=k1 at *
    generalize zHD t 0=k2 at *
    obtain ⟨l1,⟨r0,r1⟩,-⟩:=(S.get 0 rfl).q2
    obtain ⟨l2,⟨s0,s1⟩,-⟩:=(S.get 1 rfl).q2
    obtain ⟨l0,⟨q0,q1,q2,q3,q4,q5⟩,-⟩:=(S.get 5 rfl).q6
    clear hp1 hp2 h1 h2
    have hS2:=zE S
    clear S
    have e6:(k1 != 1)=false∨((k1 != 1)=true∧(k2 != k1)=false):=by
     by_cases e:k1=1
     ·exact .inl (by rw [e];rfl)
     ·exact .inr ⟨by simpa using e,by simpa using hkk.resolve_left e⟩
    clear hkk e0 h0' hle hx0 w1 w3 w4 w5 hne hx hy hr kr kn kh hl80 h10
    rcases e6 with e6 | ⟨e6,e7⟩
    all_goals
     go_upto_region 32 with fail
     clear r0 r1 l1 s0 s1 l2 e6
     have hA0:Hid (zAQ b≠[]):=by
      obtain ⟨T,t,e⟩:=List.exists_cons_of_ne_nil HXn.out
      exact List.ne_nil_of_mem (more_less.sublist HXv.out HV.out.2 T (by rw [e];exact List.mem_cons_self ..))
     have HM0:Hid (0≤b.hs.length):=Nat.zero_le _
     go_wp2
     go_loopw [237] (fun q wr=>∃ k:Nat,q = .int .i64 k∧k≤b.hs.length∧Below w2.heap.size w2 wr) (fun q _=>b.hs.length - (intOf q).toNat)
     case atStart=>exact ⟨0,rfl,by omega,br_⟩
     case round =>
      obtain ⟨k,rfl,hk,hb⟩:=hrel
      have S:=hS2.out.ext hb
      generalize wr=w5 at *
      by_cases hlt:k < b.hs.length
      case pos =>
       have hh8:b.hs.length≤8:=HV.out.1.2.2.1
       have h64:I64 (k:Int):=zV (by omega)
       have hin:In (k:Int) 0 ((b.hs.length:Int) - 1):=by unfold In;omega
       have hin2:In (k:Int) 0 (((addB b r).hs.length:Int) - 1):=by rw [more_less.hs];exact hin
       have hu:=zE (more_less.until HXv.out HV.out.2 HXn.out hlt)
       have U:=zE (unt_ok HV.out.2 hin hA0.out)
       have U2:=zE (unt_ok (b:=addB b r) HXv.out hin2 HXn.out)
       clear hin hin2
       obtain ⟨l0,⟨q0,q1,q2,q3,q4,q5⟩,-⟩:=(S.get 5 rfl).q6
       go_wp2_with fail
       clear q0 q1 q2 q3 q4 q5 l0
       refine (until_built _ _ _ _ _ _ b k S.now.2.2.2.1 S.now.2.2.2.2.2.2.2 h64).mono ?_
       rintro e w5 ⟨rfl,h⟩
       replace S:=S.ext h
       replace hb:=zA hb h
       clear h
       rw [U.out.1,U.out.2]
       obtain ⟨l0,⟨q0,q1,q2,q3,q4,q5⟩,-⟩:=(S.get 3 rfl).q6
       generalize uTo b (zAQ b) k (zAQ b).length=s' at *
       go_wp2_with fail
       clear q0 q1 q2 q3 q4 q5 l0
       replace S:=S.new #[.int .i64 s'.lo,.int .i64 s'.hi] 43
       replace hb:=zA hb (zB w5 (.cells #[.int .i64 s'.lo,.int .i64 s'.hi] 43))
       generalize w5.heap.size=g6 at *
       generalize w5.alloc _=w5 at *
       refine (until_built _ _ _ _ _ _ (addB b r) k S.now.2.2.1 S.now.2.2.2.2.2.2.2 h64).mono ?_
       rintro e w5 ⟨rfl,h⟩
       replace S:=S.ext h
       replace hb:=zA hb h
       clear h
       rw [U2.out.1,U2.out.2]
       have hu2:=hu.out
       clear hu U U2
       generalize uTo (addB b r) (zAQ (addB b r)) k (zAQ (addB b r)).length=t' at *
       obtain ⟨g1,g2'⟩:=hu2
       have g1:¬ t'.lo < s'.lo:=by omega
       have g2':¬ s'.hi < t'.hi:=by omega
       replace S:=S.new #[.int .i64 t'.lo,.int .i64 t'.hi] 43
       replace hb:=zA hb (zB w5 (.cells #[.int .i64 t'.lo,.int .i64 t'.hi] 43))
       have HB2:=zE hb
       have hk1:k+1≤b.hs.length:=hlt
       clear hb hk h64 hh8
       go_upto_region 37 with fail
       generalize w5.heap.size=g7 at *
       generalize w5.alloc _=w5 at *
       obtain ⟨l1,⟨r0,r1⟩,-⟩:=(S.get 0 rfl).q2
       obtain ⟨l2,⟨s0,s1⟩,-⟩:=(S.get 1 rfl).q2
       clear S
       go_wp2
       go_roundw
       ·exact ⟨k+1,by go_num,hk1,HB2.out⟩
       ·simp [intOf];omega
      case neg =>
       obtain ⟨z1,z2,z3,z4⟩:=set_more HXv.out HV.out.2 HXn.out hA0.out
       have HZ:=zE z4
       have hz16:(setL b).length≤16:=by
        have h1:=opensTo_le b.ns.notes b.ns.notes.length
        have h2:=HV.out.1.1.2
        rw [(set_ok HV.out.2 hA0.out).2,List.length_map]
        omega
       obtain ⟨l0,⟨q0,q1,q2,q3,q4,q5⟩,-⟩:=(S.get 5 rfl).q6
       clear z4 hb hk
       go_wp2_with fail
       clear q0 q1 q2 q3 q4 q5 l0
       refine (settled_built _ _ _ _ _ _ b S.now.2.2.2.1 S.now.2.2.2.2.2.2.2).mono ?_
       rintro e w5 ⟨u,rfl,hs,h⟩
       rw [z1]
       replace S:=(S.ext h).and (fun _ k=>zJ stays_u8 k hs)
       obtain ⟨al',cl',rfl,_⟩:=zD hs
       clear hs h
       obtain ⟨l0,⟨q0,q1,q2,q3,q4,q5⟩,-⟩:=(S.get 3 rfl).q6
       go_wp2_with fail
       clear q0 q1 q2 q3 q4 q5 l0
       refine (settled_built _ _ _ _ _ _ (addB b r) S.now.2.2.2.1 S.now.2.2.2.2.2.2.2.2).mono ?_
       rintro e w5 ⟨u,rfl,hs,h⟩
       rw [z2]
       replace S:=(S.ext h).and (fun _ k=>zJ stays_u8 k hs)
       obtain ⟨ax',cx',rfl,_⟩:=zD hs
       clear hs h z1 z2
       have e9:(((setL b).length:Int) != ((setL (addB b r)).length:Int))=false:=by rw [z3];simp
       have z3':=zE z3
       have HS3:=zE S
       clear S z3
       generalize setL b=L1 at *
       generalize setL (addB b r)=L2 at *
       go_wp2
       clear e9
       go_loopw [298] (fun q wr=>∃ k:Nat,q = .int .i64 k∧k≤L1.length∧Below w5.heap.size w5 wr) (fun q _=>L1.length - (intOf q).toNat)
       case atStart=>exact ⟨0,rfl,by omega,br_⟩
       case round =>
        obtain ⟨k,rfl,hk,hb⟩:=hrel
        have S:=HS3.out.ext hb
        generalize wr=w6 at *
        by_cases hlt:k < L1.length
        case pos =>
         have hlt2:k < L2.length:=by rw [z3'.out];exact hlt
         have hh:=HZ.out k hlt hlt2
         obtain ⟨b1,o1,rfl,c0,_⟩:=(zY S.now.2.1).2 k hlt
         obtain ⟨b2,o2,rfl,d0,_⟩:=(zY S.now.1).2 k hlt2
         rw [Nat.mul_one] at c0 d0
         unfold zK at c0 d0
         have h6:(L1[k] != 1)=false∨((L1[k] != 1)=true∧(L1[k] != L2[k])=false):=by
          by_cases e:L1[k]=1
          ·exact .inl (by rw [e];rfl)
          ·exact .inr ⟨by simpa using e,by rw [hh.resolve_left e];simp⟩
         have HB2:=zE hb
         have hk1:k+1≤L1.length:=hlt
         clear S hh hb
         generalize L1[k]=y1 at *
         generalize L2[k]=y2 at *
         rcases h6 with h6 | ⟨h6,h7⟩
         all_goals
          go_wp2
          go_quiet (fail)
          go_wp2
          go_roundw
          ·exact ⟨k+1,by go_num,hk1,zA HB2.out (zAJ _ _)⟩
          ·simp [intOf];omega
        case neg =>
         obtain rfl:k=L1.length:=by omega
         have HB:=zE S.held.below
         clear S
         go_wp2
         go_ret
         exact ⟨rfl,HB.out⟩
end Go.Proofs.YtjleiiinibdepaaGreatDoor
