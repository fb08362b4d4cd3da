/- The law's walk: reports in whichever order. -/
import Derived.Test.YtjleiiinibdepaaGreatDoorK40
import Derived.Test.YtjleiiinibdepaaGreatDoorK41
import Derived.Test.YtjleiiinibdepaaGreatDoorK48
import Derived.Test.YtjleiiinibdepaaGreatDoorO01
set_option linter.all false
set_option maxRecDepth 100000
set_option maxHeartbeats 12800000

namespace Go.Proofs.YtjleiiinibdepaaGreatDoor
open Tryz
open Go.RowKit Go.Shelf
attribute [local go_sem] zAE Oper.grows Oper.growUpon
def RetT (w:World) (e:Ending) (w':World) : Prop:=e = .returned (.bool true)∧Below w.heap.size w w'
structure AccAt (n gr capr gx:Nat) (w wr:World) (L:List Report) (vr vn vm vh vs:Value) (b:Built) : Prop where
 ord:OrdAt n gr capr w wr L
 box:Lay wr gx #[vr,vn,.int .i64 b.of,vm,vh,vs] 34
 built:BuiltN n wr vr vn vm vh vs b
 kr:Capd vr b.ns.reg.length
 kn:Capd vn b.ns.notes.length
 kh:Capd vh b.hs.length
 lo:n≤gx
theorem AccAt.ext {n gr capr gx:Nat} {w wr wr':World} {L:List Report} {vr vn vm vh vs:Value} {b:Built} (h:AccAt n gr capr gx w wr L vr vn vm vh vs b) (hb:Below wr.heap.size wr wr') : AccAt n gr capr gx w wr' L vr vn vm vh vs b :=
 ⟨h.ord.ext (Nat.le_of_lt (Nat.lt_of_le_of_lt h.lo h.box.lt)) hb,h.box.ext hb,h.built.ext hb,h.kr,h.kn,h.kh,h.lo⟩
theorem AccAt.put {n gr capr gx:Nat} {w wr wy:World} {L:List Report} {vr vn vm vh vs ur un um uh us:Value} {b b':Built} (h:AccAt n gr capr gx w wr L vr vn vm vh vs b) (hW:fillW wr gx 0 [ur,un,.int .i64 b'.of,um,uh,us]=wy) (hN:BuiltN n wr ur un um uh us b')
  (k1:Capd ur b'.ns.reg.length) (k2:Capd un b'.ns.notes.length) (k3:Capd uh b'.hs.length) : AccAt n gr capr gx w wy L ur un um uh us b':=by
 obtain ⟨L9,h9,h8⟩:=zIW h.box [ur,un,.int .i64 b'.of,um,uh,us] rfl hW
 have hs:∀ e,e≠34→zBZ n e wr wy:=fun e he g cur _ hc=>h8 g cur e hc he
 exact ⟨⟨h.ord.below.trans (h9 _ h.lo),zFA (hs _ (by decide)) (Nat.le_refl _) h.ord.own,h.ord.at_⟩,L9,hN.same hs,k1,k2,k3,h.lo⟩
theorem law_walk (w:World) (vr vn vm vh vs vl:Value) (b:Built) (by_:List Int) (hB:BuiltAt w vr vn vm vh vs b) (kr:Capd vr b.ns.reg.length) (kn:Capd vn b.ns.notes.length) (kh:Capd vh b.hs.length) (hT:Tables w) (hl:Sl AtU32 1 w vl by_) :
  Calls prog 6 #[.agg #[vr,vn,.int .i64 b.of,vm,vh,vs],vl] w (RetT w):=by
 obtain ⟨i0,hi0,hz0,hz1,hz2⟩:=info_parts zOO
 obtain ⟨ar,cr,rfl,_⟩:=zD hB.rs
 obtain ⟨al,cl,rfl,_⟩:=zD hl
 have S:=(Sta.of (((tables_ever hT).and (fun _ k=>zJ stays_u32 k hl)).and (fun _ k=>hB.ext k))).new #[vr,vn,.int .i64 b.of,vm,vh,.slice ar b.rs.length cr] 34
 clear hB hT hl
 go_enter func6,ntmps6
 go_wp2_with fail
 generalize hg0:w.heap.size=g0 at *
 generalize w.alloc _=w2 at *
 refine (alive_law _ S.now.2.2).mono ?_
 rintro e w2 ⟨rfl,h⟩
 replace S:=S.ext h
 clear h
 obtain ⟨l0,⟨q0,q1,q2,q3,q4,q5⟩,-⟩:=(S.get 0 rfl).q6
 go_wp2_with fail
 clear q0 q1 q2 q3 q4 q5 l0
 refine (ready_law _ _ _ _ _ _ b S.now.1).mono ?_
 intro e w2 hr
 rcases hr.both with ⟨⟨hT,hv⟩,rfl,h⟩ | ⟨_,rfl,h⟩
 case inr =>
  replace S:=S.ext h
  clear hr h
  go_wp2
  go_ret
  exact ⟨rfl,S.held.below⟩
 replace S:=S.ext h
 clear hr h
 have hA:BuiltArg w2 vr vn vm vh (.slice ar b.rs.length cr) b:=⟨⟨⟨S.now.1.reg,kr,S.now.2.2.1⟩,S.now.1.notes,kn⟩,S.now.1,kh,S.now.2.2.2.1⟩
 replace S:=S.and (fun _ k=>hA.ext k)
 clear hA
 have HV:=zE (And.intro hT hv)
 have h10:b.rs.length≤10:=(zS hv).2.2.2.2.1
 clear hT hv
 have hb1:=zB w2 (.cells #[] 37)
 have HS:=zE S
 replace S:=S.ext hb1
 have HSL:=zE S.now.2.1.rs
 obtain ⟨l0,⟨q0,q1,q2,q3,q4,q5⟩,-⟩:=(S.get 0 rfl).q6
 have hb1:=zE hb1
 clear S
 go_wp2_with (at_builtin;refine wpList_grows rfl (grows_append_new (.tmp 28) (.tmp 30) 32 (by rfl) 37 i0 _ 5 40 underlying32 hi0 hz0 hz1 hz2 rfl (by decide) (by decide) copies_report cells_report (.slice (some ⟨w2.heap.size,0,none⟩) 0 0) (.slice ar b.rs.length cr) b.rs (by rfl) ⟨_,rfl⟩ (by rfl) HSL.out (by omega) w2.heap.size (by simp) (nilRow_new _ _ _ _ (Nat.le_refl _)).2) ?_;rintro v9 w6 hb6 ⟨hnew,gr,capr,rfl⟩)
 obtain ⟨hsl,cs,hown⟩:=hnew
 obtain rfl:=own_flat hsl hown
 have H0:Hid (OrdAt w2.heap.size gr capr w2 w6 b.rs):=⟨zA hb1.out hb6,hown,(hown.lt gr rfl).1⟩
 clear HSL hsl hown hb6 hb1 q0 q1 q2 q3 q4 q5 l0
 go_wp2
 go_loopw [34] (fun q wr=>∃ (k:Nat) (L:List Report),q = .int .i64 k∧k≤b.rs.length∧L.length=b.rs.length∧Hid (L.Perm b.rs)∧Hid (OrdAt w2.heap.size gr capr w2 wr L)) (fun q _=>b.rs.length - (intOf q).toNat)
 case atStart=>exact ⟨0,b.rs,rfl,by omega,rfl,List.Perm.refl _,H0⟩
 case round =>
  clear H0
  obtain ⟨k,L,rfl,hk,hL,HP,HO⟩:=hrel
  have S:=HS.out.ext HO.out.below
  by_cases hlt:k < b.rs.length
  case pos =>
   go_wp2_with fail
   refine (choose_law _ _ by_ k S.now.2.2.1 (by omega)).mono ?_
   rintro e w7 ⟨z,rfl,hz,rfl⟩
   obtain ⟨j,hj,hje⟩:=tmod_in hz.1 (show 0 < k+1 by omega)
   replace hje:z.tmod ((k:Int)+1)=j:=hje
   have hkl:k < L.length:=by omega
   have hjl:j < L.length:=by omega
   have hgl:=(HO.out.own.lt gr rfl).2
   have F1:=zE (fun (wx:World) (h:OrdAt w2.heap.size gr capr w2 wx L)=>h.rep k hkl)
   have F2:=zE (fun (wx:World) (h:OrdAt w2.heap.size gr capr w2 wx L)=>h.rep j hjl)
   have HP2:=zE ((swap2_perm hkl hjl).trans HP.out)
   have fz:=fun q=>HO.out.own.frozenAt q
   have hjlt:(j:Int) < (b.rs.length:Int):=by omega
   generalize L[k]=x at *
   generalize L[j]=y at *
   obtain ⟨c0,c1,c2,c3,c4⟩:=F1.out _ HO.out
   have L1:=(HeldB.nil w7).new #[.int .i64 x.num,.int .i64 x.m,.int .i64 x.d,.int .i64 x.l,.int .u8 x.k] 37
   have HO1:=zE (HO.out.ext HO.out.below.size L1.below)
   have hw7:w2.heap.size≤w7.heap.size:=HO.out.below.size
   clear S HP HO
   go_upto_region 10 with fail
   clear c0 c1 c2 c3 c4 fz
   have L2:=zE (L1.get 0 rfl)
   have hne:w7.heap.size≠gr:=by omega
   clear L1
   generalize w7.alloc _=w8 at *
   generalize w7.heap.size=g9 at *
   obtain ⟨c0,c1,c2,c3,c4⟩:=F1.out _ HO1.out
   obtain ⟨d0,d1,d2,d3,d4⟩:=F2.out _ HO1.out
   have fz:=fun q=>HO1.out.own.frozenAt q
   go_upto_region 11 with fail
   clear c0 c1 c2 c3 c4 d0 d1 d2 d3 d4 fz F1 F2
   generalize hW:((((w8.setCell _ _).setCell _ _).setCell _ _).setCell _ _).setCell _ _=w9
   have HO3:=HO1.out.put k hkl y
   rw [hW] at HO3
   have hg3:w8.grownBy w9 (some gr):=by rw [← hW];exact grown_put (zBH w8 w8 _ rfl rfl rfl rfl)
   have L3:=zE (L2.out.kept hg3 (fun e=>hne (Option.some.inj e)))
   clear hW hg3 L2 HO1
   have hjl2:j < (L.set k y).length:=by rw [List.length_set];exact hjl
   have D3:=HO3.rep j hjl2
   have HO4:=zE (HO3.put j hjl2 x)
   have fz:=fun q=>HO3.own.frozenAt q
   clear HO3
   generalize (L.set k y)[j]=y2 at *
   obtain ⟨d0,d1,d2,d3,d4⟩:=D3
   obtain ⟨-,⟨p0,p1,p2,p3,p4⟩,-⟩:=L3.out.q5
   go_wp2
   exact ⟨⟨k+1,_,by go_num,by omega,by rw [List.length_set,List.length_set];exact hL,HP2,HO4⟩,by simp [intOf];omega⟩
  case neg =>
   obtain rfl:k=b.rs.length:=by omega
   obtain ⟨l0,⟨q0,q1,q2,q3,q4,q5⟩,-⟩:=(S.get 0 rfl).q6
   go_wp2_with fail
   clear q0 q1 q2 q3 q4 q5 l0
   refine (twin08 _ _ _ _ _ _ b S.now.2.1 HV.out.1).mono ?_
   rintro e w9 ⟨ur,un,um,uh,us,rfl,hN,-,h,k1,k2,k3⟩
   have hw9:w2.heap.size≤wr.heap.size:=HO.out.below.size
   have hO:=HO.out.ext hw9 h
   obtain ⟨a1,c1,rfl,_⟩:=zD hN.reg
   obtain ⟨a2,c2,rfl,_⟩:=zD hN.notes
   obtain ⟨a3,c3,rfl,_⟩:=zD hN.ms
   obtain ⟨a4,c4,rfl,_⟩:=zD hN.hs
   obtain ⟨a5,c5,rfl,_⟩:=zD hN.rs
   have hN2:=hN.weak hw9
   have hb9:=zB w9 (.cells #[.slice a1 b.ns.reg.length c1,.slice a2 b.ns.notes.length c2,.int .i64 b.of,.slice a3 b.ms.length c3,.slice a4 b.hs.length c4,.slice none 0 0] 34)
   have H2:Hid (AccAt w2.heap.size gr capr w9.heap.size w2 (w9.alloc (.cells #[.slice a1 b.ns.reg.length c1,.slice a2 b.ns.notes.length c2,.int .i64 b.of,.slice a3 b.ms.length c3,.slice a4 b.hs.length c4,.slice none 0 0] 34)) L (.slice a1 b.ns.reg.length c1) (.slice a2 b.ns.notes.length c2) (.slice a3 b.ms.length c3) (.slice a4 b.hs.length c4) (.slice none 0 0) (ordTo b L 0)):=by
    rw [ord_zero]
    have hx:=hN2.ext hb9
    exact ⟨hO.ext (Nat.le_trans hw9 h.size) hb9,Lay.new _ _ _,⟨hx.reg,hx.notes,hx.ms,hx.hs,zIR _ _ _ _ _,hx.of⟩,k1,k2,k3,Nat.le_trans hw9 h.size⟩
   clear S HO hN hN2 hO h hb9 k1 k2 k3
   go_upto_region 15 with fail
   generalize hgx:w9.heap.size=gx at *
   generalize w9.alloc _=wA at *
   go_wp2
   go_loopw [64] (fun q wr=>∃ (k:Nat) (vr' vn' vm' vh' vs':Value),q = .int .i64 k∧k≤b.rs.length∧Hid (AccAt w2.heap.size gr capr gx w2 wr L vr' vn' vm' vh' vs' (ordTo b L k))) (fun q _=>b.rs.length - (intOf q).toNat)
   case atStart=>exact ⟨0,_,_,_,_,_,rfl,by omega,H2⟩
   case round =>
    clear H2
    obtain ⟨k,vr',vn',vm',vh',vs',rfl,hk,HA⟩:=hrel
    have S:=HS.out.ext HA.out.ord.below
    obtain ⟨a1,c1,rfl,_⟩:=zD HA.out.built.reg
    obtain ⟨a2,c2,rfl,_⟩:=zD HA.out.built.notes
    obtain ⟨a3,c3,rfl,_⟩:=zD HA.out.built.ms
    obtain ⟨a4,c4,rfl,_⟩:=zD HA.out.built.hs
    obtain ⟨a5,c5,rfl,_⟩:=zD HA.out.built.rs
    by_cases hlt:k < b.rs.length
    case pos =>
     have hkl:k < L.length:=by omega
     have F1:=zE (HA.out.ord.rep k hkl)
     have hr:=zE (rep_num S.now.2.1.rs L[k] (HP.out.mem_iff.1 (List.getElem_mem hkl)))
     have eA:=zE (ord_code HV.out.2 HP.out hkl)
     have eB:=zE (ord_step HV.out.2 HP.out hkl)
     generalize L[k]=r at *
     obtain ⟨d0,d1,d2,d3,d4⟩:=F1.out
     obtain ⟨l0,⟨p0,p1,p2,p3,p4,p5⟩,-⟩:=HA.out.box.q6
     have hgl:=(HA.out.ord.own.lt gr rfl).2
     have L1:=(HeldB.nil wr).new #[.int .i64 r.num,.int .i64 r.m,.int .i64 r.d,.int .i64 r.l,.int .u8 r.k] 37
     replace S:=S.ext L1.below
     have HA1:=zE (HA.out.ext L1.below)
     have hA:BuiltArg _ _ _ _ _ _ (ordTo b L k):=⟨⟨⟨HA1.out.built.at.reg,HA1.out.kr,S.now.2.2.2.1⟩,HA1.out.built.at.notes,HA1.out.kn⟩,HA1.out.built.at,HA1.out.kh,S.now.2.2.2.2.1⟩
     have hA:=zE hA
     have HS1:=zE S
     clear S HA F1
     go_wp2_with fail
     clear d0 d1 d2 d3 d4 p0 p1 p2 p3 p4 p5 l0 L1
     have hlo:w2.heap.size≤(wr.alloc (.cells #[.int .i64 r.num,.int .i64 r.m,.int .i64 r.d,.int .i64 r.l,.int .u8 r.k] 37)).heap.size:=HA1.out.ord.below.size
     generalize wr.alloc _=w8 at *
     refine (add_builtK _ _ _ _ _ _ (ordTo b L k) r hA.out (ord_tiny HV.out.1 L k) hr.out).mono ?_
     rintro e w9 ⟨h,hcase⟩
     rcases hcase with ⟨hne,_⟩ | ⟨_,ur,un,um,uh,us,rfl,hN,k1,k2,k3⟩
     ·exact absurd eA.out hne
     rw [eB.out] at hN
     replace hN:=hN.weak hlo
     obtain ⟨e1,f1,rfl,_⟩:=zD hN.reg
     obtain ⟨e2,f2,rfl,_⟩:=zD hN.notes
     obtain ⟨e3,f3,rfl,_⟩:=zD hN.ms
     obtain ⟨e4,f4,rfl,_⟩:=zD hN.hs
     obtain ⟨e5,f5,rfl,_⟩:=zD hN.rs
     have HA2:=zE (HA1.out.ext h)
     have L1:=(HeldB.nil w9).new #[.slice e1 (ordTo b L (k+1)).ns.reg.length f1,.slice e2 (ordTo b L (k+1)).ns.notes.length f2,.int .i64 (ordTo b L k).of,.slice e3 (ordTo b L (k+1)).ms.length f3,.slice e4 (ordTo b L (k+1)).hs.length f4,.slice e5 (ordTo b L (k+1)).rs.length f5] 34
     have HN:=zE (hN.ext L1.below)
     have HA3:=zE (HA2.out.ext L1.below)
     have HK:=zE (And.intro k1 (And.intro k2 k3))
     clear hN h HA1 HA2 hA HS1 k1 k2 k3
     go_wp2_with fail
     have L2:=zE (L1.get 0 rfl)
     clear L1
     generalize w9.alloc _=wB at *
     generalize w9.heap.size=g9 at *
     refine (ready_law _ _ _ _ _ _ (ordTo b L (k+1)) HN.out.at).mono ?_
     intro e wC hr2
     rcases hr2.both with ⟨_,rfl,h⟩ | ⟨hno,rfl,h⟩
     case inr=>exact absurd ⟨ord_tiny HV.out.1 L (k+1),ord_ok HV.out.2 L (k+1)⟩ hno
     have HA4:=zE (HA3.out.ext h)
     have HN2:=zE (HN.out.ext h)
     have L3:=zE (L2.out.ext h)
     clear hr2 h HA3 HN L2
     obtain ⟨l0,⟨p0,p1,p2,p3,p4,p5⟩,z0,z1,z2,z3,z4,z5⟩:=HA4.out.box.q6
     obtain ⟨l1,⟨s0,s1,s2,s3,s4,s5⟩,-⟩:=L3.out.q6
     go_wp2
     generalize hW:(((((wC.setCell _ _).setCell _ _).setCell _ _).setCell _ _).setCell _ _).setCell _ _=wy
     have HA5:=zE (HA4.out.put (b':=ordTo b L (k+1)) hW HN2.out HK.out.1 HK.out.2.1 HK.out.2.2)
     exact ⟨⟨k+1,_,_,_,_,_,by go_num,by omega,HA5⟩,by simp [intOf];omega⟩
    case neg =>
     obtain rfl:k=b.rs.length:=by omega
     have eO:ordTo b L b.rs.length=b:=by rw [← hL,ord_all HP.out]
     rw [eO] at HA
     simp only [eO] at *
     have HA:=zE HA.out
     have HS1:=zE S
     obtain ⟨l0,⟨q0,q1,q2,q3,q4,q5⟩,-⟩:=(S.get 0 rfl).q6
     go_wp2_with fail
     clear q0 q1 q2 q3 q4 q5 l0
     refine (signed_built _ _ _ _ _ _ b S.now.1 S.now.2.2.2.2.2).mono ?_
     rintro e wB ⟨u,rfl,hs,h⟩
     replace S:=S.ext h
     have HA2:=zE (HA.out.ext h)
     obtain ⟨as1,cs1,rfl,_⟩:=zD hs
     rw [HV.out.2]
     have hs1:=zE hs
     clear hs h HA HS1
     obtain ⟨l0,⟨p0,p1,p2,p3,p4,p5⟩,-⟩:=HA2.out.box.q6
     go_wp2_with fail
     clear p0 p1 p2 p3 p4 p5 l0
     have hA:BuiltArg _ _ _ _ _ _ b:=⟨⟨⟨HA2.out.built.at.reg,HA2.out.kr,S.now.2.2.2.1⟩,HA2.out.built.at.notes,HA2.out.kn⟩,HA2.out.built.at,HA2.out.kh,S.now.2.2.2.2.1⟩
     refine (signed_built _ _ _ _ _ _ b hA S.now.2.2.2.2.2).mono ?_
     rintro e wC ⟨u,rfl,hs,h⟩
     replace S:=S.ext h
     have HA3:=zE (HA2.out.ext h)
     obtain ⟨as2,cs2,rfl,_⟩:=zD hs
     have hs2:=zE hs
     replace hs1:=zE (zJ zGK h hs1.out)
     rw [HV.out.2]
     clear hs h HA2 hA
     obtain ⟨l0,⟨p0,p1,p2,p3,p4,p5⟩,-⟩:=HA3.out.box.q6
     obtain ⟨l1,⟨q0,q1,q2,q3,q4,q5⟩,-⟩:=(S.get 0 rfl).q6
     go_wp2_with fail
     clear p0 p1 p2 p3 p4 p5 l0 q0 q1 q2 q3 q4 q5 l1
     refine (sameBuilt08 _ _ _ _ _ _ _ _ _ _ _ b HA3.out.built.at S.now.2.1).mono ?_
     rintro e wD ⟨rfl,h⟩
     replace S:=S.ext h
     replace hs1:=zE (zJ zGK h hs1.out)
     replace hs2:=zE (zJ zGK h hs2.out)
     clear h HA3
     go_wp2_with fail
     refine (sameLists08 _ _ _ _ hs1.out hs2.out).mono ?_
     rintro e wE ⟨rfl,h⟩
     replace S:=S.ext h
     clear h hs1 hs2
     have HB:=zE S.held.below
     clear S
     go_wp2
     go_ret
     exact ⟨rfl,HB.out⟩
end Go.Proofs.YtjleiiinibdepaaGreatDoor
