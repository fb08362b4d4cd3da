/- The law's walk: the fewest reports that are withdrawn. -/
import Derived.Deep.DeepCutAuto
import Derived.Test.YtjleiiinibdepaaGreatDoorK39
import Derived.Test.YtjleiiinibdepaaGreatDoorK49
import Derived.Test.YtjleiiinibdepaaGreatDoorW01
set_option linter.all false
set_option maxRecDepth 100000
set_option maxHeartbeats 12800000

namespace Go.Proofs.YtjleiiinibdepaaGreatDoor
open Tryz
open Go.RowKit Go.Shelf
attribute [local go_sem] zAE
def RetT (w:World) (e:Ending) (w':World) : Prop:=e = .returned (.bool true)∧Below w.heap.size w w'
structure OthTo (b:Built) (k:Nat) (O:List Int) : Prop where
 rise:O.Pairwise (· < ·)
 mem:∀ x∈O,x∈(zGX b).take k
 len:O.length≤k
theorem othTo_zero (b:Built) : OthTo b 0 []:=⟨.nil,(fun x h=>by cases h),Nat.le_refl _⟩
theorem rnums_succ {b:Built} {k:Nat} (hk:k < b.rs.length) : (zGX b).take (k+1)=(zGX b).take k++[b.rs[k].num]:=by
 unfold zGX
 rw [List.take_succ_eq_append_getElem (by simpa using hk),List.getElem_map]
theorem OthTo.skip {b:Built} {k:Nat} {O:List Int} (h:OthTo b k O) (hk:k < b.rs.length) : OthTo b (k+1) O :=
 ⟨h.rise,fun x hx=>by rw [rnums_succ hk];exact List.mem_append_left _ (h.mem x hx),Nat.le_succ_of_le h.len⟩
theorem OthTo.put {b:Built} {k:Nat} {O:List Int} (h:OthTo b k O) (hv:zF b=0) (hk:k < b.rs.length) : OthTo b (k+1) (O++[b.rs[k].num]):=by
 refine ⟨List.pairwise_append.2 ⟨h.rise,List.pairwise_singleton _ _,fun x hx y hy=>?_⟩,fun x hx=>?_,by rw [List.length_append];exact Nat.succ_le_succ h.len⟩
 ·obtain rfl:=List.mem_singleton.1 hy
  have hm:=h.mem x hx
  have hr:=zFB hv
  obtain ⟨j,hj,rfl⟩:=List.getElem_of_mem hm
  rw [List.length_take] at hj
  rw [List.getElem_take]
  have:=List.pairwise_iff_getElem.1 hr j k (by omega) (by unfold zGX;simpa using hk) (by omega)
  simpa [zGX] using this
 ·rw [rnums_succ hk]
  rcases List.mem_append.1 hx with h1 | h1
  ·exact List.mem_append_left _ (h.mem x h1)
  ·exact List.mem_append_right _ h1
structure WdAt (n:Nat) (w wr:World) (vo vn:Value) (O N:List Int) : Prop where
 below:Below n w wr
 oth:wr.ownsRow n 3 1 vo O.length (O.map (Value.int .i64))
 num:wr.ownsRow n 3 1 vn N.length (N.map (Value.int .i64))
 apart:∀ g,vo.ownBlock=some g→vn.ownBlock≠some g
theorem WdAt.ext {n:Nat} {w wr wr':World} {vo vn:Value} {O N:List Int} (h:WdAt n w wr vo vn O N) (hn:n≤wr.heap.size) (hb:Below wr.heap.size wr wr') : WdAt n w wr' vo vn O N :=
 ⟨h.below.trans (hb.mono hn),zAC hb h.oth,zAC hb h.num,h.apart⟩
theorem WdAt.addN {n:Nat} {w wr w':World} {vo vn v':Value} {O N:List Int} {x:Int} (h:WdAt n w wr vo vn O N) (hn:n≤wr.heap.size) (hg:wr.grownBy w' vn.ownBlock) (ho:w'.ownsRow n 3 1 v' (N.length+1) (N.map (Value.int .i64)++[.int .i64 x]))
  (hap:∀ g,v'.ownBlock=some g→vn.ownBlock=some g∨wr.heap.size≤g) : WdAt n w w' vo v' O (N++[x]):=by
 refine ⟨h.below.grown hg hn (fun r e=>(h.num.lt r e).1),h.oth.kept hg ?_,by rw [List.length_append,List.map_append];exact ho,fun g hv hv'=>?_⟩
 ·cases e:vo.ownBlock with
  | none=>exact .inl rfl
  | some g=>exact .inr (fun e2=>h.apart g e e2.symm)
 ·rcases hap g hv' with h1 | h1
  ·exact h.apart g hv h1
  ·have:=(h.oth.lt g hv).2;omega
theorem WdAt.addO {n:Nat} {w wr w':World} {vo vn v':Value} {O N:List Int} {x:Int} (h:WdAt n w wr vo vn O N) (hn:n≤wr.heap.size) (hg:wr.grownBy w' vo.ownBlock) (ho:w'.ownsRow n 3 1 v' (O.length+1) (O.map (Value.int .i64)++[.int .i64 x]))
  (hap:∀ g,v'.ownBlock=some g→vo.ownBlock=some g∨wr.heap.size≤g) : WdAt n w w' v' vn (O++[x]) N:=by
 refine ⟨h.below.grown hg hn (fun r e=>(h.oth.lt r e).1),by rw [List.length_append,List.map_append];exact ho,h.num.kept hg ?_,fun g hv hv'=>?_⟩
 ·cases e:vn.ownBlock with
  | none=>exact .inl rfl
  | some g=>exact .inr (fun e2=>h.apart g e2.symm e)
 ·rcases hap g hv with h1 | h1
  ·exact h.apart g h1 hv'
  ·have:=(h.num.lt g hv').2;omega
theorem law_walk (w:World) (vr vn vm vh vs:Value) (b:Built) (x:Int) (hB:BuiltAt w vr vn vm vh vs b) (kr:Capd vr b.ns.reg.length) (kn:Capd vn b.ns.notes.length) (kh:Capd vh b.hs.length) (hT:Tables w) (hx:U16 x) :
  Calls prog 5 #[.agg #[vr,vn,.int .i64 b.of,vm,vh,vs],.int .u16 x] w (RetT w):=by
 obtain ⟨i0,hif,iz0,iz1,iz2⟩:=info_parts zFY
 obtain ⟨ar,cr,rfl,_⟩:=zD hB.rs
 have S:=(Sta.of ((tables_ever hT).and (fun _ k=>hB.ext k))).new #[vr,vn,.int .i64 b.of,vm,vh,.slice ar b.rs.length cr] 34
 clear hB hT
 go_enter func5,ntmps5
 go_wp2_with fail
 generalize hg0:w.heap.size=g0 at *
 generalize w.alloc _=w2 at *
 refine (alive_law _ S.now.2).mono ?_
 rintro e w2 ⟨rfl,h⟩
 replace S:=S.ext h
 clear h
 obtain ⟨l0,⟨q0,q1,q2,q3,q4,q5⟩,-⟩:=(S.get 0 rfl).q6
 go_wp2_with fail
 clear q0 q1 q2 q3 q4 q5 l0
 refine (ready_law _ _ _ _ _ _ b S.now.1).mono ?_
 intro e w2 hr
 rcases hr.both with ⟨⟨hT,hv⟩,rfl,h⟩ | ⟨_,rfl,h⟩
 case inr =>
  replace S:=S.ext h
  clear hr h
  go_wp2
  go_ret
  exact ⟨rfl,S.held.below⟩
 replace S:=S.ext h
 clear hr h
 have hA:BuiltArg w2 vr vn vm vh (.slice ar b.rs.length cr) b:=⟨⟨⟨S.now.1.reg,kr,S.now.2.1⟩,S.now.1.notes,kn⟩,S.now.1,kh,S.now.2.2.1⟩
 replace S:=S.and (fun _ k=>hA.ext k)
 clear hA
 have HV:=zE (And.intro hT hv)
 clear hT hv
 obtain ⟨l0,⟨q0,q1,q2,q3,q4,q5⟩,-⟩:=(S.get 0 rfl).q6
 go_wp2_with fail
 clear q0 q1 q2 q3 q4 q5 l0
 refine (withdraw_built _ _ _ _ _ _ b S.now.1 S.now.2.2.2.2).mono ?_
 rintro e w2 ⟨u,rfl,hs,h⟩
 replace S:=(S.ext h).and (fun _ k=>zJ zN k hs)
 obtain ⟨aw,cw,rfl,_⟩:=zD hs
 rw [HV.out.2]
 clear hs h
 obtain ⟨l0,⟨q0,q1,q2,q3,q4,q5⟩,-⟩:=(S.get 0 rfl).q6
 go_wp2_with fail
 clear q0 q1 q2 q3 q4 q5 l0
 refine (clash_built _ _ _ _ _ _ b S.now.2.1 S.now.2.2.2.2.2).mono ?_
 rintro e w2 ⟨u,rfl,hs,h⟩
 replace S:=(S.ext h).and (fun _ k=>zJ zN k hs)
 obtain ⟨ac,cc,rfl,_⟩:=zD hs
 rw [HV.out.2]
 clear hs h
 obtain ⟨l0,⟨q0,q1,q2,q3,q4,q5⟩,-⟩:=(S.get 0 rfl).q6
 go_wp2_with fail
 clear q0 q1 q2 q3 q4 q5 l0
 refine (signed_built _ _ _ _ _ _ b S.now.2.2.1 S.now.2.2.2.2.2.2).mono ?_
 rintro e w2 ⟨u,rfl,hs,h⟩
 replace S:=S.ext h
 obtain ⟨as1,cs1,rfl,_⟩:=zD hs
 rw [signedL_of HV.out.2,HV.out.2]
 clear hs h
 obtain ⟨l0,⟨q0,q1,q2,q3,q4,q5⟩,-⟩:=(S.get 0 rfl).q6
 go_wp2_with fail
 clear q0 q1 q2 q3 q4 q5 l0
 refine (without_law _ _ _ _ _ _ _ b (wdL b) S.now.2.2.2.1 HV.out.1 S.now.2.1 S.now.2.2.2.2).mono ?_
 rintro e w2 ⟨ur,un,um,uh,us,rfl,hA,h⟩
 replace S:=S.ext h
 clear h
 go_wp2_with fail
 refine (signed_built _ _ _ _ _ _ (b.but (wdL b)) hA S.now.2.2.2.2.2.2).mono ?_
 rintro e w2 ⟨u,rfl,hs,h⟩
 replace S:=S.ext h
 obtain ⟨as2,cs2,rfl,_⟩:=zD hs
 rw [signedL_of (but_ok HV.out.2 _),but_ok HV.out.2]
 clear hs h hA
 have e1:(((zAQ (b.but (wdL b))).length:Int) == 0)=false:=by have:=List.length_pos_iff.2 (wd_left HV.out.2);rw [beq_eq_false_iff_ne];omega
 have e2:(((wdL b).length:Int) == 0)=decide (0 < ((zAQ b).length:Int)):=by
  have h:=wd_nil HV.out.2
  rw [Bool.eq_iff_iff,decide_eq_true_eq,beq_iff_eq]
  constructor
  ·intro h0
   have:wdL b=[]:=List.length_eq_zero_iff.1 (by omega)
   have:=List.length_pos_iff.2 (h.1 this)
   omega
  ·intro h0
   have:=h.2 (List.length_pos_iff.1 (by omega))
   rw [this]
   rfl
 have hS:=zE S
 obtain ⟨l0,⟨q0,q1,q2,q3,q4,q5⟩,-⟩:=(S.get 0 rfl).q6
 clear S
 go_wp2
 clear e1 e2 q0 q1 q2 q3 q4 q5 l0
 have H0:Hid (WdAt w2.heap.size w2 w2 (.slice none 0 0) (.slice none 0 0) [] []):=⟨br_,World.ownsRow_nil _ _ _ _,World.ownsRow_nil _ _ _ _,(fun g h=>by cases h)⟩
 go_loopw [14,15,16,89] (fun vo vn' va q wr=>∃ (k:Nat) (O:List Int),q = .int .i64 k∧k≤b.rs.length∧va = .int .i64 (zLC b k).length∧Hid (OthTo b k O)∧Hid (WdAt w2.heap.size w2 wr vo vn' O ((zGX b).take k))) (fun _ _ _ q _=>b.rs.length - (intOf q).toNat)
 case atStart=>exact ⟨0,[],rfl,by omega,rfl,othTo_zero b,H0⟩
 case round =>
  clear H0
  obtain ⟨k,O,rfl,hk,rfl,HO,HW⟩:=hrel
  have S:=hS.out.ext HW.out.below
  have h10:b.rs.length≤10:=(zS HV.out.2).2.2.2.2.1
  by_cases hlt:k < b.rs.length
  case neg =>
   obtain rfl:k=b.rs.length:=by omega
   have eN:(zGX b).take b.rs.length=zGX b:=by rw [← rnums_len,List.take_length]
   rw [eN] at HW
   have ecl:claL b=zLC b b.rs.length:=by unfold claL;rw [if_pos HV.out.2]
   rw [← ecl]
   obtain ⟨an,cn,rfl⟩:=zDC HW.out.num
   obtain ⟨ao,co,rfl⟩:=zDC HW.out.oth
   have HT:Hid (IsT (zGX b) O):=⟨HO.out.rise,fun x hx=>by have:=HO.out.mem x hx;rwa [eN] at this⟩
   have hI:∀ x∈zGX b,I64 x:=fun x hx=>by
    obtain ⟨r,hr,rfl⟩:=List.mem_map.1 hx
    have:=(zGQ HV.out.2 hr).1
    unfold In at this
    unfold I64
    omega
   have HN:=zE (zBF HW.out.num hI)
   have HOs:=zE (zBF HW.out.oth (fun x hx=>hI x (HT.out.2 x hx)))
   have HB:=zE S.held.below
   have HS:=zE S
   have hwl:=zE (wd_in HV.out.2)
   clear S HO HW hS hI eN ecl
   generalize wr=wb at *
   go_wp2
   go_loopw [157] (fun q wx=>∃ j:Nat,q = .int .i64 j∧j≤(wdL b).length∧wx=wb) (fun q _=>(wdL b).length - (intOf q).toNat)
   case atStart=>exact ⟨0,rfl,by omega,rfl⟩
   case round =>
    obtain ⟨j,rfl,hj,rfl⟩:=hrel
    by_cases hlj:j < (wdL b).length
    case pos =>
     obtain ⟨bw,ow,rfl,d0,_⟩:=(zY HS.out.now.2.1).2 j hlj
     have hi:=idxI_in (zGX b) (wdL b)[j] (hwl.out.2 _ (List.getElem_mem hlj))
     have hi2:¬ (zKD (zGX b) (wdL b)[j] < 0):=by omega
     have hpr:Hid (∀ h:0 < j,∃ y,zK wr bw (ow+(j - 1)) (.int .i64 y)∧y < (wdL b)[j]):=fun h=>by
      obtain ⟨bw',ow',e,d1,_⟩:=(zY HS.out.now.2.1).2 (j - 1) (by omega)
      cases e
      rw [Nat.mul_one] at d1
      exact ⟨_,d1,List.pairwise_iff_getElem.1 hwl.out.1 (j - 1) j (by omega) hlj (by omega)⟩
     generalize (wdL b)[j]=n at *
     rw [Nat.mul_one] at d0
     unfold zK at d0
     by_cases h0:0 < j
     ·obtain ⟨y,d1,hy⟩:=hpr.out h0
      obtain ⟨i,rfl⟩ : ∃ i,j=i+1:=⟨j - 1,by omega⟩
      have hy2:¬ (n≤y):=by omega
      have e1:((i:Int)+1 - 1)=i:=by omega
      rw [Nat.add_sub_cancel] at d1
      unfold zK at d1
      go_wp2_with (go_at_call 35;refine (index02 _ _ (zGX b) n HN.out).mono ?_;rintro e w7 ⟨rfl,rfl⟩)
      exact ⟨⟨i+1+1,by go_num,by omega,trivial⟩,by simp [intOf];omega⟩
     ·obtain rfl:j=0:=by omega
      rw [Nat.add_zero] at d0
      go_wp2_with (go_at_call 35;refine (index02 _ _ (zGX b) n HN.out).mono ?_;rintro e w7 ⟨rfl,rfl⟩)
      exact ⟨⟨1,by go_num,by omega,trivial⟩,by simp [intOf];omega⟩
    case neg =>
     obtain rfl:j=(wdL b).length:=by omega
     have S:=HS.out
     obtain ⟨l0,⟨q0,q1,q2,q3,q4,q5⟩,-⟩:=(S.get 0 rfl).q6
     clear q0 q1 q2 q3 q4 q5 l0
     have F:=zE (wd_min HV.out.2 HT.out)
     go_wp2_with fail
     refine (before03 _ _ _ O (wdL b) HOs.out S.now.2.1).mono ?_
     rintro e w7 ⟨rfl,h⟩
     replace S:=S.ext h
     have hOs:=zE (zJ zN h HOs.out)
     clear h
     cases hb:zFV O (wdL b)
     case false =>
      have HB:=zE S.held.below
      clear S
      go_wp2
      go_ret
      exact ⟨rfl,HB.out⟩
     case true =>
      have hF:=F.out hb
      obtain ⟨l0,⟨q0,q1,q2,q3,q4,q5⟩,-⟩:=(S.get 0 rfl).q6
      go_wp2_with fail
      clear q0 q1 q2 q3 q4 q5 l0
      refine (without_law _ _ _ _ _ _ _ b O S.now.2.2.2.1 HV.out.1 hOs.out S.now.2.2.2.2).mono ?_
      rintro e w8 ⟨ur,un,um,uh,us,rfl,hA,h⟩
      replace S:=S.ext h
      clear h
      go_wp2_with fail
      refine (signed_built _ _ _ _ _ _ (b.but O) hA S.now.2.2.2.2.2.2).mono ?_
      rintro e w9 ⟨u,rfl,hs,h⟩
      replace S:=S.ext h
      rw [signedL_of (but_ok HV.out.2 _),hF] at hs
      rw [but_ok HV.out.2]
      obtain ⟨az,cz,rfl,_⟩:=zD hs
      have HB:=zE S.held.below
      clear S hs h hA
      go_wp2
      go_ret
      exact ⟨rfl,HB.out⟩
  case pos =>
   obtain ⟨br,or,rfl,⟨c0,c1',c2',c3',c4'⟩,hn⟩:=(zY S.now.2.2.2.1.rs).2 k hlt
   have hN:=rnums_succ hlt
   have hOl:=HO.out.len
   have F1:=zE (fun h=>claTo_yes (b:=b) hlt h)
   have F2:=zE (fun h=>claTo_no (b:=b) hlt h)
   have F3:=zE (cla_next HV.out.2 hlt)
   have F4:=zE (one_any HV.out.2 (List.getElem_mem hlt))
   have F5:=zE (fun h=>wd_lone HV.out.2 (List.getElem_mem hlt) h)
   have F6:=zE (HO.out.skip hlt)
   have F7:=zE (HO.out.put HV.out.2 hlt)
   have F8:Hid (zF (b.one b.rs[k])=0):=sub_ok HV.out.2 (List.singleton_sublist.2 (List.getElem_mem hlt))
   generalize b.rs[k]=r at *
   have hTk:((zGX b).take k).length≤k:=by rw [List.length_take];omega
   obtain ⟨an,cn,rfl⟩:=zDC HW.out.num
   obtain ⟨ao,co,rfl⟩:=zDC HW.out.oth
   have hnl:=zE (fun g e=>(HW.out.num.lt g e).2)
   have hol:=zE (fun g e=>(HW.out.oth.lt g e).2)
   have hsz:w2.heap.size≤wr.heap.size:=HW.out.below.size
   have L1:=(HeldB.nil wr).new #[.int .i64 r.num,.int .i64 r.m,.int .i64 r.d,.int .i64 r.l,.int .u8 r.k] 37
   have hb2:=zB (wr.alloc (.cells #[.int .i64 r.num,.int .i64 r.m,.int .i64 r.d,.int .i64 r.l,.int .u8 r.k] 37)) (.cells #[.int .i64 r.num] 3)
   have W1:=zE ((HW.out.ext hsz L1.below).ext (by simp;omega) hb2)
   have L2:=zE ((L1.ext hb2).get 0 rfl)
   have HC:=zE (cell_one_new (wr.alloc (.cells #[.int .i64 r.num,.int .i64 r.m,.int .i64 r.d,.int .i64 r.l,.int .u8 r.k] 37)) (.int .i64 r.num) 3)
   have hsz7:w2.heap.size≤((wr.alloc (.cells #[.int .i64 r.num,.int .i64 r.m,.int .i64 r.d,.int .i64 r.l,.int .u8 r.k] 37)).alloc (.cells #[.int .i64 r.num] 3)).heap.size:=by simp;omega
   rw [World.size_alloc] at HC
   unfold zK at c0 c1' c2' c3' c4'
   clear S HW L1 hb2
   go_upto_if 103 with (at_builtin;refine wpList_append_apart _ rfl _ _ 30 rfl w2.heap.size 3 i0 (.int .i64 0) 1 8 underlying30 hif iz0 iz1 iz2 rfl (by decide) _ _ _ rfl W1.out.num ⟨wr.heap.size+1,0,none⟩ 1 1 [.int .i64 r.num] rfl rfl HC.out (by simp [Value.oneCell']) (by unfold maxLen;omega) (by omega) hsz7 ?_;intro v' w8 hown' hgrow hap)
   have W2:=zE (W1.out.addN hsz7 hgrow hown' hap)
   rw [← hN] at W2
   have L8:=zE (L2.out.kept hgrow (fun e=>by have:=hnl.out _ e.symm;omega))
   have hol8:Hid (∀ g,(Value.slice ao O.length co).ownBlock=some g→g < wr.heap.size):=fun g e=>hol.out g e
   have hg6:wr.heap.size < w8.heap.size:=L8.out.lt
   have h8:w2.heap.size≤w8.heap.size:=by omega
   clear W1 L2 HC hsz7 hown' hgrow hap hnl hol hN c0 c1' c2' c3' c4'
   generalize hg6':wr.heap.size=g6 at *
   go_cut [14] (fun so wx=>∃ (O':List Int) (p:Option Addr) (c:Nat),so = .slice p O'.length c∧Hid (OthTo b (k+1) O')∧Hid (WdAt w2.heap.size w2 wx so v' O' ((zGX b).take (k+1)))∧Hid (Lay wx g6 #[.int .i64 r.num,.int .i64 r.m,.int .i64 r.d,.int .i64 r.l,.int .u8 r.k] 37))
   case first =>
    have hb3:=zB w8 (.cells #[.int .i64 r.num] 3)
    have W3:=zE (W2.out.ext h8 hb3)
    have L9:=zE (L8.out.ext hb3)
    have HC:=zE (cell_one_new w8 (.int .i64 r.num) 3)
    obtain ⟨-,⟨p0,-⟩,-⟩:=L8.out.q5
    clear hb3
    go_wp2_with (at_builtin;generalize w8.heap.size=g8 at *;generalize w8.alloc _=w9 at *;refine wpList_append_apart _ rfl _ _ 30 rfl w2.heap.size 3 i0 (.int .i64 0) 1 8 underlying30 hif iz0 iz1 iz2 rfl (by decide) _ _ _ rfl W3.out.oth ⟨g8,0,none⟩ 1 1 [.int .i64 r.num] rfl rfl HC.out (by simp [Value.oneCell']) (by unfold maxLen;omega) (by omega) W3.out.below.size ?_;intro v2 wB hown2 hgrow2 hap2)
    ·obtain ⟨p,c,rfl⟩:=zDC hown2
     go_meet
     case rel=>exact ⟨O++[r.num],p,c,by rw [List.length_append];rfl,F7.out,zE (W3.out.addO W3.out.below.size hgrow2 hown2 hap2),zE (L9.out.kept hgrow2 (fun e=>by have:=hol8.out _ e.symm;omega))⟩
    ·go_meet
     case rel=>exact ⟨O,ao,co,rfl,F6.out,W2,L8⟩
   case rest =>
    obtain ⟨O',p,c,rfl,HO',HW',HL'⟩:=hcut
    clear W2 L8 hol8 hg6 h8 HO F6 F7 hOl
    have S:=hS.out.ext HW'.out.below
    obtain ⟨l0,⟨q0,q1,q2,q3,q4,q5⟩,-⟩:=(S.get 0 rfl).q6
    have hsz:=HW'.out.below.size
    go_wp2_with fail
    clear q0 q1 q2 q3 q4 q5 l0
    refine (twin08 _ _ _ _ _ _ b S.now.2.2.2.1 HV.out.1).mono ?_
    rintro e w9 ⟨ur,un,um,uh,us,rfl,hNb,-,h,k1,k2,k3⟩
    have W2:=zE (HW'.out.ext hsz h)
    have L8:=zE (HL'.out.ext h)
    obtain ⟨a1,c1,rfl,_⟩:=zD hNb.reg
    obtain ⟨a2,c2,rfl,_⟩:=zD hNb.notes
    obtain ⟨a3,c3,rfl,_⟩:=zD hNb.ms
    obtain ⟨a4,c4,rfl,_⟩:=zD hNb.hs
    obtain ⟨a5,c5,rfl,_⟩:=zD hNb.rs
    replace S:=S.ext h
    have HNb:=zE hNb.at
    clear hNb h HW' HL' hsz
    obtain ⟨l8,⟨p0,p1,p2,p3,p4⟩,-⟩:=L8.out.q5
    go_wp2_with fail
    have H9:=((HeldB.nil w9).new #[.slice a1 b.ns.reg.length c1,.slice a2 b.ns.notes.length c2,.int .i64 b.of,.slice a3 b.ms.length c3,.slice a4 b.hs.length c4,.slice (some ⟨w9.heap.size+1,0,none⟩) 1 1] 34).new #[.int .i64 r.num,.int .i64 r.m,.int .i64 r.d,.int .i64 r.l,.int .u8 r.k] 37
    rw [World.size_alloc] at H9
    replace S:=S.ext H9.below
    have W3:=zE (W2.out.ext W2.out.below.size H9.below)
    have L9:=zE (L8.out.ext H9.below)
    have hB9:=HNb.out.ext H9.below
    have hA1:BuiltArg _ (.slice a1 b.ns.reg.length c1) (.slice a2 b.ns.notes.length c2) (.slice a3 b.ms.length c3) (.slice a4 b.hs.length c4) (.slice (some ⟨w9.heap.size+1,0,none⟩) 1 1) (b.one r) :=
     ⟨⟨⟨hB9.reg,k1,S.now.2.2.2.2.1⟩,hB9.notes,k2⟩,⟨hB9.reg,hB9.notes,hB9.ms,hB9.hs,zQV (H9.get 0 rfl) hn.1 hn.2.1 hn.2.2.1 hn.2.2.2.1 hn.2.2.2.2,hB9.of⟩,k3,S.now.2.2.2.2.2.1⟩
    clear hB9 H9 W2 L8 HNb p0 p1 p2 p3 p4 l8
    generalize (w9.alloc _).alloc _=wA at *
    generalize w9.heap.size=g9 at *
    refine (signed_built _ _ _ _ _ _ (b.one r) hA1 S.now.2.2.2.2.2.2).mono ?_
    rintro e wB ⟨u,rfl,hs,h⟩
    replace S:=S.ext h
    have W4:=zE (W3.out.ext W3.out.below.size h)
    have L4:=zE (L9.out.ext h)
    rw [signedL_of F8.out] at hs
    rw [F8.out]
    obtain ⟨az,cz,rfl,_⟩:=zD hs
    clear hs h hA1 W3 L9
    have F4':Hid ((zAQ (b.one r)).length=0↔Lone b r):=by unfold Hid;rw [List.length_eq_zero_iff];exact F4.out
    clear F4 F8
    generalize (zAQ (b.one r)).length=nz at *
    obtain ⟨-,⟨p0,-⟩,-⟩:=L4.out.q5
    by_cases hLn:Lone b r
    ·obtain ⟨hat,hce⟩:=List.getElem?_eq_some_iff.1 (F3.out.2 hLn)
     obtain ⟨bc,oc,rfl,d0,_⟩:=(zY S.now.1).2 _ hat
     rw [hce,Nat.mul_one] at d0
     unfold zK at d0
     obtain rfl:=F4'.out.2 hLn
     have hsw:=zE S.now.2.1
     have hix:=idxI_in (wdL b) r.num (F5.out hLn)
     have hix2:¬ (zKD (wdL b) r.num < 0):=by omega
     have hsucc:=zE (F1.out hLn)
     have F9:=zE hLn
     clear hLn F1 F2 F3 F5 F4' S
     have hat2:((zLC b k).length:Int) < ((claL b).length:Int):=by omega
     go_upto_region 21 with fail
     go_region
     have W5:=zE (W4.out.ext W4.out.below.size (zO wB))
     have hs5:=zE (zJ zN (zO wB) hsw.out)
     obtain ⟨-,⟨p0,-⟩,-⟩:=(L4.out.ext (zO wB)).q5
     clear W4 L4 hsw
     generalize wB.drew=wC at *
     go_wp2_with (go_at_call 35;refine (index02 _ _ (wdL b) r.num hs5.out).mono ?_;rintro e w7 ⟨rfl,rfl⟩)
     exact ⟨⟨k+1,O',by go_num,by omega,by rw [hsucc.out,List.length_append,List.length_singleton,Int.natCast_add];rfl,HO',W5⟩,by simp [intOf];omega⟩
    ·have hnz:((nz:Int) == 0)=false:=by
      have:nz≠0:=fun e=>hLn (F4'.out.1 e)
      rw [beq_eq_false_iff_ne];omega
     have hsucc:=zE (F2.out hLn)
     by_cases hat:(zLC b k).length < (claL b).length
     ·obtain ⟨bc,oc,rfl,d0,_⟩:=(zY S.now.1).2 _ hat
      have hne:(claL b)[(zLC b k).length]≠r.num:=fun e=>hLn (F3.out.1 (by rw [List.getElem?_eq_getElem hat,e]))
      generalize (claL b)[(zLC b k).length]=z at *
      have hz:(z == r.num)=false:=by simpa using hne
      rw [Nat.mul_one] at d0
      unfold zK at d0
      have hat2:((zLC b k).length:Int) < ((claL b).length:Int):=by omega
      clear hLn hne F1 F2 F3 F5 F4' S
      go_upto_region 21 with fail
      go_region
      have W5:=zE (W4.out.ext W4.out.below.size (zO wB))
      clear W4 L4
      generalize wB.drew=wC at *
      go_wp2
      exact ⟨⟨k+1,O',by go_num,by omega,by rw [hsucc.out],HO',W5⟩,by simp [intOf];omega⟩
     ·have hat2:¬ (((zLC b k).length:Int) < ((claL b).length:Int)):=by omega
      clear hLn F1 F2 F3 F5 F4' S
      go_upto_region 21 with fail
      go_region
      have W5:=zE (W4.out.ext W4.out.below.size (zO wB))
      clear W4 L4
      generalize wB.drew=wC at *
      go_wp2
      exact ⟨⟨k+1,O',by go_num,by omega,by rw [hsucc.out],HO',W5⟩,by simp [intOf];omega⟩
end Go.Proofs.YtjleiiinibdepaaGreatDoor
