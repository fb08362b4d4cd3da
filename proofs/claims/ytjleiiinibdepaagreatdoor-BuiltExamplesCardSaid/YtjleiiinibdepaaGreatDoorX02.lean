/- The law's walk: the chapter's examples, limits and numbers. -/
import Derived.Deep.DeepCutAuto
import Derived.Test.YtjleiiinibdepaaGreatDoorK49
import Derived.Test.YtjleiiinibdepaaGreatDoorX01
set_option linter.all false
set_option maxRecDepth 100000
set_option maxHeartbeats 12800000

namespace Go.Proofs.YtjleiiinibdepaaGreatDoor
open Tryz
open Go.RowKit Go.Shelf
attribute [local go_sem] zAE Oper.grows Oper.growUpon Oper.wild Oper.wildUpon
theorem lists_one {w:World} {g g':Nat} {t t':TypeId} (L:Lay w g #[.slice (some ⟨g',0,none⟩) 1 1] t) (L':Lay w g' #[.int .i64 102] t') : Sl zJU 1 w (.slice (some ⟨g,0,none⟩) 1 1) [[102]]:=zIB L rfl (by omega) fun k hk h=>match k,hk with
  | 0,_=>⟨_,h _ _ rfl,zMW L' zV⟩
theorem sta_two {w w':World} {g g':Nat} {cs cs':Array Value} {t t':TypeId} (hb:Below w.heap.size w w') (hT:Tables w) (L:Lay w' g cs t) (L':Lay w' g' cs' t') : Sta w w' [(g,cs,t),(g',cs',t')] Tables :=
 ⟨⟨hb,fun x hx=>by
   simp only [List.mem_cons,List.not_mem_nil,or_false] at hx
   rcases hx with rfl | rfl
   ·exact L
   ·exact L'⟩,tables_ever (tables_ever hT w' hb)⟩
theorem odd_heap {w:World} {g:Nat} {t:TypeId} (L:Lay w g #[.int .i64 30,.int .i64 2,.int .i64 5,.int .i64 9] t) : Sl zDO 4 w (.slice (some ⟨g,0,none⟩) 1 1) [⟨30,2,5,9⟩]:=zIB L rfl (by omega) fun k hk hc=>match k,hk with
  | 0,_=>⟨⟨hc _ _ rfl,hc _ _ rfl,hc _ _ rfl,hc _ _ rfl⟩,(zV:I64 30),(zV:I64 2),(zV:I64 5),(zV:I64 9)⟩
theorem torn_num:∀ x∈tornN,I64 x.num∧I64 x.day∧U8 x.sg∧I64 x.d∧I64 x.l∧I64 x.fr∧I64 x.to∧I64 x.ca∧U8 x.ways:=by
 intro x hx
 simp only [tornN,List.mem_cons,List.not_mem_nil,or_false] at hx
 rcases hx with rfl | rfl <;> exact ⟨zV,zV,zMI,zV,zV,zV,zV,zV,zMI⟩
theorem torn_lay {w:World} {g:Nat} {t:TypeId} (L:Lay w g (exNC.setIfInBounds 0 (.int .i64 0)) t) : Sl zBL 10 w (.slice (some ⟨g,0,none⟩) 2 2) tornN:=zIB L rfl (by omega) fun k hk hc=>⟨match k,hk with
  | 0,_=>⟨hc _ _ rfl,hc _ _ rfl,hc _ _ rfl,hc _ _ rfl,hc _ _ rfl,hc _ _ rfl,hc _ _ rfl,hc _ _ rfl,hc _ _ rfl,hc _ _ rfl⟩
  | 1,_=>⟨hc _ _ rfl,hc _ _ rfl,hc _ _ rfl,hc _ _ rfl,hc _ _ rfl,hc _ _ rfl,hc _ _ rfl,hc _ _ rfl,hc _ _ rfl,hc _ _ rfl⟩,torn_num _ (List.getElem_mem hk)⟩
theorem odd_arg {w:World} {vr:Value} {gn gm gh:Nat} {t1 t2 t3:TypeId} (hT:Tables w) (hr:Sl zAY 5 w vr exR∧Capd vr 7) (hn:Lay w gn exNC t1) (hm:Lay w gm #[.int .i64 4,.int .i64 6,.int .i64 9] t2) (hh:Lay w gh ((#[.int .i64 30,.int .i64 1,.int .i64 5,.int .i64 9] : Array Value).setIfInBounds 1 (.int .i64 2)) t3) :
  BuiltArg w vr (.slice (some ⟨gn,0,none⟩) 2 2) (.slice (some ⟨gm,0,none⟩) 3 3) (.slice (some ⟨gh,0,none⟩) 1 1) (.slice none 0 0) oddB :=
 ⟨⟨⟨hr.1,hr.2,hT.1⟩,notes_lay hn,⟨_,_,rfl,Nat.le_refl _⟩⟩,⟨hr.1,notes_lay hn,ms_lay hm,odd_heap hh,zCY _ _ _,(zV:I64 10)⟩,⟨_,_,rfl,Nat.le_refl _⟩,hT.2.1⟩
theorem torn_arg {w:World} {vr:Value} {gn gm gh:Nat} {t1 t2 t3:TypeId} (hT:Tables w) (hr:Sl zAY 5 w vr exR∧Capd vr 7) (hn:Lay w gn (exNC.setIfInBounds 0 (.int .i64 0)) t1) (hm:Lay w gm #[.int .i64 4,.int .i64 6,.int .i64 9] t2) (hh:Lay w gh #[.int .i64 30,.int .i64 1,.int .i64 5,.int .i64 9] t3) :
  BuiltArg w vr (.slice (some ⟨gn,0,none⟩) 2 2) (.slice (some ⟨gm,0,none⟩) 3 3) (.slice (some ⟨gh,0,none⟩) 1 1) (.slice none 0 0) tornB :=
 ⟨⟨⟨hr.1,hr.2,hT.1⟩,torn_lay hn,⟨_,_,rfl,Nat.le_refl _⟩⟩,⟨hr.1,torn_lay hn,ms_lay hm,hs_lay hh,zCY _ _ _,(zV:I64 10)⟩,⟨_,_,rfl,Nat.le_refl _⟩,hT.2.1⟩
theorem law_walk (w:World) (hT:Tables w) : Calls prog 3 #[] w fun e w'=>e = .returned (.bool true)∧Below w.heap.size w w':=by
 have S:=Sta.of (tables_ever hT)
 have HT:=zE hT
 clear hT
 go_enter func3,ntmps3
 go_wp2_with fail
 refine (alive_law _ S.now).mono ?_
 rintro e w2 ⟨rfl,h⟩
 replace S:=S.ext h
 clear h
 go_wp2_with fail
 refine (zHU _).mono ?_
 rintro e w2 ⟨rfl,h⟩
 replace S:=S.ext h
 clear h
 go_wp2_with fail
 refine (second_law _).mono ?_
 rintro e w2 ⟨rfl,h⟩
 replace S:=S.ext h
 clear h
 go_wp2_with fail
 replace S:=S.new #[.int .i64 1,.int .i64 9,.int .i64 40,.int .i64 1,.int .u8 1,.int .i64 2,.int .i64 6,.int .i64 30,.int .i64 2,.int .u8 3] 37
 generalize w2.heap.size=r1 at *
 generalize w2.alloc _=w2 at *
 have hR:Sl zAT 5 w2 (.slice (some ⟨r1,0,none⟩) 2 2) [zJD,rep2]:=reps_two (S.get 0 rfl) zV zV zV zV zMI zV zV zV zV zMI
 refine (zBB _ _ _ _).mono ?_
 rintro e w2 ⟨vr,vn,vm,vh,rfl,hE,h⟩
 replace S:=S.ext h
 have hA:=zHP (S.now) hE (zJ zAP h hR)
 clear hE hR h
 go_wp2_with fail
 refine (zIM _ _ _).mono ?_
 rintro e w2 ⟨rfl,h⟩
 replace S:=S.ext h
 replace hA:=hA.ext h
 clear h
 go_wp2_with fail
 refine (has_law _ _ _ _ _ _ (exB [zJD,rep2]) 9 30 1 0 2 hA (S.now.2.2) zV ex12_has).mono ?_
 rintro e w2 ⟨rfl,h⟩
 replace S:=S.ext h
 clear hA h
 go_wp2_with fail
 have hR:Sl zAT 5 w2 (.slice none 0 0) []:=zCY _ _ _
 refine (zBB _ _ _ _).mono ?_
 rintro e w2 ⟨vr,vn,vm,vh,rfl,hE,h⟩
 replace S:=S.ext h
 have hA:=zHP (S.now) hE (zJ zAP h hR)
 clear hE hR h
 go_wp2_with fail
 refine (counts_built _ _ _ _ _ _ _ (exB []) [] 0 hA (S.now.2.2) (zCY _ _ _) zV).mono ?_
 rintro e w2 ⟨rfl,h⟩
 replace S:=S.ext h
 clear hA h
 rw [ex0_tell.1,ex0_tell.2]
 go_wp2_with fail
 replace S:=S.new #[.int .i64 5,.int .i64 9] 43
 generalize w2.heap.size=s1 at *
 generalize w2.alloc _=w2 at *
 have hR:Sl zAT 5 w2 (.slice none 0 0) []:=zCY _ _ _
 refine (zBB _ _ _ _).mono ?_
 rintro e w2 ⟨vr,vn,vm,vh,rfl,hE,h⟩
 replace S:=S.ext h
 have hA:=zHP (S.now) hE (zJ zAP h hR)
 clear hE hR h
 go_wp2_with fail
 refine (zIM _ _ _).mono ?_
 rintro e w2 ⟨rfl,h⟩
 replace S:=S.ext h
 replace hA:=hA.ext h
 clear h
 go_wp2_with fail
 refine (known_built _ _ _ _ _ _ (exB []) 6 30 2 hA (S.now.2.2) zV).mono ?_
 rintro e w2 ⟨rfl,h⟩
 replace S:=S.ext h
 clear hA h
 rw [ex0_known.1,ex0_known.2]
 go_wp2_with fail
 refine (zHU _).mono ?_
 rintro e w2 ⟨rfl,h⟩
 replace S:=S.ext h
 clear h
 go_wp2_with fail
 replace S:=S.new #[.int .i64 1,.int .i64 9,.int .i64 40,.int .i64 1,.int .u8 1] 37
 generalize w2.heap.size=r2 at *
 generalize w2.alloc _=w2 at *
 have hR:Sl zAT 5 w2 (.slice (some ⟨r2,0,none⟩) 1 1) [zJD]:=zQV (S.get 0 rfl) zV zV zV zV zMI
 refine (zBB _ _ _ _).mono ?_
 rintro e w2 ⟨vr,vn,vm,vh,rfl,hE,h⟩
 replace S:=S.ext h
 have hA:=zHP (S.now) hE (zJ zAP h hR)
 clear hE hR h
 go_wp2_with fail
 refine (signed_built _ _ _ _ _ _ (exB [zJD]) hA (S.now.2.2)).mono ?_
 rintro e w2 ⟨u,rfl,hs,h⟩
 clear hA
 rw [(signedL_of ex1).trans ex1_left] at hs
 rw [ex1]
 obtain ⟨a5,c5,rfl,-⟩:=zD hs
 replace S:=(S.ext h).and (fun _ k=>zJ zGK k hs)
 clear hs h
 go_wp2_with fail
 refine (zHU _).mono ?_
 rintro e w2 ⟨rfl,h⟩
 replace S:=S.ext h
 clear h
 go_wp2_with fail
 refine (third_law _).mono ?_
 rintro e w2 ⟨rfl,h⟩
 replace S:=S.ext h
 clear h
 go_wp2_with fail
 replace S:=S.new #[.int .i64 1,.int .i64 9,.int .i64 40,.int .i64 1,.int .u8 1,.int .i64 3,.int .i64 9,.int .i64 40,.int .i64 1,.int .u8 3] 37
 generalize w2.heap.size=r3 at *
 generalize w2.alloc _=w2 at *
 have hR:Sl zAT 5 w2 (.slice (some ⟨r3,0,none⟩) 2 2) [zJD,zQY]:=reps_two (S.get 0 rfl) zV zV zV zV zMI zV zV zV zV zMI
 refine (zBB _ _ _ _).mono ?_
 rintro e w2 ⟨vr,vn,vm,vh,rfl,hE,h⟩
 replace S:=S.ext h
 have hA:=zHP (S.now.2) hE (zJ zAP h hR)
 clear hE hR h
 go_wp2_with fail
 refine (clash_built _ _ _ _ _ _ (exB [zJD,zQY]) hA (S.now.2.2.2)).mono ?_
 rintro e w2 ⟨u,rfl,hs,h⟩
 clear hA
 rw [ex13_clash] at hs
 rw [ex13]
 obtain ⟨a6,c6,rfl,-⟩:=zD hs
 replace S:=(S.ext h).and (fun _ k=>zJ zN k hs)
 clear hs h
 go_wp2_with fail
 refine (fourth_law _).mono ?_
 rintro e w2 ⟨rfl,h⟩
 replace S:=S.ext h
 clear h
 go_wp2_with fail
 replace S:=S.new #[.int .i64 4,.int .i64 4,.int .i64 30,.int .i64 2,.int .u8 1] 37
 generalize w2.heap.size=r4 at *
 generalize w2.alloc _=w2 at *
 have hR:Sl zAT 5 w2 (.slice (some ⟨r4,0,none⟩) 1 1) [rep4]:=zQV (S.get 0 rfl) zV zV zV zV zMI
 refine (zBB _ _ _ _).mono ?_
 rintro e w2 ⟨vr,vn,vm,vh,rfl,hE,h⟩
 replace S:=S.ext h
 have hA:=zHP (S.now.2.2) hE (zJ zAP h hR)
 clear hE hR h
 go_wp2_with fail
 refine (withdraw_built _ _ _ _ _ _ (exB [rep4]) hA (S.now.2.2.2.2)).mono ?_
 rintro e w2 ⟨u,rfl,hs,h⟩
 clear hA
 rw [ex4_withdraw] at hs
 rw [ex4]
 obtain ⟨a7,c7,rfl,-⟩:=zD hs
 replace S:=(S.ext h).and (fun _ k=>zJ zN k hs)
 clear hs h
 go_wp2
 have k0:=zH (show zK w2 _ 0 _ from (S.get 3 rfl).cell 0 _ rfl)
 have k1:=zH (show zK w2 _ 1 _ from (S.get 3 rfl).cell 1 _ rfl)
 have HS:=zE S
 clear S
 refine zM 46 (by kernel_rfl) (by kernel_rfl) ?_
 simp only [List.append_eq,List.cons_append,List.nil_append,List.take_succ_cons,List.take_zero]
 iterate 4 (apply gx_;focus (intro vs xq hd;(try simp [hq_] at hd);simp only [pf_];go_simp;exact ⟨br_,rfl⟩))
 refine zT ?_
 apply Exists.intro
 refine ⟨fun vs xq hd=>?_,?_⟩
 ·(try simp [hq_] at hd)
  simp only [pf_]
  go_simp
  refine (zHQ _ _ _).mono ?_
  rintro e w9 ⟨rfl,hb9⟩
  exact ⟨rfl,hb9⟩
 iterate 16 (apply gx_;focus (intro vs xq hd;(try simp [hq_] at hd);simp only [pf_];go_simp;exact ⟨br_,rfl⟩))
 refine zL (zPP 1 #[.int .i64 102] 3) zPP.stays ?_ ?_
 ·intro vs xq hd
  (try simp [hq_] at hd)
  simp only [pf_]
  go_simp
  exact ⟨zB _ _,_,rfl,Lay.new _ _ _⟩
 refine zL (NewSl zJU 1 1 [[102]]) (NewSl.stays zGK) ?_ ?_
 ·intro vs xq hd
  (try simp [hq_] at hd)
  simp only [pf_]
  obtain ⟨⟨g,e,L⟩,e2⟩:=hd
  simp only [e,e2]
  go_simp
  exact ⟨zB _ _,_,rfl,lists_one (Lay.new _ _ _) (L.ext (zB _ _))⟩
 refine zT ?_
 apply Exists.intro
 refine ⟨fun vs xq hd=>?_,?_⟩
 ·(try simp [hq_] at hd)
  simp only [pf_]
  obtain ⟨e0,⟨g,e1,L⟩,e2⟩:=hd
  simp only [e0,e1,e2]
  go_simp
  refine (sameLists08 _ _ _ [[102]] (HS.out.ever _ (zG _ xq)).2.2.1 L).mono ?_
  rintro e w9 ⟨rfl,hb9⟩
  exact ⟨rfl,hb9⟩
 iterate 17 (apply gx_;focus (intro vs xq hd;(try simp [hq_] at hd);simp only [pf_];go_simp;exact ⟨br_,rfl⟩))
 refine zL (zPP 1 #[.int .i64 4] 3) zPP.stays ?_ ?_
 ·intro vs xq hd
  (try simp [hq_] at hd)
  simp only [pf_]
  go_simp
  exact ⟨zB _ _,_,rfl,Lay.new _ _ _⟩
 refine zL (zPP 1 #[.int .i64 4] 3) zPP.stays ?_ ?_
 ·intro vs xq hd
  (try simp [hq_] at hd)
  simp only [pf_]
  obtain ⟨⟨g,e,L⟩,e2⟩:=hd
  simp only [e,e2]
  go_simp
  refine (zRI _ _ _ _).mono ?_
  rintro e w9 ⟨rfl,rfl⟩
  exact ⟨_,rfl,br_,g,rfl,L⟩
 refine zT ?_
 apply Exists.intro
 refine ⟨fun vs xq hd=>?_,?_⟩
 ·(try simp [hq_] at hd)
  simp only [pf_]
  obtain ⟨e0,⟨g,e1,L⟩,e2⟩:=hd
  simp only [e0,e1,e2]
  go_simp
  refine (zKT _ _ _ [4] (HS.out.ever _ (zG _ xq)).1 (zMW L zV)).mono ?_
  rintro e w9 ⟨rfl,hb9⟩
  exact ⟨rfl,hb9⟩
 iterate 2 (apply gx_;focus (intro vs xq hd;(try simp [hq_] at hd);simp only [pf_];go_simp;exact ⟨br_,rfl⟩))
 refine zQ (by simp only [List.length_append,List.length_cons,List.length_nil]) (fun vs xq hd=>?_)
 simp [zW,zAI,List.range,List.range.loop] at hd
 simp only [pf_]
 have h45:=hd.2.2.2.2.2.2.2.2.2.2.2.2.2.2.2.2.2.2.2.2.2.2.2.2.2.2.2.2.2.2.2.2.2.2.2.2.2.2.2.2.2.2.2.2.2
 clear hd
 simp only [h45]
 have S:=HS.out.ext (zG w2 xq)
 clear HS k0 k1 h45
 generalize w2.later xq=w2 at *
 have hs0:=S.held.below.size
 go_wp2_with fail
 refine (machines_lawK _ _ _ _).mono ?_
 rintro e w2 ⟨vr1,gn1,gm1,gh1,rfl,E1,hn1,h⟩
 replace S:=S.ext h
 have hs1:=S.held.below.size
 clear h
 go_wp2_with fail
 refine (machines_lawK _ _ _ _).mono ?_
 rintro e w3 ⟨vr2,gn2,gm2,gh2,rfl,E2,hn2,h⟩
 have l1:=E1.hs.lt
 have l2:=E1.notes.lt
 have d1:gh2≠gh1:=by omega
 have d2:gn1≠gn2:=by omega
 have f1:w.heap.size≤gh1:=by omega
 have f2:w.heap.size≤gn2:=by omega
 replace S:=((S.ext h).and (fun _ k=>(E1.ext h).ext k)).and (fun _ k=>E2.ext k)
 clear h l1 l2 hs0 hs1 hn1 hn2 E1 E2
 have HD:=zE (And.intro (And.intro d1 d2) (And.intro f1 f2))
 clear d1 d2 f1 f2
 obtain ⟨gr1,kr1,kr2,kr3,kr4,kr5,rfl,-⟩:=S.now.2.1.reg
 obtain ⟨gr2,kr6,kr7,kr8,kr9,kr10,rfl,-⟩:=S.now.1.reg
 go_upto_region 11 with fail
 replace S:=(S.new #[.slice (some ⟨gr1,0,none⟩) 7 7,.slice (some ⟨gn1,0,none⟩) 2 2,.int .i64 10,.slice (some ⟨gm1,0,none⟩) 3 3,.slice (some ⟨gh1,0,none⟩) 1 1,.slice none 0 0] 34).new #[.slice (some ⟨gr2,0,none⟩) 7 7,.slice (some ⟨gn2,0,none⟩) 2 2,.int .i64 10,.slice (some ⟨gm2,0,none⟩) 3 3,.slice (some ⟨gh2,0,none⟩) 1 1,.slice none 0 0] 34
 rw [World.size_alloc] at S
 generalize w3.heap.size=x1 at *
 generalize (w3.alloc _).alloc _=w3 at *
 have c1:=S.now.2.1.hs.cell 1 _ rfl
 have fr1:=S.now.2.1.hs.frozen 1
 have lt1:=S.now.2.1.hs.lt
 obtain ⟨l0,⟨q0,q1,q2,q3,q4,q5⟩,-⟩:=(S.get 1 rfl).q6
 go_upto_region 12 with fail
 clear c1 fr1 lt1 l0 q0 q1 q2 q3 q4 q5
 have L1:=S.now.2.1.hs
 have A1:ExL (w3.setCell ⟨gh1,1,none⟩ (.int .i64 2)) (.slice (some ⟨gr2,0,none⟩) 7 7) gn2 gm2 gh2:=⟨S.now.1.reg.set L1 _ _ (by decide) (by decide) (by decide),lay_oth L1 S.now.1.notes (by decide) _ _,lay_oth L1 S.now.1.ms (by decide) _ _,zFX S.now.1.hs HD.out.1.1 _ _⟩
 have A2:RegL (w3.setCell ⟨gh1,1,none⟩ (.int .i64 2)) (.slice (some ⟨gr1,0,none⟩) 7 7):=S.now.2.1.reg.set L1 _ _ (by decide) (by decide) (by decide)
 have A3:=lay_oth L1 S.now.2.1.notes (by decide) 1 (.int .i64 2)
 have A4:=lay_oth L1 S.now.2.1.ms (by decide) 1 (.int .i64 2)
 have A5:=lay_set L1 1 (.int .i64 2)
 have B1:=lay_oth L1 (S.get 1 rfl) (by decide) 1 (.int .i64 2)
 have B2:=lay_oth L1 (S.get 0 rfl) (by decide) 1 (.int .i64 2)
 have hb:=zI (j:=1) (u:=.int .i64 2) HD.out.2.1 S.held.below
 clear L1 S
 generalize w3.setCell ⟨gh1,1,none⟩ (.int .i64 2)=w3 at *
 obtain ⟨l0,⟨q0,q1,q2,q3,q4,q5⟩,-⟩:=B2.q6
 have c1:=A1.notes.cell 0 _ rfl
 have fr1:=A1.notes.frozen 0
 have lt1:=A1.notes.lt
 go_upto_region 13 with fail
 clear c1 fr1 lt1 l0 q0 q1 q2 q3 q4 q5
 have C:=lay_set A1.notes 0 (.int .i64 0)
 have T1:=A1.reg.set A1.notes 0 (.int .i64 0) (by decide) (by decide) (by decide)
 have T3:=lay_oth A1.notes A1.ms (by decide) 0 (.int .i64 0)
 have T4:=lay_oth A1.notes A1.hs (by decide) 0 (.int .i64 0)
 replace A2:=A2.set A1.notes 0 (.int .i64 0) (by decide) (by decide) (by decide)
 replace A3:=zFX A3 HD.out.1.2 0 (.int .i64 0)
 replace A4:=lay_oth A1.notes A4 (by decide) 0 (.int .i64 0)
 replace A5:=lay_oth A1.notes A5 (by decide) 0 (.int .i64 0)
 replace B1:=lay_oth A1.notes B1 (by decide) 0 (.int .i64 0)
 replace B2:=lay_oth A1.notes B2 (by decide) 0 (.int .i64 0)
 replace hb:=zI (j:=0) (u:=.int .i64 0) HD.out.2.2 hb
 clear A1 HD
 generalize w3.setCell ⟨gn2,0,none⟩ (.int .i64 0)=w2 at *
 have S:=sta_two hb HT.out B2 B1
 clear hb B1 B2
 have hO:=odd_arg S.now A2.at A3 A4 A5
 have hQ:=torn_arg S.now T1.at C T3 T4
 replace S:=(S.and (fun _ k=>hO.ext k)).and (fun _ k=>hQ.ext k)
 clear hO hQ A2 A3 A4 A5 T1 C T3 T4
 go_wp2_with fail
 refine (fourth_law _).mono ?_
 rintro e w2 ⟨rfl,h⟩
 replace S:=S.ext h
 clear h
 go_wp2_with fail
 replace S:=S.new #[.int .i64 4,.int .i64 4,.int .i64 30,.int .i64 2,.int .u8 1] 37
 generalize w2.heap.size=r5 at *
 generalize w2.alloc _=w2 at *
 have hR:Sl zAT 5 w2 (.slice (some ⟨r5,0,none⟩) 1 1) [rep4]:=zQV (S.get 0 rfl) zV zV zV zV zMI
 refine (zBB _ _ _ _).mono ?_
 rintro e w2 ⟨vr,vn,vm,vh,rfl,hE,h⟩
 replace S:=S.ext h
 have hA:=zHP (S.now.2.2) hE (zJ zAP h hR)
 clear hE hR h
 go_wp2_with fail
 refine (zIM _ _ _).mono ?_
 rintro e w2 ⟨rfl,h⟩
 replace S:=S.ext h
 replace hA:=hA.ext h
 clear h
 go_wp2_with fail
 refine (zKB _ _ _ _ _ _ (exB [rep4]) 4 30 1 hA (S.now.2.2.2.2) zV).mono ?_
 rintro e w2 ⟨rfl,h⟩
 replace S:=S.ext h
 clear hA h
 rw [ex_e1]
 generalize zBE (exB [rep4]) 4 30 1=z at *
 go_wp2_with fail
 refine (fourth_law _).mono ?_
 rintro e w2 ⟨rfl,h⟩
 replace S:=S.ext h
 clear h
 go_wp2_with fail
 replace S:=S.new #[.int .i64 4,.int .i64 4,.int .i64 30,.int .i64 2,.int .u8 1] 37
 generalize w2.heap.size=r6 at *
 generalize w2.alloc _=w2 at *
 have hR:Sl zAT 5 w2 (.slice (some ⟨r6,0,none⟩) 1 1) [rep4]:=zQV (S.get 0 rfl) zV zV zV zV zMI
 refine (zBB _ _ _ _).mono ?_
 rintro e w2 ⟨vr,vn,vm,vh,rfl,hE,h⟩
 replace S:=S.ext h
 have hA:=zHP (S.now.2.2) hE (zJ zAP h hR)
 clear hE hR h
 go_wp2_with fail
 refine (zIM _ _ _).mono ?_
 rintro e w2 ⟨rfl,h⟩
 replace S:=S.ext h
 replace hA:=hA.ext h
 clear h
 go_wp2_with fail
 refine (zKB _ _ _ _ _ _ (exB [rep4]) 5 30 1 hA (S.now.2.2.2.2) zV).mono ?_
 rintro e w2 ⟨rfl,h⟩
 replace S:=S.ext h
 clear hA h
 rw [ex_e2]
 generalize zBE (exB [rep4]) 5 30 1=z at *
 go_wp2_with fail
 refine (fourth_law _).mono ?_
 rintro e w2 ⟨rfl,h⟩
 replace S:=S.ext h
 clear h
 go_wp2_with fail
 replace S:=S.new #[.int .i64 4,.int .i64 4,.int .i64 30,.int .i64 2,.int .u8 1] 37
 generalize w2.heap.size=r7 at *
 generalize w2.alloc _=w2 at *
 have hR:Sl zAT 5 w2 (.slice (some ⟨r7,0,none⟩) 1 1) [rep4]:=zQV (S.get 0 rfl) zV zV zV zV zMI
 refine (zBB _ _ _ _).mono ?_
 rintro e w2 ⟨vr,vn,vm,vh,rfl,hE,h⟩
 replace S:=S.ext h
 have hA:=zHP (S.now.2.2) hE (zJ zAP h hR)
 clear hE hR h
 go_wp2_with fail
 refine (zIM _ _ _).mono ?_
 rintro e w2 ⟨rfl,h⟩
 replace S:=S.ext h
 replace hA:=hA.ext h
 clear h
 go_wp2_with fail
 refine (zKB _ _ _ _ _ _ (exB [rep4]) 4 10 1 hA (S.now.2.2.2.2) zV).mono ?_
 rintro e w2 ⟨rfl,h⟩
 replace S:=S.ext h
 clear hA h
 rw [ex_e3]
 generalize zBE (exB [rep4]) 4 10 1=z at *
 go_wp2_with fail
 refine (zHU _).mono ?_
 rintro e w2 ⟨rfl,h⟩
 replace S:=S.ext h
 clear h
 go_wp2_with fail
 replace S:=S.new #[.int .i64 1,.int .i64 9,.int .i64 40,.int .i64 1,.int .u8 1] 37
 generalize w2.heap.size=r8 at *
 generalize w2.alloc _=w2 at *
 have hR:Sl zAT 5 w2 (.slice (some ⟨r8,0,none⟩) 1 1) [zJD]:=zQV (S.get 0 rfl) zV zV zV zV zMI
 refine (zBB _ _ _ _).mono ?_
 rintro e w2 ⟨vr,vn,vm,vh,rfl,hE,h⟩
 replace S:=S.ext h
 have hA:=zHP (S.now.2.2) hE (zJ zAP h hR)
 clear hE hR h
 go_wp2_with fail
 refine (counts_built _ _ _ _ _ _ _ (exB [zJD]) [] 0 hA (S.now.2.2.2.2) (zCY _ _ _) zV).mono ?_
 rintro e w2 ⟨rfl,h⟩
 replace S:=S.ext h
 clear hA h
 rw [ex_e4]
 generalize zQQ (exB [zJD]) [] 0=z at *
 go_wp2_with fail
 have hR:Sl zAT 5 w2 (.slice none 0 0) []:=zCY _ _ _
 refine (zBB _ _ _ _).mono ?_
 rintro e w2 ⟨vr,vn,vm,vh,rfl,hE,h⟩
 replace S:=S.ext h
 have hA:=zHP (S.now.2.2) hE (zJ zAP h hR)
 clear hE hR h
 go_wp2_with fail
 replace S:=S.new #[.int .i64 101] 3
 replace hA:=hA.ext (zB w2 (.cells #[.int .i64 101] 3))
 generalize w2.heap.size=g2 at *
 generalize w2.alloc _=w2 at *
 refine (zRI _ _ _ _).mono ?_
 rintro e w2 ⟨rfl,rfl⟩
 go_wp2_with fail
 refine (counts_built _ _ _ _ _ _ _ (exB []) [101] 0 hA (S.now.2.2.2.2) (zMW (S.get 0 rfl) zV) zV).mono ?_
 rintro e w2 ⟨rfl,h⟩
 replace S:=S.ext h
 clear hA h
 rw [ex_e5]
 generalize zQQ (exB []) [101] 0=z at *
 go_wp2_with fail
 have hR:Sl zAT 5 w2 (.slice none 0 0) []:=zCY _ _ _
 refine (zBB _ _ _ _).mono ?_
 rintro e w2 ⟨vr,vn,vm,vh,rfl,hE,h⟩
 replace S:=S.ext h
 have hA:=zHP (S.now.2.2) hE (zJ zAP h hR)
 clear hE hR h
 go_wp2_with fail
 refine (counts_built _ _ _ _ _ _ _ (exB []) [] 1 hA (S.now.2.2.2.2) (zCY _ _ _) zV).mono ?_
 rintro e w2 ⟨rfl,h⟩
 replace S:=S.ext h
 clear hA h
 rw [ex_e6]
 generalize zQQ (exB []) [] 1=z at *
 go_wp2_with fail
 replace S:=S.new #[.int .i64 z.lo,.int .i64 z.hi] 43
 generalize w2.heap.size=s2 at *
 generalize w2.alloc _=w2 at *
 refine (fourth_law _).mono ?_
 rintro e w2 ⟨rfl,h⟩
 replace S:=S.ext h
 clear h
 go_wp2_with fail
 replace S:=S.new #[.int .i64 4,.int .i64 4,.int .i64 30,.int .i64 2,.int .u8 1] 37
 generalize w2.heap.size=r9 at *
 generalize w2.alloc _=w2 at *
 have hR:Sl zAT 5 w2 (.slice (some ⟨r9,0,none⟩) 1 1) [rep4]:=zQV (S.get 0 rfl) zV zV zV zV zMI
 refine (zBB _ _ _ _).mono ?_
 rintro e w2 ⟨vr,vn,vm,vh,rfl,hE,h⟩
 replace S:=S.ext h
 have hA:=zHP (S.now.2.2) hE (zJ zAP h hR)
 clear hE hR h
 go_wp2_with fail
 refine (until_built _ _ _ _ _ _ (exB [rep4]) 0 hA (S.now.2.2.2.2) zV).mono ?_
 rintro e w2 ⟨rfl,h⟩
 replace S:=S.ext h
 clear hA h
 rw [ex_e7]
 generalize untS (exB [rep4]) 0=z at *
 go_wp2_with fail
 replace S:=S.new #[.int .i64 z.lo,.int .i64 z.hi] 43
 generalize w2.heap.size=s3 at *
 generalize w2.alloc _=w2 at *
 refine (fourth_law _).mono ?_
 rintro e w2 ⟨rfl,h⟩
 replace S:=S.ext h
 clear h
 go_wp2_with fail
 replace S:=S.new #[.int .i64 4,.int .i64 4,.int .i64 30,.int .i64 2,.int .u8 1] 37
 generalize w2.heap.size=r10 at *
 generalize w2.alloc _=w2 at *
 have hR:Sl zAT 5 w2 (.slice (some ⟨r10,0,none⟩) 1 1) [rep4]:=zQV (S.get 0 rfl) zV zV zV zV zMI
 refine (zBB _ _ _ _).mono ?_
 rintro e w2 ⟨vr,vn,vm,vh,rfl,hE,h⟩
 replace S:=S.ext h
 have hA:=zHP (S.now.2.2) hE (zJ zAP h hR)
 clear hE hR h
 go_wp2_with fail
 refine (settled_built _ _ _ _ _ _ (exB [rep4]) hA (S.now.2.2.2.2)).mono ?_
 rintro e w2 ⟨u,rfl,hs,h⟩
 obtain ⟨u1,u2,rfl,-⟩:=zD hs
 replace S:=S.ext h
 clear hA hs h
 rw [ex_e8]
 generalize (setL (exB [rep4])).length=z at *
 go_wp2_with fail
 refine (zHU _).mono ?_
 rintro e w2 ⟨rfl,h⟩
 replace S:=S.ext h
 clear h
 go_wp2_with fail
 replace S:=S.new #[.int .i64 1,.int .i64 9,.int .i64 40,.int .i64 1,.int .u8 1] 37
 generalize w2.heap.size=r11 at *
 generalize w2.alloc _=w2 at *
 have hR:Sl zAT 5 w2 (.slice (some ⟨r11,0,none⟩) 1 1) [zJD]:=zQV (S.get 0 rfl) zV zV zV zV zMI
 refine (zBB _ _ _ _).mono ?_
 rintro e w2 ⟨vr,vn,vm,vh,rfl,hE,h⟩
 replace S:=S.ext h
 have hA:=zHP (S.now.2.2) hE (zJ zAP h hR)
 clear hE hR h
 go_wp2_with fail
 refine (zHU _).mono ?_
 rintro e w2 ⟨rfl,h⟩
 replace S:=S.ext h
 replace hA:=hA.ext h
 clear h
 go_wp2_with fail
 refine (add_built _ _ _ _ _ _ (exB [zJD]) zJD hA (ex_tiny _ (by decide)) ⟨zV,zV,zV,zV,zMI⟩).mono ?_
 rintro e w2 ⟨h,⟨hc,rfl⟩ | ⟨hc,-⟩⟩
 case inr=>exact absurd (ex_e9.symm.trans hc) (by decide)
 replace S:=S.ext h
 clear hA h hc
 rw [ex_e9]
 obtain ⟨l0,⟨q0,q1,q2,q3,q4,q5⟩,-⟩:=(S.get 11 rfl).q6
 go_wp2_with fail
 clear l0 q0 q1 q2 q3 q4 q5
 replace S:=S.new #[.slice none 0 0,.slice none 0 0,.int .i64 0,.slice none 0 0,.slice none 0 0,.slice none 0 0] 34
 generalize w2.heap.size=x5 at *
 generalize w2.alloc _=w2 at *
 refine (zLT _ _ _ _ _ _ oddB 4 S.now.2.1 (S.now.2.2.2.2)).mono ?_
 rintro e w2 ⟨u,rfl,hs,h⟩
 obtain ⟨u1,u2,rfl,-⟩:=zD hs
 replace S:=S.ext h
 clear hs h
 rw [odd_ask]
 generalize (zBA oddB 4).length=z at *
 obtain ⟨l0,⟨q0,q1,q2,q3,q4,q5⟩,-⟩:=(S.get 11 rfl).q6
 go_wp2_with fail
 clear l0 q0 q1 q2 q3 q4 q5
 refine (signed_built _ _ _ _ _ _ tornB S.now.1 (S.now.2.2.2.2)).mono ?_
 rintro e w2 ⟨u,rfl,hs,h⟩
 obtain ⟨u1,u2,rfl,-⟩:=zD hs
 replace S:=S.ext h
 clear hs h
 rw [torn_code]
 generalize (zMG tornB).length=z at *
 obtain ⟨l0,⟨q0,q1,q2,q3,q4,q5⟩,-⟩:=(S.get 12 rfl).q6
 go_wp2_with fail
 clear l0 q0 q1 q2 q3 q4 q5
 refine (zET _ _ _ _ _ _ oddB S.now.2.1).mono ?_
 rintro e w2 ⟨rfl,h⟩
 replace S:=S.ext h
 clear h
 rw [odd_code]
 go_wp2
 go_ret
 exact ⟨rfl,S.held.below⟩
end Go.Proofs.YtjleiiinibdepaaGreatDoor
