/- Lemmas. -/
import Derived.Test.YtipaopbmklbmnaaGreatDoorT44
import Derived.Test.YtipaopbmklbmnaaGreatDoorT48
set_option linter.all false
set_option maxRecDepth 100000
set_option maxHeartbeats 0
namespace Go.Proofs.YtipaopbmklbmnaaGreatDoor
section
open Tryz
open Go.RowKit Go.Shelf
attribute [local go_sem] zAE Oper.grows Oper.growUpon Oper.wild Oper.wildUpon
theorem ex_at {w:World} {vr vn vm vh vs:Value} {rs:List Report} (hE:ExAt w vr vn vm vh) (hr:Sl zAT 5 w vs rs) : BuiltAt w vr vn vm vh vs (exB rs):=⟨hE.reg,hE.notes,hE.ms,hE.hs,hr,(zV:I64 10)⟩
theorem zHP {w:World} {vr vn vm vh vs:Value} {rs:List Report} (hT:Tables w) (hE:ExAt w vr vn vm vh) (hr:Sl zAT 5 w vs rs) : BuiltArg w vr vn vm vh vs (exB rs) :=
 ⟨⟨⟨hE.reg,hE.rcap,hT.1⟩,hE.notes,hE.ncap⟩,ex_at hE hr,hE.hcap,hT.2.1⟩
theorem ex_tiny (rs:List Report) (h:rs.length<=10) : Tiny (exB rs):=⟨⟨(show Small exR by unfold Small;decide +kernel),(by decide:exN.length<=16)⟩,(by decide:([4,6,9] : List Int).length<=20),(by decide:([⟨30,1,5,9⟩] : List Heap).length<=8),Nat.le_trans h (by decide)⟩
theorem zMW {w:World} {g:Nat} {t:TypeId} {a:Int} (L:Lay w g #[.int .i64 a] t) (ha:I64 a) : Sl zAM 1 w (.slice (some ⟨g,0,none⟩) 1 1) [a]:=zIB L rfl (by omega) fun k hk h=>match k,hk with
  | 0,_=>⟨h _ _ rfl,ha⟩
theorem want_lay {w:World} {g:Nat} {t:TypeId} (L:Lay w g #[.int .i64 30,.int .i64 1,.int .i64 0,.int .i64 2,.int .i64 30,.int .i64 2,.int .i64 3,.int .i64 7,.int .i64 40,.int .i64 1,.int .i64 0,.int .i64 2,.int .i64 50,.int .i64 1,.int .i64 1,.int .i64 2] t) :
  Sl AtHold 4 w (.slice (some ⟨g,0,none⟩) 4 4) [⟨30,1,0,2⟩,⟨30,2,3,7⟩,⟨40,1,0,2⟩,⟨50,1,1,2⟩]:=zIB L rfl (by omega) fun k hk h=>match k,hk with
  | 0,_=>⟨⟨h _ _ rfl,h _ _ rfl,h _ _ rfl,h _ _ rfl⟩,(zV:I64 30),(zV:I64 1),(zV:I64 0),(zV:I64 2)⟩
  | 1,_=>⟨⟨h _ _ rfl,h _ _ rfl,h _ _ rfl,h _ _ rfl⟩,(zV:I64 30),(zV:I64 2),(zV:I64 3),(zV:I64 7)⟩
  | 2,_=>⟨⟨h _ _ rfl,h _ _ rfl,h _ _ rfl,h _ _ rfl⟩,(zV:I64 40),(zV:I64 1),(zV:I64 0),(zV:I64 2)⟩
  | 3,_=>⟨⟨h _ _ rfl,h _ _ rfl,h _ _ rfl,h _ _ rfl⟩,(zV:I64 50),(zV:I64 1),(zV:I64 1),(zV:I64 2)⟩
theorem lists_lay {w:World} {g g':Nat} {t t':TypeId} (L:Lay w g #[.slice none 0 0,.slice (some ⟨g',0,none⟩) 1 1] t) (L':Lay w g' #[.int .i64 102] t') : Sl zJU 1 w (.slice (some ⟨g,0,none⟩) 2 2) [[],[102]]:=zIB L rfl (by omega) fun k hk h=>match k,hk with
  | 0,_=>⟨_,h _ _ rfl,zCY _ _ _⟩
  | 1,_=>⟨_,h _ _ rfl,zMW L' zV⟩
theorem known_lay {w:World} {g:Nat} {t:TypeId} (L:Lay w g #[.int .u8 2] t) : Sl AtU8 1 w (.slice (some ⟨g,0,none⟩) 1 1) [2]:=zIB L rfl (by omega) fun k hk h=>match k,hk with
  | 0,_=>⟨h _ _ rfl,(zMI:U8 2)⟩
def NewSl {α:Type} (E:World->Nat->Nat->α->Prop) (sz n:Nat) (xs:List α) (v:Value) (w:World) : Prop:=∃ g,v = .slice (some ⟨g,0,none⟩) n n/\Sl E sz w (.slice (some ⟨g,0,none⟩) n n) xs
theorem NewSl.stays {α:Type} {E:World->Nat->Nat->α->Prop} (hE:zGG E) {sz n:Nat} {xs:List α} (v:Value) (w w':World) (hb:Below w.heap.size w w') (h:NewSl E sz n xs v w) : NewSl E sz n xs v w':=by
 obtain ⟨g,h1,h2⟩:=h;exact ⟨g,h1,zJ hE hb h2⟩
theorem signedL_of {b:Built} (h:zF b=0) : zMG b=zAQ b:=by unfold zMG;rw [if_pos h]
theorem has_law (w:World) (vr vn vm vh vs:Value) (b:Built) (m d l lo hi:Int) (hA:BuiltArg w vr vn vm vh vs b) (hK:KindsAt w) (hd:I64 d) (h:zAS b m d l=0/\zBE b m d l=⟨lo,hi⟩) :
  Calls prog 49 #[.agg #[vr,vn,.int .i64 b.of,vm,vh,vs],.int .i64 m,.agg #[.int .i64 d,.int .i64 l],.int .i64 lo,.int .i64 hi] w fun e w'=>e = .returned (.bool true)/\Below w.heap.size w w':=by
 have H:=((HeldB.nil w).new #[vr,vn,.int .i64 b.of,vm,vh,vs] 32).new #[.int .i64 d,.int .i64 l] 45;rw [World.size_alloc] at H;obtain ⟨l0,⟨q0,q1,q2,q3,q4,q5⟩,-⟩:=(H.get 1 rfl).q6;obtain ⟨l1,⟨r0,r1⟩,-⟩:=(H.get 0 rfl).q2;go_enter func49,ntmps49;go_wp2_with fail;clear q0 q1 q2 q3 q4 q5 r0 r1;generalize (w.alloc _).alloc _=w1 at *;refine (zKB _ _ _ _ _ _ b m d l (hA.ext H.below) (hK.ext H.below) hd).mono ?_;rintro e w2 ⟨rfl,h2⟩;replace H:=H.ext h2;rw [h.1,h.2];go_wp2;replace H:=H.new #[.int .i64 lo,.int .i64 hi] 40;generalize hg:w2.heap.size=g at *;generalize w2.alloc _=w3 at *;have e0:=zH (show zK w3 _ 0 _ from (H.get 0 rfl).cell 0 _ rfl);have e1:=zH (show zK w3 _ 1 _ from (H.get 0 rfl).cell 1 _ rfl);refine zAR (by kernel_rfl) (by kernel_rfl) (no_implicit_lambda% ?_);repeat ((with_reducible refine wpQuiet_step (fun K hK=>?_));go_simp;first | ((with_reducible refine hK _ ?_);clear hK K) | (refine hK _ (no_implicit_lambda% ?_);clear hK K) | (apply Exists.intro;(with_reducible refine ⟨fun _=>?_,hK _ ?_⟩);((go_at_call 29;exact Calls.quiet_later (zHQ _ _ _)));clear hK K))
 with_reducible refine wpQuiet_nil ?_
 intro _ hw9;obtain ⟨xq,hw8⟩:=hw9;subst hw8;clear e0 e1;go_wp2;go_ret;exact ⟨rfl,zA H.below (zG _ _)⟩
def zPJ (rs:List Report) (v:Value) (w:World) : Prop:=∃ vr vn vm vh vs,v = .agg #[vr,vn,.int .i64 10,vm,vh,vs]/\BuiltArg w vr vn vm vh vs (exB rs)
theorem zPJ.stays {rs:List Report} (v:Value) (w w':World) (hb:Below w.heap.size w w') (h:zPJ rs v w) : zPJ rs v w':=by
 obtain ⟨vr,vn,vm,vh,vs,h1,h2⟩:=h;exact ⟨vr,vn,vm,vh,vs,h1,h2.ext hb⟩
theorem alive_law (w:World) (hT:Tables w) : Calls prog 7 #[] w fun e w'=>e = .returned (.bool true)/\Below w.heap.size w w':=by
 have S:=Sta.of (tables_ever hT);clear hT;go_enter func7,ntmps7;go_wp2_with fail;have hR:Sl zAT 5 w (.slice none 0 0) []:=zCY _ _ _;refine (zBB _ _ _ _).mono ?_;rintro e w2 ⟨vr,vn,vm,vh,rfl,hE,h⟩;replace S:=S.ext h;have hA:=zHP (S.now) hE (zJ zAP h hR);clear hE hR h;go_wp2_with fail;refine (signed_built _ _ _ _ _ _ (exB []) hA (S.now.2.2)).mono ?_;rintro e w2 ⟨u,rfl,hs,h⟩;clear hA;rw [(signedL_of ex0).trans zRF] at hs;rw [ex0];obtain ⟨a1,c1,rfl,-⟩:=zD hs;replace S:=(S.ext h).and (fun _ k=>zJ zGK k hs);clear hs h;go_wp2_with fail;refine (zHU _).mono ?_;rintro e w2 ⟨rfl,h⟩;replace S:=S.ext h;clear h;go_wp2_with fail;refine (second_law _).mono ?_;rintro e w2 ⟨rfl,h⟩;replace S:=S.ext h;clear h;go_wp2_with fail;replace S:=S.new #[.int .i64 1,.int .i64 9,.int .i64 40,.int .i64 1,.int .u8 1,.int .i64 2,.int .i64 6,.int .i64 30,.int .i64 2,.int .u8 3] 49;generalize w2.heap.size=r1 at *;generalize w2.alloc _=w2 at *;have hR:Sl zAT 5 w2 (.slice (some ⟨r1,0,none⟩) 2 2) [zJD,rep2]:=reps_two (S.get 0 rfl) zV zV zV zV zMI zV zV zV zV zMI;refine (zBB _ _ _ _).mono ?_;rintro e w2 ⟨vr,vn,vm,vh,rfl,hE,h⟩;replace S:=S.ext h;have hA:=zHP (S.now.2) hE (zJ zAP h hR);clear hE hR h;go_wp2_with fail;replace S:=S.new #[.int .i64 102] 3;replace hA:=hA.ext (zB w2 (.cells #[.int .i64 102] 3));generalize w2.heap.size=g2 at *;generalize w2.alloc _=w2 at *;refine (zRI _ _ _ _).mono ?_;rintro e w2 ⟨rfl,rfl⟩;go_wp2_with fail;refine (counts_built _ _ _ _ _ _ _ (exB [zJD,rep2]) [102] 0 hA (S.now.2.2.2) (zMW (S.get 0 rfl) zV) zV).mono ?_;rintro e w2 ⟨rfl,h⟩;replace S:=S.ext h;clear hA h;rw [ex_counts.1,ex_counts.2];go_wp2_with fail;replace S:=S.new #[.int .i64 7,.int .i64 9] 40;generalize w2.heap.size=s3 at *;generalize w2.alloc _=w2 at *;have hR:Sl zAT 5 w2 (.slice none 0 0) []:=zCY _ _ _;refine (zBB _ _ _ _).mono ?_;rintro e w2 ⟨vr,vn,vm,vh,rfl,hE,h⟩;replace S:=S.ext h;have hA:=zHP (S.now.2) hE (zJ zAP h hR);clear hE hR h;go_wp2_with fail;refine (zIM _ _ _).mono ?_;rintro e w2 ⟨rfl,h⟩;replace S:=S.ext h;replace hA:=hA.ext h;clear h;go_wp2_with fail;refine (known_built _ _ _ _ _ _ (exB []) 9 40 1 hA (S.now.2.2.2) zV).mono ?_;rintro e w2 ⟨rfl,h⟩;replace S:=S.ext h;clear hA h;rw [zII.2.2.2.1.1,zII.2.2.2.1.2,show zHD ⟨0,2⟩ 0=1 from rfl];go_wp2_with fail;have hR:Sl zAT 5 w2 (.slice none 0 0) []:=zCY _ _ _;refine (zBB _ _ _ _).mono ?_;rintro e w2 ⟨vr,vn,vm,vh,rfl,hE,h⟩;replace S:=S.ext h;have hA:=zHP (S.now.2) hE (zJ zAP h hR);clear hE hR h;go_wp2_with fail;refine (zLT _ _ _ _ _ _ (exB []) 9 hA (S.now.2.2.2)).mono ?_;rintro e w2 ⟨u,rfl,hs,h⟩;clear hA;rw [ex_parts.2] at hs;rw [ex_parts.1];obtain ⟨a4,c4,rfl,-⟩:=zD hs;replace S:=(S.ext h).and (fun _ k=>zJ zIK k hs);clear hs h;go_wp2_with fail;have hR:Sl zAT 5 w2 (.slice none 0 0) []:=zCY _ _ _;refine (zBB _ _ _ _).mono ?_;rintro e w2 ⟨vr,vn,vm,vh,rfl,hE,h⟩;replace S:=S.ext h;have hA:=zHP (S.now.2.2) hE (zJ zAP h hR);clear hE hR h;go_wp2_with fail;refine (until_built _ _ _ _ _ _ (exB []) 0 hA (S.now.2.2.2.2) zV).mono ?_;rintro e w2 ⟨rfl,h⟩;replace S:=S.ext h;clear hA h;rw [ex_until.1,ex_until.2];go_wp2_with fail;replace S:=S.new #[.int .i64 6,.int .i64 9] 40;generalize w2.heap.size=s5 at *;generalize w2.alloc _=w2 at *;refine (zHU _).mono ?_;rintro e w2 ⟨rfl,h⟩;replace S:=S.ext h;clear h;go_wp2_with fail;replace S:=S.new #[.int .i64 1,.int .i64 9,.int .i64 40,.int .i64 1,.int .u8 1] 49;generalize w2.heap.size=r2 at *;generalize w2.alloc _=w2 at *;have hR:Sl zAT 5 w2 (.slice (some ⟨r2,0,none⟩) 1 1) [zJD]:=zQV (S.get 0 rfl) zV zV zV zV zMI;refine (zBB _ _ _ _).mono ?_;rintro e w2 ⟨vr,vn,vm,vh,rfl,hE,h⟩;replace S:=S.ext h;have hA:=zHP (S.now.2.2) hE (zJ zAP h hR);clear hE hR h;go_wp2_with fail;refine (settled_built _ _ _ _ _ _ (exB [zJD]) hA (S.now.2.2.2.2)).mono ?_;rintro e w2 ⟨u,rfl,hs,h⟩;clear hA;rw [ex_settled.2] at hs;rw [ex_settled.1];obtain ⟨a6,c6,rfl,-⟩:=zD hs;replace S:=(S.ext h).and (fun _ k=>zJ stays_u8 k hs);clear hs h;go_wp2_with fail;refine (fourth_law _).mono ?_;rintro e w2 ⟨rfl,h⟩;replace S:=S.ext h;clear h;go_wp2_with fail;replace S:=S.new #[.int .i64 4,.int .i64 4,.int .i64 30,.int .i64 2,.int .u8 1] 49;generalize w2.heap.size=r3 at *;generalize w2.alloc _=w2 at *;have hR:Sl zAT 5 w2 (.slice (some ⟨r3,0,none⟩) 1 1) [rep4]:=zQV (S.get 0 rfl) zV zV zV zV zMI;refine (zBB _ _ _ _).mono ?_;rintro e w2 ⟨vr,vn,vm,vh,rfl,hE,h⟩;replace S:=S.ext h;have hA:=zHP (S.now.2.2.2) hE (zJ zAP h hR);clear hE hR h;go_wp2_with fail;refine (clash_built _ _ _ _ _ _ (exB [rep4]) hA (S.now.2.2.2.2.2)).mono ?_;rintro e w2 ⟨u,rfl,hs,h⟩;clear hA;rw [ex_clash] at hs;rw [ex4];obtain ⟨a7,c7,rfl,-⟩:=zD hs;replace S:=(S.ext h).and (fun _ k=>zJ zN k hs);clear hs h;go_wp2_with fail;refine (zHU _).mono ?_;rintro e w2 ⟨rfl,h⟩;replace S:=S.ext h;clear h;go_wp2_with fail;refine (third_law _).mono ?_;rintro e w2 ⟨rfl,h⟩;replace S:=S.ext h;clear h;go_wp2_with fail;replace S:=S.new #[.int .i64 1,.int .i64 9,.int .i64 40,.int .i64 1,.int .u8 1,.int .i64 3,.int .i64 9,.int .i64 40,.int .i64 1,.int .u8 3] 49;generalize w2.heap.size=r4 at *;generalize w2.alloc _=w2 at *;have hR:Sl zAT 5 w2 (.slice (some ⟨r4,0,none⟩) 2 2) [zJD,zQY]:=reps_two (S.get 0 rfl) zV zV zV zV zMI zV zV zV zV zMI;refine (zBB _ _ _ _).mono ?_;rintro e w2 ⟨vr,vn,vm,vh,rfl,hE,h⟩;replace S:=S.ext h;have hA:=zHP (S.now.2.2.2.2) hE (zJ zAP h hR);clear hE hR h;go_wp2_with fail;refine (withdraw_built _ _ _ _ _ _ (exB [zJD,zQY]) hA (S.now.2.2.2.2.2.2)).mono ?_;rintro e w2 ⟨u,rfl,hs,h⟩;clear hA;rw [ex_withdraw] at hs;rw [ex13];obtain ⟨a8,c8,rfl,-⟩:=zD hs;replace S:=(S.ext h).and (fun _ k=>zJ zN k hs);clear hs h;go_wp2_with fail;refine (third_law _).mono ?_;rintro e w2 ⟨rfl,h⟩;replace S:=S.ext h;clear h;go_wp2_with fail;replace S:=S.new #[.int .i64 3,.int .i64 9,.int .i64 40,.int .i64 1,.int .u8 3] 49;generalize w2.heap.size=r5 at *;generalize w2.alloc _=w2 at *;have hR:Sl zAT 5 w2 (.slice (some ⟨r5,0,none⟩) 1 1) [zQY]:=zQV (S.get 0 rfl) zV zV zV zV zMI;refine (zBB _ _ _ _).mono ?_;rintro e w2 ⟨vr,vn,vm,vh,rfl,hE,h⟩;replace S:=S.ext h;have hA:=zHP (S.now.2.2.2.2.2) hE (zJ zAP h hR);clear hE hR h;go_wp2_with fail;refine (zHU _).mono ?_;rintro e w2 ⟨rfl,h⟩;replace S:=S.ext h;replace hA:=hA.ext h;clear h;go_wp2_with fail;refine (add_built _ _ _ _ _ _ (exB [zQY]) zJD hA (ex_tiny _ (by decide)) ⟨zV,zV,zV,zV,zMI⟩).mono ?_;rintro e w2 ⟨h,⟨hc,_⟩ | ⟨hc,vr,vn,vm,vh,vs,rfl,hN⟩⟩
 ·exact absurd ex_add.1 hc
 replace S:=S.ext h;clear hA h hc;rw [ex_add.2] at hN;obtain ⟨ar,cr,rfl,-⟩:=zD hN.reg;obtain ⟨an,cn,rfl,-⟩:=zD hN.notes;obtain ⟨am,cm,rfl,-⟩:=zD hN.ms;obtain ⟨ah,ch,rfl,-⟩:=zD hN.hs;obtain ⟨az,cz,rfl,-⟩:=zD hN.rs;replace S:=S.and (fun _ k=>hN.at.ext k);clear hN;simp only [show (exB [zQY]).of=10 from rfl,show (exB [zJD,zQY]).ns.reg.length=7 from rfl,show (exB [zJD,zQY]).ns.notes.length=2 from rfl,show (exB [zJD,zQY]).ms.length=3 from rfl,show (exB [zJD,zQY]).hs.length=1 from rfl,show (exB [zJD,zQY]).rs.length=2 from rfl] at S ⊢;go_wp2_with fail;replace S:=S.new #[.slice ar 7 cr,.slice an 2 cn,.int .i64 10,.slice am 3 cm,.slice ah 1 ch,.slice az 2 cz] 32;generalize w2.heap.size=x9 at *;generalize w2.alloc _=w2 at *;refine (zIM _ _ _).mono ?_;rintro e w2 ⟨rfl,h⟩;replace S:=S.ext h;clear h;go_wp2_with fail;refine (zHQ _ _ _).mono ?_;rintro e w2 ⟨rfl,h⟩;replace S:=S.ext h;clear h;go_wp2_with fail;refine (zIM _ _ _).mono ?_;rintro e w2 ⟨rfl,h⟩;replace S:=S.ext h;clear h;go_wp2_with fail;refine (zHQ _ _ _).mono ?_;rintro e w2 ⟨rfl,h⟩;replace S:=S.ext h;clear h;go_wp2_with fail;refine (zIM _ _ _).mono ?_;rintro e w2 ⟨rfl,h⟩;replace S:=S.ext h;clear h;go_wp2_with fail;refine (zHQ _ _ _).mono ?_;rintro e w2 ⟨rfl,h⟩;replace S:=S.ext h;clear h;go_wp2_with fail;refine (zIM _ _ _).mono ?_;rintro e w2 ⟨rfl,h⟩;replace S:=S.ext h;clear h;go_wp2_with fail;refine (zHQ _ _ _).mono ?_;rintro e w2 ⟨rfl,h⟩;replace S:=S.ext h;clear h;go_wp2;replace S:=S.new #[.int .i64 30,.int .i64 1,.int .i64 0,.int .i64 2,.int .i64 30,.int .i64 2,.int .i64 3,.int .i64 7,.int .i64 40,.int .i64 1,.int .i64 0,.int .i64 2,.int .i64 50,.int .i64 1,.int .i64 1,.int .i64 2] 94;generalize w2.heap.size=g10 at *;generalize w2.alloc _=w2 at *;have hW:=want_lay (S.get 0 rfl);replace S:=S.and (fun _ k=>zJ zIK k hW);clear hW;have k0:=zH (show zK w2 _ 0 _ from (S.get 7 rfl).cell 0 _ rfl);have k1:=zH (show zK w2 _ 1 _ from (S.get 7 rfl).cell 1 _ rfl);have k2:=zH (show zK w2 _ 0 _ from (S.get 6 rfl).cell 0 _ rfl);have k3:=zH (show zK w2 _ 1 _ from (S.get 6 rfl).cell 1 _ rfl);have HS:=zE S;clear S;refine zM 77 (by kernel_rfl) (by kernel_rfl) ?_;simp only [List.append_eq,List.cons_append,List.nil_append,List.take_succ_cons,List.take_zero];iterate 4 (refine zT ?_;apply Exists.intro;refine ⟨fun vs xq hd=>?_,?_⟩;focus ((try simp [Oper.waitsOn,Region.binds,List.filter_cons,List.filter_nil,zAI,zW] at hd);simp only [zAB,Act.put,List.setIfInBounds_toArray,List.set_cons_succ,List.set_cons_zero];go_simp;exact ⟨Below.refl _ _,rfl⟩))
 refine zL (zPP 1 #[.int .i64 102] 3) zPP.stays ?_ ?_
 ·intro vs xq hd
  (try simp [Oper.waitsOn,Region.binds,List.filter_cons,List.filter_nil,zAI,zW] at hd)
  simp only [zAB,Act.put,List.setIfInBounds_toArray,List.set_cons_succ,List.set_cons_zero];go_simp;exact ⟨zB _ _,_,rfl,Lay.new _ _ _⟩
 refine zL (NewSl zJU 1 2 [[],[102]]) (NewSl.stays zGK) ?_ ?_
 ·intro vs xq hd
  (try simp [Oper.waitsOn,Region.binds,List.filter_cons,List.filter_nil,zAI,zW] at hd)
  simp only [zAB,Act.put,List.setIfInBounds_toArray,List.set_cons_succ,List.set_cons_zero];obtain ⟨⟨g,e,L⟩,e2⟩:=hd;simp only [e,e2];go_simp;exact ⟨zB _ _,_,rfl,lists_lay (Lay.new _ _ _) (L.ext (zB _ _))⟩
 refine zT ?_;apply Exists.intro;refine ⟨fun vs xq hd=>?_,?_⟩
 ·(try simp [Oper.waitsOn,Region.binds,List.filter_cons,List.filter_nil,zAI,zW] at hd)
  simp only [zAB,Act.put,List.setIfInBounds_toArray,List.set_cons_succ,List.set_cons_zero];obtain ⟨e0,⟨g,e1,L⟩,e2⟩:=hd;simp only [e0,e1,e2];go_simp;refine (sameLists08 _ _ _ [[],[102]] (HS.out.ever _ (zG _ xq)).2.2.2.2.2.2.1 L).mono ?_;rintro e w9 ⟨rfl,hb9⟩;exact ⟨rfl,hb9⟩
 iterate 8 (refine zT ?_;apply Exists.intro;refine ⟨fun vs xq hd=>?_,?_⟩;focus ((try simp [Oper.waitsOn,Region.binds,List.filter_cons,List.filter_nil,zAI,zW] at hd);simp only [zAB,Act.put,List.setIfInBounds_toArray,List.set_cons_succ,List.set_cons_zero];go_simp;exact ⟨Below.refl _ _,rfl⟩))
 refine zT ?_;apply Exists.intro;refine ⟨fun vs xq hd=>?_,?_⟩
 ·(try simp [Oper.waitsOn,Region.binds,List.filter_cons,List.filter_nil,zAI,zW] at hd)
  simp only [zAB,Act.put,List.setIfInBounds_toArray,List.set_cons_succ,List.set_cons_zero];go_simp;refine (zHQ _ _ _).mono ?_;rintro e w9 ⟨rfl,hb9⟩;exact ⟨rfl,hb9⟩
 iterate 17 (refine zT ?_;apply Exists.intro;refine ⟨fun vs xq hd=>?_,?_⟩;focus ((try simp [Oper.waitsOn,Region.binds,List.filter_cons,List.filter_nil,zAI,zW] at hd);simp only [zAB,Act.put,List.setIfInBounds_toArray,List.set_cons_succ,List.set_cons_zero];go_simp;exact ⟨Below.refl _ _,rfl⟩))
 refine zT ?_;apply Exists.intro;refine ⟨fun vs xq hd=>?_,?_⟩
 ·(try simp [Oper.waitsOn,Region.binds,List.filter_cons,List.filter_nil,zAI,zW] at hd)
  simp only [zAB,Act.put,List.setIfInBounds_toArray,List.set_cons_succ,List.set_cons_zero];obtain ⟨e0,e1,e2⟩:=hd;simp only [e0,e1,e2];go_simp;refine (sameParts08 _ _ _ _ (HS.out.ever _ (zG _ xq)).2.2.2.2.2.1 (HS.out.ever _ (zG _ xq)).1).mono ?_;rintro e w9 ⟨rfl,hb9⟩;exact ⟨rfl,hb9⟩
 iterate 8 (refine zT ?_;apply Exists.intro;refine ⟨fun vs xq hd=>?_,?_⟩;focus ((try simp [Oper.waitsOn,Region.binds,List.filter_cons,List.filter_nil,zAI,zW] at hd);simp only [zAB,Act.put,List.setIfInBounds_toArray,List.set_cons_succ,List.set_cons_zero];go_simp;exact ⟨Below.refl _ _,rfl⟩))
 refine zT ?_;apply Exists.intro;refine ⟨fun vs xq hd=>?_,?_⟩
 ·(try simp [Oper.waitsOn,Region.binds,List.filter_cons,List.filter_nil,zAI,zW] at hd)
  simp only [zAB,Act.put,List.setIfInBounds_toArray,List.set_cons_succ,List.set_cons_zero];go_simp;refine (zHQ _ _ _).mono ?_;rintro e w9 ⟨rfl,hb9⟩;exact ⟨rfl,hb9⟩
 iterate 8 (refine zT ?_;apply Exists.intro;refine ⟨fun vs xq hd=>?_,?_⟩;focus ((try simp [Oper.waitsOn,Region.binds,List.filter_cons,List.filter_nil,zAI,zW] at hd);simp only [zAB,Act.put,List.setIfInBounds_toArray,List.set_cons_succ,List.set_cons_zero];go_simp;exact ⟨Below.refl _ _,rfl⟩))
 refine zL (zPP 1 #[.int .u8 2] 5) zPP.stays ?_ ?_
 ·intro vs xq hd
  (try simp [Oper.waitsOn,Region.binds,List.filter_cons,List.filter_nil,zAI,zW] at hd)
  simp only [zAB,Act.put,List.setIfInBounds_toArray,List.set_cons_succ,List.set_cons_zero];go_simp;exact ⟨zB _ _,_,rfl,Lay.new _ _ _⟩
 refine zT ?_;apply Exists.intro;refine ⟨fun vs xq hd=>?_,?_⟩
 ·(try simp [Oper.waitsOn,Region.binds,List.filter_cons,List.filter_nil,zAI,zW] at hd)
  simp only [zAB,Act.put,List.setIfInBounds_toArray,List.set_cons_succ,List.set_cons_zero];obtain ⟨e0,⟨g,e1,L⟩,e2⟩:=hd;simp only [e0,e1,e2];go_simp;refine (sameKnown08 _ _ _ [2] (HS.out.ever _ (zG _ xq)).2.2.2.2.1 (known_lay L)).mono ?_;rintro e w9 ⟨rfl,hb9⟩;exact ⟨rfl,hb9⟩
 iterate 8 (refine zT ?_;apply Exists.intro;refine ⟨fun vs xq hd=>?_,?_⟩;focus ((try simp [Oper.waitsOn,Region.binds,List.filter_cons,List.filter_nil,zAI,zW] at hd);simp only [zAB,Act.put,List.setIfInBounds_toArray,List.set_cons_succ,List.set_cons_zero];go_simp;exact ⟨Below.refl _ _,rfl⟩))
 refine zL (zPP 1 #[.int .i64 4] 3) zPP.stays ?_ ?_
 ·intro vs xq hd
  (try simp [Oper.waitsOn,Region.binds,List.filter_cons,List.filter_nil,zAI,zW] at hd)
  simp only [zAB,Act.put,List.setIfInBounds_toArray,List.set_cons_succ,List.set_cons_zero];go_simp;exact ⟨zB _ _,_,rfl,Lay.new _ _ _⟩
 refine zL (zPP 1 #[.int .i64 4] 3) zPP.stays ?_ ?_
 ·intro vs xq hd
  (try simp [Oper.waitsOn,Region.binds,List.filter_cons,List.filter_nil,zAI,zW] at hd)
  simp only [zAB,Act.put,List.setIfInBounds_toArray,List.set_cons_succ,List.set_cons_zero];obtain ⟨⟨g,e,L⟩,e2⟩:=hd;simp only [e,e2];go_simp;refine (zRI _ _ _ _).mono ?_;rintro e w9 ⟨rfl,rfl⟩;exact ⟨_,rfl,Below.refl _ _,g,rfl,L⟩
 refine zT ?_;apply Exists.intro;refine ⟨fun vs xq hd=>?_,?_⟩
 ·(try simp [Oper.waitsOn,Region.binds,List.filter_cons,List.filter_nil,zAI,zW] at hd)
  simp only [zAB,Act.put,List.setIfInBounds_toArray,List.set_cons_succ,List.set_cons_zero];obtain ⟨e0,⟨g,e1,L⟩,e2⟩:=hd;simp only [e0,e1,e2];go_simp;refine (zKT _ _ _ [4] (HS.out.ever _ (zG _ xq)).2.2.2.1 (zMW L zV)).mono ?_;rintro e w9 ⟨rfl,hb9⟩;exact ⟨rfl,hb9⟩
 iterate 8 (refine zT ?_;apply Exists.intro;refine ⟨fun vs xq hd=>?_,?_⟩;focus ((try simp [Oper.waitsOn,Region.binds,List.filter_cons,List.filter_nil,zAI,zW] at hd);simp only [zAB,Act.put,List.setIfInBounds_toArray,List.set_cons_succ,List.set_cons_zero];go_simp;exact ⟨Below.refl _ _,rfl⟩))
 refine zL (zPP 1 #[.int .i64 1] 3) zPP.stays ?_ ?_
 ·intro vs xq hd
  (try simp [Oper.waitsOn,Region.binds,List.filter_cons,List.filter_nil,zAI,zW] at hd)
  simp only [zAB,Act.put,List.setIfInBounds_toArray,List.set_cons_succ,List.set_cons_zero];go_simp;exact ⟨zB _ _,_,rfl,Lay.new _ _ _⟩
 refine zL (zPP 1 #[.int .i64 1] 3) zPP.stays ?_ ?_
 ·intro vs xq hd
  (try simp [Oper.waitsOn,Region.binds,List.filter_cons,List.filter_nil,zAI,zW] at hd)
  simp only [zAB,Act.put,List.setIfInBounds_toArray,List.set_cons_succ,List.set_cons_zero];obtain ⟨⟨g,e,L⟩,e2⟩:=hd;simp only [e,e2];go_simp;refine (zRI _ _ _ _).mono ?_;rintro e w9 ⟨rfl,rfl⟩;exact ⟨_,rfl,Below.refl _ _,g,rfl,L⟩
 refine zT ?_;apply Exists.intro;refine ⟨fun vs xq hd=>?_,?_⟩
 ·(try simp [Oper.waitsOn,Region.binds,List.filter_cons,List.filter_nil,zAI,zW] at hd)
  simp only [zAB,Act.put,List.setIfInBounds_toArray,List.set_cons_succ,List.set_cons_zero];obtain ⟨e0,⟨g,e1,L⟩,e2⟩:=hd;simp only [e0,e1,e2];go_simp;refine (zKT _ _ _ [1] (HS.out.ever _ (zG _ xq)).2.2.1 (zMW L zV)).mono ?_;rintro e w9 ⟨rfl,hb9⟩;exact ⟨rfl,hb9⟩
 iterate 2 (refine zT ?_;apply Exists.intro;refine ⟨fun vs xq hd=>?_,?_⟩;focus ((try simp [Oper.waitsOn,Region.binds,List.filter_cons,List.filter_nil,zAI,zW] at hd);simp only [zAB,Act.put,List.setIfInBounds_toArray,List.set_cons_succ,List.set_cons_zero];go_simp;exact ⟨Below.refl _ _,rfl⟩))
 refine zQ (by simp only [List.length_append,List.length_cons,List.length_nil]) (fun vs xq hd=>?_);simp [zW,zAI,List.range,List.range.loop] at hd;simp only [zAB,Act.put,List.setIfInBounds_toArray,List.set_cons_succ,List.set_cons_zero,List.drop_succ_cons,List.drop_zero];have h76:=hd.2.2.2.2.2.2.2.2.2.2.2.2.2.2.2.2.2.2.2.2.2.2.2.2.2.2.2.2.2.2.2.2.2.2.2.2.2.2.2.2.2.2.2.2.2.2.2.2.2.2.2.2.2.2.2.2.2.2.2.2.2.2.2.2.2.2.2.2.2.2.2.2.2.2.2.2;clear hd;simp only [h76];have S:=HS.out.ext (zG w2 xq);clear HS k0 k1 k2 k3;generalize w2.later xq=w2 at *;go_wp2;obtain ⟨-,⟨k0,k1,k2,k3,k4,k5⟩,-⟩:=(S.get 1 rfl).q6;replace k0:=zH k0;replace k1:=zH k1;replace k2:=zH k2;replace k3:=zH k3;replace k4:=zH k4;replace k5:=zH k5;have HS:=zE S;clear S;generalize vs 76=z76 at *;refine zM 32 (by kernel_rfl) (by kernel_rfl) ?_;simp only [tk_];iterate 4 (refine zT ?_;apply Exists.intro;refine ⟨fun vs xq hd=>?_,?_⟩;focus ((try simp [Oper.waitsOn,Region.binds,List.filter_cons,List.filter_nil,zAI,zW] at hd);simp only [zAB,Act.put,List.setIfInBounds_toArray,List.set_cons_succ,List.set_cons_zero];go_simp;exact ⟨Below.refl _ _,rfl⟩))
 refine zT ?_;apply Exists.intro;refine ⟨fun vs xq hd=>?_,?_⟩
 ·(try simp [Oper.waitsOn,Region.binds,List.filter_cons,List.filter_nil,zAI,zW] at hd)
  simp only [zAB,Act.put,List.setIfInBounds_toArray,List.set_cons_succ,List.set_cons_zero];go_simp;refine (zHU _).mono ?_;rintro e w9 ⟨rfl,hb9⟩;exact ⟨rfl,hb9⟩
 refine zT ?_;apply Exists.intro;refine ⟨fun vs xq hd=>?_,?_⟩
 ·(try simp [Oper.waitsOn,Region.binds,List.filter_cons,List.filter_nil,zAI,zW] at hd)
  simp only [zAB,Act.put,List.setIfInBounds_toArray,List.set_cons_succ,List.set_cons_zero];go_simp;refine (third_law _).mono ?_;rintro e w9 ⟨rfl,hb9⟩;exact ⟨rfl,hb9⟩
 refine zL (zPP 2 #[.int .i64 1,.int .i64 9,.int .i64 40,.int .i64 1,.int .u8 1,.int .i64 3,.int .i64 9,.int .i64 40,.int .i64 1,.int .u8 3] 49) zPP.stays ?_ ?_
 ·intro vs xq hd
  (try simp [Oper.waitsOn,Region.binds,List.filter_cons,List.filter_nil,zAI,zW] at hd)
  simp only [zAB,Act.put,List.setIfInBounds_toArray,List.set_cons_succ,List.set_cons_zero];go_simp;exact ⟨zB _ _,_,rfl,Lay.new _ _ _⟩
 refine zL (zPJ [zJD,zQY]) zPJ.stays ?_ ?_
 ·intro vs xq hd
  (try simp [Oper.waitsOn,Region.binds,List.filter_cons,List.filter_nil,zAI,zW] at hd)
  simp only [zAB,Act.put,List.setIfInBounds_toArray,List.set_cons_succ,List.set_cons_zero];obtain ⟨⟨g,e,L⟩,e2⟩:=hd;simp only [e,e2];go_simp;refine (zBB _ _ _ _).mono ?_;rintro e w9 ⟨vr,vn,vm,vh,rfl,hE,hb⟩;exact ⟨_,rfl,hb,vr,vn,vm,vh,_,rfl,zHP ((HS.out.ever _ (zA (zG _ xq) hb)).2.2.2.2.2.2.2) hE (zJ zAP hb (reps_two L zV zV zV zV zMI zV zV zV zV zMI))⟩
 refine zT ?_;apply Exists.intro;refine ⟨fun vs xq hd=>?_,?_⟩
 ·(try simp [Oper.waitsOn,Region.binds,List.filter_cons,List.filter_nil,zAI,zW] at hd)
  simp only [zAB,Act.put,List.setIfInBounds_toArray,List.set_cons_succ,List.set_cons_zero];obtain ⟨e0,⟨vr,vn,vm,vh,vz,e1,hA⟩,e2⟩:=hd;simp only [e0,e1,e2];go_simp;refine (sameBuilt08 _ _ _ _ _ _ _ _ _ _ _ (exB [zJD,zQY]) ((HS.out.ever _ (zG _ xq)).2.1) hA.at_).mono ?_;rintro e w9 ⟨rfl,hb9⟩;exact ⟨rfl,hb9⟩
 iterate 2 (refine zT ?_;apply Exists.intro;refine ⟨fun vs xq hd=>?_,?_⟩;focus ((try simp [Oper.waitsOn,Region.binds,List.filter_cons,List.filter_nil,zAI,zW] at hd);simp only [zAB,Act.put,List.setIfInBounds_toArray,List.set_cons_succ,List.set_cons_zero];go_simp;exact ⟨Below.refl _ _,rfl⟩))
 refine zL (zPJ []) zPJ.stays ?_ ?_
 ·intro vs xq hd
  (try simp [Oper.waitsOn,Region.binds,List.filter_cons,List.filter_nil,zAI,zW] at hd)
  simp only [zAB,Act.put,List.setIfInBounds_toArray,List.set_cons_succ,List.set_cons_zero];go_simp;refine (zBB _ _ _ _).mono ?_;rintro e w9 ⟨vr,vn,vm,vh,rfl,hE,hb⟩;exact ⟨_,rfl,hb,vr,vn,vm,vh,_,rfl,zHP ((HS.out.ever _ (zA (zG _ xq) hb)).2.2.2.2.2.2.2) hE (zCY _ _ _)⟩
 refine zT ?_;apply Exists.intro;refine ⟨fun vs xq hd=>?_,?_⟩
 ·(try simp [Oper.waitsOn,Region.binds,List.filter_cons,List.filter_nil,zAI,zW] at hd)
  simp only [zAB,Act.put,List.setIfInBounds_toArray,List.set_cons_succ,List.set_cons_zero];go_simp;refine (zIM _ _ _).mono ?_;rintro e w9 ⟨rfl,hb9⟩;exact ⟨rfl,hb9⟩
 refine zT ?_;apply Exists.intro;refine ⟨fun vs xq hd=>?_,?_⟩
 ·(try simp [Oper.waitsOn,Region.binds,List.filter_cons,List.filter_nil,zAI,zW] at hd)
  simp only [zAB,Act.put,List.setIfInBounds_toArray,List.set_cons_succ,List.set_cons_zero];obtain ⟨⟨vr,vn,vm,vh,vz,e0,hA⟩,e1,e2⟩:=hd;simp only [e0,e1,e2];go_simp;refine (has_law _ _ _ _ _ _ (exB []) 4 30 1 7 7 hA ((HS.out.ever _ (zG _ xq)).2.2.2.2.2.2.2.2.2) zV zII.1).mono ?_;rintro e w9 ⟨rfl,hb9⟩;exact ⟨rfl,hb9⟩
 iterate 2 (refine zT ?_;apply Exists.intro;refine ⟨fun vs xq hd=>?_,?_⟩;focus ((try simp [Oper.waitsOn,Region.binds,List.filter_cons,List.filter_nil,zAI,zW] at hd);simp only [zAB,Act.put,List.setIfInBounds_toArray,List.set_cons_succ,List.set_cons_zero];go_simp;exact ⟨Below.refl _ _,rfl⟩))
 refine zL (zPJ []) zPJ.stays ?_ ?_
 ·intro vs xq hd
  (try simp [Oper.waitsOn,Region.binds,List.filter_cons,List.filter_nil,zAI,zW] at hd)
  simp only [zAB,Act.put,List.setIfInBounds_toArray,List.set_cons_succ,List.set_cons_zero];go_simp;refine (zBB _ _ _ _).mono ?_;rintro e w9 ⟨vr,vn,vm,vh,rfl,hE,hb⟩;exact ⟨_,rfl,hb,vr,vn,vm,vh,_,rfl,zHP ((HS.out.ever _ (zA (zG _ xq) hb)).2.2.2.2.2.2.2) hE (zCY _ _ _)⟩
 refine zT ?_;apply Exists.intro;refine ⟨fun vs xq hd=>?_,?_⟩
 ·(try simp [Oper.waitsOn,Region.binds,List.filter_cons,List.filter_nil,zAI,zW] at hd)
  simp only [zAB,Act.put,List.setIfInBounds_toArray,List.set_cons_succ,List.set_cons_zero];go_simp;refine (zIM _ _ _).mono ?_;rintro e w9 ⟨rfl,hb9⟩;exact ⟨rfl,hb9⟩
 refine zT ?_;apply Exists.intro;refine ⟨fun vs xq hd=>?_,?_⟩
 ·(try simp [Oper.waitsOn,Region.binds,List.filter_cons,List.filter_nil,zAI,zW] at hd)
  simp only [zAB,Act.put,List.setIfInBounds_toArray,List.set_cons_succ,List.set_cons_zero];obtain ⟨⟨vr,vn,vm,vh,vz,e0,hA⟩,e1,e2⟩:=hd;simp only [e0,e1,e2];go_simp;refine (has_law _ _ _ _ _ _ (exB []) 6 30 1 5 7 hA ((HS.out.ever _ (zG _ xq)).2.2.2.2.2.2.2.2.2) zV zII.2.1).mono ?_;rintro e w9 ⟨rfl,hb9⟩;exact ⟨rfl,hb9⟩
 iterate 2 (refine zT ?_;apply Exists.intro;refine ⟨fun vs xq hd=>?_,?_⟩;focus ((try simp [Oper.waitsOn,Region.binds,List.filter_cons,List.filter_nil,zAI,zW] at hd);simp only [zAB,Act.put,List.setIfInBounds_toArray,List.set_cons_succ,List.set_cons_zero];go_simp;exact ⟨Below.refl _ _,rfl⟩))
 refine zL (zPJ []) zPJ.stays ?_ ?_
 ·intro vs xq hd
  (try simp [Oper.waitsOn,Region.binds,List.filter_cons,List.filter_nil,zAI,zW] at hd)
  simp only [zAB,Act.put,List.setIfInBounds_toArray,List.set_cons_succ,List.set_cons_zero];go_simp;refine (zBB _ _ _ _).mono ?_;rintro e w9 ⟨vr,vn,vm,vh,rfl,hE,hb⟩;exact ⟨_,rfl,hb,vr,vn,vm,vh,_,rfl,zHP ((HS.out.ever _ (zA (zG _ xq) hb)).2.2.2.2.2.2.2) hE (zCY _ _ _)⟩
 refine zT ?_;apply Exists.intro;refine ⟨fun vs xq hd=>?_,?_⟩
 ·(try simp [Oper.waitsOn,Region.binds,List.filter_cons,List.filter_nil,zAI,zW] at hd)
  simp only [zAB,Act.put,List.setIfInBounds_toArray,List.set_cons_succ,List.set_cons_zero];go_simp;refine (zIM _ _ _).mono ?_;rintro e w9 ⟨rfl,hb9⟩;exact ⟨rfl,hb9⟩
 refine zT ?_;apply Exists.intro;refine ⟨fun vs xq hd=>?_,?_⟩
 ·(try simp [Oper.waitsOn,Region.binds,List.filter_cons,List.filter_nil,zAI,zW] at hd)
  simp only [zAB,Act.put,List.setIfInBounds_toArray,List.set_cons_succ,List.set_cons_zero];obtain ⟨⟨vr,vn,vm,vh,vz,e0,hA⟩,e1,e2⟩:=hd;simp only [e0,e1,e2];go_simp;refine (has_law _ _ _ _ _ _ (exB []) 9 30 1 0 2 hA ((HS.out.ever _ (zG _ xq)).2.2.2.2.2.2.2.2.2) zV zII.2.2.1).mono ?_;rintro e w9 ⟨rfl,hb9⟩;exact ⟨rfl,hb9⟩
 iterate 2 (refine zT ?_;apply Exists.intro;refine ⟨fun vs xq hd=>?_,?_⟩;focus ((try simp [Oper.waitsOn,Region.binds,List.filter_cons,List.filter_nil,zAI,zW] at hd);simp only [zAB,Act.put,List.setIfInBounds_toArray,List.set_cons_succ,List.set_cons_zero];go_simp;exact ⟨Below.refl _ _,rfl⟩))
 refine zT ?_;apply Exists.intro;refine ⟨fun vs xq hd=>?_,?_⟩
 ·(try simp [Oper.waitsOn,Region.binds,List.filter_cons,List.filter_nil,zAI,zW] at hd)
  simp only [zAB,Act.put,List.setIfInBounds_toArray,List.set_cons_succ,List.set_cons_zero];go_simp;refine (zHU _).mono ?_;rintro e w9 ⟨rfl,hb9⟩;exact ⟨rfl,hb9⟩
 refine zL (zPP 1 #[.int .i64 1,.int .i64 9,.int .i64 40,.int .i64 1,.int .u8 1] 49) zPP.stays ?_ ?_
 ·intro vs xq hd
  (try simp [Oper.waitsOn,Region.binds,List.filter_cons,List.filter_nil,zAI,zW] at hd)
  simp only [zAB,Act.put,List.setIfInBounds_toArray,List.set_cons_succ,List.set_cons_zero];go_simp;exact ⟨zB _ _,_,rfl,Lay.new _ _ _⟩
 refine zL (zPJ [zJD]) zPJ.stays ?_ ?_
 ·intro vs xq hd
  (try simp [Oper.waitsOn,Region.binds,List.filter_cons,List.filter_nil,zAI,zW] at hd)
  simp only [zAB,Act.put,List.setIfInBounds_toArray,List.set_cons_succ,List.set_cons_zero];obtain ⟨⟨g,e,L⟩,e2⟩:=hd;simp only [e,e2];go_simp;refine (zBB _ _ _ _).mono ?_;rintro e w9 ⟨vr,vn,vm,vh,rfl,hE,hb⟩;exact ⟨_,rfl,hb,vr,vn,vm,vh,_,rfl,zHP ((HS.out.ever _ (zA (zG _ xq) hb)).2.2.2.2.2.2.2) hE (zJ zAP hb (zQV L zV zV zV zV zMI))⟩
 refine zT ?_;apply Exists.intro;refine ⟨fun vs xq hd=>?_,?_⟩
 ·(try simp [Oper.waitsOn,Region.binds,List.filter_cons,List.filter_nil,zAI,zW] at hd)
  simp only [zAB,Act.put,List.setIfInBounds_toArray,List.set_cons_succ,List.set_cons_zero];go_simp;refine (zIM _ _ _).mono ?_;rintro e w9 ⟨rfl,hb9⟩;exact ⟨rfl,hb9⟩
 refine zT ?_;apply Exists.intro;refine ⟨fun vs xq hd=>?_,?_⟩
 ·(try simp [Oper.waitsOn,Region.binds,List.filter_cons,List.filter_nil,zAI,zW] at hd)
  simp only [zAB,Act.put,List.setIfInBounds_toArray,List.set_cons_succ,List.set_cons_zero];obtain ⟨⟨vr,vn,vm,vh,vz,e0,hA⟩,e1,e2⟩:=hd;simp only [e0,e1,e2];go_simp;refine (has_law _ _ _ _ _ _ (exB [zJD]) 9 50 1 1 1 hA ((HS.out.ever _ (zG _ xq)).2.2.2.2.2.2.2.2.2) zV zII.2.2.2.2).mono ?_;rintro e w9 ⟨rfl,hb9⟩;exact ⟨rfl,hb9⟩
 refine zT ?_;apply Exists.intro;refine ⟨fun vs xq hd=>?_,?_⟩;focus ((try simp [Oper.waitsOn,Region.binds,List.filter_cons,List.filter_nil,zAI,zW] at hd);simp only [zAB,Act.put,List.setIfInBounds_toArray,List.set_cons_succ,List.set_cons_zero];go_simp;exact ⟨Below.refl _ _,rfl⟩)
 refine zQ (by simp only [List.length_append,List.length_cons,List.length_nil]) (fun vs xq hd=>?_);simp [zW,zAI,List.range,List.range.loop] at hd;simp only [zAB,Act.put,List.setIfInBounds_toArray,List.set_cons_succ,List.set_cons_zero,List.drop_succ_cons,List.drop_zero];have h31:=hd.2.2.2.2.2.2.2.2.2.2.2.2.2.2.2.2.2.2.2.2.2.2.2.2.2.2.2.2.2.2.2;simp only [h31];clear hd k0 k1 k2 k3 k4 k5;go_wp2;go_ret;exact ⟨rfl,zA HS.out.held.below (zG _ _)⟩
end
end Go.Proofs.YtipaopbmklbmnaaGreatDoor
