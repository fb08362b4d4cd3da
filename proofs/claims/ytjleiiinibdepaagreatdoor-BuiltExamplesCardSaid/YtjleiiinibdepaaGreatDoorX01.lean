/- The law's machines of the chapter's examples, as they lie in memory, so that they can be written over. -/
import Derived.Test.YtjleiiinibdepaaGreatDoorK05
import Derived.Test.YtjleiiinibdepaaGreatDoorK21
import Derived.Test.YtjleiiinibdepaaGreatDoorK31
import Derived.Test.YtjleiiinibdepaaGreatDoorK38
import Derived.Test.YtjleiiinibdepaaGreatDoorK40
set_option linter.all false
set_option maxRecDepth 100000
set_option maxHeartbeats 12800000

namespace Go.Proofs.YtjleiiinibdepaaGreatDoor
open Tryz
section
theorem unt_of {b:Built} {h c:Int} (e:untC b h=c) (hc:c≠0) : untC b h=c∧untS b h=⟨0,0⟩:=⟨e,by unfold untS;rw [if_neg (by omega)]⟩
theorem unt_no {b:Built} {h:Int} (hv:zF b=0) (hh:In h 0 ((b.hs.length:Int) - 1)) (hl:zAQ b=[]) : untC b h=8∧untS b h=⟨0,0⟩:=unt_of (by unfold untC;rw [if_neg (by simp [hv]),if_neg (by simpa using hh),if_pos hl]) (by decide)
end
section
open Go.RowKit
theorem set_of {b:Built} {c:Int} (e:setC b=c) (hc:c≠0) : setC b=c∧setL b=[]:=⟨e,by unfold setL;rw [if_neg (by omega)]⟩
theorem set_no {b:Built} (hv:zF b=0) (hl:zAQ b=[]) : setC b=8∧setL b=[]:=set_of (by unfold setC;rw [if_neg (by simp [hv]),if_pos hl]) (by decide)
end
section
open Go.RowKit
theorem ex12_left:zAQ (exB [zJD,rep2])=[[102]]:=by rw [zPG ex12 (ex_T _)];decide +kernel
end
section
open Go.RowKit
theorem ex0_tell:zJY (exB []) [] 0=0∧zQQ (exB []) [] 0=⟨5,9⟩:=by
 have hL:zCV (exB []) []:=(left_C ex0).2 (by decide +kernel)
 obtain ⟨h1,h2⟩:=tell_ok (k:=0) ex0 (((ex_T _).2 _).1 (by decide)) (by decide) hL
 refine ⟨h1,h2.trans ?_⟩
 have:=cnt_C ex0 hL (k:=0) (by decide)
 unfold zLY at this
 rw [this]
 rfl
theorem ex0_known:zAS (exB []) 6 30 2=0∧zHD (zBE (exB []) 6 30 2) 0=1:=by
 have h0:zAQ (exB [])≠[]:=by rw [zRF];simp
 have h:=zNK (m:=6) (d:=30) (l:=2) ex0 h0 (by decide) (by decide +kernel) rfl
 exact ⟨h.1,by rw [h.2];rfl⟩
theorem ex12_has:zAS (exB [zJD,rep2]) 9 30 1=0∧zBE (exB [zJD,rep2]) 9 30 1=⟨0,2⟩ :=
 zNK ex12 (by rw [ex12_left];simp) (by decide) (by decide +kernel) rfl
theorem ex3_left:zAQ (exB [zQY])=[[]]:=by rw [zPG ex3 (ex_T _)];decide +kernel
theorem ex13_clash:claL (exB [zJD,zQY])=[]:=by
 have h1:¬ Lone (exB [zJD,zQY]) zJD:=by
  have e:(exB [zJD,zQY]).one zJD=exB [zJD]:=rfl
  rw [← one_any ex13 (by simp [exB]),e,ex1_left]
  simp
 have h2:¬ Lone (exB [zJD,zQY]) zQY:=by
  have e:(exB [zJD,zQY]).one zQY=exB [zQY]:=rfl
  rw [← one_any ex13 (by simp [exB]),e,ex3_left]
  simp
 unfold claL
 rw [if_pos ex13]
 have a1:zLC (exB [zJD,zQY]) 1=zLC (exB [zJD,zQY]) 0:=claTo_no (k:=0) (by decide) h1
 have a2:zLC (exB [zJD,zQY]) 2=zLC (exB [zJD,zQY]) 1:=claTo_no (k:=1) (by decide) h2
 exact a2.trans a1
theorem ex4_withdraw:wdL (exB [rep4])=[4]:=by
 refine wdL_is ex4 ⟨⟨⟨List.pairwise_singleton _ _,fun x hx=>by simp at hx;subst hx;decide⟩,[],((ex_T _).2 _).1 (by decide),(left_C (but_ok ex4 _)).2 (by decide +kernel)⟩,?_⟩
 intro l' ⟨hT,hF⟩
 have h0:l'≠[]:=by
  rintro rfl
  rw [but_nil] at hF
  exact ((left_any ex4).2 hF) ex4_left
 have hr:zGX (exB [rep4])=[4]:=rfl
 rw [hr] at hT
 unfold LeL zFV
 cases l' with
 | nil=>exact absurd rfl h0
 | cons a t =>
   have ha:=hT.2 a (by simp)
   cases t with
   | nil =>
     have ha:a=4:=by simpa using ha
     subst ha;decide
   | cons c u=>simp [List.length_cons]
theorem ex4_ask {m:Int} (hm:m∈[4,6,9]) : zBK (exB [rep4]) m=8:=by
 unfold zBK
 rw [if_neg (by simp [ex4]),if_neg (fun h=>h hm),if_pos ex4_left]
theorem ex_e1:zAS (exB [rep4]) 4 30 1=8:=(zNA (b:=exB [rep4]) 4 ((part_C _ _ _).2 (by decide +kernel))).trans (ex4_ask (by decide))
theorem ex_e2:zAS (exB [rep4]) 5 30 1=2:=by
 refine (zNA (b:=exB [rep4]) 5 ((part_C _ _ _).2 (by decide +kernel))).trans ?_
 unfold zBK
 rw [if_neg (by simp [ex4]),if_pos (by decide)]
theorem ex_e3:zAS (exB [rep4]) 4 10 1=6:=by
 unfold zAS
 rw [if_pos ⟨.inr (ex4_ask (by decide)),fun h=>absurd ((part_C _ _ _).1 h) (by decide +kernel)⟩]
theorem ex_e4:zJY (exB [zJD]) [] 0=8:=(tell_out (h:=0) ex1 (((ex_T _).2 _).1 (by decide)) (by decide) (fun h=>absurd ((left_C ex1).1 h) (by decide +kernel))).1
theorem ex_e5:zJY (exB []) [101] 0=31:=(tell_no ex0 (fun h=>absurd (((ex_T _).2 _).2 h) (by decide))).1
theorem ex_e6:zJY (exB []) [] 1=2:=(tell_arg ex0 (((ex_T _).2 _).1 (by decide)) (by decide)).1
theorem ex_e7:untC (exB [rep4]) 0=8:=(unt_no ex4 (by decide) ex4_left).1
theorem ex_e8:setC (exB [rep4])=8:=(set_no ex4 ex4_left).1
theorem ex_e9:zFZ (exB [zJD]) zJD=81:=by
 refine addCode_no ex1 (by decide) fun h=>?_
 have e:addB (exB [zJD]) zJD=exB [zJD,zJD]:=rfl
 rw [e] at h
 have h2:=(h.2.2.2.2.2.2 1 (by decide) (by decide)).2 (by decide)
 exact absurd h2 (by decide)
def oddB:Built:=⟨⟨exR,exN⟩,10,[4,6,9],[⟨30,2,5,9⟩],[]⟩
def tornN:List Note:=[⟨0,100,2,30,2,5,999,0,true,0⟩,⟨102,200,1,10,2,8,20,0,false,0⟩]
def tornB:Built:=⟨⟨exR,tornN⟩,10,[4,6,9],[⟨30,1,5,9⟩],[]⟩
theorem odd_code:zF oddB=80:=by
 have hn:¬ zCA oddB:=fun h=>by
  have h2:=(h.2.2.2.2.2.1 0 (by decide) (by decide)).2.1
  exact absurd h2 (by decide +kernel)
 unfold zF
 rw [if_neg (by simp [oddB,exN_code]),if_neg hn]
theorem odd_ask:zBK oddB 4=80:=by
 unfold zBK
 rw [if_pos (by rw [odd_code];decide),odd_code]
theorem torn_code:zF tornB=30:=by
 have hn:¬ zDL exR tornN:=fun h=>by
  have h2:=(h.2.1 0 (by decide)).1.1
  exact absurd h2 (by decide)
 have e:zP exR tornN=30:=by unfold zP;rw [if_neg (by simp [exR_code]),if_neg hn]
 unfold zF
 rw [if_pos (by show zP exR tornN≠0;rw [e];decide)]
 exact e
end
section
open Go.RowKit
attribute [local go_sem] zAE Oper.grows Oper.growUpon Oper.wild Oper.wildUpon
theorem lay_oth {w:World} {g b:Nat} {cs cs':Array Value} {t t':TypeId} (L:Lay w g cs t) (h:Lay w b cs' t') (ht:t'≠t) (j:Nat) (v:Value) : Lay (w.setCell ⟨g,j,none⟩ v) b cs' t' :=
 (Below.heap_setCell w ⟨g,j,none⟩ v b (h.ne L ht)).trans h
def RegL (w:World) (vr:Value) : Prop:=∃ g g1 g2 g3 d1 d2,vr = .slice (some ⟨g,0,none⟩) 7 7∧Lay w g #[.int .i64 10,.int .i64 1,.int .u8 1,.slice (some ⟨g1,0,none⟩) 2 2,.slice none 0 0,.int .i64 10,.int .i64 2,.int .u8 1,.slice (some ⟨g2,0,none⟩) 3 3,.slice none 0 0,.int .i64 20,.int .i64 1,.int .u8 1,.slice (some ⟨g3,0,none⟩) 2 2,.slice none 0 0,.int .i64 30,.int .i64 1,.int .u8 2,.slice none 0 0,.slice (some ⟨d1,0,none⟩) 1 1,.int .i64 30,.int .i64 2,.int .u8 2,.slice none 0 0,.slice (some ⟨d2,0,none⟩) 1 1,.int .i64 40,.int .i64 1,.int .u8 2,.slice none 0 0,.slice none 0 0,.int .i64 50,.int .i64 1,.int .u8 3,.slice none 0 0,.slice none 0 0] 94 ∧
 Lay w g1 #[.int .i64 20,.int .i64 2,.int .i64 30,.int .i64 1] 97∧Lay w g2 #[.int .i64 20,.int .i64 1,.int .i64 30,.int .i64 2,.int .i64 40,.int .i64 2] 97∧Lay w g3 #[.int .i64 30,.int .i64 3,.int .i64 50,.int .i64 1] 97∧Lay w d1 #[.int .i64 150,.int .i64 100,.int .i64 200] 100∧Lay w d2 #[.int .i64 150,.int .i64 120,.int .i64 200] 100
theorem RegL.ext {w w':World} {vr:Value} (hb:Below w.heap.size w w') (h:RegL w vr) : RegL w' vr:=by
 obtain ⟨g,g1,g2,g3,d1,d2,e,a,b,c,d,x,y⟩:=h
 exact ⟨g,g1,g2,g3,d1,d2,e,a.ext hb,b.ext hb,c.ext hb,d.ext hb,x.ext hb,y.ext hb⟩
theorem RegL.set {w:World} {vr:Value} (h:RegL w vr) {g:Nat} {cs:Array Value} {t:TypeId} (L:Lay w g cs t) (j:Nat) (v:Value) (h1:94≠t) (h2:97≠t) (h3:100≠t) : RegL (w.setCell ⟨g,j,none⟩ v) vr:=by
 obtain ⟨g,g1,g2,g3,d1,d2,e,a,b,c,d,x,y⟩:=h
 exact ⟨g,g1,g2,g3,d1,d2,e,lay_oth L a h1 _ _,lay_oth L b h2 _ _,lay_oth L c h2 _ _,lay_oth L d h2 _ _,lay_oth L x h3 _ _,lay_oth L y h3 _ _⟩
theorem RegL.at {w:World} {vr:Value} (h:RegL w vr) : Sl zAY 5 w vr exR∧Capd vr 7:=by
 obtain ⟨g,g1,g2,g3,d1,d2,rfl,a,b,c,d,x,y⟩:=h
 exact ⟨reg_lay a b c d x y,⟨_,_,rfl,Nat.le_refl _⟩⟩
def NewG (n0 n:Nat) (cs:Array Value) (t:TypeId) (v:Value) (w:World) : Prop:=∃ g,v = .slice (some ⟨g,0,none⟩) n n∧n0≤g∧Lay w g cs t
theorem NewG.stays {n0 n:Nat} {cs:Array Value} {t:TypeId} (v:Value) (w w':World) (hb:Below w.heap.size w w') (h:NewG n0 n cs t v w) : NewG n0 n cs t v w':=by
 obtain ⟨g,h1,h0,h2⟩:=h;exact ⟨g,h1,h0,h2.ext hb⟩
def RegNotesG (n0 gr:Nat) (v:Value) (w:World) : Prop:=∃ g,v = .agg #[.slice (some ⟨gr,0,none⟩) 7 7,.slice (some ⟨g,0,none⟩) 2 2]∧n0≤g∧Lay w g exNC 61
theorem RegNotesG.stays {n0 gr:Nat} (v:Value) (w w':World) (hb:Below w.heap.size w w') (h:RegNotesG n0 gr v w) : RegNotesG n0 gr v w':=by
 obtain ⟨g,h1,h0,h2⟩:=h;exact ⟨g,h1,h0,h2.ext hb⟩
def AllG (n0 gr:Nat) (a:Option Addr) (n c:Nat) (v:Value) (w:World) : Prop:=∃ g1 g2 g3,v = .agg #[.slice (some ⟨gr,0,none⟩) 7 7,.slice (some ⟨g1,0,none⟩) 2 2,.int .i64 10,.slice (some ⟨g2,0,none⟩) 3 3,.slice (some ⟨g3,0,none⟩) 1 1,.slice a n c] ∧
 (n0≤g1∧n0≤g3)∧Lay w g1 exNC 61∧Lay w g2 #[.int .i64 4,.int .i64 6,.int .i64 9] 3∧Lay w g3 #[.int .i64 30,.int .i64 1,.int .i64 5,.int .i64 9] 59
theorem AllG.stays {n0 gr:Nat} {a:Option Addr} {n c:Nat} (v:Value) (w w':World) (hb:Below w.heap.size w w') (h:AllG n0 gr a n c v w) : AllG n0 gr a n c v w':=by
 obtain ⟨g1,g2,g3,h0,hn,h1,h2,h3⟩:=h;exact ⟨g1,g2,g3,h0,hn,h1.ext hb,h2.ext hb,h3.ext hb⟩
structure ExL (w:World) (vr:Value) (gn gm gh:Nat) : Prop where
 reg:RegL w vr
 notes:Lay w gn exNC 61
 ms:Lay w gm #[.int .i64 4,.int .i64 6,.int .i64 9] 3
 hs:Lay w gh #[.int .i64 30,.int .i64 1,.int .i64 5,.int .i64 9] 59
theorem ExL.ext {w w':World} {vr:Value} {gn gm gh:Nat} (hb:Below w.heap.size w w') (h:ExL w vr gn gm gh) : ExL w' vr gn gm gh:=⟨h.reg.ext hb,h.notes.ext hb,h.ms.ext hb,h.hs.ext hb⟩
theorem machines_lawK (w:World) (a:Option Addr) (n c:Nat) :
  Calls prog 10 #[.slice a n c] w fun e w'=>∃ vr gn gm gh,e = .returned (.agg #[vr,.slice (some ⟨gn,0,none⟩) 2 2,.int .i64 10,.slice (some ⟨gm,0,none⟩) 3 3,.slice (some ⟨gh,0,none⟩) 1 1,.slice a n c])∧ExL w' vr gn gm gh∧(w.heap.size≤gn∧w.heap.size≤gh)∧Below w.heap.size w w':=by
 have H:=(HeldB.nil w).new #[.slice none 0 0,.slice none 0 0,.int .i64 0,.slice none 0 0,.slice none 0 0,.slice none 0 0] 34
 go_enter func10,ntmps10
 go_wp2_with fail
 generalize w.alloc _=w1 at *
 iterate 2
  refine (item_law _ _ _).mono ?_
  rintro e w2 ⟨rfl,h⟩
  replace H:=H.ext h
  clear h
  go_wp2_with fail
 replace H:=H.new #[.int .i64 20,.int .i64 2,.int .i64 30,.int .i64 1] 97
 generalize w2.heap.size=g1 at *
 generalize w2.alloc _=w2 at *
 refine (made_law _ _ _ _ _ _).mono ?_
 rintro e w2 ⟨rfl,h⟩
 replace H:=H.ext h
 clear h
 go_wp2_with fail
 iterate 3
  refine (item_law _ _ _).mono ?_
  rintro e w2 ⟨rfl,h⟩
  replace H:=H.ext h
  clear h
  go_wp2_with fail
 replace H:=H.new #[.int .i64 20,.int .i64 1,.int .i64 30,.int .i64 2,.int .i64 40,.int .i64 2] 97
 generalize w2.heap.size=g2 at *
 generalize w2.alloc _=w2 at *
 refine (made_law _ _ _ _ _ _).mono ?_
 rintro e w2 ⟨rfl,h⟩
 replace H:=H.ext h
 clear h
 go_wp2_with fail
 iterate 2
  refine (item_law _ _ _).mono ?_
  rintro e w2 ⟨rfl,h⟩
  replace H:=H.ext h
  clear h
  go_wp2_with fail
 replace H:=H.new #[.int .i64 30,.int .i64 3,.int .i64 50,.int .i64 1] 97
 generalize w2.heap.size=g3 at *
 generalize w2.alloc _=w2 at *
 refine (made_law _ _ _ _ _ _).mono ?_
 rintro e w2 ⟨rfl,h⟩
 replace H:=H.ext h
 clear h
 go_wp2
 replace H:=(((H.new #[.int .i64 150,.int .i64 100,.int .i64 200] 100).new #[.int .i64 150,.int .i64 120,.int .i64 200] 100).new #[.int .i64 10,.int .i64 1,.int .u8 1,.slice (some ⟨g1,0,none⟩) 2 2,.slice none 0 0,.int .i64 10,.int .i64 2,.int .u8 1,.slice (some ⟨g2,0,none⟩) 3 3,.slice none 0 0,.int .i64 20,.int .i64 1,.int .u8 1,.slice (some ⟨g3,0,none⟩) 2 2,.slice none 0 0,.int .i64 30,.int .i64 1,.int .u8 2,.slice none 0 0,.slice (some ⟨w2.heap.size,0,none⟩) 1 1,.int .i64 30,.int .i64 2,.int .u8 2,.slice none 0 0,.slice (some ⟨w2.heap.size+1,0,none⟩) 1 1,.int .i64 40,.int .i64 1,.int .u8 2,.slice none 0 0,.slice none 0 0,.int .i64 50,.int .i64 1,.int .u8 3,.slice none 0 0,.slice none 0 0] 94).new #[.slice (some ⟨w2.heap.size+1+1,0,none⟩) 7 7] 26
 simp only [World.size_alloc] at H
 generalize (((w2.alloc _).alloc _).alloc _).alloc _=w3 at *
 generalize w2.heap.size=g4 at *
 have K0:=zH (show zK w3 _ 0 _ from (H.get 0 rfl).cell 0 _ rfl)
 have HH:=zE H
 have hsz:=H.below.size
 clear H
 have hle:∀ xq,w.heap.size≤(w3.later xq).heap.size:=fun xq=>Nat.le_trans hsz (zG w3 xq).size
 clear hsz
 generalize hgw:w.heap.size=n0 at *
 refine zM 12 (by kernel_rfl) (by kernel_rfl) ?_
 simp only [tk_]
 iterate 3 (apply gx_;focus (intro vs xq hd;(try simp [hq_] at hd);simp only [pf_];go_simp;exact ⟨br_,rfl⟩))
 refine zL (NewG n0 2 exNC 61) NewG.stays ?_ ?_
 ·intro vs xq hd
  (try simp [hq_] at hd)
  simp only [pf_]
  go_simp
  exact ⟨zB _ _,_,rfl,hle _,Lay.new _ _ _⟩
 refine zL (RegNotesG n0 (g4+1+1)) RegNotesG.stays ?_ ?_
 ·intro vs xq hd
  (try simp [hq_] at hd)
  simp only [pf_]
  obtain ⟨e0,g,e3,hl,hs⟩:=hd
  simp only [e0,e3]
  go_simp
  exact ⟨br_,g,rfl,hl,hs⟩
 refine zL (zPP 3 #[.int .i64 4,.int .i64 6,.int .i64 9] 3) zPP.stays ?_ ?_
 ·intro vs xq hd
  (try simp [hq_] at hd)
  simp only [pf_]
  go_simp
  exact ⟨zB _ _,_,rfl,Lay.new _ _ _⟩
 refine zL (zPP 3 #[.int .i64 4,.int .i64 6,.int .i64 9] 3) zPP.stays ?_ ?_
 ·intro vs xq hd
  (try simp [hq_] at hd)
  simp only [pf_]
  obtain ⟨g,e5,hs⟩:=hd
  simp only [e5]
  go_simp
  refine (zRI _ _ _ _).mono ?_
  rintro e w9 ⟨rfl,rfl⟩
  exact ⟨_,rfl,br_,g,rfl,hs⟩
 refine zT ?_
 apply Exists.intro
 refine ⟨fun vs xq hd=>?_,?_⟩
 ·(try simp [hq_] at hd)
  simp only [pf_]
  go_simp
  refine (zHQ _ _ _).mono ?_
  rintro e w9 ⟨rfl,hb9⟩
  exact ⟨rfl,hb9⟩
 apply gx_;focus (intro vs xq hd;(try simp [hq_] at hd);simp only [pf_];go_simp;exact ⟨br_,rfl⟩)
 refine zL (NewG n0 1 #[.int .i64 30,.int .i64 1,.int .i64 5,.int .i64 9] 59) NewG.stays ?_ ?_
 ·intro vs xq hd
  (try simp [hq_] at hd)
  simp only [pf_]
  go_simp
  exact ⟨zB _ _,_,rfl,hle _,Lay.new _ _ _⟩
 apply gx_;focus (intro vs xq hd;(try simp [hq_] at hd);simp only [pf_];go_simp;exact ⟨br_,rfl⟩)
 refine zL (AllG n0 (g4+1+1) a n c) AllG.stays ?_ ?_
 ·intro vs xq hd
  (try simp [hq_] at hd)
  simp only [pf_]
  obtain ⟨⟨gn,e4,hn1,hN⟩,⟨gm,e6,hM⟩,⟨gh,e9,hn2,hH⟩,e10⟩:=hd
  simp only [e4,e6,e9,e10]
  go_simp
  exact ⟨br_,gn,gm,gh,rfl,⟨hn1,hn2⟩,hN,hM,hH⟩
 refine zQ (by simp only [List.length_append,List.length_cons,List.length_nil]) (fun vs xq hd=>?_)
 simp [zW,zAI,List.range,List.range.loop] at hd
 simp only [pf_]
 obtain ⟨-,-,-,-,-,-,-,-,-,-,-,gn,gm,gh,e11,hn,hN,hM,hH⟩:=hd
 simp only [e11]
 have H8:=HH.out.ext (zG w3 xq)
 clear HH K0 e11
 generalize w3.later xq=w8 at *
 have HL:=zE H8
 have HE:=zE (And.intro hN (And.intro hM hH))
 have HN:=zE hn
 clear hn
 obtain ⟨l,⟨q0,q1,q2,q3,q4,q5⟩,f0,f1,f2,f3,f4,f5⟩:=(H8.get 7 rfl).q6
 clear H8 hN hM hH
 go_wp2
 generalize hW:(((((w8.setCell _ _).setCell _ _).setCell _ _).setCell _ _).setCell _ _).setCell _ _=w9
 have L8:=HL.out.get 7 rfl
 obtain ⟨L9,h9,hk⟩:=zIW L8 [.slice (some ⟨g4+1+1,0,none⟩) 7 7,.slice (some ⟨gn,0,none⟩) 2 2,.int .i64 10,.slice (some ⟨gm,0,none⟩) 3 3,.slice (some ⟨gh,0,none⟩) 1 1,.slice a n c] rfl hW
 obtain ⟨l,⟨q0,q1,q2,q3,q4,q5⟩,_⟩:=L9.q6
 refine bodyPost_ret (v:=.agg #[.slice (some ⟨g4+1+1,0,none⟩) 7 7,.slice (some ⟨gn,0,none⟩) 2 2,.int .i64 10,.slice (some ⟨gm,0,none⟩) 3 3,.slice (some ⟨gh,0,none⟩) 1 1,.slice a n c]) (by simp [results,results10,go_sem,q0,q1,q2,q3,q4,q5,l]) rfl ?_
 exact ⟨_,gn,gm,gh,rfl,⟨⟨_,_,_,_,_,_,rfl,hk _ _ _ (HL.out.get 1 rfl) (by decide),hk _ _ _ (HL.out.get 6 rfl) (by decide),hk _ _ _ (HL.out.get 5 rfl) (by decide),hk _ _ _ (HL.out.get 4 rfl) (by decide),hk _ _ _ (HL.out.get 3 rfl) (by decide),hk _ _ _ (HL.out.get 2 rfl) (by decide)⟩,
  hk _ _ _ HE.out.1 (by decide),hk _ _ _ HE.out.2.1 (by decide),hk _ _ _ HE.out.2.2 (by decide)⟩,(by rw [hgw];exact HN.out),HL.out.below.trans (h9 _ (Nat.le_of_eq hgw))⟩
end
end Go.Proofs.YtjleiiinibdepaaGreatDoor
