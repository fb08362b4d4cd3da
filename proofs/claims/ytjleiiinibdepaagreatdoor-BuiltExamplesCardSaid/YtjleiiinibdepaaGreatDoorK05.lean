/- Two readings of the same data are found to be the same: lists of numbers, of items, issues, registers. -/
import Derived.Test.YtjleiiinibdepaaGreatDoorProg
import Derived.Deep.QuietTactic
import Derived.BigQuiet
import Derived.StillTailTactics
import Derived.Test.YtjleiiinibdepaaGreatDoorK01
import Derived.Test.YtjleiiinibdepaaGreatDoorK02
import Derived.Test.YtjleiiinibdepaaGreatDoorK04
set_option linter.all false
set_option maxRecDepth 100000
set_option maxHeartbeats 12800000

namespace Go.Proofs.YtjleiiinibdepaaGreatDoor
def exR:List Issue:=[⟨10,1,1,[⟨20,2⟩,⟨30,1⟩],[]⟩,⟨10,2,1,[⟨20,1⟩,⟨30,2⟩,⟨40,2⟩],[]⟩,⟨20,1,1,[⟨30,3⟩,⟨50,1⟩],[]⟩,
 ⟨30,1,2,[],[⟨150,100,200⟩]⟩,⟨30,2,2,[],[⟨150,120,200⟩]⟩,⟨40,1,2,[],[]⟩,⟨50,1,3,[],[]⟩]
def exN:List Note:=[⟨101,100,2,30,2,5,999,0,true,0⟩,⟨102,200,1,10,2,8,20,0,false,0⟩]
def exB (rs:List Report) : Built:=⟨⟨exR,exN⟩,10,[4,6,9],[⟨30,1,5,9⟩],rs⟩
def zJD:Report:=⟨1,9,40,1,1⟩
def rep2:Report:=⟨2,6,30,2,3⟩
def zQY:Report:=⟨3,9,40,1,3⟩
def rep4:Report:=⟨4,4,30,2,1⟩
def zCT (R:List Issue) : List (Int×Int):=(R.filter (fun x=>decide (x.k≠1))).map (fun x=>(x.d,x.l))
end Go.Proofs.YtjleiiinibdepaaGreatDoor
namespace Go.Proofs.YtjleiiinibdepaaGreatDoor
open Tryz
section
open Go.RowKit
theorem item_law (w:World) (d c:Int) : Calls prog 42 #[.int .i64 d,.int .i64 c] w fun e w'=>e = .returned (.agg #[.int .i64 d,.int .i64 c])∧Below w.heap.size w w':=by
 go_enter func42,ntmps42
 go_wp2
 exact bodyPost_ret (v:=.agg #[.int .i64 d,.int .i64 c]) (by simp [results,results42,go_sem]) rfl ⟨rfl,zB _ _⟩
theorem zIM (w:World) (d c:Int) : Calls prog 13 #[.int .i64 d,.int .i64 c] w fun e w'=>e = .returned (.agg #[.int .i64 d,.int .i64 c])∧Below w.heap.size w w':=by
 go_enter func13,ntmps13
 go_wp2
 exact bodyPost_ret (v:=.agg #[.int .i64 d,.int .i64 c]) (by simp [results,results13,go_sem]) rfl ⟨rfl,zB _ _⟩
theorem zHQ (w:World) (d c:Int) : Calls prog 21 #[.int .i64 d,.int .i64 c] w fun e w'=>e = .returned (.agg #[.int .i64 d,.int .i64 c])∧Below w.heap.size w w':=by
 go_enter func21,ntmps21
 go_wp2
 exact bodyPost_ret (v:=.agg #[.int .i64 d,.int .i64 c]) (by simp [results,results21,go_sem]) rfl ⟨rfl,zB _ _⟩
theorem zKV (w:World) (n m d l k:Int) : Calls prog 43 #[.int .i64 n,.int .i64 m,.int .i64 d,.int .i64 l,.int .u8 k] w fun e w'=>e = .returned (.agg #[.int .i64 n,.int .i64 m,.int .i64 d,.int .i64 l,.int .u8 k])∧Below w.heap.size w w':=by
 go_enter func43,ntmps43
 go_wp2
 exact bodyPost_ret (v:=.agg #[.int .i64 n,.int .i64 m,.int .i64 d,.int .i64 l,.int .u8 k]) (by simp [results,results43,go_sem]) rfl ⟨rfl,zB _ _⟩
theorem made_law (w:World) (d l:Int) (a:Option Addr) (n c:Nat) : Calls prog 41 #[.int .i64 d,.int .i64 l,.slice a n c] w fun e w'=>e = .returned (.agg #[.int .i64 d,.int .i64 l,.int .u8 1,.slice a n c,.slice none 0 0])∧Below w.heap.size w w':=by
 go_enter func41,ntmps41
 go_wp2
 exact bodyPost_ret (v:=.agg #[.int .i64 d,.int .i64 l,.int .u8 1,.slice a n c,.slice none 0 0]) (by simp [results,results41,go_sem]) rfl ⟨rfl,zB _ _⟩
theorem zRI (w:World) (a:Option Addr) (n c:Nat) : Calls prog 24 #[.slice a n c] w fun e w'=>e = .returned (.slice a n c)∧w=w':=by
 go_enter func24,ntmps24
 go_wp2
 go_ret
 exact ⟨rfl,rfl⟩
theorem zQV {w:World} {g:Nat} {t:TypeId} {a b c d e:Int} (L:Lay w g #[.int .i64 a,.int .i64 b,.int .i64 c,.int .i64 d,.int .u8 e] t) (ha:I64 a) (hb:I64 b) (hc:I64 c) (hd:I64 d) (he:U8 e) : Sl zAT 5 w (.slice (some ⟨g,0,none⟩) 1 1) [⟨a,b,c,d,e⟩]:=zIB L rfl (by omega) fun k hk h=>match k,hk with
  | 0,_=>⟨⟨h _ _ rfl,h _ _ rfl,h _ _ rfl,h _ _ rfl,h _ _ rfl⟩,ha,hb,hc,hd,he⟩
theorem reps_two {w:World} {g:Nat} {t:TypeId} {a b c d e a' b' c' d' e':Int} (L:Lay w g #[.int .i64 a,.int .i64 b,.int .i64 c,.int .i64 d,.int .u8 e,.int .i64 a',.int .i64 b',.int .i64 c',.int .i64 d',.int .u8 e'] t) (ha:I64 a) (hb:I64 b) (hc:I64 c) (hd:I64 d) (he:U8 e) (ha':I64 a') (hb':I64 b') (hc':I64 c') (hd':I64 d') (he':U8 e') :
  Sl zAT 5 w (.slice (some ⟨g,0,none⟩) 2 2) [⟨a,b,c,d,e⟩,⟨a',b',c',d',e'⟩]:=zIB L rfl (by omega) fun k hk h=>match k,hk with
  | 0,_=>⟨⟨h _ _ rfl,h _ _ rfl,h _ _ rfl,h _ _ rfl,h _ _ rfl⟩,ha,hb,hc,hd,he⟩
  | 1,_=>⟨⟨h _ _ rfl,h _ _ rfl,h _ _ rfl,h _ _ rfl,h _ _ rfl⟩,ha',hb',hc',hd',he'⟩
theorem zHU (w:World) : Calls prog 11 #[] w fun e w'=>e = .returned (.agg #[.int .i64 1,.int .i64 9,.int .i64 40,.int .i64 1,.int .u8 1])∧Below w.heap.size w w':=by
 have L:=Lay.new w 37 #[.int .i64 0,.int .i64 0,.int .i64 0,.int .i64 0,.int .u8 0]
 have hb:=zB w (.cells #[.int .i64 0,.int .i64 0,.int .i64 0,.int .i64 0,.int .u8 0] 37)
 go_enter func11,ntmps11
 go_wp2_with fail
 generalize w.alloc _=w1 at *
 refine (zKV _ _ _ _ _ _).mono ?_
 rintro e w2 ⟨rfl,h2⟩
 replace L:=L.ext h2
 replace hb:=zA hb h2
 obtain ⟨l,⟨q0,q1,q2,q3,q4⟩,f0,f1,f2,f3,f4⟩:=L.q5
 generalize hg:w.heap.size=g at *
 go_wp2
 generalize hW:((((w2.setCell _ _).setCell _ _).setCell _ _).setCell _ _).setCell _ _=w3
 obtain ⟨L3,h3,-⟩:=zIW L [.int .i64 1,.int .i64 9,.int .i64 40,.int .i64 1,.int .u8 1] rfl hW
 obtain ⟨l,⟨q0,q1,q2,q3,q4⟩,_⟩:=L3.q5
 exact bodyPost_ret (v:=.agg #[.int .i64 1,.int .i64 9,.int .i64 40,.int .i64 1,.int .u8 1]) (by simp [results,results11,go_sem,q0,q1,q2,q3,q4,l]) rfl ⟨rfl,by rw [hg];exact hb.trans (h3 g (Nat.le_refl g))⟩
theorem second_law (w:World) : Calls prog 12 #[] w fun e w'=>e = .returned (.agg #[.int .i64 2,.int .i64 6,.int .i64 30,.int .i64 2,.int .u8 3])∧Below w.heap.size w w':=by
 have L:=Lay.new w 37 #[.int .i64 0,.int .i64 0,.int .i64 0,.int .i64 0,.int .u8 0]
 have hb:=zB w (.cells #[.int .i64 0,.int .i64 0,.int .i64 0,.int .i64 0,.int .u8 0] 37)
 go_enter func12,ntmps12
 go_wp2_with fail
 generalize w.alloc _=w1 at *
 refine (zKV _ _ _ _ _ _).mono ?_
 rintro e w2 ⟨rfl,h2⟩
 replace L:=L.ext h2
 replace hb:=zA hb h2
 obtain ⟨l,⟨q0,q1,q2,q3,q4⟩,f0,f1,f2,f3,f4⟩:=L.q5
 generalize hg:w.heap.size=g at *
 go_wp2
 generalize hW:((((w2.setCell _ _).setCell _ _).setCell _ _).setCell _ _).setCell _ _=w3
 obtain ⟨L3,h3,-⟩:=zIW L [.int .i64 2,.int .i64 6,.int .i64 30,.int .i64 2,.int .u8 3] rfl hW
 obtain ⟨l,⟨q0,q1,q2,q3,q4⟩,_⟩:=L3.q5
 exact bodyPost_ret (v:=.agg #[.int .i64 2,.int .i64 6,.int .i64 30,.int .i64 2,.int .u8 3]) (by simp [results,results12,go_sem,q0,q1,q2,q3,q4,l]) rfl ⟨rfl,by rw [hg];exact hb.trans (h3 g (Nat.le_refl g))⟩
theorem third_law (w:World) : Calls prog 18 #[] w fun e w'=>e = .returned (.agg #[.int .i64 3,.int .i64 9,.int .i64 40,.int .i64 1,.int .u8 3])∧Below w.heap.size w w':=by
 have L:=Lay.new w 37 #[.int .i64 0,.int .i64 0,.int .i64 0,.int .i64 0,.int .u8 0]
 have hb:=zB w (.cells #[.int .i64 0,.int .i64 0,.int .i64 0,.int .i64 0,.int .u8 0] 37)
 go_enter func18,ntmps18
 go_wp2_with fail
 generalize w.alloc _=w1 at *
 refine (zKV _ _ _ _ _ _).mono ?_
 rintro e w2 ⟨rfl,h2⟩
 replace L:=L.ext h2
 replace hb:=zA hb h2
 obtain ⟨l,⟨q0,q1,q2,q3,q4⟩,f0,f1,f2,f3,f4⟩:=L.q5
 generalize hg:w.heap.size=g at *
 go_wp2
 generalize hW:((((w2.setCell _ _).setCell _ _).setCell _ _).setCell _ _).setCell _ _=w3
 obtain ⟨L3,h3,-⟩:=zIW L [.int .i64 3,.int .i64 9,.int .i64 40,.int .i64 1,.int .u8 3] rfl hW
 obtain ⟨l,⟨q0,q1,q2,q3,q4⟩,_⟩:=L3.q5
 exact bodyPost_ret (v:=.agg #[.int .i64 3,.int .i64 9,.int .i64 40,.int .i64 1,.int .u8 3]) (by simp [results,results18,go_sem,q0,q1,q2,q3,q4,l]) rfl ⟨rfl,by rw [hg];exact hb.trans (h3 g (Nat.le_refl g))⟩
theorem fourth_law (w:World) : Calls prog 20 #[] w fun e w'=>e = .returned (.agg #[.int .i64 4,.int .i64 4,.int .i64 30,.int .i64 2,.int .u8 1])∧Below w.heap.size w w':=by
 have L:=Lay.new w 37 #[.int .i64 0,.int .i64 0,.int .i64 0,.int .i64 0,.int .u8 0]
 have hb:=zB w (.cells #[.int .i64 0,.int .i64 0,.int .i64 0,.int .i64 0,.int .u8 0] 37)
 go_enter func20,ntmps20
 go_wp2_with fail
 generalize w.alloc _=w1 at *
 refine (zKV _ _ _ _ _ _).mono ?_
 rintro e w2 ⟨rfl,h2⟩
 replace L:=L.ext h2
 replace hb:=zA hb h2
 obtain ⟨l,⟨q0,q1,q2,q3,q4⟩,f0,f1,f2,f3,f4⟩:=L.q5
 generalize hg:w.heap.size=g at *
 go_wp2
 generalize hW:((((w2.setCell _ _).setCell _ _).setCell _ _).setCell _ _).setCell _ _=w3
 obtain ⟨L3,h3,-⟩:=zIW L [.int .i64 4,.int .i64 4,.int .i64 30,.int .i64 2,.int .u8 1] rfl hW
 obtain ⟨l,⟨q0,q1,q2,q3,q4⟩,_⟩:=L3.q5
 exact bodyPost_ret (v:=.agg #[.int .i64 4,.int .i64 4,.int .i64 30,.int .i64 2,.int .u8 1]) (by simp [results,results20,go_sem,q0,q1,q2,q3,q4,l]) rfl ⟨rfl,by rw [hg];exact hb.trans (h3 g (Nat.le_refl g))⟩
end
section
open Go.RowKit
def Capd (v:Value) (n:Nat) : Prop:=∃ a c,v = .slice a n c∧n≤c
section
variable {P:Program}
end
end
section
open Go.RowKit
attribute [local go_sem] zAE Oper.grows Oper.growUpon Oper.wild Oper.wildUpon
structure ExAt (w:World) (vr vn vm vh:Value) : Prop where
 reg:Sl zAY 5 w vr exR
 rcap:Capd vr 7
 notes:Sl zBL 10 w vn exN
 ncap:Capd vn 2
 ms:Sl zAM 1 w vm [4,6,9]
 hs:Sl zDO 4 w vh [⟨30,1,5,9⟩]
 hcap:Capd vh 1
theorem ExAt.ext {w w':World} {vr vn vm vh:Value} (hb:Below w.heap.size w w') (h:ExAt w vr vn vm vh) : ExAt w' vr vn vm vh :=
 ⟨zJ zU hb h.reg,h.rcap,zJ zAN hb h.notes,h.ncap,zJ zN hb h.ms,zJ zCU hb h.hs,h.hcap⟩
theorem exN_num:∀ x∈exN,I64 x.num∧I64 x.day∧U8 x.sg∧I64 x.d∧I64 x.l∧I64 x.fr∧I64 x.to∧I64 x.ca∧U8 x.ways:=by
 intro x hx
 simp only [exN,List.mem_cons,List.not_mem_nil,or_false] at hx
 rcases hx with rfl | rfl <;> exact ⟨zV,zV,zMI,zV,zV,zV,zV,zV,zMI⟩
theorem notes_lay {w:World} {g:Nat} {t:TypeId} (L:Lay w g #[.int .i64 101,.int .i64 100,.int .u8 2,.int .i64 30,.int .i64 2,.int .i64 5,.int .i64 999,.int .i64 0,.bool true,.int .u8 0,.int .i64 102,.int .i64 200,.int .u8 1,.int .i64 10,.int .i64 2,.int .i64 8,.int .i64 20,.int .i64 0,.bool false,.int .u8 0] t) :
  Sl zBL 10 w (.slice (some ⟨g,0,none⟩) 2 2) exN:=zIB L rfl (by omega) fun k hk hc=>⟨match k,hk with
  | 0,_=>⟨hc _ _ rfl,hc _ _ rfl,hc _ _ rfl,hc _ _ rfl,hc _ _ rfl,hc _ _ rfl,hc _ _ rfl,hc _ _ rfl,hc _ _ rfl,hc _ _ rfl⟩
  | 1,_=>⟨hc _ _ rfl,hc _ _ rfl,hc _ _ rfl,hc _ _ rfl,hc _ _ rfl,hc _ _ rfl,hc _ _ rfl,hc _ _ rfl,hc _ _ rfl,hc _ _ rfl⟩,exN_num _ (List.getElem_mem hk)⟩
theorem ms_lay {w:World} {g:Nat} {t:TypeId} (L:Lay w g #[.int .i64 4,.int .i64 6,.int .i64 9] t) : Sl zAM 1 w (.slice (some ⟨g,0,none⟩) 3 3) [4,6,9]:=zIB L rfl (by omega) fun k hk hc=>match k,hk with
  | 0,_=>⟨hc _ _ rfl,(zV:I64 4)⟩
  | 1,_=>⟨hc _ _ rfl,(zV:I64 6)⟩
  | 2,_=>⟨hc _ _ rfl,(zV:I64 9)⟩
theorem hs_lay {w:World} {g:Nat} {t:TypeId} (L:Lay w g #[.int .i64 30,.int .i64 1,.int .i64 5,.int .i64 9] t) : Sl zDO 4 w (.slice (some ⟨g,0,none⟩) 1 1) [⟨30,1,5,9⟩]:=zIB L rfl (by omega) fun k hk hc=>match k,hk with
  | 0,_=>⟨⟨hc _ _ rfl,hc _ _ rfl,hc _ _ rfl,hc _ _ rfl⟩,(zV:I64 30),(zV:I64 1),(zV:I64 5),(zV:I64 9)⟩
theorem items_two {w:World} {g:Nat} {t:TypeId} {a b c d:Int} (L:Lay w g #[.int .i64 a,.int .i64 b,.int .i64 c,.int .i64 d] t) (ha:I64 a) (hb:I64 b) (hc:I64 c) (hd:I64 d) : Sl zBV 2 w (.slice (some ⟨g,0,none⟩) 2 2) [⟨a,b⟩,⟨c,d⟩]:=zIB L rfl (by omega) fun k hk h=>match k,hk with
  | 0,_=>⟨⟨h _ _ rfl,h _ _ rfl⟩,ha,hb⟩
  | 1,_=>⟨⟨h _ _ rfl,h _ _ rfl⟩,hc,hd⟩
theorem items_three {w:World} {g:Nat} {t:TypeId} {a b c d e f:Int} (L:Lay w g #[.int .i64 a,.int .i64 b,.int .i64 c,.int .i64 d,.int .i64 e,.int .i64 f] t) (ha:I64 a) (hb:I64 b) (hc:I64 c) (hd:I64 d) (he:I64 e) (hf:I64 f) : Sl zBV 2 w (.slice (some ⟨g,0,none⟩) 3 3) [⟨a,b⟩,⟨c,d⟩,⟨e,f⟩]:=zIB L rfl (by omega) fun k hk h=>match k,hk with
  | 0,_=>⟨⟨h _ _ rfl,h _ _ rfl⟩,ha,hb⟩
  | 1,_=>⟨⟨h _ _ rfl,h _ _ rfl⟩,hc,hd⟩
  | 2,_=>⟨⟨h _ _ rfl,h _ _ rfl⟩,he,hf⟩
theorem dims_one {w:World} {g:Nat} {t:TypeId} {a b c:Int} (L:Lay w g #[.int .i64 a,.int .i64 b,.int .i64 c] t) (ha:I64 a) (hb:I64 b) (hc:I64 c) : Sl zGJ 3 w (.slice (some ⟨g,0,none⟩) 1 1) [⟨a,b,c⟩]:=zIB L rfl (by omega) fun k hk h=>match k,hk with
  | 0,_=>⟨⟨h _ _ rfl,h _ _ rfl,h _ _ rfl⟩,ha,hb,hc⟩
theorem reg_lay {w:World} {g g1 g2 g3 d1 d2:Nat} {t t1 t2 t3 t4 t5:TypeId} (L:Lay w g #[.int .i64 10,.int .i64 1,.int .u8 1,.slice (some ⟨g1,0,none⟩) 2 2,.slice none 0 0,.int .i64 10,.int .i64 2,.int .u8 1,.slice (some ⟨g2,0,none⟩) 3 3,.slice none 0 0,.int .i64 20,.int .i64 1,.int .u8 1,.slice (some ⟨g3,0,none⟩) 2 2,.slice none 0 0,.int .i64 30,.int .i64 1,.int .u8 2,.slice none 0 0,.slice (some ⟨d1,0,none⟩) 1 1,.int .i64 30,.int .i64 2,.int .u8 2,.slice none 0 0,.slice (some ⟨d2,0,none⟩) 1 1,.int .i64 40,.int .i64 1,.int .u8 2,.slice none 0 0,.slice none 0 0,.int .i64 50,.int .i64 1,.int .u8 3,.slice none 0 0,.slice none 0 0] t)
  (L1:Lay w g1 #[.int .i64 20,.int .i64 2,.int .i64 30,.int .i64 1] t1) (L2:Lay w g2 #[.int .i64 20,.int .i64 1,.int .i64 30,.int .i64 2,.int .i64 40,.int .i64 2] t2) (L3:Lay w g3 #[.int .i64 30,.int .i64 3,.int .i64 50,.int .i64 1] t3)
  (L4:Lay w d1 #[.int .i64 150,.int .i64 100,.int .i64 200] t4) (L5:Lay w d2 #[.int .i64 150,.int .i64 120,.int .i64 200] t5) : Sl zAY 5 w (.slice (some ⟨g,0,none⟩) 7 7) exR:=by
 have hI:∀ x∈exR,I64 x.d∧I64 x.l∧U8 x.k:=by
  intro x hx
  simp only [exR,List.mem_cons,List.not_mem_nil,or_false] at hx
  rcases hx with rfl | rfl | rfl | rfl | rfl | rfl | rfl <;> exact ⟨zV,zV,zMI⟩
 exact zIB L rfl (by omega) fun k hk h=>⟨match k,hk with
  | 0,_=>⟨h _ _ rfl,h _ _ rfl,h _ _ rfl⟩
  | 1,_=>⟨h _ _ rfl,h _ _ rfl,h _ _ rfl⟩
  | 2,_=>⟨h _ _ rfl,h _ _ rfl,h _ _ rfl⟩
  | 3,_=>⟨h _ _ rfl,h _ _ rfl,h _ _ rfl⟩
  | 4,_=>⟨h _ _ rfl,h _ _ rfl,h _ _ rfl⟩
  | 5,_=>⟨h _ _ rfl,h _ _ rfl,h _ _ rfl⟩
  | 6,_=>⟨h _ _ rfl,h _ _ rfl,h _ _ rfl⟩,hI _ (List.getElem_mem hk),match k,hk with
  | 0,_=>⟨_,_,h _ _ rfl,h _ _ rfl,items_two L1 zV zV zV zV,zCY _ _ _⟩
  | 1,_=>⟨_,_,h _ _ rfl,h _ _ rfl,items_three L2 zV zV zV zV zV zV,zCY _ _ _⟩
  | 2,_=>⟨_,_,h _ _ rfl,h _ _ rfl,items_two L3 zV zV zV zV,zCY _ _ _⟩
  | 3,_=>⟨_,_,h _ _ rfl,h _ _ rfl,zCY _ _ _,dims_one L4 zV zV zV⟩
  | 4,_=>⟨_,_,h _ _ rfl,h _ _ rfl,zCY _ _ _,dims_one L5 zV zV zV⟩
  | 5,_=>⟨_,_,h _ _ rfl,h _ _ rfl,zCY _ _ _,zCY _ _ _⟩
  | 6,_=>⟨_,_,h _ _ rfl,h _ _ rfl,zCY _ _ _,zCY _ _ _⟩⟩
def zPP (n:Nat) (cs:Array Value) (t:TypeId) (v:Value) (w:World) : Prop:=∃ g,v = .slice (some ⟨g,0,none⟩) n n∧Lay w g cs t
theorem zPP.stays {n:Nat} {cs:Array Value} {t:TypeId} (v:Value) (w w':World) (hb:Below w.heap.size w w') (h:zPP n cs t v w) : zPP n cs t v w':=by
 obtain ⟨g,h1,h2⟩:=h;exact ⟨g,h1,h2.ext hb⟩
abbrev exNC:Array Value:=#[.int .i64 101,.int .i64 100,.int .u8 2,.int .i64 30,.int .i64 2,.int .i64 5,.int .i64 999,.int .i64 0,.bool true,.int .u8 0,.int .i64 102,.int .i64 200,.int .u8 1,.int .i64 10,.int .i64 2,.int .i64 8,.int .i64 20,.int .i64 0,.bool false,.int .u8 0]
def zMN (gr:Nat) (v:Value) (w:World) : Prop:=∃ g,v = .agg #[.slice (some ⟨gr,0,none⟩) 7 7,.slice (some ⟨g,0,none⟩) 2 2]∧Lay w g exNC 61
theorem zMN.stays {gr:Nat} (v:Value) (w w':World) (hb:Below w.heap.size w w') (h:zMN gr v w) : zMN gr v w':=by
 obtain ⟨g,h1,h2⟩:=h;exact ⟨g,h1,h2.ext hb⟩
def AllV (gr:Nat) (a:Option Addr) (n c:Nat) (v:Value) (w:World) : Prop:=∃ g1 g2 g3,v = .agg #[.slice (some ⟨gr,0,none⟩) 7 7,.slice (some ⟨g1,0,none⟩) 2 2,.int .i64 10,.slice (some ⟨g2,0,none⟩) 3 3,.slice (some ⟨g3,0,none⟩) 1 1,.slice a n c] ∧
 Lay w g1 exNC 61∧Lay w g2 #[.int .i64 4,.int .i64 6,.int .i64 9] 3∧Lay w g3 #[.int .i64 30,.int .i64 1,.int .i64 5,.int .i64 9] 59
theorem AllV.stays {gr:Nat} {a:Option Addr} {n c:Nat} (v:Value) (w w':World) (hb:Below w.heap.size w w') (h:AllV gr a n c v w) : AllV gr a n c v w':=by
 obtain ⟨g1,g2,g3,h0,h1,h2,h3⟩:=h;exact ⟨g1,g2,g3,h0,h1.ext hb,h2.ext hb,h3.ext hb⟩
theorem zBB (w:World) (a:Option Addr) (n c:Nat) :
  Calls prog 10 #[.slice a n c] w fun e w'=>∃ vr vn vm vh,e = .returned (.agg #[vr,vn,.int .i64 10,vm,vh,.slice a n c])∧ExAt w' vr vn vm vh∧Below w.heap.size w w':=by
 have H:=(HeldB.nil w).new #[.slice none 0 0,.slice none 0 0,.int .i64 0,.slice none 0 0,.slice none 0 0,.slice none 0 0] 34
 go_enter func10,ntmps10
 go_wp2_with fail
 generalize w.alloc _=w1 at *
 iterate 2
  refine (item_law _ _ _).mono ?_
  rintro e w2 ⟨rfl,h⟩
  replace H:=H.ext h
  clear h
  go_wp2_with fail
 replace H:=H.new #[.int .i64 20,.int .i64 2,.int .i64 30,.int .i64 1] 97
 generalize w2.heap.size=g1 at *
 generalize w2.alloc _=w2 at *
 refine (made_law _ _ _ _ _ _).mono ?_
 rintro e w2 ⟨rfl,h⟩
 replace H:=H.ext h
 clear h
 go_wp2_with fail
 iterate 3
  refine (item_law _ _ _).mono ?_
  rintro e w2 ⟨rfl,h⟩
  replace H:=H.ext h
  clear h
  go_wp2_with fail
 replace H:=H.new #[.int .i64 20,.int .i64 1,.int .i64 30,.int .i64 2,.int .i64 40,.int .i64 2] 97
 generalize w2.heap.size=g2 at *
 generalize w2.alloc _=w2 at *
 refine (made_law _ _ _ _ _ _).mono ?_
 rintro e w2 ⟨rfl,h⟩
 replace H:=H.ext h
 clear h
 go_wp2_with fail
 iterate 2
  refine (item_law _ _ _).mono ?_
  rintro e w2 ⟨rfl,h⟩
  replace H:=H.ext h
  clear h
  go_wp2_with fail
 replace H:=H.new #[.int .i64 30,.int .i64 3,.int .i64 50,.int .i64 1] 97
 generalize w2.heap.size=g3 at *
 generalize w2.alloc _=w2 at *
 refine (made_law _ _ _ _ _ _).mono ?_
 rintro e w2 ⟨rfl,h⟩
 replace H:=H.ext h
 clear h
 go_wp2
 replace H:=(((H.new #[.int .i64 150,.int .i64 100,.int .i64 200] 100).new #[.int .i64 150,.int .i64 120,.int .i64 200] 100).new #[.int .i64 10,.int .i64 1,.int .u8 1,.slice (some ⟨g1,0,none⟩) 2 2,.slice none 0 0,.int .i64 10,.int .i64 2,.int .u8 1,.slice (some ⟨g2,0,none⟩) 3 3,.slice none 0 0,.int .i64 20,.int .i64 1,.int .u8 1,.slice (some ⟨g3,0,none⟩) 2 2,.slice none 0 0,.int .i64 30,.int .i64 1,.int .u8 2,.slice none 0 0,.slice (some ⟨w2.heap.size,0,none⟩) 1 1,.int .i64 30,.int .i64 2,.int .u8 2,.slice none 0 0,.slice (some ⟨w2.heap.size+1,0,none⟩) 1 1,.int .i64 40,.int .i64 1,.int .u8 2,.slice none 0 0,.slice none 0 0,.int .i64 50,.int .i64 1,.int .u8 3,.slice none 0 0,.slice none 0 0] 94).new #[.slice (some ⟨w2.heap.size+1+1,0,none⟩) 7 7] 26
 simp only [World.size_alloc] at H
 generalize (((w2.alloc _).alloc _).alloc _).alloc _=w3 at *
 generalize w2.heap.size=g4 at *
 have K0:=zH (show zK w3 _ 0 _ from (H.get 0 rfl).cell 0 _ rfl)
 have HH:=zE H
 clear H
 refine zM 12 (by kernel_rfl) (by kernel_rfl) ?_
 simp only [tk_]
 iterate 3 (apply gx_;focus (intro vs xq hd;(try simp [hq_] at hd);simp only [pf_];go_simp;exact ⟨br_,rfl⟩))
 refine zL (zPP 2 exNC 61) zPP.stays ?_ ?_
 ·intro vs xq hd
  (try simp [hq_] at hd)
  simp only [pf_]
  go_simp
  exact ⟨zB _ _,_,rfl,Lay.new _ _ _⟩
 refine zL (zMN (g4+1+1)) zMN.stays ?_ ?_
 ·intro vs xq hd
  (try simp [hq_] at hd)
  simp only [pf_]
  obtain ⟨e0,g,e3,hs⟩:=hd
  simp only [e0,e3]
  go_simp
  exact ⟨br_,g,rfl,hs⟩
 refine zL (zPP 3 #[.int .i64 4,.int .i64 6,.int .i64 9] 3) zPP.stays ?_ ?_
 ·intro vs xq hd
  (try simp [hq_] at hd)
  simp only [pf_]
  go_simp
  exact ⟨zB _ _,_,rfl,Lay.new _ _ _⟩
 refine zL (zPP 3 #[.int .i64 4,.int .i64 6,.int .i64 9] 3) zPP.stays ?_ ?_
 ·intro vs xq hd
  (try simp [hq_] at hd)
  simp only [pf_]
  obtain ⟨g,e5,hs⟩:=hd
  simp only [e5]
  go_simp
  refine (zRI _ _ _ _).mono ?_
  rintro e w9 ⟨rfl,rfl⟩
  exact ⟨_,rfl,br_,g,rfl,hs⟩
 refine zT ?_
 apply Exists.intro
 refine ⟨fun vs xq hd=>?_,?_⟩
 ·(try simp [hq_] at hd)
  simp only [pf_]
  go_simp
  refine (zHQ _ _ _).mono ?_
  rintro e w9 ⟨rfl,hb9⟩
  exact ⟨rfl,hb9⟩
 apply gx_;focus (intro vs xq hd;(try simp [hq_] at hd);simp only [pf_];go_simp;exact ⟨br_,rfl⟩)
 refine zL (zPP 1 #[.int .i64 30,.int .i64 1,.int .i64 5,.int .i64 9] 59) zPP.stays ?_ ?_
 ·intro vs xq hd
  (try simp [hq_] at hd)
  simp only [pf_]
  go_simp
  exact ⟨zB _ _,_,rfl,Lay.new _ _ _⟩
 apply gx_;focus (intro vs xq hd;(try simp [hq_] at hd);simp only [pf_];go_simp;exact ⟨br_,rfl⟩)
 refine zL (AllV (g4+1+1) a n c) AllV.stays ?_ ?_
 ·intro vs xq hd
  (try simp [hq_] at hd)
  simp only [pf_]
  obtain ⟨⟨gn,e4,hN⟩,⟨gm,e6,hM⟩,⟨gh,e9,hH⟩,e10⟩:=hd
  simp only [e4,e6,e9,e10]
  go_simp
  exact ⟨br_,gn,gm,gh,rfl,hN,hM,hH⟩
 refine zQ (by simp only [List.length_append,List.length_cons,List.length_nil]) (fun vs xq hd=>?_)
 simp [zW,zAI,List.range,List.range.loop] at hd
 simp only [pf_]
 obtain ⟨-,-,-,-,-,-,-,-,-,-,-,gn,gm,gh,e11,hN,hM,hH⟩:=hd
 simp only [e11]
 have H8:=HH.out.ext (zG w3 xq)
 clear HH K0 e11
 generalize w3.later xq=w8 at *
 have HL:=zE H8
 have HE:=zE (And.intro hN (And.intro hM hH))
 obtain ⟨l,⟨q0,q1,q2,q3,q4,q5⟩,f0,f1,f2,f3,f4,f5⟩:=(H8.get 7 rfl).q6
 clear H8 hN hM hH
 generalize hgw:w.heap.size=g at *
 go_wp2
 generalize hW:(((((w8.setCell _ _).setCell _ _).setCell _ _).setCell _ _).setCell _ _).setCell _ _=w9
 have L8:=HL.out.get 7 rfl
 obtain ⟨L9,h9,hk⟩:=zIW L8 [.slice (some ⟨g4+1+1,0,none⟩) 7 7,.slice (some ⟨gn,0,none⟩) 2 2,.int .i64 10,.slice (some ⟨gm,0,none⟩) 3 3,.slice (some ⟨gh,0,none⟩) 1 1,.slice a n c] rfl hW
 obtain ⟨l,⟨q0,q1,q2,q3,q4,q5⟩,_⟩:=L9.q6
 refine bodyPost_ret (v:=.agg #[.slice (some ⟨g4+1+1,0,none⟩) 7 7,.slice (some ⟨gn,0,none⟩) 2 2,.int .i64 10,.slice (some ⟨gm,0,none⟩) 3 3,.slice (some ⟨gh,0,none⟩) 1 1,.slice a n c]) (by simp [results,results10,go_sem,q0,q1,q2,q3,q4,q5,l]) rfl ?_
 exact ⟨_,_,_,_,rfl,⟨reg_lay (hk _ _ _ (HL.out.get 1 rfl) (by decide)) (hk _ _ _ (HL.out.get 6 rfl) (by decide)) (hk _ _ _ (HL.out.get 5 rfl) (by decide)) (hk _ _ _ (HL.out.get 4 rfl) (by decide)) (hk _ _ _ (HL.out.get 3 rfl) (by decide)) (hk _ _ _ (HL.out.get 2 rfl) (by decide)),
  ⟨_,_,rfl,Nat.le_refl _⟩,notes_lay (hk _ _ _ HE.out.1 (by decide)),⟨_,_,rfl,Nat.le_refl _⟩,ms_lay (hk _ _ _ HE.out.2.1 (by decide)),hs_lay (hk _ _ _ HE.out.2.2 (by decide)),⟨_,_,rfl,Nat.le_refl _⟩⟩,HL.out.below.trans (h9 _ (Nat.le_of_eq hgw))⟩
end
end Go.Proofs.YtjleiiinibdepaaGreatDoor
namespace Go.Proofs.YtjleiiinibdepaaGreatDoor
section
def inF (S:List Int) (m:Int) (x:Note) : Bool:=(x.sg == 2 || decide (x.num∈S)) && (decide (x.fr≤m) && decide (m≤x.to))
def frc (S:List Int) (m:Int) : List Note→List Bool
 | []=>[]
 | x :: N=>(inF S m x && !((N.zip (frc S m N)).any fun p=>p.2 && p.1.ca == x.num)) :: frc S m N
theorem frc_len (S:List Int) (m:Int) (N:List Note) : (frc S m N).length=N.length:=by
 induction N with
 | nil=>rfl
 | cons x N ih=>simp [frc,ih]
def fAt (S:List Int) (m:Int) (N:List Note) (k:Nat) : Bool:=(frc S m N).getD k false
theorem fAt_zero (S:List Int) (m:Int) (x:Note) (N:List Note) : fAt S m (x :: N) 0=(inF S m x && !((N.zip (frc S m N)).any fun p=>p.2 && p.1.ca == x.num)):=rfl
theorem fAt_succ (S:List Int) (m:Int) (x:Note) (N:List Note) (k:Nat) : fAt S m (x :: N) (k+1)=fAt S m N k:=rfl
theorem any_zip (S:List Int) (m c:Int) : ∀ N:List Note,((N.zip (frc S m N)).any fun p=>p.2 && p.1.ca == c)=true↔∃ j,∃ h:j < N.length,fAt S m N j=true∧N[j].ca=c:=by
 suffices ∀ (N:List Note) (B:List Bool),N.length=B.length→(((N.zip B).any fun p=>p.2 && p.1.ca == c)=true↔∃ j,∃ h:j < N.length,B.getD j false=true∧N[j].ca=c) from fun N=>this N _ (frc_len S m N).symm
 intro N B hl
 rw [List.any_eq_true]
 constructor
 ·rintro ⟨p,hp,h⟩
  obtain ⟨j,hj,rfl⟩:=List.getElem_of_mem hp
  rw [List.length_zip] at hj
  simp at h
  refine ⟨j,by omega,?_,h.2⟩
  rw [List.getD_eq_getElem?_getD,List.getElem?_eq_getElem (by omega)]
  exact h.1
 ·rintro ⟨j,hj,h1,h2⟩
  rw [List.getD_eq_getElem?_getD,List.getElem?_eq_getElem (by omega)] at h1
  refine ⟨(N[j],B[j]),?_,by simp [h2];simpa using h1⟩
  rw [← List.getElem_zip (h:=by rw [List.length_zip];omega)]
  exact List.getElem_mem _
theorem fAt_iff (S:List Int) (m:Int) : ∀ (N:List Note) (k:Nat) (hk:k < N.length),fAt S m N k=true↔inF S m N[k]=true∧∀ j,k < j→∀ hj:j < N.length,fAt S m N j=true→N[j].ca≠N[k].num
 | [],k,hk=>by simp at hk
 | x :: N,0,_=>by
   rw [fAt_zero,Bool.and_eq_true,Bool.not_eq_true',← Bool.not_eq_true,any_zip]
   constructor
   ·rintro ⟨h1,h2⟩
    refine ⟨h1,fun j hj hl hf hc=>?_⟩
    obtain ⟨i,rfl⟩ : ∃ i,j=i+1:=⟨j - 1,by omega⟩
    exact h2 ⟨i,by simpa using hl,hf,hc⟩
   ·rintro ⟨h1,h2⟩
    refine ⟨h1,?_⟩
    rintro ⟨j,hj,hf,hc⟩
    exact h2 (j+1) (by omega) (by simpa using hj) hf hc
 | x :: N,k+1,hk=>by
   rw [fAt_succ,fAt_iff S m N k (by simpa using hk)]
   constructor
   ·rintro ⟨h1,h2⟩
    refine ⟨h1,fun j hj hl hf=>?_⟩
    obtain ⟨i,rfl⟩ : ∃ i,j=i+1:=⟨j - 1,by omega⟩
    exact h2 i (by omega) (by simpa using hl) hf
   ·rintro ⟨h1,h2⟩
    refine ⟨h1,fun j hj hl hf=>h2 (j+1) (by omega) (by simpa using hl) hf⟩
def zKE (N:List Note) (f:Nat→Bool) (d:Int) : Nat→Option Note
 | 0=>none
 | k+1=>if f k=true∧(N[k]?).map (·.d)=some d then N[k]? else zKE N f d k
def zIG (S:List Int) (m:Int) (N:List Note) (d:Int) : Option Note:=zKE N (fAt S m N) d N.length
def zAA (S:List Int) (m:Int) (N:List Note) (d:Int) : Int:=(zIG S m N d).elim 1 (·.l)
def zLR (S:List Int) (m:Int) (N:List Note) (d:Int) : Int:=(zIG S m N d).elim 0 (·.num)
theorem noteTo_yes {N:List Note} {f:Nat→Bool} {d:Int} {k:Nat} (hk:k < N.length) (h:f k=true) (hd:N[k].d=d) : zKE N f d (k+1)=some N[k]:=by
 simp only [zKE]
 rw [if_pos ⟨h,by rw [List.getElem?_eq_getElem hk];simp [hd]⟩,List.getElem?_eq_getElem hk]
theorem noteTo_no {N:List Note} {f:Nat→Bool} {d:Int} {k:Nat} (hk:k < N.length) (h:¬ (f k=true∧N[k].d=d)) : zKE N f d (k+1)=zKE N f d k:=by
 simp only [zKE]
 rw [if_neg]
 rintro ⟨h1,h2⟩
 rw [List.getElem?_eq_getElem hk] at h2
 exact h ⟨h1,by simpa using h2⟩
theorem noteTo_mem {N:List Note} {f:Nat→Bool} {d:Int} {k:Nat} {x:Note} (h:zKE N f d k=some x) : x∈N∧x.d=d:=by
 induction k with
 | zero=>cases h
 | succ k ih =>
   simp only [zKE] at h
   split at h
   ·rename_i hc
    refine ⟨List.mem_of_getElem? h,?_⟩
    rw [h] at hc
    simpa using hc.2
   ·exact ih h
end
section
open Go.RowKit
end
end Go.Proofs.YtjleiiinibdepaaGreatDoor
namespace Go.Proofs.YtjleiiinibdepaaGreatDoor
open Tryz
section
open Go.RowKit
attribute [local go_sem] zAE Oper.grows Oper.growUpon
end
section
open Go.RowKit
attribute [local go_sem] zAE Oper.grows Oper.growUpon
def Small (R:List Issue) : Prop:=R.length≤80∧∀ k (h:k < R.length),R[k].items.length≤16∧R[k].dims.length≤8
end
end Go.Proofs.YtjleiiinibdepaaGreatDoor
namespace Go.Proofs.YtjleiiinibdepaaGreatDoor
open Go.RowKit
theorem zKT (w:World) (v v':Value) (xs:List Int) (hx:Sl zAM 1 w v xs) (hy:Sl zAM 1 w v' xs) :
  Calls Tryz.prog 23 #[v,v'] w fun e w'=>e = .returned (.bool true)∧Below w.heap.size w w':=by
 obtain ⟨a,cap,rfl,hm⟩:=zD hx
 obtain ⟨a',cap',rfl,_⟩:=zD hy
 go_enter Tryz.func23,Tryz.ntmps23
 go_wp2
 go_loopw [5] (fun i wr=>∃ k:Nat,i = .int .i64 k∧k≤xs.length∧Below w.heap.size w wr) (fun i _=>xs.length - (intOf i).toNat)
 case atStart=>exact ⟨0,rfl,by omega,Below.refl _ _⟩
 case round =>
  obtain ⟨k,rfl,hk,hb⟩:=hrel
  by_cases hlt:k < xs.length
  ·have X:=(zY (zJ zN hb hx)).2 k hlt
   have Y:=(zY (zJ zN hb hy)).2 k hlt
   obtain ⟨b,off,rfl,hc,_⟩:=X
   obtain ⟨b',off',rfl,hc',_⟩:=Y
   unfold zK at hc hc'
   rw [Nat.mul_one] at hc hc'
   generalize xs[k]=x at *
   clear hx hy
   go_wp2
   go_quiet (fail)
   go_wp2
   go_roundw
   case rel=>exact ⟨k+1,by go_num,by omega,zA hb (zAJ _ _)⟩
   case measure=>simp [intOf];omega
  ·go_wp2
   go_ret
   exact ⟨rfl,hb⟩
theorem sameItems02 (w:World) (v v':Value) (xs:List Item) (hx:Sl zBV 2 w v xs) (hy:Sl zBV 2 w v' xs) :
  Calls Tryz.prog 177 #[v,v'] w fun e w'=>e = .returned (.bool true)∧Below w.heap.size w w':=by
 obtain ⟨a,cap,rfl,hm⟩:=zD hx
 obtain ⟨a',cap',rfl,_⟩:=zD hy
 go_enter Tryz.func177,Tryz.ntmps177
 go_wp2
 go_loopw [5] (fun i wr=>∃ k:Nat,i = .int .i64 k∧k≤xs.length∧Below w.heap.size w wr) (fun i _=>xs.length - (intOf i).toNat)
 case atStart=>exact ⟨0,rfl,by omega,Below.refl _ _⟩
 case round =>
  obtain ⟨k,rfl,hk,hb⟩:=hrel
  by_cases hlt:k < xs.length
  ·have X:=(zY (zJ zAX hb hx)).2 k hlt
   have Y:=(zY (zJ zAX hb hy)).2 k hlt
   obtain ⟨b,off,rfl,⟨hc0,hc1⟩,_⟩:=X
   obtain ⟨b',off',rfl,⟨hc0',hc1'⟩,_⟩:=Y
   unfold zK at hc0 hc1 hc0' hc1'
   generalize xs[k]=x at *
   clear hx hy
   go_wp2
   go_quiet (fail)
   go_wp2
   go_roundw
   case rel=>exact ⟨k+1,by go_num,by omega,zA hb (zAJ _ _)⟩
   case measure=>simp [intOf];omega
  ·go_wp2
   go_ret
   exact ⟨rfl,hb⟩
end Go.Proofs.YtjleiiinibdepaaGreatDoor
