/- Lemmas. -/
import Derived.Test.YtipaopbmklbmnaaGreatDoorProg
import Derived.Deep.QuietTactic
import Derived.BigQuiet
import Derived.StillTailTactics
import Derived.Test.YtipaopbmklbmnaaGreatDoorT04
set_option linter.all false
set_option maxRecDepth 100000
set_option maxHeartbeats 0
namespace Go.Proofs.YtipaopbmklbmnaaGreatDoor
section
def exR:List Issue:=[⟨10,1,1,[⟨20,2⟩,⟨30,1⟩],[]⟩,⟨10,2,1,[⟨20,1⟩,⟨30,2⟩,⟨40,2⟩],[]⟩,⟨20,1,1,[⟨30,3⟩,⟨50,1⟩],[]⟩,
 ⟨30,1,2,[],[⟨150,100,200⟩]⟩,⟨30,2,2,[],[⟨150,120,200⟩]⟩,⟨40,1,2,[],[]⟩,⟨50,1,3,[],[]⟩]
def exN:List Note:=[⟨101,100,2,30,2,5,999,0,true,0⟩,⟨102,200,1,10,2,8,20,0,false,0⟩]
def exB (rs:List Report) : Built:=⟨⟨exR,exN⟩,10,[4,6,9],[⟨30,1,5,9⟩],rs⟩
def zJD:Report:=⟨1,9,40,1,1⟩
def rep2:Report:=⟨2,6,30,2,3⟩
def zQY:Report:=⟨3,9,40,1,3⟩
def rep4:Report:=⟨4,4,30,2,1⟩
def zCT (R:List Issue) : List (Int×Int):=(R.filter (fun x=>decide (x.k≠1))).map (fun x=>(x.d,x.l))
end
section
open Tryz
open Go.RowKit
theorem item_law (w:World) (d c:Int) : Calls prog 86 #[.int .i64 d,.int .i64 c] w fun e w'=>e = .returned (.agg #[.int .i64 d,.int .i64 c])/\Below w.heap.size w w':=by
 go_enter func86,ntmps86;go_wp2;exact bodyPost_ret (v:=.agg #[.int .i64 d,.int .i64 c]) (by simp [results,results86,go_sem]) rfl ⟨rfl,zB _ _⟩
theorem zIM (w:World) (d c:Int) : Calls prog 21 #[.int .i64 d,.int .i64 c] w fun e w'=>e = .returned (.agg #[.int .i64 d,.int .i64 c])/\Below w.heap.size w w':=by
 go_enter func21,ntmps21;go_wp2;exact bodyPost_ret (v:=.agg #[.int .i64 d,.int .i64 c]) (by simp [results,results21,go_sem]) rfl ⟨rfl,zB _ _⟩
theorem zHQ (w:World) (d c:Int) : Calls prog 29 #[.int .i64 d,.int .i64 c] w fun e w'=>e = .returned (.agg #[.int .i64 d,.int .i64 c])/\Below w.heap.size w w':=by
 go_enter func29,ntmps29;go_wp2;exact bodyPost_ret (v:=.agg #[.int .i64 d,.int .i64 c]) (by simp [results,results29,go_sem]) rfl ⟨rfl,zB _ _⟩
theorem zKV (w:World) (n m d l k:Int) : Calls prog 13 #[.int .i64 n,.int .i64 m,.int .i64 d,.int .i64 l,.int .u8 k] w fun e w'=>e = .returned (.agg #[.int .i64 n,.int .i64 m,.int .i64 d,.int .i64 l,.int .u8 k])/\Below w.heap.size w w':=by
 go_enter func13,ntmps13;go_wp2;exact bodyPost_ret (v:=.agg #[.int .i64 n,.int .i64 m,.int .i64 d,.int .i64 l,.int .u8 k]) (by simp [results,results13,go_sem]) rfl ⟨rfl,zB _ _⟩
theorem made_law (w:World) (d l:Int) (a:Option Addr) (n c:Nat) : Calls prog 85 #[.int .i64 d,.int .i64 l,.slice a n c] w fun e w'=>e = .returned (.agg #[.int .i64 d,.int .i64 l,.int .u8 1,.slice a n c,.slice none 0 0])/\Below w.heap.size w w':=by
 go_enter func85,ntmps85;go_wp2;exact bodyPost_ret (v:=.agg #[.int .i64 d,.int .i64 l,.int .u8 1,.slice a n c,.slice none 0 0]) (by simp [results,results85,go_sem]) rfl ⟨rfl,zB _ _⟩
theorem zRI (w:World) (a:Option Addr) (n c:Nat) : Calls prog 39 #[.slice a n c] w fun e w'=>e = .returned (.slice a n c)/\w=w':=by
 go_enter func39,ntmps39;go_wp2;go_ret;exact ⟨rfl,rfl⟩
theorem zQV {w:World} {g:Nat} {t:TypeId} {a b c d e:Int} (L:Lay w g #[.int .i64 a,.int .i64 b,.int .i64 c,.int .i64 d,.int .u8 e] t) (ha:I64 a) (hb:I64 b) (hc:I64 c) (hd:I64 d) (he:U8 e) : Sl zAT 5 w (.slice (some ⟨g,0,none⟩) 1 1) [⟨a,b,c,d,e⟩]:=zIB L rfl (by omega) fun k hk h=>match k,hk with
  | 0,_=>⟨⟨h _ _ rfl,h _ _ rfl,h _ _ rfl,h _ _ rfl,h _ _ rfl⟩,ha,hb,hc,hd,he⟩
theorem reps_two {w:World} {g:Nat} {t:TypeId} {a b c d e a' b' c' d' e':Int} (L:Lay w g #[.int .i64 a,.int .i64 b,.int .i64 c,.int .i64 d,.int .u8 e,.int .i64 a',.int .i64 b',.int .i64 c',.int .i64 d',.int .u8 e'] t) (ha:I64 a) (hb:I64 b) (hc:I64 c) (hd:I64 d) (he:U8 e) (ha':I64 a') (hb':I64 b') (hc':I64 c') (hd':I64 d') (he':U8 e') :
  Sl zAT 5 w (.slice (some ⟨g,0,none⟩) 2 2) [⟨a,b,c,d,e⟩,⟨a',b',c',d',e'⟩]:=zIB L rfl (by omega) fun k hk h=>match k,hk with
  | 0,_=>⟨⟨h _ _ rfl,h _ _ rfl,h _ _ rfl,h _ _ rfl,h _ _ rfl⟩,ha,hb,hc,hd,he⟩
  | 1,_=>⟨⟨h _ _ rfl,h _ _ rfl,h _ _ rfl,h _ _ rfl,h _ _ rfl⟩,ha',hb',hc',hd',he'⟩
theorem zHU (w:World) : Calls prog 37 #[] w fun e w'=>e = .returned (.agg #[.int .i64 1,.int .i64 9,.int .i64 40,.int .i64 1,.int .u8 1])/\Below w.heap.size w w':=by
 have L:=Lay.new w 49 #[.int .i64 0,.int .i64 0,.int .i64 0,.int .i64 0,.int .u8 0];have hb:=zB w (.cells #[.int .i64 0,.int .i64 0,.int .i64 0,.int .i64 0,.int .u8 0] 49);go_enter func37,ntmps37;go_wp2_with fail;generalize w.alloc _=w1 at *;refine (zKV _ _ _ _ _ _).mono ?_;rintro e w2 ⟨rfl,h2⟩;replace L:=L.ext h2;replace hb:=zA hb h2;obtain ⟨l,⟨q0,q1,q2,q3,q4⟩,f0,f1,f2,f3,f4⟩:=L.q5;generalize hg:w.heap.size=g at *;go_wp2;generalize hW:((((w2.setCell _ _).setCell _ _).setCell _ _).setCell _ _).setCell _ _=w3;obtain ⟨L3,h3,-⟩:=zIW L [.int .i64 1,.int .i64 9,.int .i64 40,.int .i64 1,.int .u8 1] rfl hW;obtain ⟨l,⟨q0,q1,q2,q3,q4⟩,_⟩:=L3.q5;exact bodyPost_ret (v:=.agg #[.int .i64 1,.int .i64 9,.int .i64 40,.int .i64 1,.int .u8 1]) (by simp [results,results37,go_sem,q0,q1,q2,q3,q4,l]) rfl ⟨rfl,by rw [hg];exact hb.trans (h3 g (Nat.le_refl g))⟩
theorem second_law (w:World) : Calls prog 38 #[] w fun e w'=>e = .returned (.agg #[.int .i64 2,.int .i64 6,.int .i64 30,.int .i64 2,.int .u8 3])/\Below w.heap.size w w':=by
 have L:=Lay.new w 49 #[.int .i64 0,.int .i64 0,.int .i64 0,.int .i64 0,.int .u8 0];have hb:=zB w (.cells #[.int .i64 0,.int .i64 0,.int .i64 0,.int .i64 0,.int .u8 0] 49);go_enter func38,ntmps38;go_wp2_with fail;generalize w.alloc _=w1 at *;refine (zKV _ _ _ _ _ _).mono ?_;rintro e w2 ⟨rfl,h2⟩;replace L:=L.ext h2;replace hb:=zA hb h2;obtain ⟨l,⟨q0,q1,q2,q3,q4⟩,f0,f1,f2,f3,f4⟩:=L.q5;generalize hg:w.heap.size=g at *;go_wp2;generalize hW:((((w2.setCell _ _).setCell _ _).setCell _ _).setCell _ _).setCell _ _=w3;obtain ⟨L3,h3,-⟩:=zIW L [.int .i64 2,.int .i64 6,.int .i64 30,.int .i64 2,.int .u8 3] rfl hW;obtain ⟨l,⟨q0,q1,q2,q3,q4⟩,_⟩:=L3.q5;exact bodyPost_ret (v:=.agg #[.int .i64 2,.int .i64 6,.int .i64 30,.int .i64 2,.int .u8 3]) (by simp [results,results38,go_sem,q0,q1,q2,q3,q4,l]) rfl ⟨rfl,by rw [hg];exact hb.trans (h3 g (Nat.le_refl g))⟩
theorem third_law (w:World) : Calls prog 43 #[] w fun e w'=>e = .returned (.agg #[.int .i64 3,.int .i64 9,.int .i64 40,.int .i64 1,.int .u8 3])/\Below w.heap.size w w':=by
 have L:=Lay.new w 49 #[.int .i64 0,.int .i64 0,.int .i64 0,.int .i64 0,.int .u8 0];have hb:=zB w (.cells #[.int .i64 0,.int .i64 0,.int .i64 0,.int .i64 0,.int .u8 0] 49);go_enter func43,ntmps43;go_wp2_with fail;generalize w.alloc _=w1 at *;refine (zKV _ _ _ _ _ _).mono ?_;rintro e w2 ⟨rfl,h2⟩;replace L:=L.ext h2;replace hb:=zA hb h2;obtain ⟨l,⟨q0,q1,q2,q3,q4⟩,f0,f1,f2,f3,f4⟩:=L.q5;generalize hg:w.heap.size=g at *;go_wp2;generalize hW:((((w2.setCell _ _).setCell _ _).setCell _ _).setCell _ _).setCell _ _=w3;obtain ⟨L3,h3,-⟩:=zIW L [.int .i64 3,.int .i64 9,.int .i64 40,.int .i64 1,.int .u8 3] rfl hW;obtain ⟨l,⟨q0,q1,q2,q3,q4⟩,_⟩:=L3.q5;exact bodyPost_ret (v:=.agg #[.int .i64 3,.int .i64 9,.int .i64 40,.int .i64 1,.int .u8 3]) (by simp [results,results43,go_sem,q0,q1,q2,q3,q4,l]) rfl ⟨rfl,by rw [hg];exact hb.trans (h3 g (Nat.le_refl g))⟩
theorem fourth_law (w:World) : Calls prog 41 #[] w fun e w'=>e = .returned (.agg #[.int .i64 4,.int .i64 4,.int .i64 30,.int .i64 2,.int .u8 1])/\Below w.heap.size w w':=by
 have L:=Lay.new w 49 #[.int .i64 0,.int .i64 0,.int .i64 0,.int .i64 0,.int .u8 0];have hb:=zB w (.cells #[.int .i64 0,.int .i64 0,.int .i64 0,.int .i64 0,.int .u8 0] 49);go_enter func41,ntmps41;go_wp2_with fail;generalize w.alloc _=w1 at *;refine (zKV _ _ _ _ _ _).mono ?_;rintro e w2 ⟨rfl,h2⟩;replace L:=L.ext h2;replace hb:=zA hb h2;obtain ⟨l,⟨q0,q1,q2,q3,q4⟩,f0,f1,f2,f3,f4⟩:=L.q5;generalize hg:w.heap.size=g at *;go_wp2;generalize hW:((((w2.setCell _ _).setCell _ _).setCell _ _).setCell _ _).setCell _ _=w3;obtain ⟨L3,h3,-⟩:=zIW L [.int .i64 4,.int .i64 4,.int .i64 30,.int .i64 2,.int .u8 1] rfl hW;obtain ⟨l,⟨q0,q1,q2,q3,q4⟩,_⟩:=L3.q5;exact bodyPost_ret (v:=.agg #[.int .i64 4,.int .i64 4,.int .i64 30,.int .i64 2,.int .u8 1]) (by simp [results,results41,go_sem,q0,q1,q2,q3,q4,l]) rfl ⟨rfl,by rw [hg];exact hb.trans (h3 g (Nat.le_refl g))⟩
end
section
open Tryz
open Go.RowKit
def Capd (v:Value) (n:Nat) : Prop:=∃ a c,v = .slice a n c/\n<=c
theorem capd_own {w:World} {base n:Nat} {e:TypeId} {sz:Nat} {v:Value} {cs:List Value} (h:w.ownsRow base e sz v n cs) : Capd v n:=by
 obtain ⟨_,h⟩:=h;rcases h with ⟨rfl,h0⟩ | ⟨g,cap,cur,rfl,_,_,hn,_⟩
 ·exact ⟨none,0,by rw [h0],by omega⟩
 ·exact ⟨_,_,rfl,hn⟩
section
variable {P:Program}
theorem grows_append_copyC {o:Oper} {a:Act} {w:World} (s x:Operand) (t:TypeId) (ho:o.op = .call { callee:=.builtin .append,args:=#[s,x],argTypes:=#[t,t] })
  (e:TypeId) (i:TypeInfo) (z:Value) (sz bytes:Nat) (ht:P.underlying t=some (.slice e)) (hi:P.info? e=some i) (hz:i.zero=some z) (hsize:i.size=sz) (hby:i.bytes=bytes) (hzs:z.cells.size=sz) (hsz:0 < sz) (hby2:bytes<=1000)
  {α:Type} {E:World->Nat->Nat->α->Prop} (hC:zQG E sz) (hE:zHM E sz) (v0 v:Value) (xs:List α) (hs:a.eval s=v0) (hv0:∃ g,v0 = .slice (some ⟨g,0,none⟩) 0 0) (hx:a.eval x=v) (hsl:Sl E sz w v xs) (hn:xs.length<=100000) (base:Nat) (hbase:base<=w.heap.size) :
  o.grows P a w (fun u w'=>Sl (Fr base e E) sz w' u xs/\Capd u xs.length):=by
 obtain ⟨g,rfl⟩:=hv0;by_cases hx0:xs=[]
 ·subst hx0;obtain ⟨a',cap,rfl,_⟩:=zD hsl;have hrun:=run_append_empty (P:=P) w t o.type e i ht hi g a' cap;unfold Oper.grows;simp only [List.length_nil] at hx;simp [execOp,ho,resolve,invoke,builtin,hs,hx,hrun,Result.andThen];exact ⟨br_,zIR _ _ _ _ _,_,_,rfl,Nat.zero_le _⟩
 ·obtain ⟨a',cap,rfl,_⟩:=zD hsl
  obtain ⟨_,hX⟩:=zY hsl;obtain ⟨b,off,hh,_⟩:=hX 0 (List.length_pos_iff.2 hx0);cases hh;have hEE:∀ k (hk:k < xs.length),E w b (off+k*sz) xs[k]:=fun k hk=>by
   obtain ⟨b',off',hh,he⟩:=hX k hk;cases hh;exact he
  obtain ⟨news,hl,hc,h1⟩:=zLZ hE xs hEE;have hpos:=List.length_pos_iff.2 hx0;obtain ⟨v',w',hrun,r1,r2⟩:=run_append_arg_grows (P:=P) w t o.type e i z sz bytes ht hi hz hsize hby hzs hsz ⟨g,0,none⟩ 0 0 [] (by simp) (fun j u hj=>by simp at hj) ⟨b,off,none⟩ xs.length cap news hl (fun j u hj=>by rw [Addr.add_lit];exact hc j u hj)
   (by omega) (by unfold maxLen;omega) (by have:(0+xs.length)*bytes<=100000*1000:=Nat.mul_le_mul (by omega) hby2;omega)
  have hb:Below w.heap.size w w':=(Below.refl _ w).grown r2 (Nat.le_refl _) (fun k e=>by cases e);rw [Nat.zero_add,List.nil_append] at r1;unfold Oper.grows;simp [execOp,ho,resolve,invoke,builtin,hs,hx,hrun,Result.andThen];have hs':=zHC hC hb hEE hl hc r1;exact ⟨hb,zOV hbase (fr_of_own hs' r1),capd_own r1⟩
end
end
section
open Tryz
open Go.RowKit
attribute [local go_sem] zAE Oper.grows Oper.growUpon Oper.wild Oper.wildUpon
structure ExAt (w:World) (vr vn vm vh:Value) : Prop where
 reg:Sl zAY 5 w vr exR
 rcap:Capd vr 7
 notes:Sl zBL 10 w vn exN
 ncap:Capd vn 2
 ms:Sl zAM 1 w vm [4,6,9]
 hs:Sl zDO 4 w vh [⟨30,1,5,9⟩]
 hcap:Capd vh 1
theorem ExAt.ext {w w':World} {vr vn vm vh:Value} (hb:Below w.heap.size w w') (h:ExAt w vr vn vm vh) : ExAt w' vr vn vm vh :=
 ⟨zJ zU hb h.reg,h.rcap,zJ zAN hb h.notes,h.ncap,zJ zN hb h.ms,zJ zCU hb h.hs,h.hcap⟩
theorem exN_num:∀ x∈exN,I64 x.num/\I64 x.day/\U8 x.sg/\I64 x.d/\I64 x.l/\I64 x.fr/\I64 x.to/\I64 x.ca/\U8 x.ways:=by
 intro x hx;simp only [exN,List.mem_cons,List.not_mem_nil,or_false] at hx;rcases hx with rfl | rfl <;> exact ⟨zV,zV,zMI,zV,zV,zV,zV,zV,zMI⟩
theorem notes_lay {w:World} {g:Nat} {t:TypeId} (L:Lay w g #[.int .i64 101,.int .i64 100,.int .u8 2,.int .i64 30,.int .i64 2,.int .i64 5,.int .i64 999,.int .i64 0,.bool true,.int .u8 0,.int .i64 102,.int .i64 200,.int .u8 1,.int .i64 10,.int .i64 2,.int .i64 8,.int .i64 20,.int .i64 0,.bool false,.int .u8 0] t) :
  Sl zBL 10 w (.slice (some ⟨g,0,none⟩) 2 2) exN:=zIB L rfl (by omega) fun k hk hc=>⟨match k,hk with
  | 0,_=>⟨hc _ _ rfl,hc _ _ rfl,hc _ _ rfl,hc _ _ rfl,hc _ _ rfl,hc _ _ rfl,hc _ _ rfl,hc _ _ rfl,hc _ _ rfl,hc _ _ rfl⟩
  | 1,_=>⟨hc _ _ rfl,hc _ _ rfl,hc _ _ rfl,hc _ _ rfl,hc _ _ rfl,hc _ _ rfl,hc _ _ rfl,hc _ _ rfl,hc _ _ rfl,hc _ _ rfl⟩,exN_num _ (List.getElem_mem hk)⟩
theorem ms_lay {w:World} {g:Nat} {t:TypeId} (L:Lay w g #[.int .i64 4,.int .i64 6,.int .i64 9] t) : Sl zAM 1 w (.slice (some ⟨g,0,none⟩) 3 3) [4,6,9]:=zIB L rfl (by omega) fun k hk hc=>match k,hk with
  | 0,_=>⟨hc _ _ rfl,(zV:I64 4)⟩
  | 1,_=>⟨hc _ _ rfl,(zV:I64 6)⟩
  | 2,_=>⟨hc _ _ rfl,(zV:I64 9)⟩
theorem hs_lay {w:World} {g:Nat} {t:TypeId} (L:Lay w g #[.int .i64 30,.int .i64 1,.int .i64 5,.int .i64 9] t) : Sl zDO 4 w (.slice (some ⟨g,0,none⟩) 1 1) [⟨30,1,5,9⟩]:=zIB L rfl (by omega) fun k hk hc=>match k,hk with
  | 0,_=>⟨⟨hc _ _ rfl,hc _ _ rfl,hc _ _ rfl,hc _ _ rfl⟩,(zV:I64 30),(zV:I64 1),(zV:I64 5),(zV:I64 9)⟩
theorem items_two {w:World} {g:Nat} {t:TypeId} {a b c d:Int} (L:Lay w g #[.int .i64 a,.int .i64 b,.int .i64 c,.int .i64 d] t) (ha:I64 a) (hb:I64 b) (hc:I64 c) (hd:I64 d) : Sl zBV 2 w (.slice (some ⟨g,0,none⟩) 2 2) [⟨a,b⟩,⟨c,d⟩]:=zIB L rfl (by omega) fun k hk h=>match k,hk with
  | 0,_=>⟨⟨h _ _ rfl,h _ _ rfl⟩,ha,hb⟩
  | 1,_=>⟨⟨h _ _ rfl,h _ _ rfl⟩,hc,hd⟩
theorem items_three {w:World} {g:Nat} {t:TypeId} {a b c d e f:Int} (L:Lay w g #[.int .i64 a,.int .i64 b,.int .i64 c,.int .i64 d,.int .i64 e,.int .i64 f] t) (ha:I64 a) (hb:I64 b) (hc:I64 c) (hd:I64 d) (he:I64 e) (hf:I64 f) : Sl zBV 2 w (.slice (some ⟨g,0,none⟩) 3 3) [⟨a,b⟩,⟨c,d⟩,⟨e,f⟩]:=zIB L rfl (by omega) fun k hk h=>match k,hk with
  | 0,_=>⟨⟨h _ _ rfl,h _ _ rfl⟩,ha,hb⟩
  | 1,_=>⟨⟨h _ _ rfl,h _ _ rfl⟩,hc,hd⟩
  | 2,_=>⟨⟨h _ _ rfl,h _ _ rfl⟩,he,hf⟩
theorem dims_one {w:World} {g:Nat} {t:TypeId} {a b c:Int} (L:Lay w g #[.int .i64 a,.int .i64 b,.int .i64 c] t) (ha:I64 a) (hb:I64 b) (hc:I64 c) : Sl zGJ 3 w (.slice (some ⟨g,0,none⟩) 1 1) [⟨a,b,c⟩]:=zIB L rfl (by omega) fun k hk h=>match k,hk with
  | 0,_=>⟨⟨h _ _ rfl,h _ _ rfl,h _ _ rfl⟩,ha,hb,hc⟩
theorem reg_lay {w:World} {g g1 g2 g3 d1 d2:Nat} {t t1 t2 t3 t4 t5:TypeId} (L:Lay w g #[.int .i64 10,.int .i64 1,.int .u8 1,.slice (some ⟨g1,0,none⟩) 2 2,.slice none 0 0,.int .i64 10,.int .i64 2,.int .u8 1,.slice (some ⟨g2,0,none⟩) 3 3,.slice none 0 0,.int .i64 20,.int .i64 1,.int .u8 1,.slice (some ⟨g3,0,none⟩) 2 2,.slice none 0 0,.int .i64 30,.int .i64 1,.int .u8 2,.slice none 0 0,.slice (some ⟨d1,0,none⟩) 1 1,.int .i64 30,.int .i64 2,.int .u8 2,.slice none 0 0,.slice (some ⟨d2,0,none⟩) 1 1,.int .i64 40,.int .i64 1,.int .u8 2,.slice none 0 0,.slice none 0 0,.int .i64 50,.int .i64 1,.int .u8 3,.slice none 0 0,.slice none 0 0] t)
  (L1:Lay w g1 #[.int .i64 20,.int .i64 2,.int .i64 30,.int .i64 1] t1) (L2:Lay w g2 #[.int .i64 20,.int .i64 1,.int .i64 30,.int .i64 2,.int .i64 40,.int .i64 2] t2) (L3:Lay w g3 #[.int .i64 30,.int .i64 3,.int .i64 50,.int .i64 1] t3)
  (L4:Lay w d1 #[.int .i64 150,.int .i64 100,.int .i64 200] t4) (L5:Lay w d2 #[.int .i64 150,.int .i64 120,.int .i64 200] t5) : Sl zAY 5 w (.slice (some ⟨g,0,none⟩) 7 7) exR:=by
 have hI:∀ x∈exR,I64 x.d/\I64 x.l/\U8 x.k:=by intro x hx;simp only [exR,List.mem_cons,List.not_mem_nil,or_false] at hx;rcases hx with rfl | rfl | rfl | rfl | rfl | rfl | rfl <;> exact ⟨zV,zV,zMI⟩
 exact zIB L rfl (by omega) fun k hk h=>⟨match k,hk with
  | 0,_=>⟨h _ _ rfl,h _ _ rfl,h _ _ rfl⟩
  | 1,_=>⟨h _ _ rfl,h _ _ rfl,h _ _ rfl⟩
  | 2,_=>⟨h _ _ rfl,h _ _ rfl,h _ _ rfl⟩
  | 3,_=>⟨h _ _ rfl,h _ _ rfl,h _ _ rfl⟩
  | 4,_=>⟨h _ _ rfl,h _ _ rfl,h _ _ rfl⟩
  | 5,_=>⟨h _ _ rfl,h _ _ rfl,h _ _ rfl⟩
  | 6,_=>⟨h _ _ rfl,h _ _ rfl,h _ _ rfl⟩,hI _ (List.getElem_mem hk),match k,hk with
  | 0,_=>⟨_,_,h _ _ rfl,h _ _ rfl,items_two L1 zV zV zV zV,zCY _ _ _⟩
  | 1,_=>⟨_,_,h _ _ rfl,h _ _ rfl,items_three L2 zV zV zV zV zV zV,zCY _ _ _⟩
  | 2,_=>⟨_,_,h _ _ rfl,h _ _ rfl,items_two L3 zV zV zV zV,zCY _ _ _⟩
  | 3,_=>⟨_,_,h _ _ rfl,h _ _ rfl,zCY _ _ _,dims_one L4 zV zV zV⟩
  | 4,_=>⟨_,_,h _ _ rfl,h _ _ rfl,zCY _ _ _,dims_one L5 zV zV zV⟩
  | 5,_=>⟨_,_,h _ _ rfl,h _ _ rfl,zCY _ _ _,zCY _ _ _⟩
  | 6,_=>⟨_,_,h _ _ rfl,h _ _ rfl,zCY _ _ _,zCY _ _ _⟩⟩
def zPP (n:Nat) (cs:Array Value) (t:TypeId) (v:Value) (w:World) : Prop:=∃ g,v = .slice (some ⟨g,0,none⟩) n n/\Lay w g cs t
theorem zPP.stays {n:Nat} {cs:Array Value} {t:TypeId} (v:Value) (w w':World) (hb:Below w.heap.size w w') (h:zPP n cs t v w) : zPP n cs t v w':=by
 obtain ⟨g,h1,h2⟩:=h;exact ⟨g,h1,h2.ext hb⟩
abbrev exNC:Array Value:=#[.int .i64 101,.int .i64 100,.int .u8 2,.int .i64 30,.int .i64 2,.int .i64 5,.int .i64 999,.int .i64 0,.bool true,.int .u8 0,.int .i64 102,.int .i64 200,.int .u8 1,.int .i64 10,.int .i64 2,.int .i64 8,.int .i64 20,.int .i64 0,.bool false,.int .u8 0]
def zMN (gr:Nat) (v:Value) (w:World) : Prop:=∃ g,v = .agg #[.slice (some ⟨gr,0,none⟩) 7 7,.slice (some ⟨g,0,none⟩) 2 2]/\Lay w g exNC 74
theorem zMN.stays {gr:Nat} (v:Value) (w w':World) (hb:Below w.heap.size w w') (h:zMN gr v w) : zMN gr v w':=by
 obtain ⟨g,h1,h2⟩:=h;exact ⟨g,h1,h2.ext hb⟩
def AllV (gr:Nat) (a:Option Addr) (n c:Nat) (v:Value) (w:World) : Prop:=∃ g1 g2 g3,v = .agg #[.slice (some ⟨gr,0,none⟩) 7 7,.slice (some ⟨g1,0,none⟩) 2 2,.int .i64 10,.slice (some ⟨g2,0,none⟩) 3 3,.slice (some ⟨g3,0,none⟩) 1 1,.slice a n c] /\
 Lay w g1 exNC 74/\Lay w g2 #[.int .i64 4,.int .i64 6,.int .i64 9] 3/\Lay w g3 #[.int .i64 30,.int .i64 1,.int .i64 5,.int .i64 9] 42
theorem AllV.stays {gr:Nat} {a:Option Addr} {n c:Nat} (v:Value) (w w':World) (hb:Below w.heap.size w w') (h:AllV gr a n c v w) : AllV gr a n c v w':=by
 obtain ⟨g1,g2,g3,h0,h1,h2,h3⟩:=h;exact ⟨g1,g2,g3,h0,h1.ext hb,h2.ext hb,h3.ext hb⟩
theorem zBB (w:World) (a:Option Addr) (n c:Nat) :
  Calls prog 36 #[.slice a n c] w fun e w'=>∃ vr vn vm vh,e = .returned (.agg #[vr,vn,.int .i64 10,vm,vh,.slice a n c])/\ExAt w' vr vn vm vh/\Below w.heap.size w w':=by
 have H:=(HeldB.nil w).new #[.slice none 0 0,.slice none 0 0,.int .i64 0,.slice none 0 0,.slice none 0 0,.slice none 0 0] 32;go_enter func36,ntmps36;go_wp2_with fail;generalize w.alloc _=w1 at *;iterate 2
  refine (item_law _ _ _).mono ?_;rintro e w2 ⟨rfl,h⟩;replace H:=H.ext h;clear h;go_wp2_with fail
 replace H:=H.new #[.int .i64 20,.int .i64 2,.int .i64 30,.int .i64 1] 97;generalize w2.heap.size=g1 at *;generalize w2.alloc _=w2 at *;refine (made_law _ _ _ _ _ _).mono ?_;rintro e w2 ⟨rfl,h⟩;replace H:=H.ext h;clear h;go_wp2_with fail;iterate 3
  refine (item_law _ _ _).mono ?_;rintro e w2 ⟨rfl,h⟩;replace H:=H.ext h;clear h;go_wp2_with fail
 replace H:=H.new #[.int .i64 20,.int .i64 1,.int .i64 30,.int .i64 2,.int .i64 40,.int .i64 2] 97;generalize w2.heap.size=g2 at *;generalize w2.alloc _=w2 at *;refine (made_law _ _ _ _ _ _).mono ?_;rintro e w2 ⟨rfl,h⟩;replace H:=H.ext h;clear h;go_wp2_with fail;iterate 2
  refine (item_law _ _ _).mono ?_;rintro e w2 ⟨rfl,h⟩;replace H:=H.ext h;clear h;go_wp2_with fail
 replace H:=H.new #[.int .i64 30,.int .i64 3,.int .i64 50,.int .i64 1] 97;generalize w2.heap.size=g3 at *;generalize w2.alloc _=w2 at *;refine (made_law _ _ _ _ _ _).mono ?_;rintro e w2 ⟨rfl,h⟩;replace H:=H.ext h;clear h;go_wp2;replace H:=(((H.new #[.int .i64 150,.int .i64 100,.int .i64 200] 167).new #[.int .i64 150,.int .i64 120,.int .i64 200] 167).new #[.int .i64 10,.int .i64 1,.int .u8 1,.slice (some ⟨g1,0,none⟩) 2 2,.slice none 0 0,.int .i64 10,.int .i64 2,.int .u8 1,.slice (some ⟨g2,0,none⟩) 3 3,.slice none 0 0,.int .i64 20,.int .i64 1,.int .u8 1,.slice (some ⟨g3,0,none⟩) 2 2,.slice none 0 0,.int .i64 30,.int .i64 1,.int .u8 2,.slice none 0 0,.slice (some ⟨w2.heap.size,0,none⟩) 1 1,.int .i64 30,.int .i64 2,.int .u8 2,.slice none 0 0,.slice (some ⟨w2.heap.size+1,0,none⟩) 1 1,.int .i64 40,.int .i64 1,.int .u8 2,.slice none 0 0,.slice none 0 0,.int .i64 50,.int .i64 1,.int .u8 3,.slice none 0 0,.slice none 0 0] 118).new #[.slice (some ⟨w2.heap.size+1+1,0,none⟩) 7 7] 24;simp only [World.size_alloc] at H;generalize (((w2.alloc _).alloc _).alloc _).alloc _=w3 at *;generalize w2.heap.size=g4 at *;have K0:=zH (show zK w3 _ 0 _ from (H.get 0 rfl).cell 0 _ rfl);have HH:=zE H;clear H;refine zM 12 (by kernel_rfl) (by kernel_rfl) ?_;simp only [tk_];iterate 3 (apply gx_;focus (intro vs xq hd;(try simp [hq_] at hd);simp only [pf_];go_simp;exact ⟨br_,rfl⟩))
 refine zL (zPP 2 exNC 74) zPP.stays ?_ ?_
 ·intro vs xq hd
  (try simp [hq_] at hd)
  simp only [pf_];go_simp;exact ⟨zB _ _,_,rfl,Lay.new _ _ _⟩
 refine zL (zMN (g4+1+1)) zMN.stays ?_ ?_
 ·intro vs xq hd
  (try simp [hq_] at hd)
  simp only [pf_];obtain ⟨e0,g,e3,hs⟩:=hd;simp only [e0,e3];go_simp;exact ⟨br_,g,rfl,hs⟩
 refine zL (zPP 3 #[.int .i64 4,.int .i64 6,.int .i64 9] 3) zPP.stays ?_ ?_
 ·intro vs xq hd
  (try simp [hq_] at hd)
  simp only [pf_];go_simp;exact ⟨zB _ _,_,rfl,Lay.new _ _ _⟩
 refine zL (zPP 3 #[.int .i64 4,.int .i64 6,.int .i64 9] 3) zPP.stays ?_ ?_
 ·intro vs xq hd
  (try simp [hq_] at hd)
  simp only [pf_];obtain ⟨g,e5,hs⟩:=hd;simp only [e5];go_simp;refine (zRI _ _ _ _).mono ?_;rintro e w9 ⟨rfl,rfl⟩;exact ⟨_,rfl,br_,g,rfl,hs⟩
 refine zT ?_;apply Exists.intro;refine ⟨fun vs xq hd=>?_,?_⟩
 ·(try simp [hq_] at hd)
  simp only [pf_];go_simp;refine (zHQ _ _ _).mono ?_;rintro e w9 ⟨rfl,hb9⟩;exact ⟨rfl,hb9⟩
 apply gx_;focus (intro vs xq hd;(try simp [hq_] at hd);simp only [pf_];go_simp;exact ⟨br_,rfl⟩)
 refine zL (zPP 1 #[.int .i64 30,.int .i64 1,.int .i64 5,.int .i64 9] 42) zPP.stays ?_ ?_
 ·intro vs xq hd
  (try simp [hq_] at hd)
  simp only [pf_];go_simp;exact ⟨zB _ _,_,rfl,Lay.new _ _ _⟩
 apply gx_;focus (intro vs xq hd;(try simp [hq_] at hd);simp only [pf_];go_simp;exact ⟨br_,rfl⟩)
 refine zL (AllV (g4+1+1) a n c) AllV.stays ?_ ?_
 ·intro vs xq hd
  (try simp [hq_] at hd)
  simp only [pf_];obtain ⟨⟨gn,e4,hN⟩,⟨gm,e6,hM⟩,⟨gh,e9,hH⟩,e10⟩:=hd;simp only [e4,e6,e9,e10];go_simp;exact ⟨br_,gn,gm,gh,rfl,hN,hM,hH⟩
 refine zQ (by simp only [List.length_append,List.length_cons,List.length_nil]) (fun vs xq hd=>?_);simp [zW,zAI,List.range,List.range.loop] at hd;simp only [pf_];obtain ⟨-,-,-,-,-,-,-,-,-,-,-,gn,gm,gh,e11,hN,hM,hH⟩:=hd;simp only [e11];have H8:=HH.out.ext (zG w3 xq);clear HH K0 e11;generalize w3.later xq=w8 at *;have HL:=zE H8;have HE:=zE (And.intro hN (And.intro hM hH));obtain ⟨l,⟨q0,q1,q2,q3,q4,q5⟩,f0,f1,f2,f3,f4,f5⟩:=(H8.get 7 rfl).q6;clear H8 hN hM hH;generalize hgw:w.heap.size=g at *;go_wp2;generalize hW:(((((w8.setCell _ _).setCell _ _).setCell _ _).setCell _ _).setCell _ _).setCell _ _=w9;have L8:=HL.out.get 7 rfl;obtain ⟨L9,h9,hk⟩:=zIW L8 [.slice (some ⟨g4+1+1,0,none⟩) 7 7,.slice (some ⟨gn,0,none⟩) 2 2,.int .i64 10,.slice (some ⟨gm,0,none⟩) 3 3,.slice (some ⟨gh,0,none⟩) 1 1,.slice a n c] rfl hW;obtain ⟨l,⟨q0,q1,q2,q3,q4,q5⟩,_⟩:=L9.q6;refine bodyPost_ret (v:=.agg #[.slice (some ⟨g4+1+1,0,none⟩) 7 7,.slice (some ⟨gn,0,none⟩) 2 2,.int .i64 10,.slice (some ⟨gm,0,none⟩) 3 3,.slice (some ⟨gh,0,none⟩) 1 1,.slice a n c]) (by simp [results,results36,go_sem,q0,q1,q2,q3,q4,q5,l]) rfl ?_;exact ⟨_,_,_,_,rfl,⟨reg_lay (hk _ _ _ (HL.out.get 1 rfl) (by decide)) (hk _ _ _ (HL.out.get 6 rfl) (by decide)) (hk _ _ _ (HL.out.get 5 rfl) (by decide)) (hk _ _ _ (HL.out.get 4 rfl) (by decide)) (hk _ _ _ (HL.out.get 3 rfl) (by decide)) (hk _ _ _ (HL.out.get 2 rfl) (by decide)),
  ⟨_,_,rfl,Nat.le_refl _⟩,notes_lay (hk _ _ _ HE.out.1 (by decide)),⟨_,_,rfl,Nat.le_refl _⟩,ms_lay (hk _ _ _ HE.out.2.1 (by decide)),hs_lay (hk _ _ _ HE.out.2.2 (by decide)),⟨_,_,rfl,Nat.le_refl _⟩⟩,HL.out.below.trans (h9 _ (Nat.le_of_eq hgw))⟩
end
section
def inF (S:List Int) (m:Int) (x:Note) : Bool:=(x.sg == 2 || decide (x.num∈S)) && (decide (x.fr<=m) && decide (m<=x.to))
def frc (S:List Int) (m:Int) : List Note->List Bool
 | []=>[]
 | x :: N=>(inF S m x && !((N.zip (frc S m N)).any fun p=>p.2 && p.1.ca == x.num)) :: frc S m N
theorem frc_len (S:List Int) (m:Int) (N:List Note) : (frc S m N).length=N.length:=by
 induction N with
 | nil=>rfl
 | cons x N ih=>simp [frc,ih]
def fAt (S:List Int) (m:Int) (N:List Note) (k:Nat) : Bool:=(frc S m N).getD k false
theorem fAt_zero (S:List Int) (m:Int) (x:Note) (N:List Note) : fAt S m (x :: N) 0=(inF S m x && !((N.zip (frc S m N)).any fun p=>p.2 && p.1.ca == x.num)):=rfl
theorem fAt_succ (S:List Int) (m:Int) (x:Note) (N:List Note) (k:Nat) : fAt S m (x :: N) (k+1)=fAt S m N k:=rfl
theorem any_zip (S:List Int) (m c:Int) : ∀ N:List Note,((N.zip (frc S m N)).any fun p=>p.2 && p.1.ca == c)=true↔∃ j,∃ h:j < N.length,fAt S m N j=true/\N[j].ca=c:=by
 suffices ∀ (N:List Note) (B:List Bool),N.length=B.length->(((N.zip B).any fun p=>p.2 && p.1.ca == c)=true↔∃ j,∃ h:j < N.length,B.getD j false=true/\N[j].ca=c) from fun N=>this N _ (frc_len S m N).symm
 intro N B hl;rw [List.any_eq_true];constructor
 ·rintro ⟨p,hp,h⟩;obtain ⟨j,hj,rfl⟩:=List.getElem_of_mem hp;rw [List.length_zip] at hj;simp at h;refine ⟨j,by omega,?_,h.2⟩;rw [List.getD_eq_getElem?_getD,List.getElem?_eq_getElem (by omega)];exact h.1
 ·rintro ⟨j,hj,h1,h2⟩;rw [List.getD_eq_getElem?_getD,List.getElem?_eq_getElem (by omega)] at h1;refine ⟨(N[j],B[j]),?_,by simp [h2];simpa using h1⟩;rw [<- List.getElem_zip (h:=by rw [List.length_zip];omega)];exact List.getElem_mem _
theorem fAt_iff (S:List Int) (m:Int) : ∀ (N:List Note) (k:Nat) (hk:k < N.length),fAt S m N k=true↔inF S m N[k]=true/\∀ j,k < j->∀ hj:j < N.length,fAt S m N j=true->N[j].ca≠N[k].num
 | [],k,hk=>by simp at hk
 | x :: N,0,_=>by
   rw [fAt_zero,Bool.and_eq_true,Bool.not_eq_true',<- Bool.not_eq_true,any_zip];constructor
   ·rintro ⟨h1,h2⟩;refine ⟨h1,fun j hj hl hf hc=>?_⟩;obtain ⟨i,rfl⟩ : ∃ i,j=i+1:=⟨j - 1,by omega⟩;exact h2 ⟨i,by simpa using hl,hf,hc⟩
   ·rintro ⟨h1,h2⟩;refine ⟨h1,?_⟩;rintro ⟨j,hj,hf,hc⟩;exact h2 (j+1) (by omega) (by simpa using hj) hf hc
 | x :: N,k+1,hk=>by
   rw [fAt_succ,fAt_iff S m N k (by simpa using hk)];constructor
   ·rintro ⟨h1,h2⟩;refine ⟨h1,fun j hj hl hf=>?_⟩;obtain ⟨i,rfl⟩ : ∃ i,j=i+1:=⟨j - 1,by omega⟩;exact h2 i (by omega) (by simpa using hl) hf
   ·rintro ⟨h1,h2⟩;refine ⟨h1,fun j hj hl hf=>h2 (j+1) (by omega) (by simpa using hl) hf⟩
def zKE (N:List Note) (f:Nat->Bool) (d:Int) : Nat->Option Note
 | 0=>none
 | k+1=>if f k=true/\(N[k]?).map (·.d)=some d then N[k]? else zKE N f d k
def zIG (S:List Int) (m:Int) (N:List Note) (d:Int) : Option Note:=zKE N (fAt S m N) d N.length
def zAA (S:List Int) (m:Int) (N:List Note) (d:Int) : Int:=(zIG S m N d).elim 1 (·.l)
def zLR (S:List Int) (m:Int) (N:List Note) (d:Int) : Int:=(zIG S m N d).elim 0 (·.num)
theorem noteTo_yes {N:List Note} {f:Nat->Bool} {d:Int} {k:Nat} (hk:k < N.length) (h:f k=true) (hd:N[k].d=d) : zKE N f d (k+1)=some N[k]:=by
 simp only [zKE];rw [if_pos ⟨h,by rw [List.getElem?_eq_getElem hk];simp [hd]⟩,List.getElem?_eq_getElem hk]
theorem noteTo_no {N:List Note} {f:Nat->Bool} {d:Int} {k:Nat} (hk:k < N.length) (h:¬ (f k=true/\N[k].d=d)) : zKE N f d (k+1)=zKE N f d k:=by
 simp only [zKE];rw [if_neg];rintro ⟨h1,h2⟩;rw [List.getElem?_eq_getElem hk] at h2;exact h ⟨h1,by simpa using h2⟩
theorem noteTo_mem {N:List Note} {f:Nat->Bool} {d:Int} {k:Nat} {x:Note} (h:zKE N f d k=some x) : x∈N/\x.d=d:=by
 induction k with
 | zero=>cases h
 | succ k ih =>
   simp only [zKE] at h;split at h
   ·rename_i hc;refine ⟨List.mem_of_getElem? h,?_⟩;rw [h] at hc;simpa using hc.2
   ·exact ih h
end
section
open Tryz
open Go.RowKit
attribute [local go_sem] zAE Oper.grows Oper.growUpon
theorem twinIssue02 (w:World) (vi vd:Value) (x:Issue) (h:IssueAt w vi vd x) (hn:x.items.length<=100) (hn2:x.dims.length<=100) :
  Calls prog 148 #[.agg #[.int .i64 x.d,.int .i64 x.l,.int .u8 x.k,vi,vd]] w fun e w'=>∃ ui ud,e = .returned (.agg #[.int .i64 x.d,.int .i64 x.l,.int .u8 x.k,ui,ud]) /\
   Sl (Fr w.heap.size 97 zBV) 2 w' ui x.items/\Sl (Fr w.heap.size 167 zGJ) 3 w' ud x.dims/\Below w.heap.size w w':=by
 obtain ⟨i0,hi0,hz0,hz1,hz2⟩:=info_parts infoItem;obtain ⟨i1,hi1,hy0,hy1,hy2⟩:=info_parts infoDim;obtain ⟨ai,capi,rfl,_⟩:=zD h.items;obtain ⟨ad,capd,rfl,_⟩:=zD h.dims;obtain ⟨hb1,B1,B2⟩:=zJF w #[.int .i64 x.d,.int .i64 x.l,.int .u8 x.k,.slice ai x.items.length capi,.slice ad x.dims.length capd] #[.int .i64 0,.int .i64 0,.int .u8 0,.slice none 0 0,.slice none 0 0] 118 118;have c0:=B1 0 (.int .i64 x.d) rfl;have c1:=B1 1 (.int .i64 x.l) rfl;have c2:=B1 2 (.int .u8 x.k) rfl;have c3:=B1 3 (.slice ai x.items.length capi) rfl;have c4:=B1 4 (.slice ad x.dims.length capd) rfl;have r0:=B2 0 (.int .i64 0) rfl;have r1:=B2 1 (.int .i64 0) rfl;have r2:=B2 2 (.int .u8 0) rfl;have r3:=B2 3 (.slice none 0 0) rfl;have r4:=B2 4 (.slice none 0 0) rfl;have f1:=free_ext (zB _ (.cells #[.int .i64 0,.int .i64 0,.int .u8 0,.slice none 0 0,.slice none 0 0] 118)) (free_new w #[.int .i64 x.d,.int .i64 x.l,.int .u8 x.k,.slice ai x.items.length capi,.slice ad x.dims.length capd] 118);have f2:=free_new (w.alloc (.cells #[.int .i64 x.d,.int .i64 x.l,.int .u8 x.k,.slice ai x.items.length capi,.slice ad x.dims.length capd] 118)) #[.int .i64 0,.int .i64 0,.int .u8 0,.slice none 0 0,.slice none 0 0] 118;rw [World.size_alloc] at f2;have F:Hid (Free ((w.alloc (.cells #[.int .i64 x.d,.int .i64 x.l,.int .u8 x.k,.slice ai x.items.length capi,.slice ad x.dims.length capd] 118)).alloc (.cells #[.int .i64 0,.int .i64 0,.int .u8 0,.slice none 0 0,.slice none 0 0] 118)) w.heap.size /\
  Free ((w.alloc (.cells #[.int .i64 x.d,.int .i64 x.l,.int .u8 x.k,.slice ai x.items.length capi,.slice ad x.dims.length capd] 118)).alloc (.cells #[.int .i64 0,.int .i64 0,.int .u8 0,.slice none 0 0,.slice none 0 0] 118)) (w.heap.size+1)):=⟨f1,f2⟩
 have C:Hid (∀ w1,zK w1 w.heap.size 0 (.int .i64 x.d)->True):=fun _ _=>trivial
 clear B1 B2 f1 f2 C;have hx:=h.ext hb1;go_enter func148,ntmps148;go_wp2_with fail;generalize (w.alloc _).alloc _=w1 at *;refine zM 9 (by kernel_rfl) (by kernel_rfl) ?_;simp only [tk_];have K3:=zH c3;have K4:=zH c4;refine zL (fun v _=>∃ g,v = .slice (some ⟨g,0,none⟩) 0 0) (fun _ _ _ _ h=>h) ?_ ?_
 ·intro vs xq hd
  (try simp [hq_] at hd)
  simp only [pf_];go_simp;exact zB _ _
 iterate 2 (apply gx_;focus (intro vs xq hd;(try simp [hq_] at hd);simp only [pf_];go_simp;exact ⟨br_,rfl⟩))
 refine zL (fun v w'=>Sl (Fr w1.heap.size 97 zBV) 2 w' v x.items) (fun v w w' hb h=>zJ (zFG zAX) hb h) ?_ ?_
 ·intro vs xq hd
  (try simp [hq_] at hd)
  simp only [pf_];exact stepOk_plain (by rfl) (grows_append_copy (.tmp 3) (.tmp 5) 85 (by rfl) 97 i0 _ 2 16 underlying85 hi0 hz0 hz1 hz2 rfl (by decide) (by decide) copies_item cells_item (vs 0) (.slice ai x.items.length capi) x.items (by rfl) hd.1 (by exact hd.2) (hx.ext (zG _ _)).items (Nat.le_trans hn (by decide)) w1.heap.size (zG w1 xq).size) (fun v w' h=>h)
 refine zL (fun v _=>∃ g,v = .slice (some ⟨g,0,none⟩) 0 0) (fun _ _ _ _ h=>h) ?_ ?_
 ·intro vs xq hd
  (try simp [hq_] at hd)
  simp only [pf_];go_simp;exact zB _ _
 iterate 2 (apply gx_;focus (intro vs xq hd;(try simp [hq_] at hd);simp only [pf_];go_simp;exact ⟨br_,rfl⟩))
 refine zL (fun v w'=>Sl (Fr w1.heap.size 167 zGJ) 3 w' v x.dims) (fun v w w' hb h=>zJ (zFG zBS) hb h) ?_ ?_
 ·intro vs xq hd
  (try simp [hq_] at hd)
  simp only [pf_];exact stepOk_plain (by rfl) (grows_append_copy (.tmp 7) (.tmp 9) 116 (by rfl) 167 i1 _ 3 24 underlying116 hi1 hy0 hy1 hy2 rfl (by decide) (by decide) copies_dim cells_dim (vs 4) (.slice ad x.dims.length capd) x.dims (by rfl) hd.1 (by exact hd.2.1) (hx.ext (zG _ _)).dims (Nat.le_trans hn2 (by decide)) w1.heap.size (zG w1 xq).size) (fun v w' h=>h)
 apply gx_;focus (intro vs xq hd;(try simp [hq_] at hd);simp only [pf_];go_simp;exact ⟨br_,rfl⟩)
 refine zQ rfl (fun vs xq hd=>?_);simp [zW,zAI,List.range,List.range.loop] at hd;simp only [pf_];obtain ⟨_,_,_,s3,_,_,_,s7,e8⟩:=hd;generalize vs 0=u0 at *;generalize vs 1=u1 at *;generalize vs 2=u2 at *;generalize vs 3=u3 at *;generalize vs 4=u4 at *;generalize vs 5=u5 at *;generalize vs 6=u6 at *;generalize vs 7=u7 at *;generalize vs 8=u8 at *;subst e8;have hbl:=zG w1 xq;have c0:=zC hbl c0;have c1:=zC hbl c1;have c2:=zC hbl c2;have c3:=zC hbl c3;have c4:=zC hbl c4;have r0:=zC hbl r0;have r1:=zC hbl r1;have r2:=zC hbl r2;have r3:=zC hbl r3;have r4:=zC hbl r4;have f1:=free_ext hbl F.out.1;have f2:=free_ext hbl F.out.2;have hbb:=zA hb1 hbl;have hlt:=(F.out.2).1;have S3:=zE s3;have S7:=zE s7;obtain ⟨a3,cap3,rfl,_⟩:=zD s3;obtain ⟨a7,cap7,rfl,_⟩:=zD s7;clear s3 s7 K3 K4 hx F h hbl;generalize w1.heap.size=z1 at *;generalize w1.later xq=w2 at *;generalize hg0:w.heap.size=g0 at *;have HG:=zE hg0;clear hg0;have p0:=f1.2 3;have p1:=f1.2 4;have q0:=f2.2 0;have q1:=f2.2 1;have q2:=f2.2 2;have q3:=f2.2 3;have q4:=f2.2 4;have h1:=f1.1;have h2:=f2.1;unfold zK at c0 c1 c2 c3 c4 r0 r1 r2 r3 r4;clear f1 f2;go_wp2;refine bodyPost_ret (v:=.agg #[.int .i64 x.d,.int .i64 x.l,.int .u8 x.k,.slice a3 x.items.length cap3,.slice a7 x.dims.length cap7]) ?_ rfl ⟨_,_,rfl,?_,?_,?_⟩
 ·simp [results,results148,go_sem,r0,r1,r2,r3,r4,h2]
 ·rw [HG.out]
  refine zOV (base:=z1) (by omega) ?_;repeat (refine sl_set zDZ (by omega) ?_)
  exact S3.out
 ·rw [HG.out]
  refine zOV (base:=z1) (by omega) ?_;repeat (refine sl_set zHA (by omega) ?_)
  exact S7.out
 ·rw [HG.out]
  repeat (refine zI (by omega) ?_)
  exact hbb
def Small (R:List Issue) : Prop:=R.length<=80/\∀ k (h:k < R.length),R[k].items.length<=16/\R[k].dims.length<=8
def RetIss (base:Nat) (x:Issue) (v:Value) (w':World) : Prop :=
 ∃ ui ud,v = .agg #[.int .i64 x.d,.int .i64 x.l,.int .u8 x.k,ui,ud]/\Sl (Fr base 97 zBV) 2 w' ui x.items/\Sl (Fr base 167 zGJ) 3 w' ud x.dims
theorem retIss_stays (base:Nat) (x:Issue) : zED (RetIss base x):=fun _ _ _ hb ⟨ui,ud,h1,h2,h3⟩=>⟨ui,ud,h1,zJ (zFG zAX) hb h2,zJ (zFG zBS) hb h3⟩
def BoxIss (base:Nat) (x:Issue) (v:Value) (w':World) : Prop :=
 ∃ bb ui ud,v = .slice (some ⟨bb,0,none⟩) 1 1/\(zK w' bb 0 (.int .i64 x.d)/\zK w' bb 1 (.int .i64 x.l)/\zK w' bb 2 (.int .u8 x.k)/\zK w' bb 3 ui/\zK w' bb 4 ud)/\ui.oneCell'=true/\ud.oneCell'=true/\Sl (Fr base 97 zBV) 2 w' ui x.items/\Sl (Fr base 167 zGJ) 3 w' ud x.dims
theorem boxIss_stays (base:Nat) (x:Issue) : zED (BoxIss base x):=fun _ _ _ hb ⟨bb,ui,ud,h1,⟨g0,g1,g2,g3,g4⟩,o1,o2,h2,h3⟩=>⟨bb,ui,ud,h1,⟨zC hb g0,zC hb g1,zC hb g2,zC hb g3,zC hb g4⟩,o1,o2,zJ (zFG zAX) hb h2,zJ (zFG zBS) hb h3⟩
theorem twin02 (w:World) (v:Value) (R:List Issue) (h:Sl zAY 5 w v R) (hS:Small R) :
  Calls prog 106 #[.agg #[v]] w fun e w'=>∃ u,e = .returned (.agg #[u])/\Sl (Fr w.heap.size 118 (zGI w.heap.size)) 5 w' u R/\Below w.heap.size w w'/\Capd u R.length:=by
 obtain ⟨i0,hi0,hz0,hz1,hz2⟩:=info_parts infoIssue;obtain ⟨hR80,hRS⟩:=hS;have HRS:=zE hRS;clear hRS;obtain ⟨a,cap,rfl,hm⟩:=zD h;obtain ⟨hb1,B1,B2,B3,hfr⟩:=boxed3 w #[.slice a R.length cap] #[.slice none 0 0] #[.slice none 0 0] 24 24 24;have c0:=B1 0 (.slice a R.length cap) rfl;have d0:=B2 0 (.slice none 0 0) rfl;have r0:=B3 0 (.slice none 0 0) rfl;have f2:=free_new (w.alloc (.cells #[.slice a R.length cap] 24)) #[.slice none 0 0] 24;rw [World.size_alloc] at f2;replace f2:=free_ext (zB _ (.cells #[.slice none 0 0] 24)) f2;have hsz:(((w.alloc (.cells #[.slice a R.length cap] 24)).alloc (.cells #[.slice none 0 0] 24)).alloc (.cells #[.slice none 0 0] 24)).heap.size=w.heap.size+3:=by simp
 clear B1 B2 B3;go_enter func106,ntmps106;go_wp2;generalize ((w.alloc _).alloc _).alloc _=w1 at *;generalize hg3:w.heap.size+1+1=g3 at *;generalize hg2:w.heap.size+1=g2 at *;generalize hz:w1.heap.size=z1 at *;have HG:Hid (g2=w.heap.size+1/\g3=w.heap.size+2/\z1=w.heap.size+3/\w1.heap.size=z1):=⟨hg2.symm,by omega,by omega,hz⟩;have hlt1:w.heap.size < g2:=by omega
 have hlt2:w.heap.size < g3:=by omega
 have hlt3:g2 < g3:=by omega
 have hlt4:g3 < z1:=by omega
 clear hg2 hg3 hz hsz;go_loopw [4] (fun i wr=>∃ (k:Nat) (u:Value) (cs:List Value),i = .int .i64 k/\k<=R.length/\Below w.heap.size w wr/\zK wr w.heap.size 0 (.slice a R.length cap)/\zK wr g3 0 u/\Free wr g3/\zK wr g2 0 (.slice none 0 0)/\Free wr g2 /\
  wr.ownsRow z1 118 5 u k cs/\IssRow z1 wr cs (R.take k)/\z1<=wr.heap.size) (fun i _=>R.length - (intOf i).toNat)
 case atStart=>exact ⟨0,_,[],rfl,by omega,hb1,c0,r0,hfr,d0,f2,World.ownsRow_nil _ _ _ _,issRow_nil _ _,by rw [HG.out.2.2.2];omega⟩
 case round =>
  clear c0 d0 r0 f2 hfr;obtain ⟨k,u,cs,rfl,hk,hb,c0,r0,hfr,d0,f2,hown,hrow,hzs⟩:=hrel;by_cases hlt:k < R.length
  ·have e0:=c0
   unfold zK at e0;go_wp2;clear e0;have hle:=HRS.out k hlt;obtain ⟨b,off,rfl,⟨q0,q1,q2⟩,hnum,vi,vd,q3,q4,si,sd⟩:=(zY (zJ zU hb h)).2 k hlt;have htk:R.take (k+1)=R.take k++[R[k]]:=List.take_succ_eq_append_getElem hlt;have HTK:=zE htk;clear htk;generalize R[k]=x at *;obtain ⟨ai,capi,rfl,_⟩:=zD si;obtain ⟨ad,capd,rfl,_⟩:=zD sd;have K0:=zH c0;have K1:=zH r0;have K2:=zH q0;have K3:=zH q1;have K4:=zH q2;have K5:=zH q3;have K6:=zH q4;refine zM 9 (by kernel_rfl) (by kernel_rfl) ?_;simp only [tk_];iterate 7 (apply gx_;focus (intro vs xq hd;(try simp [hq_] at hd);simp only [pf_];go_simp;exact ⟨br_,rfl⟩))
   refine zL (RetIss z1 x) (retIss_stays z1 x) ?_ ?_
   ·intro vs xq hd
    (try simp [hq_] at hd)
    simp only [pf_];go_simp;have hbx:=zG wr xq;refine (twinIssue02 _ _ _ x ⟨zJ zAX hbx si,zJ zBS hbx sd,hnum⟩ (by omega) (by omega)).mono ?_;rintro e w2 ⟨ui,ud,rfl,h1,h2,h3⟩;have hz2:z1<=(wr.later xq).heap.size:=Nat.le_trans hzs hbx.size;exact ⟨_,rfl,h3,ui,ud,rfl,zOV hz2 h1,zOV hz2 h2⟩
   refine zL (BoxIss z1 x) (boxIss_stays z1 x) ?_ ?_
   ·intro vs xq hd
    (try simp [hq_] at hd)
    simp only [pf_];obtain ⟨ui,ud,e7,s1,s2⟩:=hd;obtain ⟨a3,cap3,rfl,_⟩:=zD s1;obtain ⟨a7,cap7,rfl,_⟩:=zD s2;have S1:=zE s1;have S2:=zE s2;clear s1 s2;go_simp;have hba:=zB (wr.later xq) (.cells #[.int .i64 x.d,.int .i64 x.l,.int .u8 x.k,.slice a3 x.items.length cap3,.slice a7 x.dims.length cap7] 118);have B:=zR (wr.later xq) #[.int .i64 x.d,.int .i64 x.l,.int .u8 x.k,.slice a3 x.items.length cap3,.slice a7 x.dims.length cap7] 118;exact ⟨hba,_,_,_,rfl,⟨B 0 _ rfl,B 1 _ rfl,B 2 _ rfl,B 3 _ rfl,B 4 _ rfl⟩,rfl,rfl,zJ (zFG zAX) hba S1.out,zJ (zFG zBS) hba S2.out⟩
   refine zQ rfl (fun vs xq hd=>?_);simp [zW,zAI,List.range,List.range.loop] at hd;simp only [pf_];obtain ⟨e0,e1,e2,e3,e4,e5,e6,_,bb,ui,ud,e8,⟨c80,c81,c82,c83,c84⟩,o1,o2,s1,s2⟩:=hd;generalize vs 0=u0 at *;generalize vs 1=u1 at *;generalize vs 2=u2 at *;generalize vs 3=u3 at *;generalize vs 4=u4 at *;generalize vs 5=u5 at *;generalize vs 6=u6 at *;generalize vs 7=u7 at *;generalize vs 8=u8 at *;subst e0 e1 e2 e3 e4 e5 e6 e8;have hbl:=zG wr xq;replace c0:=zC hbl c0;replace r0:=zC hbl r0;replace hfr:=free_ext hbl hfr;replace d0:=zC hbl d0;replace f2:=free_ext hbl f2;replace hown:=zAC hbl hown;replace hrow:=issRow_same (same_below hbl) (same_below hbl) hrow;have hbb:=zA hb hbl;have hzs2:=Nat.le_trans hzs hbl.size;clear K0 K1 K2 K3 K4 K5 K6 q0 q1 q2 q3 q4 si sd hbl hb h hb1;generalize wr.later xq=w2 at *;obtain ⟨hlt5,hff⟩:=id hfr;have hf0:=hff 0;clear hff;have hk80:k < 80:=by omega
   have HOWN:=zE hown;go_wp2_with (at_builtin;refine wpList_append_own _ rfl (.tmp 13) (.tmp 20) 22 rfl z1 118 i0 _ 5 72 underlying22 hi0 hz0 hz1 hz2 rfl (by decide) u1 k cs rfl HOWN.out ⟨bb,0,none⟩ 1 1 [.int .i64 x.d,.int .i64 x.l,.int .u8 x.k,ui,ud] rfl rfl ?c1 ?c2 ?c3 ?c4 hzs2 ?_)
   case c1 =>
    intro j u hj;rw [zAZ];match j,hj with
    | 0,hj=>cases hj;exact c80
    | 1,hj=>cases hj;exact c81
    | 2,hj=>cases hj;exact c82
    | 3,hj=>cases hj;exact c83
    | 4,hj=>cases hj;exact c84
    | j+5,hj=>simp at hj
   case c2=>intro u hu;simp only [List.mem_cons,List.not_mem_nil,or_false] at hu;rcases hu with rfl | rfl | rfl | rfl | rfl <;> first | rfl | assumption
   case c3=>unfold maxLen;omega
   case c4=>omega
   intro v' w3 hown' hgrow _;obtain ⟨g',cap',rfl⟩:=zDM hown';have c0':=zDG HOWN.out hgrow (by omega) c0;have r0':=zDG HOWN.out hgrow (by omega) r0;have d0':=zDG HOWN.out hgrow (by omega) d0;have fr':=grown_free HOWN.out hgrow (by omega) hfr;have f2':=grown_free HOWN.out hgrow (by omega) f2;have hb':=zEX HOWN.out hgrow hbb (by omega);have hrow':=issRow_same (same_grown hgrow HOWN.out (by decide)) (same_grown hgrow HOWN.out (by decide)) hrow;have s1':=zCH zDZ (same_grown hgrow HOWN.out (by decide)) s1;have s2':=zCH zHA (same_grown hgrow HOWN.out (by decide)) s2;have hrow2:=zE (issRow_same (zRG (j:=0) (u:=.slice (some ⟨g',0,none⟩) (k+1) cap') hlt4) (zRG hlt4) (issRow_snoc hrow' x ui ud hnum s1' s2'));have hown2:=zE (own_set (j:=0) (u:=.slice (some ⟨g',0,none⟩) (k+1) cap') hown' hlt4);have hzs3:=Nat.le_trans hzs2 hgrow.size;have C0:=zE (zBR (j:=0) (u:=.slice (some ⟨g',0,none⟩) (k+1) cap') c0' (by omega:w.heap.size≠g3));have R0:=zE (cell_set_same (u:=.slice (some ⟨g',0,none⟩) (k+1) cap') r0');have D0:=zE (zBR (j:=0) (u:=.slice (some ⟨g',0,none⟩) (k+1) cap') d0' (by omega:g2≠g3));have hf0':=fr'.2 0;clear hgrow hown' hrow hrow' s1 s2 s1' s2' hown c0 c0' d0 d0' r0 hf0;unfold zK at r0';go_wp2;go_roundw
   ·exact ⟨k+1,_,_,by go_num,by omega,zI (by omega) hb',C0.out,R0.out,free_set fr',D0.out,free_set f2',hown2.out,by rw [HTK.out];exact hrow2.out,by simpa using hzs3⟩
   ·simp [intOf];omega
  ·obtain rfl:k=R.length:=by omega
   rw [List.take_of_length_le (Nat.le_refl _)] at hrow;have hs:=zE (issRow_sl hrow hown);have hcd:=zE (capd_own hown);have hw:Hid (z1 ≥ w.heap.size):=by have:=HG.out.2.2.1;show w.heap.size<=z1;omega
   obtain ⟨au,cu,rfl,_⟩:=zD hs.out;have hl3:=hfr.1;have hl2:=f2.1;have hf2:=f2.2 0;clear hrow hown hfr f2;unfold zK at c0 r0 d0;go_wp2;refine bodyPost_ret (v:=.agg #[.slice au R.length cu]) ?_ rfl ⟨_,rfl,?_,?_,hcd.out⟩
   ·simp [results,results106,go_sem,d0,hl2]
   ·have h1:=zIZ (zRG (g:=g2) (j:=0) (u:=.slice au R.length cu) (by omega)) (zRG (by omega)) (zRG (by omega)) hs.out;refine sl_to (fun b o x hx=>?_) h1;obtain ⟨⟨h1,h2,vi,vd,h3,h4,h5,h6⟩,h7,h8⟩:=hx;exact ⟨⟨h1,h2,vi,vd,h3,h4,zOV hw.out h5,zOV hw.out h6⟩,Nat.le_trans hw.out h7,h8⟩
   ·exact zI (by omega) hb
end
section
open Go.RowKit
theorem zKT (w:World) (v v':Value) (xs:List Int) (hx:Sl zAM 1 w v xs) (hy:Sl zAM 1 w v' xs) :
  Calls Tryz.prog 16 #[v,v'] w fun e w'=>e = .returned (.bool true)/\Below w.heap.size w w':=by
 obtain ⟨a,cap,rfl,hm⟩:=zD hx;obtain ⟨a',cap',rfl,_⟩:=zD hy;go_enter Tryz.func16,Tryz.ntmps16;go_wp2;go_loopw [5] (fun i wr=>∃ k:Nat,i = .int .i64 k/\k<=xs.length/\Below w.heap.size w wr) (fun i _=>xs.length - (intOf i).toNat)
 case atStart=>exact ⟨0,rfl,by omega,Below.refl _ _⟩
 case round =>
  obtain ⟨k,rfl,hk,hb⟩:=hrel;by_cases hlt:k < xs.length
  ·have X:=(zY (zJ zN hb hx)).2 k hlt
   have Y:=(zY (zJ zN hb hy)).2 k hlt;obtain ⟨b,off,rfl,hc,_⟩:=X;obtain ⟨b',off',rfl,hc',_⟩:=Y;unfold zK at hc hc';rw [Nat.mul_one] at hc hc';generalize xs[k]=x at *;clear hx hy;go_wp2;go_quiet (fail)
   go_wp2;go_roundw
   case rel=>exact ⟨k+1,by go_num,by omega,zA hb (zAJ _ _)⟩
   case measure=>simp [intOf];omega
  ·go_wp2;go_ret;exact ⟨rfl,hb⟩
theorem sameItems02 (w:World) (v v':Value) (xs:List Item) (hx:Sl zBV 2 w v xs) (hy:Sl zBV 2 w v' xs) :
  Calls Tryz.prog 193 #[v,v'] w fun e w'=>e = .returned (.bool true)/\Below w.heap.size w w':=by
 obtain ⟨a,cap,rfl,hm⟩:=zD hx;obtain ⟨a',cap',rfl,_⟩:=zD hy;go_enter Tryz.func193,Tryz.ntmps193;go_wp2;go_loopw [5] (fun i wr=>∃ k:Nat,i = .int .i64 k/\k<=xs.length/\Below w.heap.size w wr) (fun i _=>xs.length - (intOf i).toNat)
 case atStart=>exact ⟨0,rfl,by omega,Below.refl _ _⟩
 case round =>
  obtain ⟨k,rfl,hk,hb⟩:=hrel;by_cases hlt:k < xs.length
  ·have X:=(zY (zJ zAX hb hx)).2 k hlt
   have Y:=(zY (zJ zAX hb hy)).2 k hlt;obtain ⟨b,off,rfl,⟨hc0,hc1⟩,_⟩:=X;obtain ⟨b',off',rfl,⟨hc0',hc1'⟩,_⟩:=Y;unfold zK at hc0 hc1 hc0' hc1';generalize xs[k]=x at *;clear hx hy;go_wp2;go_quiet (fail)
   go_wp2;go_roundw
   case rel=>exact ⟨k+1,by go_num,by omega,zA hb (zAJ _ _)⟩
   case measure=>simp [intOf];omega
  ·go_wp2;go_ret;exact ⟨rfl,hb⟩
end
end Go.Proofs.YtipaopbmklbmnaaGreatDoor
