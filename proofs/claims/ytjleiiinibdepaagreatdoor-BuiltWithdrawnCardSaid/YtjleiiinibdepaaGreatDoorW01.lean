/- Machines without some of their reports, anew. -/
import Derived.Tactics
import Derived.Tactics2
import Derived.KernelRfl
import Derived.Laws.OwnMore
import Derived.ArgAppend
import Derived.Laws.AppendOwn
import Derived.Test.YtjleiiinibdepaaGreatDoorK01
import Derived.Test.YtjleiiinibdepaaGreatDoorK02
import Derived.Test.YtjleiiinibdepaaGreatDoorK04
import Derived.Test.YtjleiiinibdepaaGreatDoorK05
import Derived.Test.YtjleiiinibdepaaGreatDoorK06
import Derived.Test.YtjleiiinibdepaaGreatDoorK11
import Derived.Test.YtjleiiinibdepaaGreatDoorK13
import Derived.Test.YtjleiiinibdepaaGreatDoorK14
import Derived.Test.YtjleiiinibdepaaGreatDoorK16
import Derived.Test.YtjleiiinibdepaaGreatDoorK27
import Derived.Test.YtjleiiinibdepaaGreatDoorK38
import Derived.Test.YtjleiiinibdepaaGreatDoorK39
import Derived.Test.YtjleiiinibdepaaGreatDoorK40
import Derived.Test.YtjleiiinibdepaaGreatDoorK50
set_option linter.all false
set_option maxRecDepth 100000
set_option maxHeartbeats 12800000

namespace Go
open Go.RowKit
section
variable {P:Program} {Q:Exit→Act→World→Prop} {ops:List Oper} {m:Nat}
theorem stepOk_plain {pops:Array Oper} {o:Oper} {a:Act} {w:World} {R R':Value→World→Prop} (hg:o.guard=none) (h:o.grows P a w R') (hR:∀ v w',R' v w'→R v w') : zAE P pops o a w R:=by
 unfold zAE Region.wanted
 simp only [hg,if_true]
 unfold Oper.grows at *
 generalize (execOp a.eval o).run P w=r at *
 cases r with
 | ok n w' =>
   cases n <;> simp only [Oper.growUpon] at h ⊢
   case value u=>exact ⟨h.1,hR _ _ h.2⟩
   case skip=>exact ⟨h.1,hR _ _ h.2⟩
   case enter f args=>exact h.mono fun e w'' ⟨v,he,hb,hr⟩=>⟨v,he,hb,hR _ _ hr⟩
 | halt x w'=>simp only [Oper.growUpon] at h
theorem wpList_grows {pops:Array Oper} {o:Oper} {rest:List Oper} {a:Act} {w:World} {R:Value→World→Prop} (hg:o.guard=none) (h:o.grows P a w R)
  (k:∀ v w',Below w.heap.size w w'→R v w'→wpList P pops Q rest (a.put o.dst v) w') : wpList P pops Q (o :: rest) a w :=
 wpList_plain hg fun _ hK=>Oper.wp_of_grows h fun v w' hb hr=>hK _ _ (k v w' hb hr)
end
end Go
namespace Go.Proofs.YtjleiiinibdepaaGreatDoor
open Tryz
section
open Go.RowKit
theorem free_local {w w':World} {b:Nat} (hs:w.heap.size≤w'.heap.size) (h:w'.heap[b]? = w.heap[b]?) (hf:Free w b) : Free w' b :=
 ⟨Nat.lt_of_lt_of_le hf.1 hs,fun j=>(World.frozen?_of_block (a:=⟨b,j,none⟩) h).trans (hf.2 j)⟩
theorem grown_free {w w':World} {base:Nat} {e:TypeId} {sz n:Nat} {v:Value} {cs:List Value} (hown:w.ownsRow base e sz v n cs) (hg:w.grownBy w' v.ownBlock) {b:Nat} (hb:b < base) (h:Free w b) : Free w' b :=
 free_local hg.size (hg.block b h.1 (fun e=>by have:=(hown.lt b e.symm).1;omega)) h
theorem free_set {w:World} {b g j:Nat} {u:Value} (h:Free w b) : Free (w.setCell ⟨g,j,none⟩ u) b:=⟨by simpa using h.1,fun k=>by rw [World.frozen?_setCell];exact h.2 k⟩
theorem cell_set_same {w:World} {g j:Nat} {u v:Value} (h:zK w g j v) : zK (w.setCell ⟨g,j,none⟩ u) g j u:=World.cell?_setCell_same w ⟨g,j,none⟩ u h
theorem issRow_nil (base:Nat) (w:World) : IssRow base w [] []:=⟨rfl,fun k hk=>absurd hk (by simp)⟩
theorem issRow_snoc {base:Nat} {w:World} {cs:List Value} {xs:List Issue} (h:IssRow base w cs xs) (x:Issue) (vi vd:Value) (hn:I64 x.d∧I64 x.l∧U8 x.k) (hi:Sl (Fr base 97 zBV) 2 w vi x.items) (hd:Sl (Fr base 100 zGJ) 3 w vd x.dims) :
  IssRow base w (cs++[.int .i64 x.d,.int .i64 x.l,.int .u8 x.k,vi,vd]) (xs++[x]):=by
 obtain ⟨hl,h⟩:=h
 refine ⟨by simp [hl];omega,fun k hk=>?_⟩
 simp only [List.length_append,List.length_cons,List.length_nil] at hk
 by_cases e:k < xs.length
 ·obtain ⟨h0,vi',vd',h1,h2,h3,h4,h5,h6,h7⟩:=h k e
  have ex:(xs++[x])[k]=xs[k]:=List.getElem_append_left e
  refine ⟨by rw [ex];exact h0,vi',vd',?_,?_,?_,?_,?_,by rw [ex];exact h6,by rw [ex];exact h7⟩
  ·rw [List.getElem?_append_left (by omega),ex];exact h1
  ·rw [List.getElem?_append_left (by omega),ex];exact h2
  ·rw [List.getElem?_append_left (by omega),ex];exact h3
  ·rw [List.getElem?_append_left (by omega)];exact h4
  ·rw [List.getElem?_append_left (by omega)];exact h5
 ·obtain rfl:k=xs.length:=by omega
  have ex:(xs++[x])[xs.length]=x:=by simp
  refine ⟨by rw [ex];exact hn,vi,vd,?_,?_,?_,?_,?_,by rw [ex];exact hi,by rw [ex];exact hd⟩
  ·rw [List.getElem?_append_right (by omega),ex,show xs.length*5 - cs.length=0 by omega];rfl
  ·rw [List.getElem?_append_right (by omega),ex,show xs.length*5+1 - cs.length=1 by omega];rfl
  ·rw [List.getElem?_append_right (by omega),ex,show xs.length*5+2 - cs.length=2 by omega];rfl
  ·rw [List.getElem?_append_right (by omega),show xs.length*5+3 - cs.length=3 by omega];rfl
  ·rw [List.getElem?_append_right (by omega),show xs.length*5+4 - cs.length=4 by omega];rfl
section
variable {P:Program}
theorem run_append_empty (w:World) (t ty e:TypeId) (i:TypeInfo) (ht:P.underlying t=some (.slice e)) (hi:P.info? e=some i) (g:Nat) (a:Option Addr) (c:Nat) :
  (Builtin.append_ #[t,t] ty #[.slice (some ⟨g,0,none⟩) 0 0,.slice a 0 c]).run P w = .ok (.slice (some ⟨g,0,none⟩) 0 0) w:=by
 cases a with
 | none=>simp [Builtin.append_,run_underlying ht,sizeOf,typeInfo,hi,Builtin.lenOf,Builtin.firstCells,storeCells]
 | some ad =>
   have:=run_append_room_cells (P:=P) w t ty e i ht hi g 0 0 0 ad 0 c [] (by simp) (fun j u h=>by simp at h) (fun u h=>by simp at h) (by omega) (fun j h=>by simp at h) (fun j h=>by simp at h)
   simpa [World.setCells] using this
theorem grows_append_copy {o:Oper} {a:Act} {w:World} (s x:Operand) (t:TypeId) (ho:o.op = .call { callee:=.builtin .append,args:=#[s,x],argTypes:=#[t,t] })
  (e:TypeId) (i:TypeInfo) (z:Value) (sz bytes:Nat) (ht:P.underlying t=some (.slice e)) (hi:P.info? e=some i) (hz:i.zero=some z) (hsize:i.size=sz) (hby:i.bytes=bytes) (hzs:z.cells.size=sz) (hsz:0 < sz) (hby2:bytes≤1000)
  {α:Type} {E:World→Nat→Nat→α→Prop} (hC:zQG E sz) (hE:zHM E sz) (v0 v:Value) (xs:List α) (hs:a.eval s=v0) (hv0:∃ g,v0 = .slice (some ⟨g,0,none⟩) 0 0) (hx:a.eval x=v) (hsl:Sl E sz w v xs) (hn:xs.length≤100000) (base:Nat) (hbase:base≤w.heap.size) :
  o.grows P a w (fun u w'=>Sl (Fr base e E) sz w' u xs):=by
 obtain ⟨g,rfl⟩:=hv0
 by_cases hx0:xs=[]
 ·subst hx0
  obtain ⟨a',cap,rfl,_⟩:=zD hsl
  have hrun:=run_append_empty (P:=P) w t o.type e i ht hi g a' cap
  unfold Oper.grows
  simp only [List.length_nil] at hx
  simp [execOp,ho,resolve,invoke,builtin,hs,hx,hrun,Result.andThen]
  exact ⟨br_,zIR _ _ _ _ _⟩
 ·obtain ⟨a',cap,rfl,_⟩:=zD hsl
  obtain ⟨_,hX⟩:=zY hsl
  obtain ⟨b,off,hh,_⟩:=hX 0 (List.length_pos_iff.2 hx0)
  cases hh
  have hEE:∀ k (hk:k < xs.length),E w b (off+k*sz) xs[k]:=fun k hk=>by
   obtain ⟨b',off',hh,he⟩:=hX k hk
   cases hh
   exact he
  obtain ⟨news,hl,hc,h1⟩:=zLZ hE xs hEE
  have hpos:=List.length_pos_iff.2 hx0
  obtain ⟨v',w',hrun,r1,r2⟩:=run_append_arg_grows (P:=P) w t o.type e i z sz bytes ht hi hz hsize hby hzs hsz ⟨g,0,none⟩ 0 0 [] (by simp) (fun j u hj=>by simp at hj) ⟨b,off,none⟩ xs.length cap news hl (fun j u hj=>by rw [Addr.add_lit];exact hc j u hj)
   (by omega) (by unfold maxLen;omega) (by
    have:(0+xs.length)*bytes≤100000*1000:=Nat.mul_le_mul (by omega) hby2
    omega)
  have hb:Below w.heap.size w w':=(Below.refl _ w).grown r2 (Nat.le_refl _) (fun k e=>by cases e)
  rw [Nat.zero_add,List.nil_append] at r1
  unfold Oper.grows
  simp [execOp,ho,resolve,invoke,builtin,hs,hx,hrun,Result.andThen]
  have hs':=zHC hC hb hEE hl hc r1
  exact ⟨hb,zOV hbase (fr_of_own hs' r1)⟩
theorem grows_append_new {o:Oper} {a:Act} {w:World} (s x:Operand) (t:TypeId) (ho:o.op = .call { callee:=.builtin .append,args:=#[s,x],argTypes:=#[t,t] })
  (e:TypeId) (i:TypeInfo) (z:Value) (sz bytes:Nat) (ht:P.underlying t=some (.slice e)) (hi:P.info? e=some i) (hz:i.zero=some z) (hsize:i.size=sz) (hby:i.bytes=bytes) (hzs:z.cells.size=sz) (hsz:0 < sz) (hby2:bytes≤1000)
  {α:Type} {E:World→Nat→Nat→α→Prop} (hC:zQG E sz) (hE:zHM E sz) (v0 v:Value) (xs:List α) (hs:a.eval s=v0) (hv0:∃ g,v0 = .slice (some ⟨g,0,none⟩) 0 0) (hx:a.eval x=v) (hsl:Sl E sz w v xs) (hn:xs.length≤100000) (base:Nat) (hbase:base≤w.heap.size)
  (hown0:w.ownsRow base e sz v0 0 []) : o.grows P a w (fun u w'=>New E sz e base w' u xs∧∃ g cap,u = .slice (some ⟨g,0,none⟩) xs.length cap):=by
 obtain ⟨g,rfl⟩:=hv0
 by_cases hx0:xs=[]
 ·subst hx0
  obtain ⟨a',cap,rfl,_⟩:=zD hsl
  have hrun:=run_append_empty (P:=P) w t o.type e i ht hi g a' cap
  unfold Oper.grows
  simp only [List.length_nil] at hx
  simp [execOp,ho,resolve,invoke,builtin,hs,hx,hrun,Result.andThen]
  exact ⟨br_,⟨zIR _ _ _ _ _,_,hown0⟩,g,0,rfl⟩
 ·obtain ⟨a',cap,rfl,_⟩:=zD hsl
  obtain ⟨_,hX⟩:=zY hsl
  obtain ⟨b,off,hh,_⟩:=hX 0 (List.length_pos_iff.2 hx0)
  cases hh
  have hEE:∀ k (hk:k < xs.length),E w b (off+k*sz) xs[k]:=fun k hk=>by
   obtain ⟨b',off',hh,he⟩:=hX k hk
   cases hh
   exact he
  obtain ⟨news,hl,hc,h1⟩:=zLZ hE xs hEE
  have hpos:=List.length_pos_iff.2 hx0
  obtain ⟨v',w',hrun,r1,r2⟩:=run_append_arg_grows (P:=P) w t o.type e i z sz bytes ht hi hz hsize hby hzs hsz ⟨g,0,none⟩ 0 0 [] (by simp) (fun j u hj=>by simp at hj) ⟨b,off,none⟩ xs.length cap news hl (fun j u hj=>by rw [Addr.add_lit];exact hc j u hj)
   (by omega) (by unfold maxLen;omega) (by
    have:(0+xs.length)*bytes≤100000*1000:=Nat.mul_le_mul (by omega) hby2
    omega)
  have hb:Below w.heap.size w w':=(Below.refl _ w).grown r2 (Nat.le_refl _) (fun k e=>by cases e)
  rw [Nat.zero_add,List.nil_append] at r1
  unfold Oper.grows
  simp [execOp,ho,resolve,invoke,builtin,hs,hx,hrun,Result.andThen]
  refine ⟨hb,⟨zHC hC hb hEE hl hc r1,news,hl,?_⟩,?_⟩
  ·rcases r1.2 with h | ⟨g',cap',cur,h1,h2,h3⟩
   ·exact .inl h
   ·exact .inr ⟨g',cap',cur,h1,Nat.le_trans hbase h2,h3⟩
  ·rcases r1.2 with h | ⟨g',cap',cur,h1,h2,h3⟩
   ·omega
   ·exact ⟨g',cap',h1⟩
end
end
section
open Go.RowKit
theorem capd_own {w:World} {base n:Nat} {e:TypeId} {sz:Nat} {v:Value} {cs:List Value} (h:w.ownsRow base e sz v n cs) : Capd v n:=by
 obtain ⟨_,h⟩:=h
 rcases h with ⟨rfl,h0⟩ | ⟨g,cap,cur,rfl,_,_,hn,_⟩
 ·exact ⟨none,0,by rw [h0],by omega⟩
 ·exact ⟨_,_,rfl,hn⟩
section
variable {P:Program}
theorem grows_append_copyC {o:Oper} {a:Act} {w:World} (s x:Operand) (t:TypeId) (ho:o.op = .call { callee:=.builtin .append,args:=#[s,x],argTypes:=#[t,t] })
  (e:TypeId) (i:TypeInfo) (z:Value) (sz bytes:Nat) (ht:P.underlying t=some (.slice e)) (hi:P.info? e=some i) (hz:i.zero=some z) (hsize:i.size=sz) (hby:i.bytes=bytes) (hzs:z.cells.size=sz) (hsz:0 < sz) (hby2:bytes≤1000)
  {α:Type} {E:World→Nat→Nat→α→Prop} (hC:zQG E sz) (hE:zHM E sz) (v0 v:Value) (xs:List α) (hs:a.eval s=v0) (hv0:∃ g,v0 = .slice (some ⟨g,0,none⟩) 0 0) (hx:a.eval x=v) (hsl:Sl E sz w v xs) (hn:xs.length≤100000) (base:Nat) (hbase:base≤w.heap.size) :
  o.grows P a w (fun u w'=>Sl (Fr base e E) sz w' u xs∧Capd u xs.length):=by
 obtain ⟨g,rfl⟩:=hv0
 by_cases hx0:xs=[]
 ·subst hx0
  obtain ⟨a',cap,rfl,_⟩:=zD hsl
  have hrun:=run_append_empty (P:=P) w t o.type e i ht hi g a' cap
  unfold Oper.grows
  simp only [List.length_nil] at hx
  simp [execOp,ho,resolve,invoke,builtin,hs,hx,hrun,Result.andThen]
  exact ⟨br_,zIR _ _ _ _ _,_,_,rfl,Nat.zero_le _⟩
 ·obtain ⟨a',cap,rfl,_⟩:=zD hsl
  obtain ⟨_,hX⟩:=zY hsl
  obtain ⟨b,off,hh,_⟩:=hX 0 (List.length_pos_iff.2 hx0)
  cases hh
  have hEE:∀ k (hk:k < xs.length),E w b (off+k*sz) xs[k]:=fun k hk=>by
   obtain ⟨b',off',hh,he⟩:=hX k hk
   cases hh
   exact he
  obtain ⟨news,hl,hc,h1⟩:=zLZ hE xs hEE
  have hpos:=List.length_pos_iff.2 hx0
  obtain ⟨v',w',hrun,r1,r2⟩:=run_append_arg_grows (P:=P) w t o.type e i z sz bytes ht hi hz hsize hby hzs hsz ⟨g,0,none⟩ 0 0 [] (by simp) (fun j u hj=>by simp at hj) ⟨b,off,none⟩ xs.length cap news hl (fun j u hj=>by rw [Addr.add_lit];exact hc j u hj)
   (by omega) (by unfold maxLen;omega) (by
    have:(0+xs.length)*bytes≤100000*1000:=Nat.mul_le_mul (by omega) hby2
    omega)
  have hb:Below w.heap.size w w':=(Below.refl _ w).grown r2 (Nat.le_refl _) (fun k e=>by cases e)
  rw [Nat.zero_add,List.nil_append] at r1
  unfold Oper.grows
  simp [execOp,ho,resolve,invoke,builtin,hs,hx,hrun,Result.andThen]
  have hs':=zHC hC hb hEE hl hc r1
  exact ⟨hb,zOV hbase (fr_of_own hs' r1),capd_own r1⟩
end
end
section
open Go.RowKit
attribute [local go_sem] zAE Oper.grows Oper.growUpon
theorem twinIssue02 (w:World) (vi vd:Value) (x:Issue) (h:IssueAt w vi vd x) (hn:x.items.length≤100) (hn2:x.dims.length≤100) :
  Calls prog 147 #[.agg #[.int .i64 x.d,.int .i64 x.l,.int .u8 x.k,vi,vd]] w fun e w'=>∃ ui ud,e = .returned (.agg #[.int .i64 x.d,.int .i64 x.l,.int .u8 x.k,ui,ud]) ∧
   Sl (Fr w.heap.size 97 zBV) 2 w' ui x.items∧Sl (Fr w.heap.size 100 zGJ) 3 w' ud x.dims∧Below w.heap.size w w':=by
 obtain ⟨i0,hi0,hz0,hz1,hz2⟩:=info_parts infoItem
 obtain ⟨i1,hi1,hy0,hy1,hy2⟩:=info_parts infoDim
 obtain ⟨ai,capi,rfl,_⟩:=zD h.items
 obtain ⟨ad,capd,rfl,_⟩:=zD h.dims
 obtain ⟨hb1,B1,B2⟩:=zJF w #[.int .i64 x.d,.int .i64 x.l,.int .u8 x.k,.slice ai x.items.length capi,.slice ad x.dims.length capd] #[.int .i64 0,.int .i64 0,.int .u8 0,.slice none 0 0,.slice none 0 0] 94 94
 have c0:=B1 0 (.int .i64 x.d) rfl
 have c1:=B1 1 (.int .i64 x.l) rfl
 have c2:=B1 2 (.int .u8 x.k) rfl
 have c3:=B1 3 (.slice ai x.items.length capi) rfl
 have c4:=B1 4 (.slice ad x.dims.length capd) rfl
 have r0:=B2 0 (.int .i64 0) rfl
 have r1:=B2 1 (.int .i64 0) rfl
 have r2:=B2 2 (.int .u8 0) rfl
 have r3:=B2 3 (.slice none 0 0) rfl
 have r4:=B2 4 (.slice none 0 0) rfl
 have f1:=free_ext (zB _ (.cells #[.int .i64 0,.int .i64 0,.int .u8 0,.slice none 0 0,.slice none 0 0] 94)) (free_new w #[.int .i64 x.d,.int .i64 x.l,.int .u8 x.k,.slice ai x.items.length capi,.slice ad x.dims.length capd] 94)
 have f2:=free_new (w.alloc (.cells #[.int .i64 x.d,.int .i64 x.l,.int .u8 x.k,.slice ai x.items.length capi,.slice ad x.dims.length capd] 94)) #[.int .i64 0,.int .i64 0,.int .u8 0,.slice none 0 0,.slice none 0 0] 94
 rw [World.size_alloc] at f2
 have F:Hid (Free ((w.alloc (.cells #[.int .i64 x.d,.int .i64 x.l,.int .u8 x.k,.slice ai x.items.length capi,.slice ad x.dims.length capd] 94)).alloc (.cells #[.int .i64 0,.int .i64 0,.int .u8 0,.slice none 0 0,.slice none 0 0] 94)) w.heap.size ∧
  Free ((w.alloc (.cells #[.int .i64 x.d,.int .i64 x.l,.int .u8 x.k,.slice ai x.items.length capi,.slice ad x.dims.length capd] 94)).alloc (.cells #[.int .i64 0,.int .i64 0,.int .u8 0,.slice none 0 0,.slice none 0 0] 94)) (w.heap.size+1)):=⟨f1,f2⟩
 have C:Hid (∀ w1,zK w1 w.heap.size 0 (.int .i64 x.d)→True):=fun _ _=>trivial
 clear B1 B2 f1 f2 C
 have hx:=h.ext hb1
 go_enter func147,ntmps147
 go_wp2_with fail
 generalize (w.alloc _).alloc _=w1 at *
 refine zM 9 (by kernel_rfl) (by kernel_rfl) ?_
 simp only [tk_]
 have K3:=zH c3
 have K4:=zH c4
 refine zL (fun v _=>∃ g,v = .slice (some ⟨g,0,none⟩) 0 0) (fun _ _ _ _ h=>h) ?_ ?_
 ·intro vs xq hd
  (try simp [hq_] at hd)
  simp only [pf_]
  go_simp
  exact zB _ _
 iterate 2 (apply gx_;focus (intro vs xq hd;(try simp [hq_] at hd);simp only [pf_];go_simp;exact ⟨br_,rfl⟩))
 refine zL (fun v w'=>Sl (Fr w1.heap.size 97 zBV) 2 w' v x.items) (fun v w w' hb h=>zJ (zFG zAX) hb h) ?_ ?_
 ·intro vs xq hd
  (try simp [hq_] at hd)
  simp only [pf_]
  exact stepOk_plain (by rfl) (grows_append_copy (.tmp 3) (.tmp 5) 91 (by rfl) 97 i0 _ 2 16 underlying91 hi0 hz0 hz1 hz2 rfl (by decide) (by decide) copies_item cells_item (vs 0) (.slice ai x.items.length capi) x.items (by rfl) hd.1 (by exact hd.2) (hx.ext (zG _ _)).items (Nat.le_trans hn (by decide)) w1.heap.size (zG w1 xq).size) (fun v w' h=>h)
 refine zL (fun v _=>∃ g,v = .slice (some ⟨g,0,none⟩) 0 0) (fun _ _ _ _ h=>h) ?_ ?_
 ·intro vs xq hd
  (try simp [hq_] at hd)
  simp only [pf_]
  go_simp
  exact zB _ _
 iterate 2 (apply gx_;focus (intro vs xq hd;(try simp [hq_] at hd);simp only [pf_];go_simp;exact ⟨br_,rfl⟩))
 refine zL (fun v w'=>Sl (Fr w1.heap.size 100 zGJ) 3 w' v x.dims) (fun v w w' hb h=>zJ (zFG zBS) hb h) ?_ ?_
 ·intro vs xq hd
  (try simp [hq_] at hd)
  simp only [pf_]
  exact stepOk_plain (by rfl) (grows_append_copy (.tmp 7) (.tmp 9) 92 (by rfl) 100 i1 _ 3 24 underlying92 hi1 hy0 hy1 hy2 rfl (by decide) (by decide) copies_dim cells_dim (vs 4) (.slice ad x.dims.length capd) x.dims (by rfl) hd.1 (by exact hd.2.1) (hx.ext (zG _ _)).dims (Nat.le_trans hn2 (by decide)) w1.heap.size (zG w1 xq).size) (fun v w' h=>h)
 apply gx_;focus (intro vs xq hd;(try simp [hq_] at hd);simp only [pf_];go_simp;exact ⟨br_,rfl⟩)
 refine zQ rfl (fun vs xq hd=>?_)
 simp [zW,zAI,List.range,List.range.loop] at hd
 simp only [pf_]
 obtain ⟨_,_,_,s3,_,_,_,s7,e8⟩:=hd
 generalize vs 0=u0 at *
 generalize vs 1=u1 at *
 generalize vs 2=u2 at *
 generalize vs 3=u3 at *
 generalize vs 4=u4 at *
 generalize vs 5=u5 at *
 generalize vs 6=u6 at *
 generalize vs 7=u7 at *
 generalize vs 8=u8 at *
 subst e8
 have hbl:=zG w1 xq
 have c0:=zC hbl c0
 have c1:=zC hbl c1
 have c2:=zC hbl c2
 have c3:=zC hbl c3
 have c4:=zC hbl c4
 have r0:=zC hbl r0
 have r1:=zC hbl r1
 have r2:=zC hbl r2
 have r3:=zC hbl r3
 have r4:=zC hbl r4
 have f1:=free_ext hbl F.out.1
 have f2:=free_ext hbl F.out.2
 have hbb:=zA hb1 hbl
 have hlt:=(F.out.2).1
 have S3:=zE s3
 have S7:=zE s7
 obtain ⟨a3,cap3,rfl,_⟩:=zD s3
 obtain ⟨a7,cap7,rfl,_⟩:=zD s7
 clear s3 s7 K3 K4 hx F h hbl
 generalize w1.heap.size=z1 at *
 generalize w1.later xq=w2 at *
 generalize hg0:w.heap.size=g0 at *
 have HG:=zE hg0
 clear hg0
 have p0:=f1.2 3
 have p1:=f1.2 4
 have q0:=f2.2 0
 have q1:=f2.2 1
 have q2:=f2.2 2
 have q3:=f2.2 3
 have q4:=f2.2 4
 have h1:=f1.1
 have h2:=f2.1
 unfold zK at c0 c1 c2 c3 c4 r0 r1 r2 r3 r4
 clear f1 f2
 go_wp2
 refine bodyPost_ret (v:=.agg #[.int .i64 x.d,.int .i64 x.l,.int .u8 x.k,.slice a3 x.items.length cap3,.slice a7 x.dims.length cap7]) ?_ rfl ⟨_,_,rfl,?_,?_,?_⟩
 ·simp [results,results147,go_sem,r0,r1,r2,r3,r4,h2]
 ·rw [HG.out]
  refine zOV (base:=z1) (by omega) ?_
  repeat (refine sl_set zDZ (by omega) ?_)
  exact S3.out
 ·rw [HG.out]
  refine zOV (base:=z1) (by omega) ?_
  repeat (refine sl_set zHA (by omega) ?_)
  exact S7.out
 ·rw [HG.out]
  repeat (refine zI (by omega) ?_)
  exact hbb
end
section
open Go.RowKit
attribute [local go_sem] zAE Oper.grows Oper.growUpon
def RetIss (base:Nat) (x:Issue) (v:Value) (w':World) : Prop :=
 ∃ ui ud,v = .agg #[.int .i64 x.d,.int .i64 x.l,.int .u8 x.k,ui,ud]∧Sl (Fr base 97 zBV) 2 w' ui x.items∧Sl (Fr base 100 zGJ) 3 w' ud x.dims
theorem retIss_stays (base:Nat) (x:Issue) : zED (RetIss base x):=fun _ _ _ hb ⟨ui,ud,h1,h2,h3⟩=>⟨ui,ud,h1,zJ (zFG zAX) hb h2,zJ (zFG zBS) hb h3⟩
def BoxIss (base:Nat) (x:Issue) (v:Value) (w':World) : Prop :=
 ∃ bb ui ud,v = .slice (some ⟨bb,0,none⟩) 1 1∧(zK w' bb 0 (.int .i64 x.d)∧zK w' bb 1 (.int .i64 x.l)∧zK w' bb 2 (.int .u8 x.k)∧zK w' bb 3 ui∧zK w' bb 4 ud)∧ui.oneCell'=true∧ud.oneCell'=true∧Sl (Fr base 97 zBV) 2 w' ui x.items∧Sl (Fr base 100 zGJ) 3 w' ud x.dims
theorem boxIss_stays (base:Nat) (x:Issue) : zED (BoxIss base x):=fun _ _ _ hb ⟨bb,ui,ud,h1,⟨g0,g1,g2,g3,g4⟩,o1,o2,h2,h3⟩=>⟨bb,ui,ud,h1,⟨zC hb g0,zC hb g1,zC hb g2,zC hb g3,zC hb g4⟩,o1,o2,zJ (zFG zAX) hb h2,zJ (zFG zBS) hb h3⟩
theorem twin02 (w:World) (v:Value) (R:List Issue) (h:Sl zAY 5 w v R) (hS:Small R) :
  Calls prog 115 #[.agg #[v]] w fun e w'=>∃ u,e = .returned (.agg #[u])∧Sl (Fr w.heap.size 94 (zGI w.heap.size)) 5 w' u R∧Below w.heap.size w w'∧Capd u R.length:=by
 obtain ⟨i0,hi0,hz0,hz1,hz2⟩:=info_parts infoIssue
 obtain ⟨hR80,hRS⟩:=hS
 have HRS:=zE hRS
 clear hRS
 obtain ⟨a,cap,rfl,hm⟩:=zD h
 obtain ⟨hb1,B1,B2,B3,hfr⟩:=boxed3 w #[.slice a R.length cap] #[.slice none 0 0] #[.slice none 0 0] 26 26 26
 have c0:=B1 0 (.slice a R.length cap) rfl
 have d0:=B2 0 (.slice none 0 0) rfl
 have r0:=B3 0 (.slice none 0 0) rfl
 have f2:=free_new (w.alloc (.cells #[.slice a R.length cap] 26)) #[.slice none 0 0] 26
 rw [World.size_alloc] at f2
 replace f2:=free_ext (zB _ (.cells #[.slice none 0 0] 26)) f2
 have hsz:(((w.alloc (.cells #[.slice a R.length cap] 26)).alloc (.cells #[.slice none 0 0] 26)).alloc (.cells #[.slice none 0 0] 26)).heap.size=w.heap.size+3:=by simp
 clear B1 B2 B3
 go_enter func115,ntmps115
 go_wp2
 generalize ((w.alloc _).alloc _).alloc _=w1 at *
 generalize hg3:w.heap.size+1+1=g3 at *
 generalize hg2:w.heap.size+1=g2 at *
 generalize hz:w1.heap.size=z1 at *
 have HG:Hid (g2=w.heap.size+1∧g3=w.heap.size+2∧z1=w.heap.size+3∧w1.heap.size=z1):=⟨hg2.symm,by omega,by omega,hz⟩
 have hlt1:w.heap.size < g2:=by omega
 have hlt2:w.heap.size < g3:=by omega
 have hlt3:g2 < g3:=by omega
 have hlt4:g3 < z1:=by omega
 clear hg2 hg3 hz hsz
 go_loopw [4] (fun i wr=>∃ (k:Nat) (u:Value) (cs:List Value),i = .int .i64 k∧k≤R.length∧Below w.heap.size w wr∧zK wr w.heap.size 0 (.slice a R.length cap)∧zK wr g3 0 u∧Free wr g3∧zK wr g2 0 (.slice none 0 0)∧Free wr g2 ∧
  wr.ownsRow z1 94 5 u k cs∧IssRow z1 wr cs (R.take k)∧z1≤wr.heap.size) (fun i _=>R.length - (intOf i).toNat)
 case atStart=>exact ⟨0,_,[],rfl,by omega,hb1,c0,r0,hfr,d0,f2,World.ownsRow_nil _ _ _ _,issRow_nil _ _,by rw [HG.out.2.2.2];omega⟩
 case round =>
  clear c0 d0 r0 f2 hfr
  obtain ⟨k,u,cs,rfl,hk,hb,c0,r0,hfr,d0,f2,hown,hrow,hzs⟩:=hrel
  by_cases hlt:k < R.length
  ·have e0:=c0
   unfold zK at e0
   go_wp2
   clear e0
   have hle:=HRS.out k hlt
   obtain ⟨b,off,rfl,⟨q0,q1,q2⟩,hnum,vi,vd,q3,q4,si,sd⟩:=(zY (zJ zU hb h)).2 k hlt
   have htk:R.take (k+1)=R.take k++[R[k]]:=List.take_succ_eq_append_getElem hlt
   have HTK:=zE htk
   clear htk
   generalize R[k]=x at *
   obtain ⟨ai,capi,rfl,_⟩:=zD si
   obtain ⟨ad,capd,rfl,_⟩:=zD sd
   have K0:=zH c0
   have K1:=zH r0
   have K2:=zH q0
   have K3:=zH q1
   have K4:=zH q2
   have K5:=zH q3
   have K6:=zH q4
   refine zM 9 (by kernel_rfl) (by kernel_rfl) ?_
   simp only [tk_]
   iterate 7 (apply gx_;focus (intro vs xq hd;(try simp [hq_] at hd);simp only [pf_];go_simp;exact ⟨br_,rfl⟩))
   refine zL (RetIss z1 x) (retIss_stays z1 x) ?_ ?_
   ·intro vs xq hd
    (try simp [hq_] at hd)
    simp only [pf_]
    go_simp
    have hbx:=zG wr xq
    refine (twinIssue02 _ _ _ x ⟨zJ zAX hbx si,zJ zBS hbx sd,hnum⟩ (by omega) (by omega)).mono ?_
    rintro e w2 ⟨ui,ud,rfl,h1,h2,h3⟩
    have hz2:z1≤(wr.later xq).heap.size:=Nat.le_trans hzs hbx.size
    exact ⟨_,rfl,h3,ui,ud,rfl,zOV hz2 h1,zOV hz2 h2⟩
   refine zL (BoxIss z1 x) (boxIss_stays z1 x) ?_ ?_
   ·intro vs xq hd
    (try simp [hq_] at hd)
    simp only [pf_]
    obtain ⟨ui,ud,e7,s1,s2⟩:=hd
    obtain ⟨a3,cap3,rfl,_⟩:=zD s1
    obtain ⟨a7,cap7,rfl,_⟩:=zD s2
    have S1:=zE s1
    have S2:=zE s2
    clear s1 s2
    go_simp
    have hba:=zB (wr.later xq) (.cells #[.int .i64 x.d,.int .i64 x.l,.int .u8 x.k,.slice a3 x.items.length cap3,.slice a7 x.dims.length cap7] 94)
    have B:=zR (wr.later xq) #[.int .i64 x.d,.int .i64 x.l,.int .u8 x.k,.slice a3 x.items.length cap3,.slice a7 x.dims.length cap7] 94
    exact ⟨hba,_,_,_,rfl,⟨B 0 _ rfl,B 1 _ rfl,B 2 _ rfl,B 3 _ rfl,B 4 _ rfl⟩,rfl,rfl,zJ (zFG zAX) hba S1.out,zJ (zFG zBS) hba S2.out⟩
   refine zQ rfl (fun vs xq hd=>?_)
   simp [zW,zAI,List.range,List.range.loop] at hd
   simp only [pf_]
   obtain ⟨e0,e1,e2,e3,e4,e5,e6,_,bb,ui,ud,e8,⟨c80,c81,c82,c83,c84⟩,o1,o2,s1,s2⟩:=hd
   generalize vs 0=u0 at *
   generalize vs 1=u1 at *
   generalize vs 2=u2 at *
   generalize vs 3=u3 at *
   generalize vs 4=u4 at *
   generalize vs 5=u5 at *
   generalize vs 6=u6 at *
   generalize vs 7=u7 at *
   generalize vs 8=u8 at *
   subst e0 e1 e2 e3 e4 e5 e6 e8
   have hbl:=zG wr xq
   replace c0:=zC hbl c0
   replace r0:=zC hbl r0
   replace hfr:=free_ext hbl hfr
   replace d0:=zC hbl d0
   replace f2:=free_ext hbl f2
   replace hown:=zAC hbl hown
   replace hrow:=issRow_same (same_below hbl) (same_below hbl) hrow
   have hbb:=zA hb hbl
   have hzs2:=Nat.le_trans hzs hbl.size
   clear K0 K1 K2 K3 K4 K5 K6 q0 q1 q2 q3 q4 si sd hbl hb h hb1
   generalize wr.later xq=w2 at *
   obtain ⟨hlt5,hff⟩:=id hfr
   have hf0:=hff 0
   clear hff
   have hk80:k < 80:=by omega
   have HOWN:=zE hown
   go_wp2_with (at_builtin;refine wpList_append_own _ rfl (.tmp 13) (.tmp 20) 24 rfl z1 94 i0 _ 5 72 underlying24 hi0 hz0 hz1 hz2 rfl (by decide) u1 k cs rfl HOWN.out ⟨bb,0,none⟩ 1 1 [.int .i64 x.d,.int .i64 x.l,.int .u8 x.k,ui,ud] rfl rfl ?c1 ?c2 ?c3 ?c4 hzs2 ?_)
   case c1 =>
    intro j u hj
    rw [zAZ]
    match j,hj with
    | 0,hj=>cases hj;exact c80
    | 1,hj=>cases hj;exact c81
    | 2,hj=>cases hj;exact c82
    | 3,hj=>cases hj;exact c83
    | 4,hj=>cases hj;exact c84
    | j+5,hj=>simp at hj
   case c2=>intro u hu;simp only [List.mem_cons,List.not_mem_nil,or_false] at hu;rcases hu with rfl | rfl | rfl | rfl | rfl <;> first | rfl | assumption
   case c3=>unfold maxLen;omega
   case c4=>omega
   intro v' w3 hown' hgrow _
   obtain ⟨g',cap',rfl⟩:=zDM hown'
   have c0':=zDG HOWN.out hgrow (by omega) c0
   have r0':=zDG HOWN.out hgrow (by omega) r0
   have d0':=zDG HOWN.out hgrow (by omega) d0
   have fr':=grown_free HOWN.out hgrow (by omega) hfr
   have f2':=grown_free HOWN.out hgrow (by omega) f2
   have hb':=zEX HOWN.out hgrow hbb (by omega)
   have hrow':=issRow_same (same_grown hgrow HOWN.out (by decide)) (same_grown hgrow HOWN.out (by decide)) hrow
   have s1':=zCH zDZ (same_grown hgrow HOWN.out (by decide)) s1
   have s2':=zCH zHA (same_grown hgrow HOWN.out (by decide)) s2
   have hrow2:=zE (issRow_same (zRG (j:=0) (u:=.slice (some ⟨g',0,none⟩) (k+1) cap') hlt4) (zRG hlt4) (issRow_snoc hrow' x ui ud hnum s1' s2'))
   have hown2:=zE (own_set (j:=0) (u:=.slice (some ⟨g',0,none⟩) (k+1) cap') hown' hlt4)
   have hzs3:=Nat.le_trans hzs2 hgrow.size
   have C0:=zE (zBR (j:=0) (u:=.slice (some ⟨g',0,none⟩) (k+1) cap') c0' (by omega:w.heap.size≠g3))
   have R0:=zE (cell_set_same (u:=.slice (some ⟨g',0,none⟩) (k+1) cap') r0')
   have D0:=zE (zBR (j:=0) (u:=.slice (some ⟨g',0,none⟩) (k+1) cap') d0' (by omega:g2≠g3))
   have hf0':=fr'.2 0
   clear hgrow hown' hrow hrow' s1 s2 s1' s2' hown c0 c0' d0 d0' r0 hf0
   unfold zK at r0'
   go_wp2
   go_roundw
   ·exact ⟨k+1,_,_,by go_num,by omega,zI (by omega) hb',C0.out,R0.out,free_set fr',D0.out,free_set f2',hown2.out,by rw [HTK.out];exact hrow2.out,by simpa using hzs3⟩
   ·simp [intOf];omega
  ·obtain rfl:k=R.length:=by omega
   rw [List.take_of_length_le (Nat.le_refl _)] at hrow
   have hs:=zE (issRow_sl hrow hown)
   have hcd:=zE (capd_own hown)
   have hw:Hid (z1 ≥ w.heap.size):=by have:=HG.out.2.2.1;show w.heap.size≤z1;omega
   obtain ⟨au,cu,rfl,_⟩:=zD hs.out
   have hl3:=hfr.1
   have hl2:=f2.1
   have hf2:=f2.2 0
   clear hrow hown hfr f2
   unfold zK at c0 r0 d0
   go_wp2
   refine bodyPost_ret (v:=.agg #[.slice au R.length cu]) ?_ rfl ⟨_,rfl,?_,?_,hcd.out⟩
   ·simp [results,results115,go_sem,d0,hl2]
   ·have h1:=zIZ (zRG (g:=g2) (j:=0) (u:=.slice au R.length cu) (by omega)) (zRG (by omega)) (zRG (by omega)) hs.out
    refine sl_to (fun b o x hx=>?_) h1
    obtain ⟨⟨h1,h2,vi,vd,h3,h4,h5,h6⟩,h7,h8⟩:=hx
    exact ⟨⟨h1,h2,vi,vd,h3,h4,zOV hw.out h5,zOV hw.out h6⟩,Nat.le_trans hw.out h7,h8⟩
   ·exact zI (by omega) hb
end
section
open Go.RowKit
attribute [local go_sem] zAE Oper.grows Oper.growUpon
def NilSl (v:Value) : Prop:=∃ g,v = .slice (some ⟨g,0,none⟩) 0 0
theorem nilSl_stays:zED fun v _=>NilSl v:=fun _ _ _ _ h=>h
def RetReg (base:Nat) (R:List Issue) (v:Value) (w':World) : Prop :=
 ∃ a n cap,v = .agg #[.slice a n cap]∧Sl (Fr base 94 (zGI base)) 5 w' (.slice a n cap) R∧Capd (.slice a n cap) R.length
theorem retReg_stays (base:Nat) (R:List Issue) : zED (RetReg base R):=fun _ _ _ hb ⟨a,n,cap,h1,h2,h3⟩=>⟨a,n,cap,h1,zJ (zFG stays_issueN) hb h2,h3⟩
theorem twin03 (w:World) (vr vn:Value) (R:List Issue) (N:List Note) (hr:Sl zAY 5 w vr R) (hn:Sl zBL 10 w vn N) (hS:Small R) (hN:N.length≤16) :
  Calls prog 89 #[.agg #[vr,vn]] w fun e w'=>∃ ur un,e = .returned (.agg #[ur,un]) ∧
   Sl (Fr w.heap.size 94 (zGI w.heap.size)) 5 w' ur R∧Sl (Fr w.heap.size 61 zBL) 10 w' un N∧Below w.heap.size w w'∧Capd ur R.length∧Capd un N.length:=by
 obtain ⟨i0,hi0,hz0,hz1,hz2⟩:=info_parts infoNote
 have HS:=zE hS
 clear hS
 obtain ⟨ar,capr,rfl,_⟩:=zD hr
 obtain ⟨an,capn,rfl,_⟩:=zD hn
 obtain ⟨hb1,B1,B2⟩:=zJF w #[.slice ar R.length capr,.slice an N.length capn] #[.slice none 0 0,.slice none 0 0] 29 29
 have c0:=B1 0 (.slice ar R.length capr) rfl
 have c1:=B1 1 (.slice an N.length capn) rfl
 have r0:=B2 0 (.slice none 0 0) rfl
 have r1:=B2 1 (.slice none 0 0) rfl
 have f2:=free_new (w.alloc (.cells #[.slice ar R.length capr,.slice an N.length capn] 29)) #[.slice none 0 0,.slice none 0 0] 29
 rw [World.size_alloc] at f2
 clear B1 B2
 have F2:=zE f2
 clear f2
 go_enter func89,ntmps89
 go_wp2_with fail
 generalize (w.alloc _).alloc _=w1 at *
 have hr1:=zJ zU hb1 hr
 have hn1:=zJ zAN hb1 hn
 have K0:=zH c0
 have K1:=zH c1
 refine zM 6 (by kernel_rfl) (by kernel_rfl) ?_
 simp only [tk_]
 iterate 2 (apply gx_;focus (intro vs xq hd;(try simp [hq_] at hd);simp only [pf_];go_simp;exact ⟨br_,rfl⟩))
 refine zL (RetReg w1.heap.size R) (retReg_stays _ R) ?_ ?_
 ·intro vs xq hd
  (try simp [hq_] at hd)
  simp only [pf_]
  go_simp
  have hbx:=zG w1 xq
  refine (twin02 _ _ R (zJ zU hbx hr1) HS.out).mono ?_
  rintro e w2 ⟨u,rfl,h1,h2,h3⟩
  obtain ⟨a',cap',rfl,_⟩:=zD h1
  exact ⟨_,rfl,h2,a',_,cap',rfl,issueN_weak hbx.size h1,h3⟩
 refine zL (fun v _=>NilSl v) nilSl_stays ?_ ?_
 ·intro vs xq hd
  (try simp [hq_] at hd)
  simp only [pf_]
  go_simp
  exact ⟨zB _ _,_,rfl⟩
 iterate 2 (apply gx_;focus (intro vs xq hd;(try simp [hq_] at hd);simp only [pf_];go_simp;exact ⟨br_,rfl⟩))
 refine zQ rfl (fun vs xq hd=>?_)
 simp [zW,zAI,List.range,List.range.loop] at hd
 simp only [pf_]
 obtain ⟨_,_,⟨a2,n2,cap2,e2,s2,hcd⟩,s3,_,e5⟩:=hd
 generalize vs 0=u0 at *
 generalize vs 1=u1 at *
 generalize vs 2=u2 at *
 generalize vs 3=u3 at *
 generalize vs 4=u4 at *
 generalize vs 5=u5 at *
 subst e2 e5
 have hbl:=zG w1 xq
 replace r0:=zC hbl r0
 replace r1:=zC hbl r1
 have f2:=free_ext hbl F2.out
 replace hn1:=zJ zAN hbl hn1
 have hbb:=zA hb1 hbl
 have hzz:=hbl.size
 have hz9:w.heap.size+1 < w1.heap.size:=F2.out.1
 clear K0 K1 c0 c1 hr1 hr hn F2 hb1 hbl
 generalize w1.heap.size=z1 at *
 generalize w1.later xq=w2 at *
 refine wpList_grows rfl (grows_append_copyC (.tmp 6) (.tmp 8) 27 rfl 61 i0 _ 10 72 underlying27 hi0 hz0 hz1 hz2 rfl (by decide) (by decide) copies_note cells_note u3 (.slice an N.length capn) N rfl s3 rfl hn1 (by omega) z1 hzz) ?_
 rintro v3 w3 hb3 ⟨s4,hcd4⟩
 obtain ⟨a4,cap4,rfl,_⟩:=zD s4
 replace r0:=zC hb3 r0
 replace r1:=zC hb3 r1
 replace f2:=free_ext hb3 f2
 replace s2:=zJ (zFG stays_issueN) hb3 s2
 replace hbb:=zA hbb hb3
 have hl2:=f2.1
 have q0:=f2.2 0
 have q1:=f2.2 1
 have S2:=zE s2
 have S4:=zE s4
 have HCD:=zE (And.intro hcd hcd4)
 clear f2 s2 s4 hn1 s3 hb3 hcd hcd4
 unfold zK at r0 r1
 simp only [Act.put,List.setIfInBounds_toArray,List.set_cons_succ,List.set_cons_zero]
 go_wp2
 refine bodyPost_ret (v:=.agg #[.slice a2 n2 cap2,.slice a4 N.length cap4]) ?_ rfl ⟨_,_,rfl,?_,?_,?_,HCD.out⟩
 ·simp [results,results89,go_sem,r0,r1,hl2]
 ·refine issueN_weak (base:=z1) (by omega) ?_
  refine zIZ ?_ ?_ ?_ S2.out
  all_goals exact (zRG (by omega)).trans (zRG (by omega))
 ·refine zOV (base:=z1) (by omega) ?_
  refine sl_set zGM (by omega) (sl_set zGM (by omega) S4.out)
 ·exact zI (by omega) (zI (by omega) hbb)
end
section
open Go.RowKit
attribute [local go_sem] zAE Oper.grows Oper.growUpon
def NilRow (e:TypeId) (sz base:Nat) (v:Value) (w:World) : Prop:=NilSl v∧w.ownsRow base e sz v 0 []
theorem nilRow_stays (e:TypeId) (sz base:Nat) : zED (NilRow e sz base):=fun _ _ _ hb h=>⟨h.1,zAC hb h.2⟩
theorem nilRow_new (e:TypeId) (sz base:Nat) (w:World) (h:base≤w.heap.size) : NilRow e sz base (.slice (some ⟨w.heap.size,0,none⟩) 0 0) (w.alloc (.cells #[] e)) :=
 ⟨⟨_,rfl⟩,World.ownsRow_made w #[] 0 h (Nat.zero_le _) (by simp)⟩
theorem twin08 (w:World) (vr vn vm vh vs:Value) (b:Built) (h:BuiltAt w vr vn vm vh vs b) (hT:Tiny b) :
  Calls prog 34 #[.agg #[vr,vn,.int .i64 b.of,vm,vh,vs]] w fun e w'=>∃ ur un um uh us,e = .returned (.agg #[ur,un,.int .i64 b.of,um,uh,us]) ∧
   BuiltN w.heap.size w' ur un um uh us b∧((∃ cs,w'.ownsRow w.heap.size 37 5 us b.rs.length cs)∧∃ g cap,us = .slice (some ⟨g,0,none⟩) b.rs.length cap)∧Below w.heap.size w w'∧Capd ur b.ns.reg.length∧Capd un b.ns.notes.length∧Capd uh b.hs.length:=by
 obtain ⟨i0,hi0,hx0,hx1,hx2⟩:=info_parts zFY
 obtain ⟨i1,hi1,hy0,hy1,hy2⟩:=info_parts infoHeap
 obtain ⟨i2,hi2,hz0,hz1,hz2⟩:=info_parts zOO
 obtain ⟨⟨hS,hN⟩,hM,hH,hR⟩:=hT
 have HS:=zE hS
 clear hS
 obtain ⟨ar,capr,rfl,_⟩:=zD h.reg
 obtain ⟨an,capn,rfl,_⟩:=zD h.notes
 obtain ⟨am,capm,rfl,hmm⟩:=zD h.ms
 obtain ⟨ah,caph,rfl,hmh⟩:=zD h.hs
 obtain ⟨az,capz,rfl,hmz⟩:=zD h.rs
 obtain ⟨hb1,B1,B2⟩:=zJF w #[.slice ar b.ns.reg.length capr,.slice an b.ns.notes.length capn,.int .i64 b.of,.slice am b.ms.length capm,.slice ah b.hs.length caph,.slice az b.rs.length capz] #[.slice none 0 0,.slice none 0 0,.int .i64 0,.slice none 0 0,.slice none 0 0,.slice none 0 0] 34 34
 have c0:=B1 0 (.slice ar b.ns.reg.length capr) rfl
 have c1:=B1 1 (.slice an b.ns.notes.length capn) rfl
 have c2:=B1 2 (.int .i64 b.of) rfl
 have c3:=B1 3 (.slice am b.ms.length capm) rfl
 have c4:=B1 4 (.slice ah b.hs.length caph) rfl
 have c5:=B1 5 (.slice az b.rs.length capz) rfl
 have r0:=B2 0 (.slice none 0 0) rfl
 have r1:=B2 1 (.slice none 0 0) rfl
 have r2:=B2 2 (.int .i64 0) rfl
 have r3:=B2 3 (.slice none 0 0) rfl
 have r4:=B2 4 (.slice none 0 0) rfl
 have r5:=B2 5 (.slice none 0 0) rfl
 have f1:=free_ext (zB _ (.cells #[.slice none 0 0,.slice none 0 0,.int .i64 0,.slice none 0 0,.slice none 0 0,.slice none 0 0] 34)) (free_new w #[.slice ar b.ns.reg.length capr,.slice an b.ns.notes.length capn,.int .i64 b.of,.slice am b.ms.length capm,.slice ah b.hs.length caph,.slice az b.rs.length capz] 34)
 have f2:=free_new (w.alloc (.cells #[.slice ar b.ns.reg.length capr,.slice an b.ns.notes.length capn,.int .i64 b.of,.slice am b.ms.length capm,.slice ah b.hs.length caph,.slice az b.rs.length capz] 34)) #[.slice none 0 0,.slice none 0 0,.int .i64 0,.slice none 0 0,.slice none 0 0,.slice none 0 0] 34
 rw [World.size_alloc] at f2
 have F1:=zE f1
 have F2:=zE f2
 have C2:=zE c2
 have C3:=zE c3
 have C4:=zE c4
 have C5:=zE c5
 clear B1 B2 f1 f2 c2 c3 c4 c5
 have h1:=h.ext hb1
 unfold zK at c0 c1
 go_enter func34,ntmps34
 go_wp2_with fail
 generalize (w.alloc _).alloc _=w1 at *
 refine (twin03 _ _ _ b.ns.reg b.ns.notes h1.reg h1.notes HS.out hN).mono ?_
 rintro e w2 ⟨ur,un,rfl,s0,s1,hb2,hcd0,hcd1⟩
 have HCD:=zE (And.intro hcd0 hcd1)
 clear hcd0 hcd1
 obtain ⟨a0,cap0,rfl,_⟩:=zD s0
 obtain ⟨a1,cap1,rfl,_⟩:=zD s1
 replace h1:=h1.ext hb2
 have hz9:w.heap.size+1 < w1.heap.size:=F2.out.1
 replace F1:=zE (free_ext hb2 F1.out)
 replace F2:=zE (free_ext hb2 F2.out)
 replace C2:=zE (zC hb2 C2.out)
 replace C3:=zE (zC hb2 C3.out)
 replace C4:=zE (zC hb2 C4.out)
 replace C5:=zE (zC hb2 C5.out)
 replace c0:=zC hb2 c0
 replace c1:=zC hb2 c1
 replace r0:=zC hb2 r0
 replace r1:=zC hb2 r1
 replace r2:=zC hb2 r2
 replace r3:=zC hb2 r3
 replace r4:=zC hb2 r4
 replace r5:=zC hb2 r5
 have S0:=zE s0
 have S1:=zE s1
 have R0:=zE (And.intro r0 (And.intro r1 (And.intro r2 (And.intro r3 (And.intro r4 r5)))))
 have hbb:=zA hb1 hb2
 have hzz:=hb2.size
 clear s0 s1 hb2 hb1 r0 r1 r2 r3 r4 r5
 generalize w1.heap.size=z1 at *
 have p0:=F1.out.2 0
 have p1:=F1.out.2 1
 have c0x:=c0
 unfold zK at c0 c1
 go_wp2
 have hg0:w.heap.size < z1:=by omega
 have hb4:Below w.heap.size w ((w2.setCell ⟨w.heap.size,0,none⟩ (.slice a0 b.ns.reg.length cap0)).setCell ⟨w.heap.size,1,none⟩ (.slice a1 b.ns.notes.length cap1)):=zI (Nat.le_refl _) (zI (Nat.le_refl _) hbb)
 have S0:=zE (zIZ ((zRG hg0).trans (zRG (w:=w2.setCell ⟨w.heap.size,0,none⟩ (.slice a0 b.ns.reg.length cap0)) (j:=1) (u:=.slice a1 b.ns.notes.length cap1) hg0)) ((zRG hg0).trans (zRG hg0)) ((zRG hg0).trans (zRG hg0)) S0.out)
 have S1:=zE (sl_set (j:=1) (u:=.slice a1 b.ns.notes.length cap1) zGM hg0 (sl_set (j:=0) (u:=.slice a0 b.ns.reg.length cap0) zGM hg0 S1.out))
 have F1:=zE (free_set (g:=w.heap.size) (j:=1) (u:=.slice a1 b.ns.notes.length cap1) (free_set (g:=w.heap.size) (j:=0) (u:=.slice a0 b.ns.reg.length cap0) F1.out))
 have F2:=zE (free_set (g:=w.heap.size) (j:=1) (u:=.slice a1 b.ns.notes.length cap1) (free_set (g:=w.heap.size) (j:=0) (u:=.slice a0 b.ns.reg.length cap0) F2.out))
 have c2:=cell_set_off (j:=1) (u:=.slice a1 b.ns.notes.length cap1) (by decide) (cell_set_off (j:=0) (u:=.slice a0 b.ns.reg.length cap0) (by decide) C2.out)
 have c3:=cell_set_off (j:=1) (u:=.slice a1 b.ns.notes.length cap1) (by decide) (cell_set_off (j:=0) (u:=.slice a0 b.ns.reg.length cap0) (by decide) C3.out)
 have c4:=cell_set_off (j:=1) (u:=.slice a1 b.ns.notes.length cap1) (by decide) (cell_set_off (j:=0) (u:=.slice a0 b.ns.reg.length cap0) (by decide) C4.out)
 have c5:=cell_set_off (j:=1) (u:=.slice a1 b.ns.notes.length cap1) (by decide) (cell_set_off (j:=0) (u:=.slice a0 b.ns.reg.length cap0) (by decide) C5.out)
 have c0':=cell_set_off (j:=1) (u:=.slice a1 b.ns.notes.length cap1) (by decide) (cell_set_same (u:=.slice a0 b.ns.reg.length cap0) c0)
 have c1':=cell_set_same (u:=.slice a1 b.ns.notes.length cap1) (cell_set_off (j:=0) (u:=.slice a0 b.ns.reg.length cap0) (by decide:1≠0) c1)
 have rr:∀ (j:Nat) (v:Value),zK w2 (w.heap.size+1) j v→zK ((w2.setCell ⟨w.heap.size,0,none⟩ (.slice a0 b.ns.reg.length cap0)).setCell ⟨w.heap.size,1,none⟩ (.slice a1 b.ns.notes.length cap1)) (w.heap.size+1) j v:=fun j v hj=>zBR (zBR hj (by omega)) (by omega)
 obtain ⟨r0,r1,r2,r3,r4,r5⟩:=R0.out
 have R0:=zE (And.intro (rr _ _ r0) (And.intro (rr _ _ r1) (And.intro (rr _ _ r2) (And.intro (rr _ _ r3) (And.intro (rr _ _ r4) (rr _ _ r5))))))
 have hzz:z1≤((w2.setCell ⟨w.heap.size,0,none⟩ (.slice a0 b.ns.reg.length cap0)).setCell ⟨w.heap.size,1,none⟩ (.slice a1 b.ns.notes.length cap1)).heap.size:=by simpa using hzz
 clear rr r0 r1 r2 r3 r4 r5 c0 c1 c0x p0 p1 C2 C3 C4 C5 hbb h1
 generalize (w2.setCell _ _).setCell _ _=w4 at *
 have C0:=zE (And.intro c0' c1')
 have K2:=zH c3
 have K3:=zH c4
 have K4:=zH c5
 have C2:=zE c2
 clear c0' c1' c2
 refine zM 13 (by kernel_rfl) (by kernel_rfl) ?_
 simp only [tk_]
 refine zL (fun v _=>NilSl v) nilSl_stays ?_ ?_
 ·intro vs xq hd
  (try simp [hq_] at hd)
  simp only [pf_]
  go_simp
  exact ⟨zB _ _,_,rfl⟩
 iterate 2 (apply gx_;focus (intro vs xq hd;(try simp [hq_] at hd);simp only [pf_];go_simp;exact ⟨br_,rfl⟩))
 refine zL (fun v w'=>Sl (Fr z1 3 zAM) 1 w' v b.ms) (fun v w w' hb h=>zJ (zFG zN) hb h) ?_ ?_
 ·intro vs xq hd
  (try simp [hq_] at hd)
  simp only [pf_]
  exact stepOk_plain (by rfl) (grows_append_copyC (.tmp 7) (.tmp 9) 30 (by rfl) 3 i0 _ 1 8 underlying30 hi0 hx0 hx1 hx2 rfl (by decide) (by decide) copies_int cells_int (vs 0) (.slice am b.ms.length capm) b.ms (by rfl) hd.1 (by exact hd.2) (h.ext (zA hb4 (zG _ _))).ms (Nat.le_trans hM (by decide)) z1 (Nat.le_trans hzz (zG w4 xq).size)) (fun v w' h=>h.1)
 refine zL (fun v _=>NilSl v) nilSl_stays ?_ ?_
 ·intro vs xq hd
  (try simp [hq_] at hd)
  simp only [pf_]
  go_simp
  exact ⟨zB _ _,_,rfl⟩
 iterate 2 (apply gx_;focus (intro vs xq hd;(try simp [hq_] at hd);simp only [pf_];go_simp;exact ⟨br_,rfl⟩))
 refine zL (fun v w'=>Sl (Fr z1 59 zDO) 4 w' v b.hs∧Capd v b.hs.length) (fun v w w' hb h=>⟨zJ (zFG zCU) hb h.1,h.2⟩) ?_ ?_
 ·intro vs xq hd
  (try simp [hq_] at hd)
  simp only [pf_]
  exact stepOk_plain (by rfl) (grows_append_copyC (.tmp 11) (.tmp 13) 31 (by rfl) 59 i1 _ 4 32 underlying31 hi1 hy0 hy1 hy2 rfl (by decide) (by decide) copies_heap cells_heap (vs 4) (.slice ah b.hs.length caph) b.hs (by rfl) hd.1 (by exact hd.2.1) (h.ext (zA hb4 (zG _ _))).hs (Nat.le_trans hH (by decide)) z1 (Nat.le_trans hzz (zG w4 xq).size)) (fun v w' h=>h)
 refine zL (fun v w'=>NilRow 37 5 z1 v w') (nilRow_stays _ _ _) ?_ ?_
 ·intro vs xq hd
  (try simp [hq_] at hd)
  simp only [pf_]
  go_simp
  exact ⟨zB _ _,nilRow_new _ _ _ _ (Nat.le_trans hzz (zG w4 xq).size)⟩
 iterate 2 (apply gx_;focus (intro vs xq hd;(try simp [hq_] at hd);simp only [pf_];go_simp;exact ⟨br_,rfl⟩))
 refine zL (fun v w'=>New zAT 5 37 z1 w' v b.rs∧∃ g cap,v = .slice (some ⟨g,0,none⟩) b.rs.length cap) (fun v w w' hb h=>⟨h.1.ext zAP hb,h.2⟩) ?_ ?_
 ·intro vs xq hd
  (try simp [hq_] at hd)
  simp only [pf_]
  exact stepOk_plain (by rfl) (grows_append_new (.tmp 15) (.tmp 17) 32 (by rfl) 37 i2 _ 5 40 underlying32 hi2 hz0 hz1 hz2 rfl (by decide) (by decide) copies_report cells_report (vs 8) (.slice az b.rs.length capz) b.rs (by rfl) hd.1.1 (by exact hd.2.1) (h.ext (zA hb4 (zG _ _))).rs (Nat.le_trans hR (by decide)) z1 (Nat.le_trans hzz (zG w4 xq).size) hd.1.2) (fun v w' h=>h)
 apply gx_;focus (intro vs xq hd;(try simp [hq_] at hd);simp only [pf_];go_simp;exact ⟨br_,rfl⟩)
 refine zQ rfl (fun vs xq hd=>?_)
 simp [zW,zAI,List.range,List.range.loop] at hd
 simp only [pf_]
 obtain ⟨_,_,_,s3,_,_,_,⟨s7,hcd7⟩,_,_,_,⟨s11,g11,cap11,e11⟩,e12⟩:=hd
 generalize vs 0=u0 at *
 generalize vs 1=u1 at *
 generalize vs 2=u2 at *
 generalize vs 3=u3 at *
 generalize vs 4=u4 at *
 generalize vs 5=u5 at *
 generalize vs 6=u6 at *
 generalize vs 7=u7 at *
 generalize vs 8=u8 at *
 generalize vs 9=u9 at *
 generalize vs 10=u10 at *
 generalize vs 11=u11 at *
 generalize vs 12=u12 at *
 subst e12 e11
 obtain ⟨a3,cap3,rfl,_⟩:=zD s3
 obtain ⟨a7,cap7,rfl,_⟩:=zD s7
 have HCD7:=zE hcd7
 clear hcd7
 have hbl:=zG w4 xq
 have S:Hid (BuiltN z1 (w4.later xq) (.slice a0 b.ns.reg.length cap0) (.slice a1 b.ns.notes.length cap1) (.slice a3 b.ms.length cap3) (.slice a7 b.hs.length cap7) (.slice (some ⟨g11,0,none⟩) b.rs.length cap11) b) :=
  ⟨zJ (zFG stays_issueN) hbl S0.out,zJ (zFG zAN) hbl S1.out,s3,s7,s11.fr,h.of⟩
 have SP:=zE s11.2
 have c0:=zC hbl C0.out.1
 have c1:=zC hbl C0.out.2
 have c2:=zC hbl C2.out
 replace c3:=zC hbl c3
 replace c4:=zC hbl c4
 replace c5:=zC hbl c5
 have r0:=zC hbl R0.out.1
 have r1:=zC hbl R0.out.2.1
 have r2:=zC hbl R0.out.2.2.1
 have r3:=zC hbl R0.out.2.2.2.1
 have r4:=zC hbl R0.out.2.2.2.2.1
 have r5:=zC hbl R0.out.2.2.2.2.2
 have f1:=free_ext hbl F1.out
 have f2:=free_ext hbl F2.out
 have hbb:=zA hb4 hbl
 clear S0 S1 s3 s7 s11 C0 C2 K2 K3 K4 R0 F1 F2 hb4 hbl h HS
 generalize w4.later xq=w5 at *
 have p2:=f1.2 2
 have p3:=f1.2 3
 have p4:=f1.2 4
 have p5:=f1.2 5
 have q0:=f2.2 0
 have q1:=f2.2 1
 have q2:=f2.2 2
 have q3:=f2.2 3
 have q4:=f2.2 4
 have q5:=f2.2 5
 have hl1:=f1.1
 have hl2:=f2.1
 clear f1 f2
 unfold zK at c0 c1 c2 c3 c4 c5 r0 r1 r2 r3 r4 r5
 go_wp2
 refine bodyPost_ret (v:=.agg #[.slice a0 b.ns.reg.length cap0,.slice a1 b.ns.notes.length cap1,.int .i64 b.of,.slice a3 b.ms.length cap3,.slice a7 b.hs.length cap7,.slice (some ⟨g11,0,none⟩) b.rs.length cap11]) ?_ rfl ⟨_,_,_,_,_,rfl,?_,?_,?_,HCD.out.1,HCD.out.2,HCD7.out⟩
 ·simp [results,results34,go_sem,r0,r1,r2,r3,r4,r5,hl2]
 ·refine BuiltN.weak (base:=z1) (by omega) ?_
  repeat (refine BuiltN.set (by omega) ?_)
  exact S.out
 ·obtain ⟨cs,hl,hcs⟩:=SP.out
  refine ⟨⟨cs,?_⟩,g11,cap11,rfl⟩
  have hcs2:w5.ownsRow w.heap.size 37 5 (.slice (some ⟨g11,0,none⟩) b.rs.length cap11) b.rs.length cs∧w5.ownsRow z1 37 5 (.slice (some ⟨g11,0,none⟩) b.rs.length cap11) b.rs.length cs:=by
   refine ⟨⟨hl,?_⟩,hl,hcs⟩
   rcases hcs with h | ⟨g',cap',cur,h1,h2,h3⟩
   ·exact .inl h
   ·exact .inr ⟨g',cap',cur,h1,by omega,h3⟩
  have hcs3:=hcs2.2
  have key:∀ w':World,w'.ownsRow z1 37 5 (.slice (some ⟨g11,0,none⟩) b.rs.length cap11) b.rs.length cs→w'.ownsRow w.heap.size 37 5 (.slice (some ⟨g11,0,none⟩) b.rs.length cap11) b.rs.length cs:=fun w' ⟨hl,h⟩=>by
   refine ⟨hl,?_⟩
   rcases h with h | ⟨g',cap',cur,h1,h2,h3⟩
   ·exact .inl h
   ·exact .inr ⟨g',cap',cur,h1,by omega,h3⟩
  refine key _ ?_
  repeat (refine own_set ?_ (by omega))
  exact hcs3
 ·repeat (refine zI (by omega) ?_)
  exact hbb
end
end Go.Proofs.YtjleiiinibdepaaGreatDoor
namespace Go.Proofs.YtjleiiinibdepaaGreatDoor
open Go.RowKit
theorem lexB_at:∀ (a b:List Int) (hl:a.length=b.length) (k:Nat) (hk:k < a.length),(∀ j,j < k→(hj:j < a.length)→a[j]=b[j]'(by omega))→a[k]≠b[k]'(by omega)→lexB a b=decide (a[k] < b[k]'(by omega))
 | [],_,_,k,hk,_,_=>by simp at hk
 | _ :: _,[],hl,_,_,_,_=>by simp at hl
 | x :: r,y :: s,hl,0,_,_,hne=>by
   simp only [List.getElem_cons_zero] at hne ⊢
   simp only [lexB,if_neg hne]
 | x :: r,y :: s,hl,k+1,hk,h,hne=>by
   have h0:=h 0 (by omega) (by simp)
   simp only [List.getElem_cons_zero] at h0
   simp only [List.getElem_cons_succ] at hne ⊢
   simp only [lexB,if_pos h0]
   exact lexB_at r s (by simpa using hl) k (by simpa using hk) (fun j hj hjl=>by
    have:=h (j+1) (by omega) (by simpa using hjl)
    simpa only [List.getElem_cons_succ] using this) hne
theorem before03 (w:World) (va vb:Value) (a b:List Int) (ha:Sl zAM 1 w va a) (hb:Sl zAM 1 w vb b) :
  Calls Tryz.prog 36 #[va,vb] w fun e w'=>e = .returned (.bool (zFV a b))∧Below w.heap.size w w':=by
 obtain ⟨aa,capa,rfl,hma⟩:=zD ha
 obtain ⟨ab,capb,rfl,hmb⟩:=zD hb
 have HA:=Lib.hid ha
 have HB:=Lib.hid hb
 clear ha hb
 by_cases hl:a.length=b.length
 ·have HV:Hid (zFV a b=lexB a b):=by unfold Hid zFV;rw [if_pos hl]
  have hbl:Hid (∀ k,k < a.length→k < b.length):=fun k h=>by omega
  have HLEX:Hid (∀ k (hk:k < a.length),(∀ j,j < k→(hj:j < a.length)→a[j]=b[j]'(hbl.out j hj))→a[k]≠b[k]'(hbl.out k hk)→lexB a b=decide (a[k] < b[k]'(hbl.out k hk))):=fun k hk h1 h2=>lexB_at a b hl k hk h1 h2
  have HEQ:Hid ((∀ j,j < a.length→(hj:j < a.length)→a[j]=b[j]'(hbl.out j hj))→lexB a b=false):=fun h=>by
   have:a=b:=List.ext_getElem hl (fun j h1 h2=>h j h1 h1)
   rw [this];exact lexB_irr b
  rw [← hl] at HB hmb ⊢
  have HB2:Hid (∀ k (hk:k < a.length),∃ bb off,ab=some ⟨bb,off,none⟩∧zAM w bb (off+k*1) (b[k]'(hbl.out k hk))):=fun k hk=>by
   have HB1:=HB.out
   rw [hl] at HB1
   exact (zY HB1).2 k (by omega)
  clear hl HB
  go_enter Tryz.func36,Tryz.ntmps36
  go_wp2
  go_loopw [5] (fun i wr=>∃ k:Nat,i = .int .i64 k∧k≤a.length∧Hid (∀ j,j < k→(hj:j < a.length)→a[j]=b[j]'(hbl.out j hj))∧Below w.heap.size w wr) (fun i _=>a.length - (intOf i).toNat)
  case atStart=>exact ⟨0,rfl,by omega,fun j hj=>absurd hj (by omega),Below.refl _ _⟩
  case round =>
   obtain ⟨k,rfl,hk,HALL,hb⟩:=hrel
   by_cases hlt:k < a.length
   ·obtain ⟨b1,o1,rfl,p0,_⟩:=(zY (zJ zN hb HA.out)).2 k hlt
    obtain ⟨b2,o2,rfl,q0,_⟩:=HB2.out k hlt
    replace q0:=zC hb q0
    unfold zK at p0 q0
    rw [Nat.mul_one] at p0 q0
    have hlk:=Lib.hid (HLEX.out k hlt HALL.out)
    have hkb:=hbl.out k hlt
    have HSTEP:Hid (a[k]=b[k]'hkb→∀ j,j < k+1→(hj:j < a.length)→a[j]=b[j]'(hbl.out j hj)):=fun he j hj hja=>by
     by_cases e:j=k
     ·subst e;exact he
     ·exact HALL.out j (by omega) hja
    generalize a[k]=x at *
    generalize b[k]'hkb=y at *
    by_cases he:x=y
    ·have he':(x == y)=true:=by simpa using he
     have HS:=Lib.hid (HSTEP.out he)
     clear HSTEP hlk he
     go_wp2
     go_quiet (fail)
     go_wp2
     go_roundw
     case rel=>exact ⟨k+1,by go_num,by omega,HS,zA hb (zAJ _ _)⟩
     case measure=>simp [intOf];omega
    ·have he':(x == y)=false:=by simpa using he
     have HS:=Lib.hid (hlk.out he)
     clear HSTEP hlk he
     go_wp2
     go_quiet (fail)
     go_wp2
     go_quiet (fail)
     go_wp2
     go_ret
     refine ⟨zFH ?_,zA hb (zA (zAJ _ _) (zAJ _ _))⟩
     rw [HV.out,HS.out]
   ·have HE:Hid (lexB a b=false):=HEQ.out (fun j h1 h2=>HALL.out j (by omega) h2)
    clear HEQ HALL
    go_wp2
    go_ret
    exact ⟨zFH (by rw [HV.out,HE.out]),hb⟩
 ·have HV:Hid (zFV a b=decide (a.length < b.length)):=by unfold Hid zFV;rw [if_neg hl]
  have hne:((a.length:Int) == (b.length:Int))=false:=by simp;omega
  clear HA HB
  generalize a.length=m at *
  generalize b.length=n at *
  clear hl
  go_enter Tryz.func36,Tryz.ntmps36
  go_wp2
  go_ret
  refine ⟨zFH ?_,Below.refl _ _⟩
  rw [HV.out]
end Go.Proofs.YtjleiiinibdepaaGreatDoor
namespace Go.Proofs.YtjleiiinibdepaaGreatDoor
open Tryz
section
open Go.RowKit
section
variable {P:Program} (w:World)
theorem run_append_apart (base:Nat) (t ty e:TypeId) (i:TypeInfo) (z:Value) (size bytes:Nat) (ht:P.underlying t=some (.slice e)) (hi:P.info? e=some i) (hz:i.zero=some z)
  (hsize:i.size=size) (hby:i.bytes=bytes) (hzs:z.cells.size=size) (hsz:0 < size)
  (v:Value) (n:Nat) (xs:List Value) (hown:w.ownsRow base e size v n xs)
  (a:Addr) (m c:Nat) (news:List Value) (hl:news.length=m*size) (hnews:∀ j u,news[j]? = some u→w.cell? (a.add j)=some u) (h1:∀ u∈news,u.oneCell'=true)
  (h63:n+m≤maxLen) (hbytes:(n+m)*bytes≤140737488355328) (hbase:base≤w.heap.size) :
  ∃ v' w',(Builtin.append_ #[t,t] ty #[v,.slice (some a) m c]).run P w = .ok v' w'∧w'.ownsRow base e size v' (n+m) (xs++news)∧w.grownBy w' v.ownBlock ∧
   ∀ g,v'.ownBlock=some g→v.ownBlock=some g∨w.heap.size≤g:=by
 rcases hown.2 with ⟨rfl,rfl⟩ | ⟨g',cap,cur,rfl,hbg,hgc,hnc,hcm,hcs,htake⟩
 ·have hx:xs=[]:=List.eq_nil_of_length_eq_zero (by simpa using hown.1)
  subst hx
  obtain ⟨v',w',hr,o1,g1,_⟩:=run_append_own (P:=P) w w.heap.size t ty e i z size bytes ht hi hz hsize hby hzs hsz (.slice none 0 0) 0 [] (World.ownsRow_nil _ _ _ _) a m c news hl hnews h1 h63 hbytes (Nat.le_refl _)
  refine ⟨v',w',hr,?_,g1,fun g hg=>.inr (o1.lt g hg).1⟩
  obtain ⟨l1,l2⟩:=o1
  refine ⟨l1,?_⟩
  rcases l2 with h | ⟨g2,cap2,cur2,e2,hb2,hh⟩
  ·exact .inl h
  ·exact .inr ⟨g2,cap2,cur2,e2,Nat.le_trans hbase hb2,hh⟩
 ·obtain ⟨v',w',hr,o1,g1,_⟩:=run_append_own (P:=P) w base t ty e i z size bytes ht hi hz hsize hby hzs hsz _ n xs hown a m c news hl hnews h1 h63 hbytes hbase
  refine ⟨v',w',hr,o1,g1,fun g hg=>?_⟩
  have holds:=hown.cells (g:=g') rfl
  subst hsize
  subst hby
  by_cases hroom:n+m≤cap
  ·have hfit:n*i.size+news.length≤cur.size:=by rw [hl,hcs,← Nat.add_mul];exact Nat.mul_le_mul_right _ hroom
   have hr2:=run_append_room (P:=P) w t ty e i ht hi g' n cap cur hgc a m c news hl hnews h1 hroom hfit
   rw [hr] at hr2
   cases hr2
   exact .inl hg
  ·have hr2:=run_append_grow (P:=P) w t ty e i z ht hi hz ⟨g',0,none⟩ n cap xs hown.1 holds a m c news hl hnews (by omega) (by simp only [maxLen] at h63;omega) (growslice_fits (by omega) hbytes)
   rw [hr] at hr2
   cases hr2
   cases hg
   exact .inr (by simp)
theorem wpList_append_apart {ops:Array Oper} {rest:List Oper} {o:Oper} {a:Act} {Q:Exit→Act→World→Prop} (hgd:o.guard=none) (s x:Operand) (t:TypeId)
  (ho:o.op = .call { callee:=.builtin .append,args:=#[s,x],argTypes:=#[t,t] })
  (base:Nat) (e:TypeId) (i:TypeInfo) (z:Value) (size bytes:Nat) (ht:P.underlying t=some (.slice e)) (hi:P.info? e=some i) (hz:i.zero=some z)
  (hsize:i.size=size) (hby:i.bytes=bytes) (hzs:z.cells.size=size) (hsz:0 < size)
  (v:Value) (n:Nat) (xs:List Value) (hs:a.eval s=v) (hown:w.ownsRow base e size v n xs)
  (ad:Addr) (m c:Nat) (news:List Value) (hx:a.eval x = .slice (some ad) m c) (hl:news.length=m*size) (hnews:∀ j u,news[j]? = some u→w.cell? (ad.add j)=some u) (h1:∀ u∈news,u.oneCell'=true)
  (h63:n+m≤maxLen) (hbytes:(n+m)*bytes≤140737488355328) (hbase:base≤w.heap.size)
  (h:∀ v' w',w'.ownsRow base e size v' (n+m) (xs++news)→w.grownBy w' v.ownBlock→(∀ g,v'.ownBlock=some g→v.ownBlock=some g∨w.heap.size≤g)→wpList P ops Q rest (a.put o.dst v') w') :
  wpList P ops Q (o :: rest) a w:=by
 refine wpList_plain hgd fun K hK=>?_
 obtain ⟨v',w',hr,h2,h3,h4⟩:=run_append_apart (P:=P) w base t o.type e i z size bytes ht hi hz hsize hby hzs hsz v n xs hown ad m c news hl hnews h1 h63 hbytes hbase
 unfold Oper.wp execOp
 simp only [ho,resolve,invoke,builtin,Sem.run_bind,Sem.run_pure,Result.andThen_ok,List.map_toArray,List.map_cons,List.map_nil,hs,hx,hr]
 exact hK _ _ (h v' w' h2 h3 h4)
end
end
section
open Go.RowKit
attribute [local go_sem] zAE Oper.grows Oper.growUpon
theorem IsBrk.apart {b:Built} (hv:zF b=0) {S:List Int} {m:Nat} {nn:Nat→Int} {l:List Int} (h:IsBrk b S m nn l) (z x:Int) (hx:x∈zCW b S m z) : x ∉ l:=fun hl=>by
 rcases (h.mem x).1 hl with h1 | ⟨k,hk,h1⟩
 ·have:=failL_apart hv h1 hx;omega
 ·have:=failL_apart hv h1 hx;omega
end
section
open Go.RowKit
theorem but_any {b:Built} (h:zF b=0) (l:List Int) : zAQ (b.but l)≠[]↔∃ S,IsT (zBO b.ns.notes) S∧zCV (b.but l) S:=left_any (but_ok h l)
theorem isWd_wdL {b:Built} (h:zF b=0) : IsWd b (wdL b):=by
 classical
 have hne:=outs_ne h
 have hex:∀ A:List (List Int),A≠[]→∃ l∈A,∀ l'∈A,LeL l l':=by
  intro A hA
  induction A with
  | nil=>exact absurd rfl hA
  | cons a t ih =>
    by_cases ht:t=[]
    ·subst ht
     exact ⟨a,List.mem_cons_self ..,fun l' hl'=>by obtain rfl:=List.mem_singleton.1 hl';exact zKS _⟩
    ·obtain ⟨l,hl,hmin⟩:=ih ht
     by_cases e:LeL l a
     ·exact ⟨l,List.mem_cons_of_mem _ hl,fun l' hl'=>by
       rcases List.mem_cons.1 hl' with rfl | h3
       ·exact e
       ·exact hmin _ h3⟩
     ·have e2:LeL a l:=by
       unfold LeL at e ⊢
       exact befL_asy _ _ (by simpa using e)
      exact ⟨a,List.mem_cons_self ..,fun l' hl'=>by
       rcases List.mem_cons.1 hl' with rfl | h3
       ·exact zKS _
       ·exact leL_tr e2 (hmin _ h3)⟩
 obtain ⟨l,hl,hmin⟩:=hex _ (List.ne_nil_of_length_pos hne)
 have hW:IsWd b l:=⟨(outs_mem h l).1 hl,fun l' hl'=>hmin _ ((outs_mem h l').2 hl')⟩
 rw [wdL_is h hW]
 exact hW
theorem wd_left {b:Built} (h:zF b=0) : zAQ (b.but (wdL b))≠[]:=(but_any h _).2 (isWd_wdL h).1.2
theorem wd_nil {b:Built} (h:zF b=0) : wdL b=[]↔zAQ b≠[]:=by
 have e:=but_nil b
 have hw:=isWd_wdL h
 constructor
 ·intro h0
  have:=wd_left h
  rwa [h0,e] at this
 ·intro h0
  have h1:Outs b []:=⟨⟨.nil,fun x hx=>by simp at hx⟩,by rw [e];exact (left_any h).1 h0⟩
  have h2:=hw.2 _ h1
  refine leL_anti h2 ?_
  exact leL_sub .nil hw.1.1.1 (fun x hx=>by simp at hx)
theorem wd_lone {b:Built} (h:zF b=0) {r:Report} (hr:r∈b.rs) (hL:Lone b r) : r.num∈wdL b:=by
 refine Classical.byContradiction fun hn=>?_
 obtain ⟨_,S,hS,hLS⟩:=(isWd_wdL h).1
 refine hL ⟨S,hS,Less.left (b:=b.one r) (x:=b.but (wdL b)) ⟨rfl,fun r' hr'=>?_⟩ hLS⟩
 obtain rfl:=List.mem_singleton.1 hr'
 exact List.mem_filter.2 ⟨hr,by simpa using hn⟩
theorem wd_min {b:Built} (h:zF b=0) {l:List Int} (hl:IsT (zGX b) l) (hb:zFV l (wdL b)=true) : zAQ (b.but l)=[]:=by
 refine Classical.byContradiction fun hn=>?_
 have h1:=(isWd_wdL h).2 l ⟨hl,(but_any h l).1 hn⟩
 unfold LeL at h1
 rw [hb] at h1
 cases h1
theorem wd_in {b:Built} (h:zF b=0) : IsT (zGX b) (wdL b):=(isWd_wdL h).1.1
theorem cla_next {b:Built} (h:zF b=0) {k:Nat} (hk:k < b.rs.length) : (claL b)[(zLC b k).length]? = some b.rs[k].num↔Lone b b.rs[k]:=by
 classical
 have e:claL b=zLC b (k+1)++((b.rs.drop (k+1)).filter fun r=>decide (Lone b r)).map (·.num):=by
  unfold claL
  rw [if_pos h]
  unfold zLC
  rw [List.take_length,← List.map_append,← List.filter_append,List.take_append_drop]
 have hrise:=zFB h
 rw [e]
 by_cases hL:Lone b b.rs[k]
 ·rw [claTo_yes hk hL,List.append_assoc,List.getElem?_append_right (Nat.le_refl _),Nat.sub_self]
  exact ⟨fun _=>hL,fun _=>rfl⟩
 ·rw [claTo_no hk hL,List.getElem?_append_right (Nat.le_refl _),Nat.sub_self]
  refine ⟨fun h0=>?_,fun h0=>absurd h0 hL⟩
  have hm:=List.mem_of_getElem? h0
  obtain ⟨r,hr,he⟩:=List.mem_map.1 hm
  obtain ⟨j,hj,rfl⟩:=List.getElem_of_mem (List.mem_filter.1 hr).1
  rw [List.length_drop] at hj
  rw [List.getElem_drop] at he
  unfold zGX at hrise
  rw [List.pairwise_map,List.pairwise_iff_getElem] at hrise
  have:=hrise k (k+1+j) hk (by omega) (by omega)
  omega
end
section
open Go.RowKit Go.ChangeShapes Go.WideShapes
def U16 (n:Int) : Prop:=0≤n∧n≤65535
section
variable {H:Type} {enc:TypeId×Value→H} {w:World} {sp:Nat→Bool} {hd:Bool}
theorem arg_u16 {r:Reach} {b0:Nat} {v:Value} {d:DataW H} {p:List MemPlace} (hv:Value.okWide prog w r b0 77 v) (h:DataW.Trod enc prog w 0 sp hd 77 v d p) :
  ∃ x:Int,v = .int .u16 x∧U16 x:=by
 obtain ⟨x,rfl⟩:=okWide_int underlying77 hv
 obtain ⟨fuel,h⟩:=h
 obtain ⟨y,e,_,hw⟩:=DataW.trod_int underlying77 h
 have e2:x=y:=by simpa [Value.cells] using e
 subst e2
 refine ⟨x,rfl,?_⟩
 simp [Lit.wf,IntKind.has,IntKind.min,IntKind.max,IntKind.signed,IntKind.bits] at hw
 unfold U16
 omega
end
end
section
open Go.RowKit Go.Shelf
attribute [local go_sem] zAE Oper.grows Oper.growUpon
def butTo (b:Built) (l:List Int) (k:Nat) : List Report:=(b.rs.take k).filter fun r=>decide (r.num ∉ l)
theorem butTo_succ {b:Built} {l:List Int} {k:Nat} (hk:k < b.rs.length) : butTo b l (k+1)=butTo b l k++(if b.rs[k].num∈l then [] else [b.rs[k]]):=by
 unfold butTo
 rw [List.take_succ_eq_append_getElem hk,List.filter_append]
 by_cases h:b.rs[k].num∈l <;> simp [h]
theorem butTo_le (b:Built) (l:List Int) (k:Nat) : (butTo b l k).length≤k:=Nat.le_trans (List.length_filter_le _ _) (by rw [List.length_take];omega)
theorem butTo_all (b:Built) (l:List Int) : { b with rs:=butTo b l b.rs.length } = b.but l:=by unfold butTo Built.but;rw [List.take_length]
structure WoAt (g:Nat) (w wr:World) (s1 s2 s3 s4 s5 vz:Value) (t:TypeId) (L:List Report) : Prop where
 below:Below g w wr
 box:Lay wr g #[s1,s2,s3,s4,s5,vz] t
 own:wr.ownsRow (g+1) 37 5 vz L.length (L.flatMap zOG)
theorem WoAt.ext {g:Nat} {w wr wr':World} {s1 s2 s3 s4 s5 vz:Value} {t:TypeId} {L:List Report} (h:WoAt g w wr s1 s2 s3 s4 s5 vz t L) (hb:Below wr.heap.size wr wr') : WoAt g w wr' s1 s2 s3 s4 s5 vz t L :=
 ⟨h.below.trans (hb.mono (Nat.le_of_lt h.box.lt)),h.box.ext hb,zAC hb h.own⟩
theorem rep_nums {w:World} {v:Value} {b:Built} (h:Sl zAT 5 w v b.rs) {l:List Int} : ∀ x∈butTo b l b.rs.length,RepNum x:=fun x hx=>by
 obtain ⟨a,c,rfl,_⟩:=zD h
 obtain ⟨j,hj,rfl⟩:=List.getElem_of_mem (List.mem_of_mem_take (List.mem_filter.1 hx).1)
 obtain ⟨_,_,_,_,hn⟩:=(zY h).2 j hj
 exact hn
theorem builtN_fill {base g:Nat} (hg:g < base) {vr vn vm vh vs:Value} {b:Built} : ∀ (l:List Value) (j:Nat) (w:World),BuiltN base w vr vn vm vh vs b→BuiltN base (fillW w g j l) vr vn vm vh vs b
 | [],_,_,h=>h
 | _ :: l,j,_,h=>builtN_fill hg l (j+1) _ (h.set hg)
theorem own_fill {base g:Nat} (hg:g < base) {e:TypeId} {sz n:Nat} {v:Value} {cs:List Value} : ∀ (l:List Value) (j:Nat) (w:World),w.ownsRow base e sz v n cs→(fillW w g j l).ownsRow base e sz v n cs
 | [],_,_,h=>h
 | _ :: l,j,_,h=>own_fill hg l (j+1) _ (own_set h hg)
theorem without_law (w:World) (vr vn vm vh vs vl:Value) (b:Built) (l:List Int) (hB:BuiltAt w vr vn vm vh vs b) (hT:Tiny b) (hl:Sl zAM 1 w vl l) (hG:Tables w) :
  Calls prog 33 #[.agg #[vr,vn,.int .i64 b.of,vm,vh,vs],vl] w fun e w'=>∃ ur un um uh us,e = .returned (.agg #[ur,un,.int .i64 b.of,um,uh,us])∧BuiltArg w' ur un um uh us (b.but l)∧Below w.heap.size w w':=by
 obtain ⟨i0,hif,iz0,iz1,iz2⟩:=info_parts zOO
 obtain ⟨ar,cr,rfl,_⟩:=zD hB.rs
 obtain ⟨al,cl,rfl,_⟩:=zD hl
 have S:=((Sta.of (((tables_ever hG).and (fun _ k=>hB.ext k)).and (fun _ k=>zJ zN k hl))).new #[vr,vn,.int .i64 b.of,vm,vh,.slice ar b.rs.length cr] 34).new #[.slice none 0 0,.slice none 0 0,.int .i64 0,.slice none 0 0,.slice none 0 0,.slice none 0 0] 34
 rw [World.size_alloc] at S
 have hG:=zE hG
 clear hB hl
 obtain ⟨l0,⟨q0,q1,q2,q3,q4,q5⟩,-⟩:=(S.get 1 rfl).q6
 go_enter func33,ntmps33
 go_wp2_with fail
 clear q0 q1 q2 q3 q4 q5 l0
 generalize hg0:w.heap.size=g0 at *
 generalize (w.alloc _).alloc _=w2 at *
 have hlt0:=(S.get 0 rfl).lt
 generalize hn2:w2.heap.size=n2 at *
 refine (twin08 _ _ _ _ _ _ b S.now.2.1 hT).mono ?_
 rintro e w2 ⟨ur,un,um,uh,us,rfl,hN,-,h,k1,k2,k3⟩
 rw [hn2] at hN
 replace S:=(S.ext h).and (fun _ k=>hN.ext k)
 obtain ⟨a1,c1,rfl,_⟩:=zD hN.reg
 obtain ⟨a2,c2,rfl,_⟩:=zD hN.notes
 obtain ⟨a3,c3,rfl,_⟩:=zD hN.ms
 obtain ⟨a4,c4,rfl,_⟩:=zD hN.hs
 obtain ⟨a5,c5,rfl,_⟩:=zD hN.rs
 clear hN h
 obtain ⟨l0,⟨q0,q1,q2,q3,q4,q5⟩,-⟩:=(S.get 1 rfl).q6
 go_wp2
 clear q0 q1 q2 q3 q4 q5 l0
 have HW:Hid (WoAt w2.heap.size w2 (w2.alloc (.cells #[.slice a1 b.ns.reg.length c1,.slice a2 b.ns.notes.length c2,.int .i64 b.of,.slice a3 b.ms.length c3,.slice a4 b.hs.length c4,.slice none 0 0] 34)) (.slice a1 b.ns.reg.length c1) (.slice a2 b.ns.notes.length c2) (.int .i64 b.of) (.slice a3 b.ms.length c3) (.slice a4 b.hs.length c4) (.slice none 0 0) 34 (butTo b l 0)) :=
  ⟨zB _ _,Lay.new _ _ _,World.ownsRow_nil _ _ _ _⟩
 have h5:=(S.get 0 rfl).lt
 have HS:=zE S
 clear S
 generalize hg5:w2.heap.size=g5 at *
 generalize w2.alloc _=w3 at *
 go_loopw [14] (fun q wr=>∃ (k:Nat) (vz:Value),q = .int .i64 k∧k≤b.rs.length∧Hid (WoAt g5 w2 wr (.slice a1 b.ns.reg.length c1) (.slice a2 b.ns.notes.length c2) (.int .i64 b.of) (.slice a3 b.ms.length c3) (.slice a4 b.hs.length c4) vz 34 (butTo b l k))) (fun q _=>b.rs.length - (intOf q).toNat)
 case atStart=>exact ⟨0,_,rfl,by omega,HW⟩
 case round =>
  clear HW
  obtain ⟨k,vz,rfl,hk,HW⟩:=hrel
  have S:=HS.out.ext (by rw [hg5];exact HW.out.below)
  by_cases hlt:k < b.rs.length
  case neg =>
   obtain rfl:k=b.rs.length:=by omega
   obtain ⟨az,cz,rfl⟩:=zDC HW.out.own
   have hS:=zE S.now
   have HO:=zE HW.out.own
   have hnum:=zE (rep_nums S.now.2.2.1.rs (l:=l))
   have L0:=S.get 0 rfl
   obtain ⟨l0,⟨q0,q1,q2,q3,q4,q5⟩,f0,f1,f2,f3,f4,f5⟩:=L0.q6
   obtain ⟨l1,⟨r0,r1,r2,r3,r4,r5⟩,-⟩:=HW.out.box.q6
   have HB:=zE S.held.below
   clear S HW
   go_wp2
   generalize hW:(((((wr.setCell _ _).setCell _ _).setCell _ _).setCell _ _).setCell _ _).setCell _ _=w9
   obtain ⟨L9,h9,-⟩:=zIW L0 [.slice a1 b.ns.reg.length c1,.slice a2 b.ns.notes.length c2,.int .i64 b.of,.slice a3 b.ms.length c3,.slice a4 b.hs.length c4,.slice az (butTo b l b.rs.length).length cz] rfl hW
   have hF:fillW wr (g0+1) 0 [.slice a1 b.ns.reg.length c1,.slice a2 b.ns.notes.length c2,.int .i64 b.of,.slice a3 b.ms.length c3,.slice a4 b.hs.length c4,.slice az (butTo b l b.rs.length).length cz]=w9:=hW
   have hN9:=builtN_fill hlt0 [.slice a1 b.ns.reg.length c1,.slice a2 b.ns.notes.length c2,.int .i64 b.of,.slice a3 b.ms.length c3,.slice a4 b.hs.length c4,.slice az (butTo b l b.rs.length).length cz] 0 wr hS.out.1
   rw [hF] at hN9
   have hO9:=own_fill (show g0+1 < g5+1 by omega) [.slice a1 b.ns.reg.length c1,.slice a2 b.ns.notes.length c2,.int .i64 b.of,.slice a3 b.ms.length c3,.slice a4 b.hs.length c4,.slice az (butTo b l b.rs.length).length cz] 0 wr HO.out
   rw [hF] at hO9
   have hrep:Sl zAT 5 w9 (.slice az (butTo b l b.rs.length).length cz) (butTo b l b.rs.length):=rep_sl hO9 hnum.out
   have hBe:=HB.out.trans (h9 _ (by omega))
   have hG9:=tables_ever hG.out _ hBe
   obtain ⟨lz,⟨q0,q1,q2,q3,q4,q5⟩,-⟩:=L9.q6
   refine bodyPost_ret (v:=.agg #[.slice a1 b.ns.reg.length c1,.slice a2 b.ns.notes.length c2,.int .i64 b.of,.slice a3 b.ms.length c3,.slice a4 b.hs.length c4,.slice az (butTo b l b.rs.length).length cz]) (by simp [results,results33,go_sem,q0,q1,q2,q3,q4,q5,lz]) rfl ?_
   refine ⟨_,_,_,_,_,rfl,?_,?_⟩
   ·rw [← butTo_all]
    exact ⟨⟨⟨hN9.at.reg,k1,hG9.1⟩,hN9.at.notes,k2⟩,⟨hN9.at.reg,hN9.at.notes,hN9.at.ms,hN9.at.hs,hrep,hN9.of⟩,k3,hG9.2.1⟩
   ·exact hBe
  case pos =>
   obtain ⟨br,or,rfl,⟨c0,c1',c2',c3',c4'⟩,hn⟩:=(zY S.now.2.2.1.rs).2 k hlt
   have hsucc:=butTo_succ (l:=l) hlt
   have hle:=butTo_le b l k
   have h16:b.rs.length≤16:=hT.2.2.2
   have hL:=zE S.now.2.1
   generalize b.rs[k]=r at *
   unfold zK at c0 c1' c2' c3' c4'
   have L1:=(HeldB.nil wr).new #[.int .i64 r.num,.int .i64 r.m,.int .i64 r.d,.int .i64 r.l,.int .u8 r.k] 37
   have HW1:=zE (HW.out.ext L1.below)
   have hL1:=zE (zJ zN L1.below hL.out)
   clear S hL HW
   go_wp2_with fail
   clear c0 c1' c2' c3' c4'
   have L6:=zE (L1.get 0 rfl)
   clear L1
   generalize wr.heap.size=g6 at *
   generalize wr.alloc _=w6 at *
   refine (index02 _ _ l r.num hL1.out).mono ?_
   rintro e w7 ⟨rfl,rfl⟩
   by_cases hm:r.num∈l
   ·have hi:=idxI_in l r.num hm
    have hi2:¬ (zKD l r.num < 0):=by omega
    rw [if_pos hm,List.append_nil] at hsucc
    have HW2:=zE (hsucc ▸ HW1.out)
    clear hm HW1 hsucc
    go_wp2
    exact ⟨⟨k+1,vz,by go_num,by omega,HW2⟩,by simp [intOf];omega⟩
   ·have hi:=idxI_out l r.num hm
    have hi2:zKD l r.num < 0:=by omega
    rw [if_neg hm] at hsucc
    obtain ⟨az,cz,rfl⟩:=zDC HW1.out.own
    have W7:=zE (HW1.out.ext (zB w6 (.cells #[.int .i64 r.num,.int .i64 r.m,.int .i64 r.d,.int .i64 r.l,.int .u8 r.k] 37)))
    have HC:=zE (cellsN_new w6 [.int .i64 r.num,.int .i64 r.m,.int .i64 r.d,.int .i64 r.l,.int .u8 r.k] 37 _ rfl)
    obtain ⟨-,⟨-,-,-,-,-,q5⟩,-⟩:=HW1.out.box.q6
    obtain ⟨-,⟨p0,p1,p2,p3,p4⟩,-⟩:=L6.out.q5
    clear hm HW1
    go_wp2_with (at_builtin;generalize w6.heap.size=g7 at *;generalize w6.alloc _=w7 at *;refine wpList_append_own _ rfl _ _ 32 rfl (g5+1) 37 i0 _ 5 40 underlying32 hif iz0 iz1 iz2 rfl (by decide) _ _ _ rfl W7.out.own ⟨g7,0,none⟩ 1 1 [.int .i64 r.num,.int .i64 r.m,.int .i64 r.d,.int .i64 r.l,.int .u8 r.k] rfl rfl HC.out (by intro u hu;simp at hu;rcases hu with rfl | rfl | rfl | rfl | rfl <;> rfl) (by unfold maxLen;omega) (by omega) (by have:=W7.out.box.lt;omega) ?_;intro v' w8 hown' hgrow _;obtain ⟨av,cv,rfl⟩:=zDC hown';have L8:=W7.out.box.kept hgrow (fun e=>by have:=(W7.out.own.lt _ e.symm).1;omega);have m5:=L8.cell 5 _ rfl;have f5:=L8.frozen 5;have l5:=L8.lt)
    refine ⟨⟨k+1,_,by go_num,by omega,zE ⟨zI (Nat.le_refl g5) (W7.out.below.grown hgrow (Nat.le_of_lt W7.out.box.lt) (fun r e=>by have:=(W7.out.own.lt r e).1;omega)),lay_set L8 5 _,?_⟩⟩,by simp [intOf];omega⟩
    rw [hsucc,List.length_append,List.flatMap_append]
    exact own_set hown' (by omega)
end
end Go.Proofs.YtjleiiinibdepaaGreatDoor
