/- Lemmas. -/
import Derived.WalkKit
import Derived.Lib.Hide
import Derived.WalkSmall
import Derived.Test.YtipaopbmklbmnaaGreatDoorProg
import Derived.KernelRfl
import Derived.Deep.QuietTactic
import Derived.BigQuiet
import Derived.StillTailTactics
import Derived.Shelf.Abstract
import Derived.Tactics
import Derived.Tactics2
set_option linter.all false
set_option maxRecDepth 100000
set_option maxHeartbeats 0
namespace Go.Proofs.YtipaopbmklbmnaaGreatDoor
section
open Go.RowKit
structure Item where
 d:Int
 c:Int
structure Dim where
 n:Int
 lo:Int
 up:Int
structure Issue where
 d:Int
 l:Int
 k:Int
 items:List Item
 dims:List Dim
structure Note where
 num:Int
 day:Int
 sg:Int
 d:Int
 l:Int
 fr:Int
 to:Int
 ca:Int
 use:Bool
 ways:Int
structure Heap where
 d:Int
 l:Int
 lo:Int
 hi:Int
structure Report where
 num:Int
 m:Int
 d:Int
 l:Int
 k:Int
structure Notes where
 reg:List Issue
 notes:List Note
structure Built where
 ns:Notes
 of:Int
 ms:List Int
 hs:List Heap
 rs:List Report
def I64 (n:Int) : Prop:=-9223372036854775808<=n/\n<=9223372036854775807
def U8 (n:Int) : Prop:=0<=n/\n<=255
def zK (w:World) (b o:Nat) (v:Value) : Prop:=w.cell? ⟨b,o,none⟩=some v
def Sl {α:Type} (E:World->Nat->Nat->α->Prop) (sz:Nat) (w:World) (v:Value) (xs:List α) : Prop :=
 ∃ a cap,v = .slice a xs.length cap/\xs.length<=9223372036854775807/\∀ k (hk:k < xs.length),∃ b off,a=some ⟨b,off,none⟩/\E w b (off+k*sz) xs[k]
def zAM (w:World) (b o:Nat) (x:Int) : Prop:=zK w b o (.int .i64 x)/\I64 x
def zBV (w:World) (b o:Nat) (x:Item) : Prop:=(zK w b o (.int .i64 x.d)/\zK w b (o+1) (.int .i64 x.c))/\I64 x.d/\I64 x.c
def zGJ (w:World) (b o:Nat) (x:Dim) : Prop:=(zK w b o (.int .i64 x.n)/\zK w b (o+1) (.int .i64 x.lo)/\zK w b (o+2) (.int .i64 x.up))/\I64 x.n/\I64 x.lo/\I64 x.up
def zAY (w:World) (b o:Nat) (x:Issue) : Prop :=
 (zK w b o (.int .i64 x.d)/\zK w b (o+1) (.int .i64 x.l)/\zK w b (o+2) (.int .u8 x.k))/\(I64 x.d/\I64 x.l/\U8 x.k) /\
 ∃ vi vd,zK w b (o+3) vi/\zK w b (o+4) vd/\Sl zBV 2 w vi x.items/\Sl zGJ 3 w vd x.dims
def zBL (w:World) (b o:Nat) (x:Note) : Prop :=
 (zK w b o (.int .i64 x.num)/\zK w b (o+1) (.int .i64 x.day)/\zK w b (o+2) (.int .u8 x.sg)/\zK w b (o+3) (.int .i64 x.d)/\zK w b (o+4) (.int .i64 x.l) /\
  zK w b (o+5) (.int .i64 x.fr)/\zK w b (o+6) (.int .i64 x.to)/\zK w b (o+7) (.int .i64 x.ca)/\zK w b (o+8) (.bool x.use)/\zK w b (o+9) (.int .u8 x.ways)) /\
 (I64 x.num/\I64 x.day/\U8 x.sg/\I64 x.d/\I64 x.l/\I64 x.fr/\I64 x.to/\I64 x.ca/\U8 x.ways)
def zDO (w:World) (b o:Nat) (x:Heap) : Prop :=
 (zK w b o (.int .i64 x.d)/\zK w b (o+1) (.int .i64 x.l)/\zK w b (o+2) (.int .i64 x.lo)/\zK w b (o+3) (.int .i64 x.hi))/\(I64 x.d/\I64 x.l/\I64 x.lo/\I64 x.hi)
def zAT (w:World) (b o:Nat) (x:Report) : Prop :=
 (zK w b o (.int .i64 x.num)/\zK w b (o+1) (.int .i64 x.m)/\zK w b (o+2) (.int .i64 x.d)/\zK w b (o+3) (.int .i64 x.l)/\zK w b (o+4) (.int .u8 x.k)) /\
 (I64 x.num/\I64 x.m/\I64 x.d/\I64 x.l/\U8 x.k)
theorem zAD {w:World} {b o:Nat} {v:Value} (h:zK w b o v) : b < w.heap.size:=by
 unfold zK World.cell? at h;by_cases hb:b < w.heap.size
 ·exact hb
 ·simp [Array.getElem?_eq_none (by omega:w.heap.size<=b)] at h
theorem zC {w w':World} (hb:Below w.heap.size w w') {b o:Nat} {v:Value} (h:zK w b o v) : zK w' b o v :=
 (hb.cell (p:=⟨b,o,none⟩) (zAD h)).trans h
def zGG {α:Type} (E:World->Nat->Nat->α->Prop) : Prop:=∀ w w' b o x,Below w.heap.size w w'->E w b o x->E w' b o x
theorem zJ {α:Type} {E:World->Nat->Nat->α->Prop} (hE:zGG E) {sz:Nat} {w w':World} {v:Value} {xs:List α} (hb:Below w.heap.size w w') (h:Sl E sz w v xs) : Sl E sz w' v xs:=by
 obtain ⟨a,cap,hv,hm,hc⟩:=h;refine ⟨a,cap,hv,hm,fun k hk=>?_⟩;obtain ⟨b,off,ha,he⟩:=hc k hk;exact ⟨b,off,ha,hE _ _ _ _ _ hb he⟩
theorem zN:zGG zAM:=fun _ _ _ _ _ hb h=>⟨zC hb h.1,h.2⟩
theorem zAX:zGG zBV:=fun _ _ _ _ _ hb h=>⟨⟨zC hb h.1.1,zC hb h.1.2⟩,h.2⟩
theorem zBS:zGG zGJ:=fun _ _ _ _ _ hb h=>⟨⟨zC hb h.1.1,zC hb h.1.2.1,zC hb h.1.2.2⟩,h.2⟩
theorem zU:zGG zAY:=fun _ _ _ _ _ hb ⟨⟨h1,h2,h3⟩,hr,vi,vd,h4,h5,h6,h7⟩ =>
 ⟨⟨zC hb h1,zC hb h2,zC hb h3⟩,hr,vi,vd,zC hb h4,zC hb h5,zJ zAX hb h6,zJ zBS hb h7⟩
theorem zAN:zGG zBL:=fun _ _ _ _ _ hb ⟨⟨h0,h1,h2,h3,h4,h5,h6,h7,h8,h9⟩,hr⟩ =>
 ⟨⟨zC hb h0,zC hb h1,zC hb h2,zC hb h3,zC hb h4,zC hb h5,zC hb h6,zC hb h7,zC hb h8,zC hb h9⟩,hr⟩
theorem zCU:zGG zDO:=fun _ _ _ _ _ hb ⟨⟨h0,h1,h2,h3⟩,hr⟩=>⟨⟨zC hb h0,zC hb h1,zC hb h2,zC hb h3⟩,hr⟩
theorem zAP:zGG zAT:=fun _ _ _ _ _ hb ⟨⟨h0,h1,h2,h3,h4⟩,hr⟩=>⟨⟨zC hb h0,zC hb h1,zC hb h2,zC hb h3,zC hb h4⟩,hr⟩
theorem zD {α:Type} {E:World->Nat->Nat->α->Prop} {sz:Nat} {w:World} {v:Value} {xs:List α} (h:Sl E sz w v xs) :
  ∃ a cap,v = .slice a xs.length cap/\xs.length<=9223372036854775807:=by
 obtain ⟨a,cap,hv,hm,_⟩:=h;exact ⟨a,cap,hv,hm⟩
theorem zY {α:Type} {E:World->Nat->Nat->α->Prop} {sz:Nat} {w:World} {a:Option Addr} {n cap:Nat} {xs:List α} (h:Sl E sz w (.slice a n cap) xs) :
  n=xs.length/\∀ k (hk:k < xs.length),∃ b off,a=some ⟨b,off,none⟩/\E w b (off+k*sz) xs[k]:=by
 obtain ⟨a',cap',hv,_,hc⟩:=h;cases hv;exact ⟨rfl,hc⟩
def zAK (p:Prop) (w:World) (e:Ending) (w':World) : Prop:=∃ b,e = .returned (.bool b)/\(b=true↔p)/\Below w.heap.size w w'
theorem zAK.t {p:Prop} {w w':World} (hp:p) (hb:Below w.heap.size w w') : zAK p w (.returned (.bool true)) w':=⟨true,rfl,by simp [hp],hb⟩
theorem zAK.f {p:Prop} {w w':World} (hp:¬ p) (hb:Below w.heap.size w w') : zAK p w (.returned (.bool false)) w':=⟨false,rfl,by simp [hp],hb⟩
theorem zAK.both {p:Prop} {w w':World} {e:Ending} (h:zAK p w e w') : (p/\e = .returned (.bool true)/\Below w.heap.size w w')\/(¬ p/\e = .returned (.bool false)/\Below w.heap.size w w'):=by
 obtain ⟨b,he,hi,hb⟩:=h;cases b
 ·right;exact ⟨by simpa using hi,he,hb⟩
 ·left;exact ⟨by simpa using hi,he,hb⟩
def RetS (p:Prop) (w:World) (e:Ending) (w':World) : Prop:=∃ b,e = .returned (.bool b)/\(b=true↔p)/\w=w'
theorem RetS.t {p:Prop} {w:World} (hp:p) : RetS p w (.returned (.bool true)) w:=⟨true,rfl,by simp [hp],rfl⟩
theorem RetS.f {p:Prop} {w:World} (hp:¬ p) : RetS p w (.returned (.bool false)) w:=⟨false,rfl,by simp [hp],rfl⟩
theorem RetS.both {p:Prop} {w w':World} {e:Ending} (h:RetS p w e w') : (p/\e = .returned (.bool true)/\w=w')\/(¬ p/\e = .returned (.bool false)/\w=w'):=by
 obtain ⟨b,he,hi,hb⟩:=h;cases b
 ·right;exact ⟨by simpa using hi,he,hb⟩
 ·left;exact ⟨by simpa using hi,he,hb⟩
theorem zA {w w1 w2:World} (h:Below w.heap.size w w1) (k:Below w1.heap.size w1 w2) : Below w.heap.size w w2:=h.trans (k.mono h.size)
theorem zAJ (w:World) (n:Nat) : Below w.heap.size w (w.drewN n):=⟨rfl,rfl,rfl,Nat.le_refl _,fun _ _=>rfl⟩
theorem zO (w:World) : Below w.heap.size w w.drew:=⟨rfl,rfl,rfl,Nat.le_refl _,fun _ _=>rfl⟩
theorem zB (w:World) (o:Obj) : Below w.heap.size w (w.alloc o):=(Below.refl _ w).alloc (Nat.le_refl _) o
theorem zR (w:World) (cs:Array Value) (t:TypeId) (j:Nat) (v:Value) (h:cs[j]? = some v) : zK (w.alloc (.cells cs t)) w.heap.size j v:=by
 unfold zK;rw [<- h];simp
theorem new_cell2 (w:World) (o o2:Obj) (b j:Nat) (v:Value) (h:zK (w.alloc o) b j v) : zK ((w.alloc o).alloc o2) b j v :=
 zC (zB _ _) h
theorem zBR {w:World} {b o g j:Nat} {v u:Value} (h:zK w b o v) (hne:b≠g) : zK (w.setCell ⟨g,j,none⟩ u) b o v:=by
 unfold zK at *;rw [World.cell?_of_block (w:=w) (Below.heap_setCell w ⟨g,j,none⟩ u b hne)];exact h
theorem zBY (w:World) (cs:Array Value) (t:TypeId) : Below w.heap.size w (w.alloc (.cells cs t))/\(∀ j v,cs[j]? = some v->zK (w.alloc (.cells cs t)) w.heap.size j v) :=
 ⟨zB _ _,fun j v h=>zR w cs t j v h⟩
theorem zJF (w:World) (cs cs':Array Value) (t t':TypeId) : Below w.heap.size w ((w.alloc (.cells cs t)).alloc (.cells cs' t')) /\
  (∀ j v,cs[j]? = some v->zK ((w.alloc (.cells cs t)).alloc (.cells cs' t')) w.heap.size j v)/\(∀ j v,cs'[j]? = some v->zK ((w.alloc (.cells cs t)).alloc (.cells cs' t')) (w.heap.size+1) j v) :=
 ⟨zA (zB _ _) (zB _ _),fun j v h=>zC (zB _ _) (zR w cs t j v h),fun j v h=>by
  have:=zR (w.alloc (.cells cs t)) cs' t' j v h;rwa [World.size_alloc] at this⟩
theorem zAO (p:Nat->Prop) (k:Nat) (h:∀ j,j < k->p j) (hk:p k) : ∀ j,j < k+1->p j:=by
 intro j hj;by_cases e:j=k
 ·rw [e];exact hk
 ·exact h j (by omega)
theorem zFH {a b:Bool} (h:a=b) : Ending.returned (.bool a) = .returned (.bool b):=by rw [h]
theorem zBT {k:IntKind} {a b:Int} (h:a=b) : Ending.returned (.int k a) = .returned (.int k b):=by rw [h]
theorem zFY:(Tryz.prog.info? 3).map (fun i=>(i.zero,i.size,i.bytes))=some (some (.int .i64 0),1,8):=by kernel_rfl
theorem infoItem:(Tryz.prog.info? 97).map (fun i=>(i.zero,i.size,i.bytes))=some (some (.agg #[.int .i64 0,.int .i64 0]),2,16):=by kernel_rfl
theorem infoDim:(Tryz.prog.info? 167).map (fun i=>(i.zero,i.size,i.bytes))=some (some (.agg #[.int .i64 0,.int .i64 0,.int .i64 0]),3,24):=by kernel_rfl
theorem infoIssue:(Tryz.prog.info? 118).map (fun i=>(i.zero,i.size,i.bytes))=some (some (.agg #[.int .i64 0,.int .i64 0,.int .u8 0,.slice none 0 0,.slice none 0 0]),5,72):=by kernel_rfl
theorem infoNote:(Tryz.prog.info? 74).map (fun i=>(i.zero,i.size,i.bytes))=some (some (.agg #[.int .i64 0,.int .i64 0,.int .u8 0,.int .i64 0,.int .i64 0,.int .i64 0,.int .i64 0,.int .i64 0,.bool false,.int .u8 0]),10,72):=by kernel_rfl
theorem infoHeap:(Tryz.prog.info? 42).map (fun i=>(i.zero,i.size,i.bytes))=some (some (.agg #[.int .i64 0,.int .i64 0,.int .i64 0,.int .i64 0]),4,32):=by kernel_rfl
theorem zOO:(Tryz.prog.info? 49).map (fun i=>(i.zero,i.size,i.bytes))=some (some (.agg #[.int .i64 0,.int .i64 0,.int .i64 0,.int .i64 0,.int .u8 0]),5,40):=by kernel_rfl
theorem zAZ (g j:Nat) : (⟨g,0,none⟩ : Addr).add j=⟨g,j,none⟩:=by
 unfold Addr.add;split
 ·rename_i h;subst h;rfl
 ·simp
theorem zBF {w:World} {base:Nat} {v:Value} {xs:List Int} (h:w.ownsRow base 3 1 v xs.length (xs.map (Value.int .i64))) (hI:∀ x∈xs,I64 x) : Sl zAM 1 w v xs:=by
 have h':=h;obtain ⟨_,h2⟩:=h;rcases h2 with ⟨rfl,hn⟩ | ⟨g,cap,cur,rfl,_,_,hc,hcm,_⟩
 ·exact ⟨none,0,by rw [hn],by omega,fun k hk=>by omega⟩
 ·refine ⟨some ⟨g,0,none⟩,cap,rfl,by unfold maxLen at hcm;omega,fun k hk=>⟨g,0,rfl,?_,hI _ (List.getElem_mem hk)⟩⟩;have:=h'.cells (g:=g) rfl k (.int .i64 xs[k]) (by simp [hk]);rw [zAZ] at this;unfold zK;simpa using this
def New {α:Type} (E:World->Nat->Nat->α->Prop) (sz:Nat) (e:TypeId) (base:Nat) (w:World) (v:Value) (xs:List α) : Prop :=
 Sl E sz w v xs/\∃ cs,w.ownsRow base e sz v xs.length cs
def zQG {α:Type} (E:World->Nat->Nat->α->Prop) (sz:Nat) : Prop :=
 ∀ w w' b o b' o' x,Below w.heap.size w w'->(∀ j u,j < sz->zK w b (o+j) u->zK w' b' (o'+j) u)->E w b o x->E w' b' o' x
def zHM {α:Type} (E:World->Nat->Nat->α->Prop) (sz:Nat) : Prop :=
 ∀ w b o x,E w b o x->∀ j,j < sz->∃ u,zK w b (o+j) u/\u.oneCell'=true
theorem copies_int:zQG zAM 1:=fun w w' b o b' o' x _ hc ⟨h,hr⟩=>⟨hc 0 _ (by omega) h,hr⟩
theorem copies_item:zQG zBV 2:=fun w w' b o b' o' x _ hc ⟨⟨h0,h1⟩,hr⟩=>⟨⟨hc 0 _ (by omega) h0,hc 1 _ (by omega) h1⟩,hr⟩
theorem copies_dim:zQG zGJ 3:=fun w w' b o b' o' x _ hc ⟨⟨h0,h1,h2⟩,hr⟩=>⟨⟨hc 0 _ (by omega) h0,hc 1 _ (by omega) h1,hc 2 _ (by omega) h2⟩,hr⟩
theorem copies_note:zQG zBL 10:=fun w w' b o b' o' x _ hc ⟨⟨h0,h1,h2,h3,h4,h5,h6,h7,h8,h9⟩,hr⟩ =>
 ⟨⟨hc 0 _ (by omega) h0,hc 1 _ (by omega) h1,hc 2 _ (by omega) h2,hc 3 _ (by omega) h3,hc 4 _ (by omega) h4,hc 5 _ (by omega) h5,hc 6 _ (by omega) h6,hc 7 _ (by omega) h7,hc 8 _ (by omega) h8,hc 9 _ (by omega) h9⟩,hr⟩
theorem copies_heap:zQG zDO 4:=fun w w' b o b' o' x _ hc ⟨⟨h0,h1,h2,h3⟩,hr⟩=>⟨⟨hc 0 _ (by omega) h0,hc 1 _ (by omega) h1,hc 2 _ (by omega) h2,hc 3 _ (by omega) h3⟩,hr⟩
theorem copies_report:zQG zAT 5:=fun w w' b o b' o' x _ hc ⟨⟨h0,h1,h2,h3,h4⟩,hr⟩=>⟨⟨hc 0 _ (by omega) h0,hc 1 _ (by omega) h1,hc 2 _ (by omega) h2,hc 3 _ (by omega) h3,hc 4 _ (by omega) h4⟩,hr⟩
theorem cells_int:zHM zAM 1:=fun w b o x h j hj=>by
 obtain rfl:j=0:=by omega
 exact ⟨_,h.1,rfl⟩
theorem cells_item:zHM zBV 2:=fun w b o x ⟨⟨h0,h1⟩,_⟩ j hj=>by
 match j,hj with
 | 0,_=>exact ⟨_,h0,rfl⟩
 | 1,_=>exact ⟨_,h1,rfl⟩
theorem cells_dim:zHM zGJ 3:=fun w b o x ⟨⟨h0,h1,h2⟩,_⟩ j hj=>by
 match j,hj with
 | 0,_=>exact ⟨_,h0,rfl⟩
 | 1,_=>exact ⟨_,h1,rfl⟩
 | 2,_=>exact ⟨_,h2,rfl⟩
theorem cells_note:zHM zBL 10:=fun w b o x ⟨⟨h0,h1,h2,h3,h4,h5,h6,h7,h8,h9⟩,_⟩ j hj=>by
 match j,hj with
 | 0,_=>exact ⟨_,h0,rfl⟩
 | 1,_=>exact ⟨_,h1,rfl⟩
 | 2,_=>exact ⟨_,h2,rfl⟩
 | 3,_=>exact ⟨_,h3,rfl⟩
 | 4,_=>exact ⟨_,h4,rfl⟩
 | 5,_=>exact ⟨_,h5,rfl⟩
 | 6,_=>exact ⟨_,h6,rfl⟩
 | 7,_=>exact ⟨_,h7,rfl⟩
 | 8,_=>exact ⟨_,h8,rfl⟩
 | 9,_=>exact ⟨_,h9,rfl⟩
theorem cells_heap:zHM zDO 4:=fun w b o x ⟨⟨h0,h1,h2,h3⟩,_⟩ j hj=>by
 match j,hj with
 | 0,_=>exact ⟨_,h0,rfl⟩
 | 1,_=>exact ⟨_,h1,rfl⟩
 | 2,_=>exact ⟨_,h2,rfl⟩
 | 3,_=>exact ⟨_,h3,rfl⟩
theorem cells_report:zHM zAT 5:=fun w b o x ⟨⟨h0,h1,h2,h3,h4⟩,_⟩ j hj=>by
 match j,hj with
 | 0,_=>exact ⟨_,h0,rfl⟩
 | 1,_=>exact ⟨_,h1,rfl⟩
 | 2,_=>exact ⟨_,h2,rfl⟩
 | 3,_=>exact ⟨_,h3,rfl⟩
 | 4,_=>exact ⟨_,h4,rfl⟩
theorem zLZ {α:Type} {E:World->Nat->Nat->α->Prop} {sz:Nat} (hE:zHM E sz) {w:World} {b off:Nat} (xs:List α) (h:∀ k (hk:k < xs.length),E w b (off+k*sz) xs[k]) :
  ∃ news:List Value,news.length=xs.length*sz/\(∀ j u,news[j]? = some u->zK w b (off+j) u)/\(∀ u∈news,u.oneCell'=true):=by
 have key:∀ j,j < xs.length*sz->∃ u,zK w b (off+j) u/\u.oneCell'=true:=fun j hj=>by
  have hsz:0 < sz:=Nat.pos_of_ne_zero fun e=>by subst e;simp at hj
  have hk:j / sz < xs.length:=(Nat.div_lt_iff_lt_mul hsz).2 hj;obtain ⟨u,hu,h1⟩:=hE _ _ _ _ (h (j / sz) hk) (j % sz) (Nat.mod_lt _ hsz);have e:=Nat.div_add_mod' j sz;exact ⟨u,by rw [show off+j=off+j / sz*sz+j % sz by omega];exact hu,h1⟩
 refine ⟨(List.range (xs.length*sz)).map (fun j=>(w.cell? ⟨b,off+j,none⟩).getD (.bool false)),by simp,fun j u hj=>?_,fun u hu=>?_⟩
 ·rw [List.getElem?_map] at hj
  by_cases hl:j < xs.length*sz
  ·obtain ⟨u',hu',_⟩:=key j hl;rw [List.getElem?_range hl] at hj;unfold zK at hu' ⊢;simp [hu'] at hj;rw [<- hj];exact hu'
  ·rw [List.getElem?_eq_none (by simpa using hl)] at hj;simp at hj
 ·obtain ⟨j,hj,rfl⟩:=List.mem_map.1 hu;obtain ⟨u',hu',h1⟩:=key j (List.mem_range.1 hj);unfold zK at hu';rw [hu'];exact h1
theorem zHC {α:Type} {E:World->Nat->Nat->α->Prop} {sz:Nat} (hC:zQG E sz) {w w':World} (hb:Below w.heap.size w w') {b off:Nat} {xs:List α}
  (h:∀ k (hk:k < xs.length),E w b (off+k*sz) xs[k]) {news:List Value} (hl:news.length=xs.length*sz) (hn:∀ j u,news[j]? = some u->zK w b (off+j) u)
  {base:Nat} {e:TypeId} {v:Value} (hown:w'.ownsRow base e sz v xs.length news) : Sl E sz w' v xs:=by
 have hown':=hown;obtain ⟨_,h2⟩:=hown;rcases h2 with ⟨rfl,hn0⟩ | ⟨g,cap,cur,rfl,_,_,hc,hcm,_⟩
 ·exact ⟨none,0,by rw [hn0],by omega,fun k hk=>by omega⟩
 ·refine ⟨some ⟨g,0,none⟩,cap,rfl,by unfold maxLen at hcm;omega,fun k hk=>⟨g,0,rfl,?_⟩⟩
  refine hC w w' b (off+k*sz) g (0+k*sz) _ hb (fun j u hj hu=>?_) (h k hk);have hlt:k*sz+j < news.length:=by rw [hl];exact Nat.lt_of_lt_of_le (show k*sz+j < (k+1)*sz by rw [Nat.add_mul,Nat.one_mul];omega) (Nat.mul_le_mul_right _ hk)
  have e1:news[k*sz+j]? = some news[k*sz+j]:=List.getElem?_eq_getElem hlt;have c1:=hn _ _ e1;have c2:=hown'.cells (g:=g) rfl _ _ e1;rw [zAZ] at c2;unfold zK at *;rw [Nat.zero_add,c2,<- c1,<- hu,Nat.add_assoc]
theorem New.sl {α:Type} {E:World->Nat->Nat->α->Prop} {sz:Nat} {e:TypeId} {base:Nat} {w:World} {v:Value} {xs:List α} (h:New E sz e base w v xs) : Sl E sz w v xs:=h.1
theorem New.nil {α:Type} (E:World->Nat->Nat->α->Prop) (sz:Nat) (e:TypeId) (base:Nat) (w:World) : New E sz e base w (.slice none 0 0) ([] : List α) :=
 ⟨⟨none,0,rfl,by simp,fun k hk=>by simp at hk⟩,[],World.ownsRow_nil _ _ _ _⟩
theorem New.weak {α:Type} {E:World->Nat->Nat->α->Prop} {sz:Nat} {e:TypeId} {base base':Nat} {w:World} {v:Value} {xs:List α} (h:New E sz e base w v xs) (hb:base'<=base) : New E sz e base' w v xs:=by
 obtain ⟨h1,cs,hl,h2⟩:=h;refine ⟨h1,cs,hl,?_⟩;rcases h2 with h2 | ⟨g,cap,cur,hv,hg,h3⟩
 ·exact .inl h2
 ·exact .inr ⟨g,cap,cur,hv,by omega,h3⟩
theorem zAC {w w':World} {base:Nat} {e:TypeId} {sz:Nat} {v:Value} {n:Nat} {cs:List Value} (hb:Below w.heap.size w w') (h:w.ownsRow base e sz v n cs) : w'.ownsRow base e sz v n cs:=by
 obtain ⟨hl,h2⟩:=h;refine ⟨hl,?_⟩;rcases h2 with h2 | ⟨g,cap,cur,hv,hg,hc,h3⟩
 ·exact .inl h2
 ·exact .inr ⟨g,cap,cur,hv,hg,(hb.block g (Array.getElem?_eq_some_iff.1 hc).1).trans hc,h3⟩
theorem New.ext {α:Type} {E:World->Nat->Nat->α->Prop} {sz:Nat} {e:TypeId} {base:Nat} {w w':World} {v:Value} {xs:List α} (hs:zGG E) (hb:Below w.heap.size w w') (h:New E sz e base w v xs) : New E sz e base w' v xs:=by
 obtain ⟨h1,cs,h2⟩:=h;exact ⟨zJ hs hb h1,cs,zAC hb h2⟩
def In (n lo hi:Int) : Prop:=lo<=n/\n<=hi
theorem within01 (n lo hi:Int) (w:World) : Calls Tryz.prog 224 #[.int .i64 n,.int .i64 lo,.int .i64 hi] w (RetS (In n lo hi) w):=by
 by_cases h1:lo<=n
 ·by_cases h2:n<=hi
  ·go_enter Tryz.func224,Tryz.ntmps224;go_wp2;go_ret;exact RetS.t ⟨h1,h2⟩
  ·go_enter Tryz.func224,Tryz.ntmps224;go_wp2;go_ret;exact RetS.f (by unfold In;omega)
 ·go_enter Tryz.func224,Tryz.ntmps224;go_wp2;go_ret;exact RetS.f (by unfold In;omega)
theorem zKO (n lo hi:Int) (w:World) : Calls Tryz.prog 83 #[.int .i64 n,.int .i64 lo,.int .i64 hi] w (RetS (In n lo hi) w):=by
 by_cases h1:lo<=n
 ·by_cases h2:n<=hi
  ·go_enter Tryz.func83,Tryz.ntmps83;go_wp2;go_ret;exact RetS.t ⟨h1,h2⟩
  ·go_enter Tryz.func83,Tryz.ntmps83;go_wp2;go_ret;exact RetS.f (by unfold In;omega)
 ·go_enter Tryz.func83,Tryz.ntmps83;go_wp2;go_ret;exact RetS.f (by unfold In;omega)
theorem within03 (n lo hi:Int) (w:World) : Calls Tryz.prog 195 #[.int .i64 n,.int .i64 lo,.int .i64 hi] w (RetS (In n lo hi) w):=by
 by_cases h1:lo<=n
 ·by_cases h2:n<=hi
  ·go_enter Tryz.func195,Tryz.ntmps195;go_wp2;go_ret;exact RetS.t ⟨h1,h2⟩
  ·go_enter Tryz.func195,Tryz.ntmps195;go_wp2;go_ret;exact RetS.f (by unfold In;omega)
 ·go_enter Tryz.func195,Tryz.ntmps195;go_wp2;go_ret;exact RetS.f (by unfold In;omega)
theorem within08 (n lo hi:Int) (w:World) : Calls Tryz.prog 145 #[.int .i64 n,.int .i64 lo,.int .i64 hi] w (RetS (In n lo hi) w):=by
 by_cases h1:lo<=n
 ·by_cases h2:n<=hi
  ·go_enter Tryz.func145,Tryz.ntmps145;go_wp2;go_ret;exact RetS.t ⟨h1,h2⟩
  ·go_enter Tryz.func145,Tryz.ntmps145;go_wp2;go_ret;exact RetS.f (by unfold In;omega)
 ·go_enter Tryz.func145,Tryz.ntmps145;go_wp2;go_ret;exact RetS.f (by unfold In;omega)
def inB (n lo hi:Int) : Bool:=decide (lo<=n) && decide (n<=hi)
theorem zGA {n lo hi:Int} (h:inB n lo hi=true) : In n lo hi:=by unfold inB at h;simpa [In] using h
theorem zLW {n lo hi:Int} (h:¬ inB n lo hi=true) : ¬ In n lo hi:=fun hh=>h (by unfold inB;simpa [In] using hh)
theorem zGD {n lo hi:Int} (h:¬ inB n lo hi=true) : inB n lo hi=false:=by simpa using h
theorem zGN (n lo hi:Int) (w:World) : Calls Tryz.prog 83 #[.int .i64 n,.int .i64 lo,.int .i64 hi] w fun e w'=>e = .returned (.bool (inB n lo hi))/\w'=w:=by
 refine (zKO n lo hi w).mono ?_;intro e w' h;rcases h.both with ⟨h1,rfl,rfl⟩ | ⟨h1,rfl,rfl⟩
 ·exact ⟨by rw [show inB n lo hi=true from by unfold inB;simpa [In] using h1],rfl⟩
 ·exact ⟨by rw [show inB n lo hi=false from by unfold In at h1;unfold inB;rw [Bool.eq_false_iff];simpa using h1],rfl⟩
def zOA (d:Dim) : Prop:=In d.n 0 1000000000/\In d.up 0 1000000000/\In d.lo 0 d.up
theorem dim01 (d:Dim) (w:World) : Calls Tryz.prog 215 #[.agg #[.int .i64 d.n,.int .i64 d.lo,.int .i64 d.up]] w (zAK (zOA d) w):=by
 obtain ⟨hb1,B1⟩:=zBY w #[.int .i64 d.n,.int .i64 d.lo,.int .i64 d.up] 167;have c1:=B1 1 _ rfl;have c2:=B1 2 _ rfl;clear B1;unfold zK at c1 c2;go_enter Tryz.func215,Tryz.ntmps215;go_wp2_with fail;generalize w.alloc _=w1 at *;refine (within01 _ _ _ _).mono ?_;intro e w2 h;rcases h.both with ⟨h1,rfl,rfl⟩ | ⟨h1,rfl,rfl⟩
 ·clear h
  go_wp2_with fail;refine (within01 _ _ _ _).mono ?_;intro e w3 h;rcases h.both with ⟨h2,rfl,rfl⟩ | ⟨h2,rfl,rfl⟩
  ·clear h
   go_wp2_with fail;refine (within01 _ _ _ _).mono ?_;intro e w4 h;rcases h.both with ⟨h3,rfl,rfl⟩ | ⟨h3,rfl,rfl⟩
   ·go_wp2;go_ret;exact zAK.t ⟨h1,h2,h3⟩ hb1
   ·go_wp2;go_ret;exact zAK.f (fun h=>h3 h.2.2) hb1
  ·go_wp2;go_ret;exact zAK.f (fun h=>h2 h.2.1) hb1
 ·go_wp2;go_ret;exact zAK.f (fun h=>h1 h.1) hb1
end
section
open Go.RowKit Go.Shelf
theorem indexFunc_int (w:World) (v:Value) (xs:List Int) (h:Sl zAM 1 w v xs) (g:FuncId) (caps:Array Value) (eg:∀ args w,(callFunc g args).run Tryz.prog w = .ok (.enter g args) w) (p:Int->Prop)
  (hp:∀ x∈xs,∀ w',Below w.heap.size w w'->Calls Tryz.prog g (#[.int .i64 x]++caps) w' (zAK (p x) w')) :
  Calls Tryz.prog 157 #[v,.func (.func g) #[] caps] w fun e w'=>∃ i:Int,e = .returned (.int .i64 i)/\(0<=i↔∃ x∈xs,p x)/\Below w.heap.size w w':=by
 obtain ⟨a,cap,rfl,hm⟩:=zD h;go_enter Tryz.func157,Tryz.ntmps157;go_wp2;go_loopw [8] (fun i wr=>∃ k:Nat,i = .int .i64 k/\k<=xs.length/\Hid (Below w.heap.size w wr)/\Hid (∀ j,j < k->(hj:j < xs.length)->¬ p xs[j])) (fun i _=>xs.length - (intOf i).toNat)
 case atStart=>exact ⟨0,rfl,by omega,Below.refl _ _,fun j hj=>absurd hj (by omega)⟩
 case round =>
  obtain ⟨k,rfl,hk,hb,hall⟩:=hrel;by_cases hlt:k < xs.length
  ·have hcall:=hp xs[k] (List.getElem_mem hlt) wr hb.out
   have HM:=Lib.hid (List.getElem_mem hlt);obtain ⟨b,off,rfl,⟨h0,_⟩⟩:=(zY (zJ zN hb.out h)).2 k hlt;generalize hx:xs[k]=x at *;have HX:=Lib.hid hx;clear hx hp h;have hlt3:=zAD h0;unfold zK at h0;rw [Nat.mul_one] at h0;go_wp2_with (go_at_fn g;refine hcall.mono ?_;intro e w' hr;rcases hr.both with ⟨h1,rfl,hb'⟩ | ⟨h1,rfl,hb'⟩ <;> clear hr)
   ·have h1':=Lib.hid h1;clear h1;go_wp2;go_ret;exact ⟨k,rfl,⟨fun _=>⟨x,HM.out,h1'.out⟩,fun _=>by omega⟩,zA hb.out hb'⟩
   ·have h1':=Lib.hid h1
    clear h1;go_wp2;go_roundw
    case rel=>exact ⟨k+1,by go_num,by omega,zA hb.out hb',zAO _ k hall.out (fun _=>by rw [HX.out];exact h1'.out)⟩
    case measure=>simp [intOf];omega
  ·clear hp h;go_wp2;go_ret;refine ⟨-1,rfl,⟨fun h=>by omega,fun ⟨x,hx,hpx⟩=>?_⟩,hb.out⟩;obtain ⟨j,hj,rfl⟩:=List.getElem_of_mem hx;exact (hall.out j (by omega) hj hpx).elim
theorem zDX (w:World) (v:Value) (xs:List Int) (h:Sl zAM 1 w v xs) (g:FuncId) (caps:Array Value) (eg:∀ args w,(callFunc g args).run Tryz.prog w = .ok (.enter g args) w) (p:Int->Prop)
  (hp:∀ x∈xs,∀ w',Below w.heap.size w w'->Calls Tryz.prog g (#[.int .i64 x]++caps) w' (zAK (p x) w')) :
  Calls Tryz.prog 111 #[v,.func (.func g) #[] caps] w (zAK (∃ x∈xs,p x) w):=by
 go_enter Tryz.func111,Tryz.ntmps111;go_wp2_with fail;refine (indexFunc_int _ _ xs h g caps eg p hp).mono ?_;rintro e w' ⟨i,rfl,hi,hb⟩;have HI:=Lib.hid hi;clear hi h hp;go_wp2;go_ret;exact ⟨decide (0<=i),rfl,by rw [decide_eq_true_eq];exact HI.out,hb⟩
theorem indexFunc_heap (w:World) (v:Value) (xs:List Heap) (h:Sl zDO 4 w v xs) (g:FuncId) (caps:Array Value) (eg:∀ args w,(callFunc g args).run Tryz.prog w = .ok (.enter g args) w) (p:Heap->Prop)
  (hp:∀ x∈xs,∀ w',Below w.heap.size w w'->Calls Tryz.prog g (#[.agg #[.int .i64 x.d,.int .i64 x.l,.int .i64 x.lo,.int .i64 x.hi]]++caps) w' (zAK (p x) w')) :
  Calls Tryz.prog 170 #[v,.func (.func g) #[] caps] w fun e w'=>∃ i:Int,e = .returned (.int .i64 i)/\(0<=i↔∃ x∈xs,p x)/\Below w.heap.size w w':=by
 obtain ⟨a,cap,rfl,hm⟩:=zD h;go_enter Tryz.func170,Tryz.ntmps170;go_wp2;go_loopw [8] (fun i wr=>∃ k:Nat,i = .int .i64 k/\k<=xs.length/\Hid (Below w.heap.size w wr)/\Hid (∀ j,j < k->(hj:j < xs.length)->¬ p xs[j])) (fun i _=>xs.length - (intOf i).toNat)
 case atStart=>exact ⟨0,rfl,by omega,Below.refl _ _,fun j hj=>absurd hj (by omega)⟩
 case round =>
  obtain ⟨k,rfl,hk,hb,hall⟩:=hrel;by_cases hlt:k < xs.length
  ·have hcall:=hp xs[k] (List.getElem_mem hlt) wr hb.out
   have HM:=Lib.hid (List.getElem_mem hlt);obtain ⟨b,off,rfl,⟨⟨h0,h1,h2,h3⟩,_⟩⟩:=(zY (zJ zCU hb.out h)).2 k hlt;generalize hx:xs[k]=x at *;have HX:=Lib.hid hx;clear hx hp h;have hlt3:=zAD h0;unfold zK at h0 h1 h2 h3;go_wp2_with (go_at_fn g;refine hcall.mono ?_;intro e w' hr;rcases hr.both with ⟨h1,rfl,hb'⟩ | ⟨h1,rfl,hb'⟩ <;> clear hr)
   ·have h1':=Lib.hid h1;clear h1;go_wp2;go_ret;exact ⟨k,rfl,⟨fun _=>⟨x,HM.out,h1'.out⟩,fun _=>by omega⟩,zA hb.out hb'⟩
   ·have h1':=Lib.hid h1
    clear h1;go_wp2;go_roundw
    case rel=>exact ⟨k+1,by go_num,by omega,zA hb.out hb',zAO _ k hall.out (fun _=>by rw [HX.out];exact h1'.out)⟩
    case measure=>simp [intOf];omega
  ·clear hp h;go_wp2;go_ret;refine ⟨-1,rfl,⟨fun h=>by omega,fun ⟨x,hx,hpx⟩=>?_⟩,hb.out⟩;obtain ⟨j,hj,rfl⟩:=List.getElem_of_mem hx;exact (hall.out j (by omega) hj hpx).elim
theorem zPD (w:World) (v:Value) (xs:List Heap) (h:Sl zDO 4 w v xs) (g:FuncId) (caps:Array Value) (eg:∀ args w,(callFunc g args).run Tryz.prog w = .ok (.enter g args) w) (p:Heap->Prop)
  (hp:∀ x∈xs,∀ w',Below w.heap.size w w'->Calls Tryz.prog g (#[.agg #[.int .i64 x.d,.int .i64 x.l,.int .i64 x.lo,.int .i64 x.hi]]++caps) w' (zAK (p x) w')) :
  Calls Tryz.prog 130 #[v,.func (.func g) #[] caps] w (zAK (∃ x∈xs,p x) w):=by
 go_enter Tryz.func130,Tryz.ntmps130;go_wp2_with fail;refine (indexFunc_heap _ _ xs h g caps eg p hp).mono ?_;rintro e w' ⟨i,rfl,hi,hb⟩;have HI:=Lib.hid hi;clear hi h hp;go_wp2;go_ret;exact ⟨decide (0<=i),rfl,by rw [decide_eq_true_eq];exact HI.out,hb⟩
theorem indexFunc_item (w:World) (v:Value) (xs:List Item) (h:Sl zBV 2 w v xs) (g:FuncId) (caps:Array Value) (eg:∀ args w,(callFunc g args).run Tryz.prog w = .ok (.enter g args) w) (p:Item->Prop)
  (hp:∀ x∈xs,∀ w',Below w.heap.size w w'->Calls Tryz.prog g (#[.agg #[.int .i64 x.d,.int .i64 x.c]]++caps) w' (zAK (p x) w')) :
  Calls Tryz.prog 186 #[v,.func (.func g) #[] caps] w fun e w'=>∃ i:Int,e = .returned (.int .i64 i)/\(0<=i↔∃ x∈xs,p x)/\Below w.heap.size w w':=by
 obtain ⟨a,cap,rfl,hm⟩:=zD h;go_enter Tryz.func186,Tryz.ntmps186;go_wp2;go_loopw [8] (fun i wr=>∃ k:Nat,i = .int .i64 k/\k<=xs.length/\Hid (Below w.heap.size w wr)/\Hid (∀ j,j < k->(hj:j < xs.length)->¬ p xs[j])) (fun i _=>xs.length - (intOf i).toNat)
 case atStart=>exact ⟨0,rfl,by omega,Below.refl _ _,fun j hj=>absurd hj (by omega)⟩
 case round =>
  obtain ⟨k,rfl,hk,hb,hall⟩:=hrel;by_cases hlt:k < xs.length
  ·have hcall:=hp xs[k] (List.getElem_mem hlt) wr hb.out
   have HM:=Lib.hid (List.getElem_mem hlt);obtain ⟨b,off,rfl,⟨⟨h0,h1⟩,_⟩⟩:=(zY (zJ zAX hb.out h)).2 k hlt;generalize hx:xs[k]=x at *;have HX:=Lib.hid hx;clear hx hp h;have hlt3:=zAD h0;unfold zK at h0 h1;go_wp2_with (go_at_fn g;refine hcall.mono ?_;intro e w' hr;rcases hr.both with ⟨h1,rfl,hb'⟩ | ⟨h1,rfl,hb'⟩ <;> clear hr)
   ·have h1':=Lib.hid h1;clear h1;go_wp2;go_ret;exact ⟨k,rfl,⟨fun _=>⟨x,HM.out,h1'.out⟩,fun _=>by omega⟩,zA hb.out hb'⟩
   ·have h1':=Lib.hid h1
    clear h1;go_wp2;go_roundw
    case rel=>exact ⟨k+1,by go_num,by omega,zA hb.out hb',zAO _ k hall.out (fun _=>by rw [HX.out];exact h1'.out)⟩
    case measure=>simp [intOf];omega
  ·clear hp h;go_wp2;go_ret;refine ⟨-1,rfl,⟨fun h=>by omega,fun ⟨x,hx,hpx⟩=>?_⟩,hb.out⟩;obtain ⟨j,hj,rfl⟩:=List.getElem_of_mem hx;exact (hall.out j (by omega) hj hpx).elim
theorem zPL (w:World) (v:Value) (xs:List Item) (h:Sl zBV 2 w v xs) (g:FuncId) (caps:Array Value) (eg:∀ args w,(callFunc g args).run Tryz.prog w = .ok (.enter g args) w) (p:Item->Prop)
  (hp:∀ x∈xs,∀ w',Below w.heap.size w w'->Calls Tryz.prog g (#[.agg #[.int .i64 x.d,.int .i64 x.c]]++caps) w' (zAK (p x) w')) :
  Calls Tryz.prog 162 #[v,.func (.func g) #[] caps] w (zAK (∃ x∈xs,p x) w):=by
 go_enter Tryz.func162,Tryz.ntmps162;go_wp2_with fail;refine (indexFunc_item _ _ xs h g caps eg p hp).mono ?_;rintro e w' ⟨i,rfl,hi,hb⟩;have HI:=Lib.hid hi;clear hi h hp;go_wp2;go_ret;exact ⟨decide (0<=i),rfl,by rw [decide_eq_true_eq];exact HI.out,hb⟩
theorem indexFunc_dim (w:World) (v:Value) (xs:List Dim) (h:Sl zGJ 3 w v xs) (g:FuncId) (caps:Array Value) (eg:∀ args w,(callFunc g args).run Tryz.prog w = .ok (.enter g args) w) (p:Dim->Prop)
  (hp:∀ x∈xs,∀ w',Below w.heap.size w w'->Calls Tryz.prog g (#[.agg #[.int .i64 x.n,.int .i64 x.lo,.int .i64 x.up]]++caps) w' (zAK (p x) w')) :
  Calls Tryz.prog 261 #[v,.func (.func g) #[] caps] w fun e w'=>∃ i:Int,e = .returned (.int .i64 i)/\(0<=i↔∃ x∈xs,p x)/\Below w.heap.size w w':=by
 obtain ⟨a,cap,rfl,hm⟩:=zD h;go_enter Tryz.func261,Tryz.ntmps261;go_wp2;go_loopw [8] (fun i wr=>∃ k:Nat,i = .int .i64 k/\k<=xs.length/\Hid (Below w.heap.size w wr)/\Hid (∀ j,j < k->(hj:j < xs.length)->¬ p xs[j])) (fun i _=>xs.length - (intOf i).toNat)
 case atStart=>exact ⟨0,rfl,by omega,Below.refl _ _,fun j hj=>absurd hj (by omega)⟩
 case round =>
  obtain ⟨k,rfl,hk,hb,hall⟩:=hrel;by_cases hlt:k < xs.length
  ·have hcall:=hp xs[k] (List.getElem_mem hlt) wr hb.out
   have HM:=Lib.hid (List.getElem_mem hlt);obtain ⟨b,off,rfl,⟨⟨h0,h1,h2⟩,_⟩⟩:=(zY (zJ zBS hb.out h)).2 k hlt;generalize hx:xs[k]=x at *;have HX:=Lib.hid hx;clear hx hp h;have hlt3:=zAD h0;unfold zK at h0 h1 h2;go_wp2_with (go_at_fn g;refine hcall.mono ?_;intro e w' hr;rcases hr.both with ⟨h1,rfl,hb'⟩ | ⟨h1,rfl,hb'⟩ <;> clear hr)
   ·have h1':=Lib.hid h1;clear h1;go_wp2;go_ret;exact ⟨k,rfl,⟨fun _=>⟨x,HM.out,h1'.out⟩,fun _=>by omega⟩,zA hb.out hb'⟩
   ·have h1':=Lib.hid h1
    clear h1;go_wp2;go_roundw
    case rel=>exact ⟨k+1,by go_num,by omega,zA hb.out hb',zAO _ k hall.out (fun _=>by rw [HX.out];exact h1'.out)⟩
    case measure=>simp [intOf];omega
  ·clear hp h;go_wp2;go_ret;refine ⟨-1,rfl,⟨fun h=>by omega,fun ⟨x,hx,hpx⟩=>?_⟩,hb.out⟩;obtain ⟨j,hj,rfl⟩:=List.getElem_of_mem hx;exact (hall.out j (by omega) hj hpx).elim
theorem zQR (w:World) (v:Value) (xs:List Dim) (h:Sl zGJ 3 w v xs) (g:FuncId) (caps:Array Value) (eg:∀ args w,(callFunc g args).run Tryz.prog w = .ok (.enter g args) w) (p:Dim->Prop)
  (hp:∀ x∈xs,∀ w',Below w.heap.size w w'->Calls Tryz.prog g (#[.agg #[.int .i64 x.n,.int .i64 x.lo,.int .i64 x.up]]++caps) w' (zAK (p x) w')) :
  Calls Tryz.prog 258 #[v,.func (.func g) #[] caps] w (zAK (∃ x∈xs,p x) w):=by
 go_enter Tryz.func258,Tryz.ntmps258;go_wp2_with fail;refine (indexFunc_dim _ _ xs h g caps eg p hp).mono ?_;rintro e w' ⟨i,rfl,hi,hb⟩;have HI:=Lib.hid hi;clear hi h hp;go_wp2;go_ret;exact ⟨decide (0<=i),rfl,by rw [decide_eq_true_eq];exact HI.out,hb⟩
theorem indexFunc_note (w:World) (v:Value) (xs:List Note) (h:Sl zBL 10 w v xs) (g:FuncId) (caps:Array Value) (eg:∀ args w,(callFunc g args).run Tryz.prog w = .ok (.enter g args) w) (p:Note->Prop)
  (hp:∀ x∈xs,∀ w',Below w.heap.size w w'->Calls Tryz.prog g (#[.agg #[.int .i64 x.num,.int .i64 x.day,.int .u8 x.sg,.int .i64 x.d,.int .i64 x.l,.int .i64 x.fr,.int .i64 x.to,.int .i64 x.ca,.bool x.use,.int .u8 x.ways]]++caps) w' (zAK (p x) w')) :
  Calls Tryz.prog 120 #[v,.func (.func g) #[] caps] w fun e w'=>∃ i:Int,e = .returned (.int .i64 i)/\(0<=i↔∃ x∈xs,p x)/\Below w.heap.size w w':=by
 obtain ⟨a,cap,rfl,hm⟩:=zD h;go_enter Tryz.func120,Tryz.ntmps120;go_wp2;go_loopw [8] (fun i wr=>∃ k:Nat,i = .int .i64 k/\k<=xs.length/\Hid (Below w.heap.size w wr)/\Hid (∀ j,j < k->(hj:j < xs.length)->¬ p xs[j])) (fun i _=>xs.length - (intOf i).toNat)
 case atStart=>exact ⟨0,rfl,by omega,Below.refl _ _,fun j hj=>absurd hj (by omega)⟩
 case round =>
  obtain ⟨k,rfl,hk,hb,hall⟩:=hrel;by_cases hlt:k < xs.length
  ·have hcall:=hp xs[k] (List.getElem_mem hlt) wr hb.out
   have HM:=Lib.hid (List.getElem_mem hlt);obtain ⟨b,off,rfl,⟨⟨h0,h1,h2,h3,h4,h5,h6,h7,h8,h9⟩,_⟩⟩:=(zY (zJ zAN hb.out h)).2 k hlt;generalize hx:xs[k]=x at *;have HX:=Lib.hid hx;clear hx hp h;have hlt3:=zAD h0;unfold zK at h0 h1 h2 h3 h4 h5 h6 h7 h8 h9;go_wp2_with (go_at_fn g;refine hcall.mono ?_;intro e w' hr;rcases hr.both with ⟨h1,rfl,hb'⟩ | ⟨h1,rfl,hb'⟩ <;> clear hr)
   ·have h1':=Lib.hid h1;clear h1;go_wp2;go_ret;exact ⟨k,rfl,⟨fun _=>⟨x,HM.out,h1'.out⟩,fun _=>by omega⟩,zA hb.out hb'⟩
   ·have h1':=Lib.hid h1
    clear h1;go_wp2;go_roundw
    case rel=>exact ⟨k+1,by go_num,by omega,zA hb.out hb',zAO _ k hall.out (fun _=>by rw [HX.out];exact h1'.out)⟩
    case measure=>simp [intOf];omega
  ·clear hp h;go_wp2;go_ret;refine ⟨-1,rfl,⟨fun h=>by omega,fun ⟨x,hx,hpx⟩=>?_⟩,hb.out⟩;obtain ⟨j,hj,rfl⟩:=List.getElem_of_mem hx;exact (hall.out j (by omega) hj hpx).elim
theorem zEQ (w:World) (v:Value) (xs:List Note) (h:Sl zBL 10 w v xs) (g:FuncId) (caps:Array Value) (eg:∀ args w,(callFunc g args).run Tryz.prog w = .ok (.enter g args) w) (p:Note->Prop)
  (hp:∀ x∈xs,∀ w',Below w.heap.size w w'->Calls Tryz.prog g (#[.agg #[.int .i64 x.num,.int .i64 x.day,.int .u8 x.sg,.int .i64 x.d,.int .i64 x.l,.int .i64 x.fr,.int .i64 x.to,.int .i64 x.ca,.bool x.use,.int .u8 x.ways]]++caps) w' (zAK (p x) w')) :
  Calls Tryz.prog 153 #[v,.func (.func g) #[] caps] w (zAK (∃ x∈xs,p x) w):=by
 go_enter Tryz.func153,Tryz.ntmps153;go_wp2_with fail;refine (indexFunc_note _ _ xs h g caps eg p hp).mono ?_;rintro e w' ⟨i,rfl,hi,hb⟩;have HI:=Lib.hid hi;clear hi h hp;go_wp2;go_ret;exact ⟨decide (0<=i),rfl,by rw [decide_eq_true_eq];exact HI.out,hb⟩
theorem in1_built (w:World) (n lo hi:Int) (b1 b2:Nat) (h1:zK w b1 0 (.int .i64 lo)) (h2:zK w b2 0 (.int .i64 hi)) :
  Calls Tryz.prog 112 #[.int .i64 n,.pointer (some ⟨b1,0,none⟩),.pointer (some ⟨b2,0,none⟩)] w (zAK (¬ In n lo hi) w):=by
 unfold zK at h1 h2;by_cases g1:n < lo
 ·go_enter Tryz.func112,Tryz.ntmps112;go_wp2;go_ret;exact zAK.t (by unfold In;omega) (Below.refl _ _)
 ·by_cases g2:hi < n
  ·go_enter Tryz.func112,Tryz.ntmps112;go_wp2;go_ret;exact zAK.t (by unfold In;omega) (Below.refl _ _)
  ·go_enter Tryz.func112,Tryz.ntmps112;go_wp2;go_ret;exact zAK.f (fun h=>h ⟨by omega,by omega⟩) (Below.refl _ _)
theorem enter_in_built:Enters Tryz.prog 112:=enters_of Tryz.func112 (by kernel_rfl) rfl
theorem in_built (w:World) (lo hi:Int) (v:Value) (xs:List Int) (h:Sl zAM 1 w v xs) :
  Calls Tryz.prog 57 #[.int .i64 lo,.int .i64 hi,v] w (zAK (∀ x∈xs,In x lo hi) w):=by
 obtain ⟨hb1,B1,B2⟩:=zJF w #[.int .i64 lo] #[.int .i64 hi] 3 3;have c1:=B1 0 (.int .i64 lo) rfl;have c2:=B2 0 (.int .i64 hi) rfl;clear B1 B2;have h1:=zJ zN hb1 h;clear h;go_enter Tryz.func57,Tryz.ntmps57;go_wp2_with fail;generalize (w.alloc _).alloc _=w1 at *;refine (zDX _ _ xs h1 112 _ enter_in_built (fun x=>¬ In x lo hi) (fun x _ w' hb=>by simp only [List.append_toArray,List.cons_append,List.nil_append];exact in1_built w' x lo hi _ _ (zC hb c1) (zC hb c2))).mono ?_;intro e w2 hr;rcases hr.both with ⟨k1,rfl,hb2⟩ | ⟨k1,rfl,hb2⟩
 ·have K:=Lib.hid k1;clear k1 hr;go_wp2;go_ret;exact zAK.f (fun h=>by obtain ⟨x,hx,hn⟩:=K.out;exact hn (h x hx)) (zA hb1 hb2)
 ·have K:=Lib.hid k1;clear k1 hr;go_wp2;go_ret;exact zAK.t (fun x hx=>Classical.byContradiction fun hn=>K.out ⟨x,hx,hn⟩) (zA hb1 hb2)
theorem in1_sheet (w:World) (n lo hi:Int) (b1 b2:Nat) (h1:zK w b1 0 (.int .i64 lo)) (h2:zK w b2 0 (.int .i64 hi)) :
  Calls Tryz.prog 185 #[.int .i64 n,.pointer (some ⟨b1,0,none⟩),.pointer (some ⟨b2,0,none⟩)] w (zAK (¬ In n lo hi) w):=by
 unfold zK at h1 h2;by_cases g1:n < lo
 ·go_enter Tryz.func185,Tryz.ntmps185;go_wp2;go_ret;exact zAK.t (by unfold In;omega) (Below.refl _ _)
 ·by_cases g2:hi < n
  ·go_enter Tryz.func185,Tryz.ntmps185;go_wp2;go_ret;exact zAK.t (by unfold In;omega) (Below.refl _ _)
  ·go_enter Tryz.func185,Tryz.ntmps185;go_wp2;go_ret;exact zAK.f (fun h=>h ⟨by omega,by omega⟩) (Below.refl _ _)
theorem enter_in_sheet:Enters Tryz.prog 185:=enters_of Tryz.func185 (by kernel_rfl) rfl
theorem in_sheet (w:World) (lo hi:Int) (v:Value) (xs:List Int) (h:Sl zAM 1 w v xs) :
  Calls Tryz.prog 161 #[.int .i64 lo,.int .i64 hi,v] w (zAK (∀ x∈xs,In x lo hi) w):=by
 obtain ⟨hb1,B1,B2⟩:=zJF w #[.int .i64 lo] #[.int .i64 hi] 3 3;have c1:=B1 0 (.int .i64 lo) rfl;have c2:=B2 0 (.int .i64 hi) rfl;clear B1 B2;have h1:=zJ zN hb1 h;clear h;go_enter Tryz.func161,Tryz.ntmps161;go_wp2_with fail;generalize (w.alloc _).alloc _=w1 at *;refine (zDX _ _ xs h1 185 _ enter_in_sheet (fun x=>¬ In x lo hi) (fun x _ w' hb=>by simp only [List.append_toArray,List.cons_append,List.nil_append];exact in1_sheet w' x lo hi _ _ (zC hb c1) (zC hb c2))).mono ?_;intro e w2 hr;rcases hr.both with ⟨k1,rfl,hb2⟩ | ⟨k1,rfl,hb2⟩
 ·have K:=Lib.hid k1;clear k1 hr;go_wp2;go_ret;exact zAK.f (fun h=>by obtain ⟨x,hx,hn⟩:=K.out;exact hn (h x hx)) (zA hb1 hb2)
 ·have K:=Lib.hid k1;clear k1 hr;go_wp2;go_ret;exact zAK.t (fun x hx=>Classical.byContradiction fun hn=>K.out ⟨x,hx,hn⟩) (zA hb1 hb2)
theorem in1_note (w:World) (n lo hi:Int) (b1 b2:Nat) (h1:zK w b1 0 (.int .i64 lo)) (h2:zK w b2 0 (.int .i64 hi)) :
  Calls Tryz.prog 160 #[.int .i64 n,.pointer (some ⟨b1,0,none⟩),.pointer (some ⟨b2,0,none⟩)] w (zAK (¬ In n lo hi) w):=by
 unfold zK at h1 h2;by_cases g1:n < lo
 ·go_enter Tryz.func160,Tryz.ntmps160;go_wp2;go_ret;exact zAK.t (by unfold In;omega) (Below.refl _ _)
 ·by_cases g2:hi < n
  ·go_enter Tryz.func160,Tryz.ntmps160;go_wp2;go_ret;exact zAK.t (by unfold In;omega) (Below.refl _ _)
  ·go_enter Tryz.func160,Tryz.ntmps160;go_wp2;go_ret;exact zAK.f (fun h=>h ⟨by omega,by omega⟩) (Below.refl _ _)
theorem enter_in_note:Enters Tryz.prog 160:=enters_of Tryz.func160 (by kernel_rfl) rfl
theorem in_note (w:World) (lo hi:Int) (v:Value) (xs:List Int) (h:Sl zAM 1 w v xs) :
  Calls Tryz.prog 123 #[.int .i64 lo,.int .i64 hi,v] w (zAK (∀ x∈xs,In x lo hi) w):=by
 obtain ⟨hb1,B1,B2⟩:=zJF w #[.int .i64 lo] #[.int .i64 hi] 3 3;have c1:=B1 0 (.int .i64 lo) rfl;have c2:=B2 0 (.int .i64 hi) rfl;clear B1 B2;have h1:=zJ zN hb1 h;clear h;go_enter Tryz.func123,Tryz.ntmps123;go_wp2_with fail;generalize (w.alloc _).alloc _=w1 at *;refine (zDX _ _ xs h1 160 _ enter_in_note (fun x=>¬ In x lo hi) (fun x _ w' hb=>by simp only [List.append_toArray,List.cons_append,List.nil_append];exact in1_note w' x lo hi _ _ (zC hb c1) (zC hb c2))).mono ?_;intro e w2 hr;rcases hr.both with ⟨k1,rfl,hb2⟩ | ⟨k1,rfl,hb2⟩
 ·have K:=Lib.hid k1;clear k1 hr;go_wp2;go_ret;exact zAK.f (fun h=>by obtain ⟨x,hx,hn⟩:=K.out;exact hn (h x hx)) (zA hb1 hb2)
 ·have K:=Lib.hid k1;clear k1 hr;go_wp2;go_ret;exact zAK.t (fun x hx=>Classical.byContradiction fun hn=>K.out ⟨x,hx,hn⟩) (zA hb1 hb2)
theorem in1_size (w:World) (n lo hi:Int) (b1 b2:Nat) (h1:zK w b1 0 (.int .i64 lo)) (h2:zK w b2 0 (.int .i64 hi)) :
  Calls Tryz.prog 263 #[.int .i64 n,.pointer (some ⟨b1,0,none⟩),.pointer (some ⟨b2,0,none⟩)] w (zAK (¬ In n lo hi) w):=by
 unfold zK at h1 h2;by_cases g1:n < lo
 ·go_enter Tryz.func263,Tryz.ntmps263;go_wp2;go_ret;exact zAK.t (by unfold In;omega) (Below.refl _ _)
 ·by_cases g2:hi < n
  ·go_enter Tryz.func263,Tryz.ntmps263;go_wp2;go_ret;exact zAK.t (by unfold In;omega) (Below.refl _ _)
  ·go_enter Tryz.func263,Tryz.ntmps263;go_wp2;go_ret;exact zAK.f (fun h=>h ⟨by omega,by omega⟩) (Below.refl _ _)
theorem enter_in_size:Enters Tryz.prog 263:=enters_of Tryz.func263 (by kernel_rfl) rfl
theorem in_size (w:World) (lo hi:Int) (v:Value) (xs:List Int) (h:Sl zAM 1 w v xs) :
  Calls Tryz.prog 262 #[.int .i64 lo,.int .i64 hi,v] w (zAK (∀ x∈xs,In x lo hi) w):=by
 obtain ⟨hb1,B1,B2⟩:=zJF w #[.int .i64 lo] #[.int .i64 hi] 3 3;have c1:=B1 0 (.int .i64 lo) rfl;have c2:=B2 0 (.int .i64 hi) rfl;clear B1 B2;have h1:=zJ zN hb1 h;clear h;go_enter Tryz.func262,Tryz.ntmps262;go_wp2_with fail;generalize (w.alloc _).alloc _=w1 at *;refine (zDX _ _ xs h1 263 _ enter_in_size (fun x=>¬ In x lo hi) (fun x _ w' hb=>by simp only [List.append_toArray,List.cons_append,List.nil_append];exact in1_size w' x lo hi _ _ (zC hb c1) (zC hb c2))).mono ?_;intro e w2 hr;rcases hr.both with ⟨k1,rfl,hb2⟩ | ⟨k1,rfl,hb2⟩
 ·have K:=Lib.hid k1;clear k1 hr;go_wp2;go_ret;exact zAK.f (fun h=>by obtain ⟨x,hx,hn⟩:=K.out;exact hn (h x hx)) (zA hb1 hb2)
 ·have K:=Lib.hid k1;clear k1 hr;go_wp2;go_ret;exact zAK.t (fun x hx=>Classical.byContradiction fun hn=>K.out ⟨x,hx,hn⟩) (zA hb1 hb2)
end
end Go.Proofs.YtipaopbmklbmnaaGreatDoor
namespace Go
structure Later where
 suf:Array Obj
 d:Nat
instance:Inhabited Later:=⟨⟨#[],0⟩⟩
def World.later (w:World) (x:Later) : World:={ w with heap:=w.heap++x.suf,drawn:=x.d }
theorem zG (w:World) (x:Later) : RowKit.Below w.heap.size w (w.later x) :=
 ⟨rfl,rfl,rfl,by simp [World.later],fun k hk=>by simp [World.later,Array.getElem?_append_left hk]⟩
theorem zFI {w w':World} (h:RowKit.Below w.heap.size w w') : ∃ x,w'=w.later x:=by
 refine ⟨⟨w'.heap.extract w.heap.size w'.heap.size,w'.drawn⟩,?_⟩;have he:w'.heap=w.heap++w'.heap.extract w.heap.size w'.heap.size:=by
  apply Array.ext_getElem?;intro i;by_cases hi:i < w.heap.size
  ·rw [Array.getElem?_append_left hi];exact h.block i hi
  ·rw [Array.getElem?_append_right (by omega),Array.getElem?_extract]
   by_cases h2:i < w'.heap.size
   ·rw [if_pos (by omega),show w.heap.size+(i - w.heap.size)=i by omega]
   ·rw [Array.getElem?_eq_none (by omega)]
    split
    ·omega
    ·rfl
 obtain ⟨a,b,c,d,e⟩:=w';have h1:=h.os;have h2:=h.tape;have h3:=h.output;simp only at h1 h2 h3 he;unfold World.later;simp only;congr 1
theorem Calls.quiet_later {P:Program} {f:FuncId} {args:Array Value} {w:World} {x:Later} {v:Value}
  (h:Calls P f args (w.later x) fun e w'=>e = .returned v/\RowKit.Below (w.later x).heap.size (w.later x) w') : Calls P f args (w.later x) fun e w''=>e = .returned v/\∃ y,w''=w.later y :=
 h.mono fun _ _ ⟨he,hb⟩=>⟨he,zFI ((zG w x).trans (hb.mono (zG w x).size))⟩
theorem zAR {P:Program} {id:Nat} {Q:Exit->Act->World->Prop} {a:Act} {w:World} {l:List Oper} (hm:P.follows .mixedOrders=true) (hB:Region.lexB .any l.toArray=true)
  (h:wpQuiet P l.toArray (fun w'=>∃ x,w'=w.later x) (fun a'=>∀ w',(∃ x,w'=w.later x)->Q .normal a' w') l a) : (Code.region id l.toArray true).wp P Q a w :=
 wp_region_quiet (C:=fun w'=>∃ x,w'=w.later x) hm hB (zFI (RowKit.Below.drew (RowKit.Below.refl _ _))) (by simpa using h)
end Go
namespace Go.Proofs.YtipaopbmklbmnaaGreatDoor
open Go.RowKit
theorem zAK.yes {P:Program} {f:FuncId} {args:Array Value} {w:World} {p:Prop} (hp:p) (h:Calls P f args w (zAK p w)) : Calls P f args w fun e w'=>e = .returned (.bool true)/\Below w.heap.size w w' :=
 h.mono fun _ _ ⟨b,he,hi,hb⟩=>⟨by rw [he,hi.2 hp],hb⟩
theorem zAK.no {P:Program} {f:FuncId} {args:Array Value} {w:World} {p:Prop} (hp:¬ p) (h:Calls P f args w (zAK p w)) : Calls P f args w fun e w'=>e = .returned (.bool false)/\Below w.heap.size w w' :=
 h.mono fun _ _ ⟨b,he,hi,hb⟩=>⟨by rw [he];cases b;rfl;exact absurd (hi.1 rfl) hp,hb⟩
theorem zH {w:World} {b o:Nat} {v:Value} (h:zK w b o v) : ∀ x,(w.later x).cell? ⟨b,o,none⟩=some v:=fun x=>zC (zG w x) h
end Go.Proofs.YtipaopbmklbmnaaGreatDoor
namespace Go.Proofs.YtipaopbmklbmnaaGreatDoor
section
open Go.RowKit
theorem sl_later {α:Type} {E:World->Nat->Nat->α->Prop} {sz:Nat} {w:World} {v:Value} {xs:List α} (hs:zGG E) (h:Sl E sz w v xs) : ∀ x,Sl E sz (w.later x) v xs :=
 fun x=>zJ hs (zG w x) h
def zKC (x:Issue) (k:Nat) : Prop:=∀ h:k < x.items.length,In x.items[k].d 1 9999/\In x.items[k].c 1 20/\x.items[k].d≠x.d/\(∀ h1:0 < k,x.items[k - 1].d < x.items[k].d)
def HeadOk (x:Issue) : Prop:=In x.d 1 9999/\In x.l 1 8/\In x.k 1 3/\(x.k=1->In x.items.length 1 8/\x.dims.length=0)/\(1 < x.k->x.dims.length<=4/\x.items.length=0)
def zGW (x:Issue) : Prop:=HeadOk x/\(∀ k,k < x.items.length->zKC x k)/\(∀ k,(h:k < x.dims.length)->zOA x.dims[k])
structure IssueAt (w:World) (vi vd:Value) (x:Issue) : Prop where
 items:Sl zBV 2 w vi x.items
 dims:Sl zGJ 3 w vd x.dims
 num:I64 x.d/\I64 x.l/\U8 x.k
theorem IssueAt.ext {w w':World} {vi vd:Value} {x:Issue} (hb:Below w.heap.size w w') (h:IssueAt w vi vd x) : IssueAt w' vi vd x :=
 ⟨zJ zAX hb h.items,zJ zBS hb h.dims,h.num⟩
theorem issue02 (w:World) (vi vd:Value) (x:Issue) (h:IssueAt w vi vd x) :
  Calls Tryz.prog 194 #[.agg #[.int .i64 x.d,.int .i64 x.l,.int .u8 x.k,vi,vd]] w (zAK (zGW x) w):=by
 obtain ⟨hb1,B1⟩:=zBY w #[.int .i64 x.d,.int .i64 x.l,.int .u8 x.k,vi,vd] 118;have c0:=B1 0 _ rfl;have c1:=B1 1 _ rfl;have c2:=B1 2 _ rfl;have c3:=B1 3 _ rfl;have c4:=B1 4 _ rfl;clear B1;obtain ⟨ai,capi,rfl,hmi⟩:=zD h.items;obtain ⟨ad,capd,rfl,hmd⟩:=zD h.dims;obtain ⟨_,_,hu0,hu1⟩:=h.num;have hx:=h.ext hb1;clear h;have C0:=Lib.hid c0;have C3:=Lib.hid c3;have C4:=Lib.hid c4;unfold zK at c0 c1 c2 c3 c4;go_enter Tryz.func194,Tryz.ntmps194;go_wp2_with fail;generalize w.alloc _=w1 at *;refine (zKO _ _ _ _).mono ?_;intro e w2 h;rcases h.both with ⟨h1,rfl,rfl⟩ | ⟨h1,rfl,rfl⟩
 case inr=>go_wp2;go_ret;exact zAK.f (fun h=>h1 h.1.1) hb1
 clear h;go_wp2_with fail;refine (zKO _ _ _ _).mono ?_;intro e w2 h;rcases h.both with ⟨h2,rfl,rfl⟩ | ⟨h2,rfl,rfl⟩
 case inr=>go_wp2;go_ret;exact zAK.f (fun h=>h2 h.1.2.1) hb1
 clear h;go_wp2_with fail;refine (zKO _ _ _ _).mono ?_;intro e w2 h;rcases h.both with ⟨h3,rfl,rfl⟩ | ⟨h3,rfl,rfl⟩
 case inr=>go_wp2;go_ret;exact zAK.f (fun h=>h3 h.1.2.2.1) hb1
 clear h;by_cases k1:x.k=1
 case' pos =>
  have b1:(x.k == 1)=true:=by simp [k1]
  have b2:x.k<=1:=by omega
  have K1:=Lib.hid k1;clear k1;go_wp2_with fail;refine (zKO _ _ _ _).mono ?_;intro e w2 h;rcases h.both with ⟨h4,rfl,rfl⟩ | ⟨h4,rfl,rfl⟩
  case inr=>go_wp2;go_ret;exact zAK.f (fun h=>h4 (h.1.2.2.2.1 K1.out).1) hb1
  clear h;by_cases h5:0 < x.dims.length
  case pos =>go_wp2;go_ret;exact zAK.f (fun h=>by have:=(h.1.2.2.2.1 K1.out).2;omega) hb1
  go_wp2;have HH:HeadOk x:=⟨h1,h2,h3,fun _=>⟨h4,by omega⟩,fun _=>by omega⟩;clear b1 b2 h4 h5 K1
 case' neg =>
  have b1:(x.k == 1)=false:=by simp [k1]
  have b2:1 < x.k:=by have:=h3.1;omega
  by_cases h4:4 < x.dims.length
  case pos =>clear k1;go_wp2;go_ret;exact zAK.f (fun h=>by have:=(h.1.2.2.2.2 b2).1;omega) hb1
  by_cases h5:0 < x.items.length
  case pos =>clear k1;go_wp2;go_ret;exact zAK.f (fun h=>by have:=(h.1.2.2.2.2 b2).2;omega) hb1
  have HH:HeadOk x:=⟨h1,h2,h3,fun h=>(k1 h).elim,fun _=>⟨by omega,by omega⟩⟩;clear k1;go_wp2;clear b1 b2 h4 h5
 all_goals
  clear c0 c1 c2 c3 c4 h1 h2 h3 hu0 hu1;go_loopw [3] (fun i wr=>∃ k:Nat,i = .int .i64 k/\k<=x.items.length/\Below w1.heap.size w1 wr/\∀ j,j < k->zKC x j) (fun i _=>x.items.length - (intOf i).toNat)
  case atStart=>exact ⟨0,rfl,by omega,Below.refl _ _,fun j hj=>absurd hj (by omega)⟩
  case round =>
   obtain ⟨k,rfl,hk,hb,hall⟩:=hrel;have HALL:=Lib.hid hall;clear hall;have e3:=zC hb C3.out;unfold zK at e3;by_cases hlt:k < x.items.length
   ·obtain ⟨_,hX⟩:=zY (hx.ext hb).items
    obtain ⟨b,off,rfl,⟨q0,q1⟩,_⟩:=hX k hlt;unfold zK at q0 q1;have hY:zKC x k↔In x.items[k].d 1 9999/\In x.items[k].c 1 20/\x.items[k].d≠x.d/\(∀ h1:0 < k,x.items[k - 1].d < x.items[k].d):=⟨fun h=>h hlt,fun h _=>h⟩;have HYY:=Lib.hid hY;clear hY;generalize x.items[k]=y at *;have hb2:=zA hb (zB wr (.cells #[.int .i64 y.d,.int .i64 y.c] 97));have m0:=zC (zB wr (.cells #[.int .i64 y.d,.int .i64 y.c] 97)) (zC hb C0.out);have m3:=zC (zB wr (.cells #[.int .i64 y.d,.int .i64 y.c] 97)) e3;have n0:=zR wr #[.int .i64 y.d,.int .i64 y.c] 97 0 _ rfl;have n1:=zR wr #[.int .i64 y.d,.int .i64 y.c] 97 1 _ rfl;have hX2:=(zY (hx.ext hb2).items).2;go_wp2;clear e3 q0 q1 hX;generalize wr.alloc _=w2 at *;generalize wr.heap.size=s2 at *;unfold zK at m0 m3 n0 n1;have G0:=m0;by_cases g1:inB y.d 1 9999=true
    ·by_cases g2:inB y.c 1 20=true
     ·by_cases g3:(y.d == x.d)=true
      ·clear hX2
       go_quiet ((go_at_call 83;exact Calls.quiet_of_same (zGN _ _ _ _)))
       go_wp2;go_ret;exact zAK.f (fun h=>((HYY.out.1 (h.2.1 k hlt)).2.2.1 (by simpa using g3))) (zA hb1 (zA hb2 (zAJ _ _)))
      ·have g3':(y.d == x.d)=false:=by simpa using g3
       by_cases g4:0 < k
       ·obtain ⟨b',off',hbb,⟨p0,_⟩,_⟩:=hX2 (k - 1) (by omega)
        cases hbb;unfold zK at p0;have HY4:=Lib.hid (show zKC x k↔_ from HYY.out);have hp:x.items[k - 1]=x.items[k - 1]:=rfl;generalize hz:x.items[k - 1]=z at *;have HZ:=Lib.hid hz;clear hX2 hz hp;by_cases g5:z.d < y.d
        ·go_quiet ((go_at_call 83;exact Calls.quiet_of_same (zGN _ _ _ _)))
         go_wp2;go_roundw
         case rel=>exact ⟨k+1,by go_num,by omega,zA hb2 (zAJ _ _),zAO _ k HALL.out (HYY.out.2 ⟨zGA g1,zGA g2,by simpa using g3',fun _=>by rw [HZ.out];exact g5⟩)⟩
         case measure=>simp [intOf];omega
        ·go_quiet ((go_at_call 83;exact Calls.quiet_of_same (zGN _ _ _ _)))
         go_wp2;go_ret;exact zAK.f (fun h=>by have:=(HYY.out.1 (h.2.1 k hlt)).2.2.2 g4;rw [HZ.out] at this;omega) (zA hb1 (zA hb2 (zAJ _ _)))
       ·clear hX2
        go_quiet ((go_at_call 83;exact Calls.quiet_of_same (zGN _ _ _ _)))
        go_wp2;go_roundw
        case rel=>exact ⟨k+1,by go_num,by omega,zA hb2 (zAJ _ _),zAO _ k HALL.out (HYY.out.2 ⟨zGA g1,zGA g2,by simpa using g3',fun h=>absurd h g4⟩)⟩
        case measure=>simp [intOf];omega
     ·have g2':=zGD g2;clear hX2;go_quiet ((go_at_call 83;exact Calls.quiet_of_same (zGN _ _ _ _)));go_wp2;go_ret;exact zAK.f (fun h=>zLW g2 (HYY.out.1 (h.2.1 k hlt)).2.1) (zA hb1 (zA hb2 (zAJ _ _)))
    ·have g1':=zGD g1;clear hX2;go_quiet ((go_at_call 83;exact Calls.quiet_of_same (zGN _ _ _ _)));go_wp2;go_ret;exact zAK.f (fun h=>zLW g1 (HYY.out.1 (h.2.1 k hlt)).1) (zA hb1 (zA hb2 (zAJ _ _)))
   ·have hb2:=zA hb1 hb
    have HA:Hid (∀ j,j < x.items.length->zKC x j):=fun j hj=>HALL.out j (by omega)
    have hx2:=hx.ext hb;have C4':=Lib.hid (zC hb C4.out);clear HALL hb1 hb hx C0 C3 C4;obtain ⟨wo,rfl⟩ : ∃ wo:World,wo=wr:=⟨_,rfl⟩;go_wp2;clear e3 hlt hk;go_loopw [5] (fun i wr=>∃ k:Nat,i = .int .i64 k/\k<=x.dims.length/\Below wo.heap.size wo wr/\∀ j,j < k->(h:j < x.dims.length)->zOA x.dims[j]) (fun i _=>x.dims.length - (intOf i).toNat)
    case atStart=>exact ⟨0,rfl,by omega,Below.refl _ _,fun j hj=>absurd hj (by omega)⟩
    case round =>
     obtain ⟨k,rfl,hk,hb,hall⟩:=hrel;have HALL:=Lib.hid hall;clear hall;have e4:=zC hb C4'.out;unfold zK at e4;have hb3:=zA hb2 hb;by_cases hlt:k < x.dims.length
     ·obtain ⟨_,hX⟩:=zY (hx2.ext hb).dims
      obtain ⟨b,off,rfl,⟨q0,q1,q2⟩,_⟩:=hX k hlt;unfold zK at q0 q1 q2;have hY:zOA x.dims[k]↔zOA x.dims[k]:=Iff.rfl;generalize hy:x.dims[k]=y at *;have HYY:=Lib.hid hy;clear hy hX hY hx2;go_wp2_with fail;refine (dim01 y _).mono ?_;intro e w4 h;rcases h.both with ⟨d1,rfl,hb4⟩ | ⟨d1,rfl,hb4⟩
      ·clear h
       go_wp2;go_roundw
       case rel=>exact ⟨k+1,by go_num,by omega,zA hb hb4,zAO _ k HALL.out (fun _=>by rw [HYY.out];exact d1)⟩
       case measure=>simp [intOf];omega
      ·clear h;go_wp2;go_ret;exact zAK.f (fun h=>d1 (by have:=h.2.2 k hlt;rw [HYY.out] at this;exact this)) (zA hb3 hb4)
     ·clear hx2;go_wp2;go_ret;exact zAK.t ⟨HH,HA.out,fun j hj=>HALL.out j (by omega) hj⟩ hb3
end
section
def zBN (R:List Issue) : Nat->List Int
 | 0=>[]
 | k+1=>zBN R k++(match R[k]? with | none=>[] | some x=>if k≠0/\(R[k - 1]?).map (·.d)=some x.d then [] else [x.d])
def nums (R:List Issue) : List Int:=zBN R R.length
theorem zHV (R:List Issue) (k:Nat) (hk:k < R.length) (h:k=0\/R[k - 1].d≠R[k].d) : zBN R (k+1)=zBN R k++[R[k].d]:=by
 simp only [zBN,List.getElem?_eq_getElem hk];rw [if_neg];rintro ⟨h0,h1⟩;rw [List.getElem?_eq_getElem (by omega)] at h1;simp at h1;rcases h with h | h
 ·exact h0 h
 ·exact h h1
theorem zLQ (R:List Issue) (k:Nat) (hk:k < R.length) (h0:k≠0) (h:R[k - 1].d=R[k].d) : zBN R (k+1)=zBN R k:=by
 simp only [zBN,List.getElem?_eq_getElem hk];rw [if_pos]
 ·simp
 ·refine ⟨h0,?_⟩;rw [List.getElem?_eq_getElem (by omega)];simp [h]
theorem numsTo_le (R:List Issue) (k:Nat) : (zBN R k).length<=k:=by
 induction k with
 | zero=>simp [zBN]
 | succ k ih =>
   simp only [zBN,List.length_append];split
   ·simp;omega
   ·split <;> simp <;> omega
theorem numsTo_mem (R:List Issue) (k:Nat) (n:Int) (h:n∈zBN R k) : ∃ x∈R,x.d=n:=by
 induction k with
 | zero=>simp [zBN] at h
 | succ k ih =>
   simp only [zBN,List.mem_append] at h;rcases h with h | h
   ·exact ih h
   ·split at h
    ·simp at h
    ·rename_i x hx
     split at h
     ·simp at h
     ·simp at h;exact ⟨x,List.mem_of_getElem? hx,h.symm⟩
end
end Go.Proofs.YtipaopbmklbmnaaGreatDoor
