/- Reports as rows of cells. -/
import Derived.Test.YtjleiiinibdepaaGreatDoorK04
import Derived.Test.YtjleiiinibdepaaGreatDoorK05
import Derived.Test.YtjleiiinibdepaaGreatDoorK06
import Derived.Test.YtjleiiinibdepaaGreatDoorK09
import Derived.Test.YtjleiiinibdepaaGreatDoorK10
set_option linter.all false
set_option maxRecDepth 100000
set_option maxHeartbeats 12800000

namespace Go.Proofs.YtjleiiinibdepaaGreatDoor
open Tryz
section
open Go.RowKit
def Tiny (b:Built) : Prop:=(Small b.ns.reg∧b.ns.notes.length≤16)∧b.ms.length≤20∧b.hs.length≤8∧b.rs.length≤16
theorem great02 (w:World) (v:Value) (R:List Issue) (h:Sl zAY 5 w v R) :
  Calls prog 140 #[.agg #[v]] w (zAK (¬ Small R) w):=by
 obtain ⟨hb1,B1⟩:=zBY w #[v] 26
 have c0:=B1 0 v rfl
 clear B1
 obtain ⟨a,cap,rfl,hm⟩:=zD h
 have h1:=zJ zU hb1 h
 have C0:=zE c0
 unfold zK at c0
 clear h
 by_cases hlen:80 < R.length
 ·go_enter func140,ntmps140
  go_wp2
  go_ret
  exact zAK.t (fun h=>by have:=h.1;omega) hb1
 go_enter func140,ntmps140
 go_wp2
 generalize w.alloc _=w1 at *
 go_loop [3] (fun i=>∃ k:Nat,i = .int .i64 k∧k≤R.length∧∀ j,j < k→(hj:j < R.length)→R[j].items.length≤16∧R[j].dims.length≤8) (fun i=>R.length - (intOf i).toNat)
 case atStart=>exact ⟨0,rfl,by omega,fun j hj=>absurd hj (by omega)⟩
 case round =>
  obtain ⟨k,rfl,hk,hall⟩:=hrel
  have HALL:=zE hall
  clear hall
  by_cases hlt:k < R.length
  ·obtain ⟨b,off,rfl,⟨q0,q1,q2⟩,hnum,vi,vd,q3,q4,si,sd⟩:=(zY h1).2 k hlt
   have HY:Hid (R[k]=R[k]):=rfl
   generalize hy:R[k]=x at *
   have HX:=zE hy
   clear hy HY h1 q0 q1 q2
   unfold zK at q3 q4
   obtain ⟨ai,capi,rfl,_⟩:=zD si
   obtain ⟨ad,capd,rfl,_⟩:=zD sd
   clear si sd
   by_cases g1:16 < x.items.length
   ·go_wp2
    go_ret
    exact zAK.t (fun h=>by have:=(h.2 k hlt).1;rw [HX.out] at this;omega) hb1
   ·by_cases g2:8 < x.dims.length
    ·go_wp2
     go_ret
     exact zAK.t (fun h=>by have:=(h.2 k hlt).2;rw [HX.out] at this;omega) hb1
    ·go_wp2
     go_round
     ·exact ⟨k+1,by go_num,by omega,zAO _ k HALL.out (fun _=>by rw [HX.out];omega)⟩
     ·simp [intOf];omega
  ·go_wp2
   go_ret
   exact zAK.f (fun h=>h ⟨by omega,fun k hk=>HALL.out k (by omega) hk⟩) hb1
theorem great03 (w:World) (vr vn:Value) (R:List Issue) (N:List Note) (hr:Sl zAY 5 w vr R) (hn:Sl zBL 10 w vn N) :
  Calls prog 112 #[.agg #[vr,vn]] w (zAK (¬ (Small R∧N.length≤16)) w):=by
 obtain ⟨hb1,B1⟩:=zBY w #[vr,vn] 29
 have c0:=B1 0 vr rfl
 have c1:=B1 1 vn rfl
 clear B1
 obtain ⟨a,cap,rfl,_⟩:=zD hr
 obtain ⟨an,capn,rfl,_⟩:=zD hn
 have h1:=zJ zU hb1 hr
 have C1:=zE c1
 unfold zK at c0 c1
 clear hr
 go_enter func112,ntmps112
 go_wp2_with fail
 generalize w.alloc _=w1 at *
 refine (great02 _ _ R h1).mono ?_
 intro e w2 h
 rcases h.both with ⟨g1,rfl,hb2⟩ | ⟨g1,rfl,hb2⟩
 ·clear h
  go_wp2
  go_ret
  exact zAK.t (fun h=>g1 h.1) (zA hb1 hb2)
 ·clear h c0 c1
  have c1:=zC hb2 C1.out
  unfold zK at c1
  have hS:Small R:=Classical.byContradiction g1
  clear g1
  have HS:=zE hS
  clear hS
  go_wp2
  go_ret
  refine ⟨_,rfl,?_,zA hb1 hb2⟩
  have hS:=HS.out
  rw [decide_eq_true_eq]
  constructor
  ·intro h1 h2;omega
  ·intro h1
   by_cases g2:16 < N.length
   ·omega
   ·exact (h1 ⟨hS,by omega⟩).elim
theorem great08 (w:World) (vr vn vm vh vs:Value) (b:Built) (h:BuiltAt w vr vn vm vh vs b) :
  Calls prog 86 #[.agg #[vr,vn,.int .i64 b.of,vm,vh,vs]] w (zAK (¬ Tiny b) w):=by
 obtain ⟨ar,capr,rfl,_⟩:=zD h.reg
 obtain ⟨an,capn,rfl,_⟩:=zD h.notes
 obtain ⟨am,capm,rfl,hmm⟩:=zD h.ms
 obtain ⟨ah,caph,rfl,hmh⟩:=zD h.hs
 obtain ⟨az,capz,rfl,hmz⟩:=zD h.rs
 obtain ⟨hb1,B1⟩:=zBY w #[.slice ar b.ns.reg.length capr,.slice an b.ns.notes.length capn,.int .i64 b.of,.slice am b.ms.length capm,.slice ah b.hs.length caph,.slice az b.rs.length capz] 34
 have c0:=B1 0 _ rfl
 have c1:=B1 1 _ rfl
 have c3:=B1 3 (.slice am b.ms.length capm) rfl
 have c4:=B1 4 (.slice ah b.hs.length caph) rfl
 have c5:=B1 5 (.slice az b.rs.length capz) rfl
 clear B1
 have h1:=h.ext hb1
 clear h
 have C3:=zE c3
 have C4:=zE c4
 have C5:=zE c5
 unfold zK at c0 c1 c3 c4 c5
 go_enter func86,ntmps86
 go_wp2_with fail
 generalize w.alloc _=w1 at *
 refine (great03 _ _ _ b.ns.reg b.ns.notes h1.reg h1.notes).mono ?_
 intro e w2 h
 clear c0 c1 c3 c4 c5
 rcases h.both with ⟨g1,rfl,hb2⟩ | ⟨g1,rfl,hb2⟩
 ·clear h
  go_wp2
  go_ret
  exact zAK.t (fun h=>g1 h.1) (zA hb1 hb2)
 clear h
 have hS:=zE (Classical.byContradiction g1)
 have c3:=zC hb2 C3.out
 have c4:=zC hb2 C4.out
 have c5:=zC hb2 C5.out
 clear g1 h1
 unfold zK at c3 c4 c5
 by_cases g2:20 < b.ms.length
 ·go_wp2
  go_ret
  exact ⟨_,rfl,⟨fun _ h=>by have:=h.2.1;omega,fun _=>by simp;try omega⟩,zA hb1 hb2⟩
 by_cases g3:8 < b.hs.length
 ·go_wp2
  go_ret
  exact ⟨_,rfl,⟨fun _ h=>by have:=h.2.2.1;omega,fun _=>by simp;try omega⟩,zA hb1 hb2⟩
 by_cases g4:16 < b.rs.length
 ·go_wp2
  go_ret
  exact ⟨_,rfl,⟨fun _ h=>by have:=h.2.2.2;omega,fun _=>by simp;try omega⟩,zA hb1 hb2⟩
 go_wp2
 go_ret
 exact ⟨_,rfl,⟨fun h=>by simp at h;try omega,fun h=>(h ⟨hS.out,by omega,by omega,by omega⟩).elim⟩,zA hb1 hb2⟩
open Classical in
noncomputable def zF (b:Built) : Int:=if zP b.ns.reg b.ns.notes≠0 then zP b.ns.reg b.ns.notes else if zCA b then 0 else 80
theorem check08 (w:World) (vr vn vm vh vs:Value) (b:Built) (h:BuiltAt w vr vn vm vh vs b) :
  Calls prog 87 #[.agg #[vr,vn,.int .i64 b.of,vm,vh,vs]] w fun e w'=>e = .returned (.int .i64 (zF b))∧Below w.heap.size w w':=by
 obtain ⟨ar,capr,rfl,_⟩:=zD h.reg
 obtain ⟨an,capn,rfl,_⟩:=zD h.notes
 obtain ⟨am,capm,rfl,hmm⟩:=zD h.ms
 obtain ⟨ah,caph,rfl,hmh⟩:=zD h.hs
 obtain ⟨az,capz,rfl,hmz⟩:=zD h.rs
 obtain ⟨hb1,B1⟩:=zBY w #[.slice ar b.ns.reg.length capr,.slice an b.ns.notes.length capn,.int .i64 b.of,.slice am b.ms.length capm,.slice ah b.hs.length caph,.slice az b.rs.length capz] 34
 have c0:=B1 0 (.slice ar b.ns.reg.length capr) rfl
 have c1:=B1 1 (.slice an b.ns.notes.length capn) rfl
 have c2:=B1 2 (.int .i64 b.of) rfl
 have c3:=B1 3 (.slice am b.ms.length capm) rfl
 have c4:=B1 4 (.slice ah b.hs.length caph) rfl
 have c5:=B1 5 (.slice az b.rs.length capz) rfl
 clear B1
 have h1:=h.ext hb1
 clear h
 have C:=zE (And.intro c0 (And.intro c1 (And.intro c2 (And.intro c3 (And.intro c4 c5)))))
 unfold zK at c0 c1 c2 c3 c4 c5
 go_enter func87,ntmps87
 go_wp2_with fail
 generalize w.alloc _=w1 at *
 refine (check03 _ _ _ b.ns.reg b.ns.notes h1.reg h1.notes).mono ?_
 rintro e w2 ⟨rfl,hb2⟩
 clear c0 c1 c2 c3 c4 c5
 obtain ⟨c0,c1,c2,c3,c4,c5⟩:=C.out
 replace c0:=zC hb2 c0
 replace c1:=zC hb2 c1
 replace c2:=zC hb2 c2
 replace c3:=zC hb2 c3
 replace c4:=zC hb2 c4
 replace c5:=zC hb2 c5
 clear C
 have h2:=h1.ext hb2
 clear h1
 unfold zK at c0 c1 c2 c3 c4 c5
 have HC:Hid (zF b=_):=(rfl:zF b=zF b)
 generalize hc:zP b.ns.reg b.ns.notes=c at *
 have HN:=zE hc
 clear hc
 by_cases g1:(c != 0)=true
 ·go_wp2
  go_ret
  refine ⟨zBT ?_,zA hb1 hb2⟩
  unfold zF
  rw [HN.out,if_pos (by simpa using g1)]
 ·have g1':(c != 0)=false:=by simpa using g1
  clear g1
  go_wp2_with fail
  refine (built08 _ _ _ _ _ _ b h2).mono ?_
  intro e w3 h
  clear c0 c1 c2 c3 c4 c5
  rcases h.both with ⟨k1,rfl,hb3⟩ | ⟨k1,rfl,hb3⟩
  ·clear h
   go_wp2
   go_ret
   refine ⟨zBT ?_,zA hb1 (zA hb2 hb3)⟩
   unfold zF
   rw [HN.out,if_neg (by simpa using g1'),if_pos k1]
  ·clear h
   go_wp2
   go_ret
   refine ⟨zBT ?_,zA hb1 (zA hb2 hb3)⟩
   unfold zF
   rw [HN.out,if_neg (by simpa using g1'),if_neg k1]
end
section
open Go.RowKit
attribute [local go_sem] zAE Oper.grows Oper.growUpon
structure BuiltN (base:Nat) (w:World) (vr vn vm vh vs:Value) (b:Built) : Prop where
 reg:Sl (Fr base 94 (zGI base)) 5 w vr b.ns.reg
 notes:Sl (Fr base 61 zBL) 10 w vn b.ns.notes
 ms:Sl (Fr base 3 zAM) 1 w vm b.ms
 hs:Sl (Fr base 59 zDO) 4 w vh b.hs
 rs:Sl (Fr base 37 zAT) 5 w vs b.rs
 of:I64 b.of
theorem BuiltN.ext {base:Nat} {w w':World} {vr vn vm vh vs:Value} {b:Built} (hb:Below w.heap.size w w') (h:BuiltN base w vr vn vm vh vs b) : BuiltN base w' vr vn vm vh vs b :=
 ⟨zJ (zFG stays_issueN) hb h.reg,zJ (zFG zAN) hb h.notes,zJ (zFG zN) hb h.ms,zJ (zFG zCU) hb h.hs,zJ (zFG zAP) hb h.rs,h.of⟩
theorem BuiltN.at {base:Nat} {w:World} {vr vn vm vh vs:Value} {b:Built} (h:BuiltN base w vr vn vm vh vs b) : BuiltAt w vr vn vm vh vs b :=
 ⟨sl_map (fun _ _ _ h=>issueN_issue h.1) h.reg,zLL h.notes,zLL h.ms,zLL h.hs,zLL h.rs,h.of⟩
theorem BuiltN.set {base g j:Nat} {u:Value} {w:World} {vr vn vm vh vs:Value} {b:Built} (hg:g < base) (h:BuiltN base w vr vn vm vh vs b) : BuiltN base (w.setCell ⟨g,j,none⟩ u) vr vn vm vh vs b :=
 ⟨zIZ (zRG hg) (zRG hg) (zRG hg) h.reg,sl_set zGM hg h.notes,sl_set zFP hg h.ms,sl_set zEF hg h.hs,sl_set zQL hg h.rs,h.of⟩
theorem BuiltN.weak {base base':Nat} {w:World} {vr vn vm vh vs:Value} {b:Built} (hw:base'≤base) (h:BuiltN base w vr vn vm vh vs b) : BuiltN base' w vr vn vm vh vs b :=
 ⟨issueN_weak hw h.reg,zOV hw h.notes,zOV hw h.ms,zOV hw h.hs,zOV hw h.rs,h.of⟩
end
section
open Go.RowKit
def zOG (x:Report) : List Value:=[.int .i64 x.num,.int .i64 x.m,.int .i64 x.d,.int .i64 x.l,.int .u8 x.k]
def zDJ (xs:List Report) : List Value:=xs.flatMap zOG
theorem zOB (xs:List Report) : (zDJ xs).length=xs.length*5:=by
 unfold zDJ
 induction xs with
 | nil=>rfl
 | cons x xs ih=>simp [zOG,ih];omega
theorem zQJ (xs ys:List Report) : zDJ (xs++ys)=zDJ xs++zDJ ys:=by unfold zDJ;rw [List.flatMap_append]
theorem zJZ (xs:List Report) (k:Nat) (hk:k < xs.length) (j:Nat) (hj:j < 5) : (zDJ xs)[k*5+j]? = (zOG xs[k])[j]?:=by
 have h:zDJ xs=zDJ (xs.take k)++(zOG xs[k]++zDJ (xs.drop (k+1))):=by
  have e:xs=xs.take k++(xs[k] :: xs.drop (k+1)):=by rw [← List.drop_eq_getElem_cons hk,List.take_append_drop]
  have:=congrArg zDJ e
  rw [this,zQJ]
  rfl
 have e:(zDJ (xs.take k)).length=k*5:=by rw [zOB,List.length_take,Nat.min_eq_left (by omega)]
 rw [h,List.getElem?_append_right (by omega),e,show k*5+j - k*5=j by omega,List.getElem?_append_left (by simp [zOG];omega)]
def RNum (x:Report) : Prop:=I64 x.num∧I64 x.m∧I64 x.d∧I64 x.l∧U8 x.k
theorem flatR_of {w:World} {b off:Nat} {cs:List Value} (hcs:∀ j u,cs[j]? = some u→zK w b (off+j) u) : ∀ (xs:List Report),cs.length=xs.length*5→(∀ k (hk:k < xs.length),zAT w b (off+k*5) xs[k])→cs=zDJ xs:=by
 intro xs hl h
 apply List.ext_getElem?
 intro i
 by_cases hi:i < cs.length
 ·have hk:i / 5 < xs.length:=by omega
  have hj:i % 5 < 5:=Nat.mod_lt _ (by omega)
  have e:i=i / 5*5+i % 5:=by omega
  have c:=hcs i _ (List.getElem?_eq_getElem hi)
  have e1:=zJZ xs _ hk _ hj
  rw [← e] at e1
  rw [e1,List.getElem?_eq_getElem hi]
  obtain ⟨⟨h0,h1,h2,h3,h4⟩,_⟩:=h (i / 5) hk
  unfold zK at *
  have e2:off+i=off+i / 5*5+i % 5:=by omega
  rw [e2] at c
  generalize i % 5=j at *
  generalize xs[i / 5]=x at *
  generalize cs[i]=u at *
  unfold zOG
  match j,hj with
  | 0,_=>simp at c ⊢;rw [h0] at c;simpa using c.symm
  | 1,_=>simp at c ⊢;rw [h1] at c;simpa using c.symm
  | 2,_=>simp at c ⊢;rw [h2] at c;simpa using c.symm
  | 3,_=>simp at c ⊢;rw [h3] at c;simpa using c.symm
  | 4,_=>simp at c ⊢;rw [h4] at c;simpa using c.symm
 ·rw [List.getElem?_eq_none (by omega),List.getElem?_eq_none (by rw [zOB];omega)]
theorem own_flat {w:World} {base:Nat} {e:TypeId} {v:Value} {xs:List Report} {cs:List Value} (hs:Sl zAT 5 w v xs) (hown:w.ownsRow base e 5 v xs.length cs) : cs=zDJ xs:=by
 by_cases hx:xs=[]
 ·subst hx
  have:=hown.1
  simp at this
  rw [this]
  rfl
 ·obtain ⟨a,cap,rfl,_⟩:=zD hs
  obtain ⟨_,hX⟩:=zY hs
  have hown':=hown
  rcases hown.2 with ⟨h0,h1⟩ | ⟨g,cap',cur,hv,_⟩
  ·exact absurd (List.eq_nil_of_length_eq_zero h1) hx
  ·cases hv
   refine flatR_of (w:=w) (b:=g) (off:=0) (fun j u hj=>?_) xs hown.1 (fun k hk=>?_)
   ·have:=hown'.cells (g:=g) rfl j u hj
    rw [zAZ] at this
    rw [Nat.zero_add]
    exact this
   ·obtain ⟨b',off',hh,he⟩:=hX k hk
    cases hh
    exact he
theorem flat_sl {w:World} {base:Nat} {e:TypeId} {v:Value} {xs:List Report} (hown:w.ownsRow base e 5 v xs.length (zDJ xs)) (hn:∀ x∈xs,RNum x) : New zAT 5 e base w v xs:=by
 refine ⟨?_,_,hown⟩
 have hown':=hown
 rcases hown.2 with ⟨rfl,hn0⟩ | ⟨g,cap,cur,rfl,_,_,hc,hcm,_⟩
 ·exact ⟨none,0,by rw [hn0],by omega,fun k hk=>by omega⟩
 ·refine ⟨some ⟨g,0,none⟩,cap,rfl,by unfold maxLen at hcm;omega,fun k hk=>⟨g,0,rfl,?_⟩⟩
  have key:∀ j u,j < 5→(zOG xs[k])[j]? = some u→zK w g (0+k*5+j) u:=fun j u hj hu=>by
   have:=hown'.cells (g:=g) rfl (k*5+j) u (by rw [zJZ xs k hk j hj];exact hu)
   rw [zAZ] at this
   rw [Nat.zero_add]
   exact this
  exact ⟨⟨key 0 _ (by omega) rfl,key 1 _ (by omega) rfl,key 2 _ (by omega) rfl,key 3 _ (by omega) rfl,key 4 _ (by omega) rfl⟩,hn _ (List.getElem_mem hk)⟩
theorem rep_num {w:World} {v:Value} {xs:List Report} (h:Sl zAT 5 w v xs) : ∀ x∈xs,RNum x:=by
 intro x hx
 obtain ⟨k,hk,rfl⟩:=List.getElem_of_mem hx
 obtain ⟨_,_,hX⟩:=zD h
 obtain ⟨a,cap,hv,_,hc⟩:=h
 obtain ⟨b,off,_,he⟩:=hc k hk
 exact he.2
def insR (rs:List Report) (r:Report) : List Report:=rs.takeWhile (fun x=>decide (x.num < r.num))++r :: rs.dropWhile (fun x=>decide (x.num < r.num))
def addB (b:Built) (r:Report) : Built:={ b with rs:=insR b.rs r }
end
end Go.Proofs.YtjleiiinibdepaaGreatDoor
