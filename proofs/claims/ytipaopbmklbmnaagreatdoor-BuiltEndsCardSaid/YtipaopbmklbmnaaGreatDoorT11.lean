/- Lemmas. -/
import Derived.Test.YtipaopbmklbmnaaGreatDoorT10
set_option linter.all false
set_option maxRecDepth 100000
set_option maxHeartbeats 0
namespace Go.Proofs.YtipaopbmklbmnaaGreatDoor
section
open Tryz
open Go.RowKit
def Tiny (b:Built) : Prop:=(Small b.ns.reg/\b.ns.notes.length<=16)/\b.ms.length<=20/\b.hs.length<=8/\b.rs.length<=16
theorem great02 (w:World) (v:Value) (R:List Issue) (h:Sl zAY 5 w v R) :
  Calls prog 142 #[.agg #[v]] w (zAK (¬ Small R) w):=by
 obtain ⟨hb1,B1⟩:=zBY w #[v] 24;have c0:=B1 0 v rfl;clear B1;obtain ⟨a,cap,rfl,hm⟩:=zD h;have h1:=zJ zU hb1 h;have C0:=zE c0;unfold zK at c0;clear h;by_cases hlen:80 < R.length
 ·go_enter func142,ntmps142;go_wp2;go_ret;exact zAK.t (fun h=>by have:=h.1;omega) hb1
 go_enter func142,ntmps142;go_wp2;generalize w.alloc _=w1 at *;go_loop [3] (fun i=>∃ k:Nat,i = .int .i64 k/\k<=R.length/\∀ j,j < k->(hj:j < R.length)->R[j].items.length<=16/\R[j].dims.length<=8) (fun i=>R.length - (intOf i).toNat)
 case atStart=>exact ⟨0,rfl,by omega,fun j hj=>absurd hj (by omega)⟩
 case round =>
  obtain ⟨k,rfl,hk,hall⟩:=hrel;have HALL:=zE hall;clear hall;by_cases hlt:k < R.length
  ·obtain ⟨b,off,rfl,⟨q0,q1,q2⟩,hnum,vi,vd,q3,q4,si,sd⟩:=(zY h1).2 k hlt
   have HY:Hid (R[k]=R[k]):=rfl;generalize hy:R[k]=x at *;have HX:=zE hy;clear hy HY h1 q0 q1 q2;unfold zK at q3 q4;obtain ⟨ai,capi,rfl,_⟩:=zD si;obtain ⟨ad,capd,rfl,_⟩:=zD sd;clear si sd;by_cases g1:16 < x.items.length
   ·go_wp2;go_ret;exact zAK.t (fun h=>by have:=(h.2 k hlt).1;rw [HX.out] at this;omega) hb1
   ·by_cases g2:8 < x.dims.length
    ·go_wp2;go_ret;exact zAK.t (fun h=>by have:=(h.2 k hlt).2;rw [HX.out] at this;omega) hb1
    ·go_wp2
     go_round
     ·exact ⟨k+1,by go_num,by omega,zAO _ k HALL.out (fun _=>by rw [HX.out];omega)⟩
     ·simp [intOf];omega
  ·go_wp2;go_ret;exact zAK.f (fun h=>h ⟨by omega,fun k hk=>HALL.out k (by omega) hk⟩) hb1
theorem great03 (w:World) (vr vn:Value) (R:List Issue) (N:List Note) (hr:Sl zAY 5 w vr R) (hn:Sl zBL 10 w vn N) :
  Calls prog 103 #[.agg #[vr,vn]] w (zAK (¬ (Small R/\N.length<=16)) w):=by
 obtain ⟨hb1,B1⟩:=zBY w #[vr,vn] 27;have c0:=B1 0 vr rfl;have c1:=B1 1 vn rfl;clear B1;obtain ⟨a,cap,rfl,_⟩:=zD hr;obtain ⟨an,capn,rfl,_⟩:=zD hn;have h1:=zJ zU hb1 hr;have C1:=zE c1;unfold zK at c0 c1;clear hr;go_enter func103,ntmps103;go_wp2_with fail;generalize w.alloc _=w1 at *;refine (great02 _ _ R h1).mono ?_;intro e w2 h;rcases h.both with ⟨g1,rfl,hb2⟩ | ⟨g1,rfl,hb2⟩
 ·clear h;go_wp2;go_ret;exact zAK.t (fun h=>g1 h.1) (zA hb1 hb2)
 ·clear h c0 c1
  have c1:=zC hb2 C1.out;unfold zK at c1;have hS:Small R:=Classical.byContradiction g1;clear g1;have HS:=zE hS;clear hS;go_wp2;go_ret;refine ⟨_,rfl,?_,zA hb1 hb2⟩;have hS:=HS.out;rw [decide_eq_true_eq];constructor
  ·intro h1 h2;omega
  ·intro h1
   by_cases g2:16 < N.length
   ·omega
   ·exact (h1 ⟨hS,by omega⟩).elim
theorem great08 (w:World) (vr vn vm vh vs:Value) (b:Built) (h:BuiltAt w vr vn vm vh vs b) :
  Calls prog 50 #[.agg #[vr,vn,.int .i64 b.of,vm,vh,vs]] w (zAK (¬ Tiny b) w):=by
 obtain ⟨ar,capr,rfl,_⟩:=zD h.reg;obtain ⟨an,capn,rfl,_⟩:=zD h.notes;obtain ⟨am,capm,rfl,hmm⟩:=zD h.ms;obtain ⟨ah,caph,rfl,hmh⟩:=zD h.hs;obtain ⟨az,capz,rfl,hmz⟩:=zD h.rs;obtain ⟨hb1,B1⟩:=zBY w #[.slice ar b.ns.reg.length capr,.slice an b.ns.notes.length capn,.int .i64 b.of,.slice am b.ms.length capm,.slice ah b.hs.length caph,.slice az b.rs.length capz] 32;have c0:=B1 0 _ rfl;have c1:=B1 1 _ rfl;have c3:=B1 3 (.slice am b.ms.length capm) rfl;have c4:=B1 4 (.slice ah b.hs.length caph) rfl;have c5:=B1 5 (.slice az b.rs.length capz) rfl;clear B1;have h1:=h.ext hb1;clear h;have C3:=zE c3;have C4:=zE c4;have C5:=zE c5;unfold zK at c0 c1 c3 c4 c5;go_enter func50,ntmps50;go_wp2_with fail;generalize w.alloc _=w1 at *;refine (great03 _ _ _ b.ns.reg b.ns.notes h1.reg h1.notes).mono ?_;intro e w2 h;clear c0 c1 c3 c4 c5;rcases h.both with ⟨g1,rfl,hb2⟩ | ⟨g1,rfl,hb2⟩
 ·clear h;go_wp2;go_ret;exact zAK.t (fun h=>g1 h.1) (zA hb1 hb2)
 clear h;have hS:=zE (Classical.byContradiction g1);have c3:=zC hb2 C3.out;have c4:=zC hb2 C4.out;have c5:=zC hb2 C5.out;clear g1 h1;unfold zK at c3 c4 c5;by_cases g2:20 < b.ms.length
 ·go_wp2;go_ret;exact ⟨_,rfl,⟨fun _ h=>by have:=h.2.1;omega,fun _=>by simp;try omega⟩,zA hb1 hb2⟩
 by_cases g3:8 < b.hs.length
 ·go_wp2;go_ret;exact ⟨_,rfl,⟨fun _ h=>by have:=h.2.2.1;omega,fun _=>by simp;try omega⟩,zA hb1 hb2⟩
 by_cases g4:16 < b.rs.length
 ·go_wp2;go_ret;exact ⟨_,rfl,⟨fun _ h=>by have:=h.2.2.2;omega,fun _=>by simp;try omega⟩,zA hb1 hb2⟩
 go_wp2;go_ret;exact ⟨_,rfl,⟨fun h=>by simp at h;try omega,fun h=>(h ⟨hS.out,by omega,by omega,by omega⟩).elim⟩,zA hb1 hb2⟩
open Classical in
noncomputable def zF (b:Built) : Int:=if zP b.ns.reg b.ns.notes≠0 then zP b.ns.reg b.ns.notes else if zCA b then 0 else 80
theorem check08 (w:World) (vr vn vm vh vs:Value) (b:Built) (h:BuiltAt w vr vn vm vh vs b) :
  Calls prog 51 #[.agg #[vr,vn,.int .i64 b.of,vm,vh,vs]] w fun e w'=>e = .returned (.int .i64 (zF b))/\Below w.heap.size w w':=by
 obtain ⟨ar,capr,rfl,_⟩:=zD h.reg;obtain ⟨an,capn,rfl,_⟩:=zD h.notes;obtain ⟨am,capm,rfl,hmm⟩:=zD h.ms;obtain ⟨ah,caph,rfl,hmh⟩:=zD h.hs;obtain ⟨az,capz,rfl,hmz⟩:=zD h.rs;obtain ⟨hb1,B1⟩:=zBY w #[.slice ar b.ns.reg.length capr,.slice an b.ns.notes.length capn,.int .i64 b.of,.slice am b.ms.length capm,.slice ah b.hs.length caph,.slice az b.rs.length capz] 32;have c0:=B1 0 (.slice ar b.ns.reg.length capr) rfl;have c1:=B1 1 (.slice an b.ns.notes.length capn) rfl;have c2:=B1 2 (.int .i64 b.of) rfl;have c3:=B1 3 (.slice am b.ms.length capm) rfl;have c4:=B1 4 (.slice ah b.hs.length caph) rfl;have c5:=B1 5 (.slice az b.rs.length capz) rfl;clear B1;have h1:=h.ext hb1;clear h;have C:=zE (And.intro c0 (And.intro c1 (And.intro c2 (And.intro c3 (And.intro c4 c5)))));unfold zK at c0 c1 c2 c3 c4 c5;go_enter func51,ntmps51;go_wp2_with fail;generalize w.alloc _=w1 at *;refine (check03 _ _ _ b.ns.reg b.ns.notes h1.reg h1.notes).mono ?_;rintro e w2 ⟨rfl,hb2⟩;clear c0 c1 c2 c3 c4 c5;obtain ⟨c0,c1,c2,c3,c4,c5⟩:=C.out;replace c0:=zC hb2 c0;replace c1:=zC hb2 c1;replace c2:=zC hb2 c2;replace c3:=zC hb2 c3;replace c4:=zC hb2 c4;replace c5:=zC hb2 c5;clear C;have h2:=h1.ext hb2;clear h1;unfold zK at c0 c1 c2 c3 c4 c5;have HC:Hid (zF b=_):=(rfl:zF b=zF b);generalize hc:zP b.ns.reg b.ns.notes=c at *;have HN:=zE hc;clear hc;by_cases g1:(c != 0)=true
 ·go_wp2;go_ret;refine ⟨zBT ?_,zA hb1 hb2⟩;unfold zF;rw [HN.out,if_pos (by simpa using g1)]
 ·have g1':(c != 0)=false:=by simpa using g1
  clear g1;go_wp2_with fail;refine (built08 _ _ _ _ _ _ b h2).mono ?_;intro e w3 h;clear c0 c1 c2 c3 c4 c5;rcases h.both with ⟨k1,rfl,hb3⟩ | ⟨k1,rfl,hb3⟩
  ·clear h;go_wp2;go_ret;refine ⟨zBT ?_,zA hb1 (zA hb2 hb3)⟩;unfold zF;rw [HN.out,if_neg (by simpa using g1'),if_pos k1]
  ·clear h;go_wp2;go_ret;refine ⟨zBT ?_,zA hb1 (zA hb2 hb3)⟩;unfold zF;rw [HN.out,if_neg (by simpa using g1'),if_neg k1]
end
section
open Tryz
open Go.RowKit
attribute [local go_sem] zAE Oper.grows Oper.growUpon
structure BuiltN (base:Nat) (w:World) (vr vn vm vh vs:Value) (b:Built) : Prop where
 reg:Sl (Fr base 118 (zGI base)) 5 w vr b.ns.reg
 notes:Sl (Fr base 74 zBL) 10 w vn b.ns.notes
 ms:Sl (Fr base 3 zAM) 1 w vm b.ms
 hs:Sl (Fr base 42 zDO) 4 w vh b.hs
 rs:Sl (Fr base 49 zAT) 5 w vs b.rs
 of:I64 b.of
theorem BuiltN.ext {base:Nat} {w w':World} {vr vn vm vh vs:Value} {b:Built} (hb:Below w.heap.size w w') (h:BuiltN base w vr vn vm vh vs b) : BuiltN base w' vr vn vm vh vs b :=
 ⟨zJ (zFG stays_issueN) hb h.reg,zJ (zFG zAN) hb h.notes,zJ (zFG zN) hb h.ms,zJ (zFG zCU) hb h.hs,zJ (zFG zAP) hb h.rs,h.of⟩
theorem BuiltN.at {base:Nat} {w:World} {vr vn vm vh vs:Value} {b:Built} (h:BuiltN base w vr vn vm vh vs b) : BuiltAt w vr vn vm vh vs b :=
 ⟨sl_map (fun _ _ _ h=>issueN_issue h.1) h.reg,zLL h.notes,zLL h.ms,zLL h.hs,zLL h.rs,h.of⟩
theorem BuiltN.set {base g j:Nat} {u:Value} {w:World} {vr vn vm vh vs:Value} {b:Built} (hg:g < base) (h:BuiltN base w vr vn vm vh vs b) : BuiltN base (w.setCell ⟨g,j,none⟩ u) vr vn vm vh vs b :=
 ⟨zIZ (zRG hg) (zRG hg) (zRG hg) h.reg,sl_set zGM hg h.notes,sl_set zFP hg h.ms,sl_set zEF hg h.hs,sl_set zQL hg h.rs,h.of⟩
theorem BuiltN.weak {base base':Nat} {w:World} {vr vn vm vh vs:Value} {b:Built} (hw:base'<=base) (h:BuiltN base w vr vn vm vh vs b) : BuiltN base' w vr vn vm vh vs b :=
 ⟨issueN_weak hw h.reg,zOV hw h.notes,zOV hw h.ms,zOV hw h.hs,zOV hw h.rs,h.of⟩
def NilRow (e:TypeId) (sz base:Nat) (v:Value) (w:World) : Prop:=NilSl v/\w.ownsRow base e sz v 0 []
theorem nilRow_stays (e:TypeId) (sz base:Nat) : zED (NilRow e sz base):=fun _ _ _ hb h=>⟨h.1,zAC hb h.2⟩
theorem nilRow_new (e:TypeId) (sz base:Nat) (w:World) (h:base<=w.heap.size) : NilRow e sz base (.slice (some ⟨w.heap.size,0,none⟩) 0 0) (w.alloc (.cells #[] e)) :=
 ⟨⟨_,rfl⟩,World.ownsRow_made w #[] 0 h (Nat.zero_le _) (by simp)⟩
theorem twin08 (w:World) (vr vn vm vh vs:Value) (b:Built) (h:BuiltAt w vr vn vm vh vs b) (hT:Tiny b) :
  Calls prog 9 #[.agg #[vr,vn,.int .i64 b.of,vm,vh,vs]] w fun e w'=>∃ ur un um uh us,e = .returned (.agg #[ur,un,.int .i64 b.of,um,uh,us]) /\
   BuiltN w.heap.size w' ur un um uh us b/\((∃ cs,w'.ownsRow w.heap.size 49 5 us b.rs.length cs)/\∃ g cap,us = .slice (some ⟨g,0,none⟩) b.rs.length cap)/\Below w.heap.size w w'/\Capd ur b.ns.reg.length/\Capd un b.ns.notes.length/\Capd uh b.hs.length:=by
 obtain ⟨i0,hi0,hx0,hx1,hx2⟩:=info_parts zFY;obtain ⟨i1,hi1,hy0,hy1,hy2⟩:=info_parts infoHeap;obtain ⟨i2,hi2,hz0,hz1,hz2⟩:=info_parts zOO;obtain ⟨⟨hS,hN⟩,hM,hH,hR⟩:=hT;have HS:=zE hS;clear hS;obtain ⟨ar,capr,rfl,_⟩:=zD h.reg;obtain ⟨an,capn,rfl,_⟩:=zD h.notes;obtain ⟨am,capm,rfl,hmm⟩:=zD h.ms;obtain ⟨ah,caph,rfl,hmh⟩:=zD h.hs;obtain ⟨az,capz,rfl,hmz⟩:=zD h.rs;obtain ⟨hb1,B1,B2⟩:=zJF w #[.slice ar b.ns.reg.length capr,.slice an b.ns.notes.length capn,.int .i64 b.of,.slice am b.ms.length capm,.slice ah b.hs.length caph,.slice az b.rs.length capz] #[.slice none 0 0,.slice none 0 0,.int .i64 0,.slice none 0 0,.slice none 0 0,.slice none 0 0] 32 32;have c0:=B1 0 (.slice ar b.ns.reg.length capr) rfl;have c1:=B1 1 (.slice an b.ns.notes.length capn) rfl;have c2:=B1 2 (.int .i64 b.of) rfl;have c3:=B1 3 (.slice am b.ms.length capm) rfl;have c4:=B1 4 (.slice ah b.hs.length caph) rfl;have c5:=B1 5 (.slice az b.rs.length capz) rfl;have r0:=B2 0 (.slice none 0 0) rfl;have r1:=B2 1 (.slice none 0 0) rfl;have r2:=B2 2 (.int .i64 0) rfl;have r3:=B2 3 (.slice none 0 0) rfl;have r4:=B2 4 (.slice none 0 0) rfl;have r5:=B2 5 (.slice none 0 0) rfl;have f1:=free_ext (zB _ (.cells #[.slice none 0 0,.slice none 0 0,.int .i64 0,.slice none 0 0,.slice none 0 0,.slice none 0 0] 32)) (free_new w #[.slice ar b.ns.reg.length capr,.slice an b.ns.notes.length capn,.int .i64 b.of,.slice am b.ms.length capm,.slice ah b.hs.length caph,.slice az b.rs.length capz] 32);have f2:=free_new (w.alloc (.cells #[.slice ar b.ns.reg.length capr,.slice an b.ns.notes.length capn,.int .i64 b.of,.slice am b.ms.length capm,.slice ah b.hs.length caph,.slice az b.rs.length capz] 32)) #[.slice none 0 0,.slice none 0 0,.int .i64 0,.slice none 0 0,.slice none 0 0,.slice none 0 0] 32;rw [World.size_alloc] at f2;have F1:=zE f1;have F2:=zE f2;have C2:=zE c2;have C3:=zE c3;have C4:=zE c4;have C5:=zE c5;clear B1 B2 f1 f2 c2 c3 c4 c5;have h1:=h.ext hb1;unfold zK at c0 c1;go_enter func9,ntmps9;go_wp2_with fail;generalize (w.alloc _).alloc _=w1 at *;refine (twin03 _ _ _ b.ns.reg b.ns.notes h1.reg h1.notes HS.out hN).mono ?_;rintro e w2 ⟨ur,un,rfl,s0,s1,hb2,hcd0,hcd1⟩;have HCD:=zE (And.intro hcd0 hcd1);clear hcd0 hcd1;obtain ⟨a0,cap0,rfl,_⟩:=zD s0;obtain ⟨a1,cap1,rfl,_⟩:=zD s1;replace h1:=h1.ext hb2;have hz9:w.heap.size+1 < w1.heap.size:=F2.out.1;replace F1:=zE (free_ext hb2 F1.out);replace F2:=zE (free_ext hb2 F2.out);replace C2:=zE (zC hb2 C2.out);replace C3:=zE (zC hb2 C3.out);replace C4:=zE (zC hb2 C4.out);replace C5:=zE (zC hb2 C5.out);replace c0:=zC hb2 c0;replace c1:=zC hb2 c1;replace r0:=zC hb2 r0;replace r1:=zC hb2 r1;replace r2:=zC hb2 r2;replace r3:=zC hb2 r3;replace r4:=zC hb2 r4;replace r5:=zC hb2 r5;have S0:=zE s0;have S1:=zE s1;have R0:=zE (And.intro r0 (And.intro r1 (And.intro r2 (And.intro r3 (And.intro r4 r5)))));have hbb:=zA hb1 hb2;have hzz:=hb2.size;clear s0 s1 hb2 hb1 r0 r1 r2 r3 r4 r5;generalize w1.heap.size=z1 at *;have p0:=F1.out.2 0;have p1:=F1.out.2 1;have c0x:=c0;unfold zK at c0 c1;go_wp2;have hg0:w.heap.size < z1:=by omega
 have hb4:Below w.heap.size w ((w2.setCell ⟨w.heap.size,0,none⟩ (.slice a0 b.ns.reg.length cap0)).setCell ⟨w.heap.size,1,none⟩ (.slice a1 b.ns.notes.length cap1)):=zI (Nat.le_refl _) (zI (Nat.le_refl _) hbb);have S0:=zE (zIZ ((zRG hg0).trans (zRG (w:=w2.setCell ⟨w.heap.size,0,none⟩ (.slice a0 b.ns.reg.length cap0)) (j:=1) (u:=.slice a1 b.ns.notes.length cap1) hg0)) ((zRG hg0).trans (zRG hg0)) ((zRG hg0).trans (zRG hg0)) S0.out);have S1:=zE (sl_set (j:=1) (u:=.slice a1 b.ns.notes.length cap1) zGM hg0 (sl_set (j:=0) (u:=.slice a0 b.ns.reg.length cap0) zGM hg0 S1.out));have F1:=zE (free_set (g:=w.heap.size) (j:=1) (u:=.slice a1 b.ns.notes.length cap1) (free_set (g:=w.heap.size) (j:=0) (u:=.slice a0 b.ns.reg.length cap0) F1.out));have F2:=zE (free_set (g:=w.heap.size) (j:=1) (u:=.slice a1 b.ns.notes.length cap1) (free_set (g:=w.heap.size) (j:=0) (u:=.slice a0 b.ns.reg.length cap0) F2.out));have c2:=cell_set_off (j:=1) (u:=.slice a1 b.ns.notes.length cap1) (by decide) (cell_set_off (j:=0) (u:=.slice a0 b.ns.reg.length cap0) (by decide) C2.out);have c3:=cell_set_off (j:=1) (u:=.slice a1 b.ns.notes.length cap1) (by decide) (cell_set_off (j:=0) (u:=.slice a0 b.ns.reg.length cap0) (by decide) C3.out);have c4:=cell_set_off (j:=1) (u:=.slice a1 b.ns.notes.length cap1) (by decide) (cell_set_off (j:=0) (u:=.slice a0 b.ns.reg.length cap0) (by decide) C4.out);have c5:=cell_set_off (j:=1) (u:=.slice a1 b.ns.notes.length cap1) (by decide) (cell_set_off (j:=0) (u:=.slice a0 b.ns.reg.length cap0) (by decide) C5.out);have c0':=cell_set_off (j:=1) (u:=.slice a1 b.ns.notes.length cap1) (by decide) (cell_set_same (u:=.slice a0 b.ns.reg.length cap0) c0);have c1':=cell_set_same (u:=.slice a1 b.ns.notes.length cap1) (cell_set_off (j:=0) (u:=.slice a0 b.ns.reg.length cap0) (by decide:1≠0) c1);have rr:∀ (j:Nat) (v:Value),zK w2 (w.heap.size+1) j v->zK ((w2.setCell ⟨w.heap.size,0,none⟩ (.slice a0 b.ns.reg.length cap0)).setCell ⟨w.heap.size,1,none⟩ (.slice a1 b.ns.notes.length cap1)) (w.heap.size+1) j v:=fun j v hj=>zBR (zBR hj (by omega)) (by omega)
 obtain ⟨r0,r1,r2,r3,r4,r5⟩:=R0.out;have R0:=zE (And.intro (rr _ _ r0) (And.intro (rr _ _ r1) (And.intro (rr _ _ r2) (And.intro (rr _ _ r3) (And.intro (rr _ _ r4) (rr _ _ r5))))));have hzz:z1<=((w2.setCell ⟨w.heap.size,0,none⟩ (.slice a0 b.ns.reg.length cap0)).setCell ⟨w.heap.size,1,none⟩ (.slice a1 b.ns.notes.length cap1)).heap.size:=by simpa using hzz
 clear rr r0 r1 r2 r3 r4 r5 c0 c1 c0x p0 p1 C2 C3 C4 C5 hbb h1;generalize (w2.setCell _ _).setCell _ _=w4 at *;have C0:=zE (And.intro c0' c1');have K2:=zH c3;have K3:=zH c4;have K4:=zH c5;have C2:=zE c2;clear c0' c1' c2;refine zM 13 (by kernel_rfl) (by kernel_rfl) ?_;simp only [tk_];refine zL (fun v _=>NilSl v) nilSl_stays ?_ ?_
 ·intro vs xq hd
  (try simp [hq_] at hd)
  simp only [pf_];go_simp;exact ⟨zB _ _,_,rfl⟩
 iterate 2 (apply gx_;focus (intro vs xq hd;(try simp [hq_] at hd);simp only [pf_];go_simp;exact ⟨br_,rfl⟩))
 refine zL (fun v w'=>Sl (Fr z1 3 zAM) 1 w' v b.ms) (fun v w w' hb h=>zJ (zFG zN) hb h) ?_ ?_
 ·intro vs xq hd
  (try simp [hq_] at hd)
  simp only [pf_];exact stepOk_plain (by rfl) (grows_append_copyC (.tmp 7) (.tmp 9) 28 (by rfl) 3 i0 _ 1 8 underlying28 hi0 hx0 hx1 hx2 rfl (by decide) (by decide) copies_int cells_int (vs 0) (.slice am b.ms.length capm) b.ms (by rfl) hd.1 (by exact hd.2) (h.ext (zA hb4 (zG _ _))).ms (Nat.le_trans hM (by decide)) z1 (Nat.le_trans hzz (zG w4 xq).size)) (fun v w' h=>h.1)
 refine zL (fun v _=>NilSl v) nilSl_stays ?_ ?_
 ·intro vs xq hd
  (try simp [hq_] at hd)
  simp only [pf_];go_simp;exact ⟨zB _ _,_,rfl⟩
 iterate 2 (apply gx_;focus (intro vs xq hd;(try simp [hq_] at hd);simp only [pf_];go_simp;exact ⟨br_,rfl⟩))
 refine zL (fun v w'=>Sl (Fr z1 42 zDO) 4 w' v b.hs/\Capd v b.hs.length) (fun v w w' hb h=>⟨zJ (zFG zCU) hb h.1,h.2⟩) ?_ ?_
 ·intro vs xq hd
  (try simp [hq_] at hd)
  simp only [pf_];exact stepOk_plain (by rfl) (grows_append_copyC (.tmp 11) (.tmp 13) 29 (by rfl) 42 i1 _ 4 32 underlying29 hi1 hy0 hy1 hy2 rfl (by decide) (by decide) copies_heap cells_heap (vs 4) (.slice ah b.hs.length caph) b.hs (by rfl) hd.1 (by exact hd.2.1) (h.ext (zA hb4 (zG _ _))).hs (Nat.le_trans hH (by decide)) z1 (Nat.le_trans hzz (zG w4 xq).size)) (fun v w' h=>h)
 refine zL (fun v w'=>NilRow 49 5 z1 v w') (nilRow_stays _ _ _) ?_ ?_
 ·intro vs xq hd
  (try simp [hq_] at hd)
  simp only [pf_];go_simp;exact ⟨zB _ _,nilRow_new _ _ _ _ (Nat.le_trans hzz (zG w4 xq).size)⟩
 iterate 2 (apply gx_;focus (intro vs xq hd;(try simp [hq_] at hd);simp only [pf_];go_simp;exact ⟨br_,rfl⟩))
 refine zL (fun v w'=>New zAT 5 49 z1 w' v b.rs/\∃ g cap,v = .slice (some ⟨g,0,none⟩) b.rs.length cap) (fun v w w' hb h=>⟨h.1.ext zAP hb,h.2⟩) ?_ ?_
 ·intro vs xq hd
  (try simp [hq_] at hd)
  simp only [pf_];exact stepOk_plain (by rfl) (grows_append_new (.tmp 15) (.tmp 17) 30 (by rfl) 49 i2 _ 5 40 underlying30 hi2 hz0 hz1 hz2 rfl (by decide) (by decide) copies_report cells_report (vs 8) (.slice az b.rs.length capz) b.rs (by rfl) hd.1.1 (by exact hd.2.1) (h.ext (zA hb4 (zG _ _))).rs (Nat.le_trans hR (by decide)) z1 (Nat.le_trans hzz (zG w4 xq).size) hd.1.2) (fun v w' h=>h)
 apply gx_;focus (intro vs xq hd;(try simp [hq_] at hd);simp only [pf_];go_simp;exact ⟨br_,rfl⟩)
 refine zQ rfl (fun vs xq hd=>?_);simp [zW,zAI,List.range,List.range.loop] at hd;simp only [pf_];obtain ⟨_,_,_,s3,_,_,_,⟨s7,hcd7⟩,_,_,_,⟨s11,g11,cap11,e11⟩,e12⟩:=hd;generalize vs 0=u0 at *;generalize vs 1=u1 at *;generalize vs 2=u2 at *;generalize vs 3=u3 at *;generalize vs 4=u4 at *;generalize vs 5=u5 at *;generalize vs 6=u6 at *;generalize vs 7=u7 at *;generalize vs 8=u8 at *;generalize vs 9=u9 at *;generalize vs 10=u10 at *;generalize vs 11=u11 at *;generalize vs 12=u12 at *;subst e12 e11;obtain ⟨a3,cap3,rfl,_⟩:=zD s3;obtain ⟨a7,cap7,rfl,_⟩:=zD s7;have HCD7:=zE hcd7;clear hcd7;have hbl:=zG w4 xq;have S:Hid (BuiltN z1 (w4.later xq) (.slice a0 b.ns.reg.length cap0) (.slice a1 b.ns.notes.length cap1) (.slice a3 b.ms.length cap3) (.slice a7 b.hs.length cap7) (.slice (some ⟨g11,0,none⟩) b.rs.length cap11) b) :=
  ⟨zJ (zFG stays_issueN) hbl S0.out,zJ (zFG zAN) hbl S1.out,s3,s7,s11.fr,h.of⟩
 have SP:=zE s11.2;have c0:=zC hbl C0.out.1;have c1:=zC hbl C0.out.2;have c2:=zC hbl C2.out;replace c3:=zC hbl c3;replace c4:=zC hbl c4;replace c5:=zC hbl c5;have r0:=zC hbl R0.out.1;have r1:=zC hbl R0.out.2.1;have r2:=zC hbl R0.out.2.2.1;have r3:=zC hbl R0.out.2.2.2.1;have r4:=zC hbl R0.out.2.2.2.2.1;have r5:=zC hbl R0.out.2.2.2.2.2;have f1:=free_ext hbl F1.out;have f2:=free_ext hbl F2.out;have hbb:=zA hb4 hbl;clear S0 S1 s3 s7 s11 C0 C2 K2 K3 K4 R0 F1 F2 hb4 hbl h HS;generalize w4.later xq=w5 at *;have p2:=f1.2 2;have p3:=f1.2 3;have p4:=f1.2 4;have p5:=f1.2 5;have q0:=f2.2 0;have q1:=f2.2 1;have q2:=f2.2 2;have q3:=f2.2 3;have q4:=f2.2 4;have q5:=f2.2 5;have hl1:=f1.1;have hl2:=f2.1;clear f1 f2;unfold zK at c0 c1 c2 c3 c4 c5 r0 r1 r2 r3 r4 r5;go_wp2;refine bodyPost_ret (v:=.agg #[.slice a0 b.ns.reg.length cap0,.slice a1 b.ns.notes.length cap1,.int .i64 b.of,.slice a3 b.ms.length cap3,.slice a7 b.hs.length cap7,.slice (some ⟨g11,0,none⟩) b.rs.length cap11]) ?_ rfl ⟨_,_,_,_,_,rfl,?_,?_,?_,HCD.out.1,HCD.out.2,HCD7.out⟩
 ·simp [results,results9,go_sem,r0,r1,r2,r3,r4,r5,hl2]
 ·refine BuiltN.weak (base:=z1) (by omega) ?_
  repeat (refine BuiltN.set (by omega) ?_)
  exact S.out
 ·obtain ⟨cs,hl,hcs⟩:=SP.out
  refine ⟨⟨cs,?_⟩,g11,cap11,rfl⟩;have hcs2:w5.ownsRow w.heap.size 49 5 (.slice (some ⟨g11,0,none⟩) b.rs.length cap11) b.rs.length cs/\w5.ownsRow z1 49 5 (.slice (some ⟨g11,0,none⟩) b.rs.length cap11) b.rs.length cs:=by
   refine ⟨⟨hl,?_⟩,hl,hcs⟩;rcases hcs with h | ⟨g',cap',cur,h1,h2,h3⟩
   ·exact .inl h
   ·exact .inr ⟨g',cap',cur,h1,by omega,h3⟩
  have hcs3:=hcs2.2;have key:∀ w':World,w'.ownsRow z1 49 5 (.slice (some ⟨g11,0,none⟩) b.rs.length cap11) b.rs.length cs->w'.ownsRow w.heap.size 49 5 (.slice (some ⟨g11,0,none⟩) b.rs.length cap11) b.rs.length cs:=fun w' ⟨hl,h⟩=>by
   refine ⟨hl,?_⟩;rcases h with h | ⟨g',cap',cur,h1,h2,h3⟩
   ·exact .inl h
   ·exact .inr ⟨g',cap',cur,h1,by omega,h3⟩
  refine key _ ?_;repeat (refine own_set ?_ (by omega))
  exact hcs3
 ·repeat (refine zI (by omega) ?_)
  exact hbb
end
section
open Tryz
open Go.RowKit
def zOG (x:Report) : List Value:=[.int .i64 x.num,.int .i64 x.m,.int .i64 x.d,.int .i64 x.l,.int .u8 x.k]
def zDJ (xs:List Report) : List Value:=xs.flatMap zOG
theorem zOB (xs:List Report) : (zDJ xs).length=xs.length*5:=by
 unfold zDJ;induction xs with
 | nil=>rfl
 | cons x xs ih=>simp [zOG,ih];omega
theorem zQJ (xs ys:List Report) : zDJ (xs++ys)=zDJ xs++zDJ ys:=by unfold zDJ;rw [List.flatMap_append]
theorem zJZ (xs:List Report) (k:Nat) (hk:k < xs.length) (j:Nat) (hj:j < 5) : (zDJ xs)[k*5+j]? = (zOG xs[k])[j]?:=by
 have h:zDJ xs=zDJ (xs.take k)++(zOG xs[k]++zDJ (xs.drop (k+1))):=by
  have e:xs=xs.take k++(xs[k] :: xs.drop (k+1)):=by rw [<- List.drop_eq_getElem_cons hk,List.take_append_drop]
  have:=congrArg zDJ e;rw [this,zQJ];rfl
 have e:(zDJ (xs.take k)).length=k*5:=by rw [zOB,List.length_take,Nat.min_eq_left (by omega)]
 rw [h,List.getElem?_append_right (by omega),e,show k*5+j - k*5=j by omega,List.getElem?_append_left (by simp [zOG];omega)]
def RNum (x:Report) : Prop:=I64 x.num/\I64 x.m/\I64 x.d/\I64 x.l/\U8 x.k
theorem flatR_of {w:World} {b off:Nat} {cs:List Value} (hcs:∀ j u,cs[j]? = some u->zK w b (off+j) u) : ∀ (xs:List Report),cs.length=xs.length*5->(∀ k (hk:k < xs.length),zAT w b (off+k*5) xs[k])->cs=zDJ xs:=by
 intro xs hl h;apply List.ext_getElem?;intro i;by_cases hi:i < cs.length
 ·have hk:i / 5 < xs.length:=by omega
  have hj:i % 5 < 5:=Nat.mod_lt _ (by omega);have e:i=i / 5*5+i % 5:=by omega
  have c:=hcs i _ (List.getElem?_eq_getElem hi);have e1:=zJZ xs _ hk _ hj;rw [<- e] at e1;rw [e1,List.getElem?_eq_getElem hi];obtain ⟨⟨h0,h1,h2,h3,h4⟩,_⟩:=h (i / 5) hk;unfold zK at *;have e2:off+i=off+i / 5*5+i % 5:=by omega
  rw [e2] at c;generalize i % 5=j at *;generalize xs[i / 5]=x at *;generalize cs[i]=u at *;unfold zOG;match j,hj with
  | 0,_=>simp at c ⊢;rw [h0] at c;simpa using c.symm
  | 1,_=>simp at c ⊢;rw [h1] at c;simpa using c.symm
  | 2,_=>simp at c ⊢;rw [h2] at c;simpa using c.symm
  | 3,_=>simp at c ⊢;rw [h3] at c;simpa using c.symm
  | 4,_=>simp at c ⊢;rw [h4] at c;simpa using c.symm
 ·rw [List.getElem?_eq_none (by omega),List.getElem?_eq_none (by rw [zOB];omega)]
theorem own_flat {w:World} {base:Nat} {e:TypeId} {v:Value} {xs:List Report} {cs:List Value} (hs:Sl zAT 5 w v xs) (hown:w.ownsRow base e 5 v xs.length cs) : cs=zDJ xs:=by
 by_cases hx:xs=[]
 ·subst hx;have:=hown.1;simp at this;rw [this];rfl
 ·obtain ⟨a,cap,rfl,_⟩:=zD hs
  obtain ⟨_,hX⟩:=zY hs;have hown':=hown;rcases hown.2 with ⟨h0,h1⟩ | ⟨g,cap',cur,hv,_⟩
  ·exact absurd (List.eq_nil_of_length_eq_zero h1) hx
  ·cases hv
   refine flatR_of (w:=w) (b:=g) (off:=0) (fun j u hj=>?_) xs hown.1 (fun k hk=>?_)
   ·have:=hown'.cells (g:=g) rfl j u hj;rw [zAZ] at this;rw [Nat.zero_add];exact this
   ·obtain ⟨b',off',hh,he⟩:=hX k hk
    cases hh;exact he
theorem flat_sl {w:World} {base:Nat} {e:TypeId} {v:Value} {xs:List Report} (hown:w.ownsRow base e 5 v xs.length (zDJ xs)) (hn:∀ x∈xs,RNum x) : New zAT 5 e base w v xs:=by
 refine ⟨?_,_,hown⟩;have hown':=hown;rcases hown.2 with ⟨rfl,hn0⟩ | ⟨g,cap,cur,rfl,_,_,hc,hcm,_⟩
 ·exact ⟨none,0,by rw [hn0],by omega,fun k hk=>by omega⟩
 ·refine ⟨some ⟨g,0,none⟩,cap,rfl,by unfold maxLen at hcm;omega,fun k hk=>⟨g,0,rfl,?_⟩⟩
  have key:∀ j u,j < 5->(zOG xs[k])[j]? = some u->zK w g (0+k*5+j) u:=fun j u hj hu=>by
   have:=hown'.cells (g:=g) rfl (k*5+j) u (by rw [zJZ xs k hk j hj];exact hu);rw [zAZ] at this;rw [Nat.zero_add];exact this
  exact ⟨⟨key 0 _ (by omega) rfl,key 1 _ (by omega) rfl,key 2 _ (by omega) rfl,key 3 _ (by omega) rfl,key 4 _ (by omega) rfl⟩,hn _ (List.getElem_mem hk)⟩
theorem rep_num {w:World} {v:Value} {xs:List Report} (h:Sl zAT 5 w v xs) : ∀ x∈xs,RNum x:=by
 intro x hx;obtain ⟨k,hk,rfl⟩:=List.getElem_of_mem hx;obtain ⟨_,_,hX⟩:=zD h;obtain ⟨a,cap,hv,_,hc⟩:=h;obtain ⟨b,off,_,he⟩:=hc k hk;exact he.2
def insR (rs:List Report) (r:Report) : List Report:=rs.takeWhile (fun x=>decide (x.num < r.num))++r :: rs.dropWhile (fun x=>decide (x.num < r.num))
def addB (b:Built) (r:Report) : Built:={ b with rs:=insR b.rs r }
end
end Go.Proofs.YtipaopbmklbmnaaGreatDoor
