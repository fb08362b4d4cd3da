/- Lemmas. -/
import Derived.StillTailTactics
import Derived.Test.YtipaopbmklbmnaaGreatDoorT22
set_option linter.all false
set_option maxRecDepth 100000
set_option maxHeartbeats 0
namespace Go.Proofs.YtipaopbmklbmnaaGreatDoor
section
open Tryz
open Go.RowKit Go.Shelf
attribute [local go_sem] zAE Oper.grows Oper.growUpon
theorem check_note (w:World) (vr vn:Value) (R:List Issue) (N:List Note) (h:NoteArg w vr vn R N) (hk:zHN w) :
  Calls prog 127 #[.agg #[vr,vn]] w fun e w'=>e = .returned (.int .i64 (zP R N))/\Below w.heap.size w w':=by
 have hb1:=zB w (.cells #[vr,vn] 27);have LB:=Lay.new w 27 #[vr,vn];have HA:=zE (h.ext hb1);have HK:=zE (hk.ext hb1);obtain ⟨ar,cr,rfl,_⟩:=zD h.reg.sl;obtain ⟨an,cn,rfl,_⟩:=zD h.sl;have c0:=LB.cell 0 _ rfl;have c1:=LB.cell 1 _ rfl;clear h hk LB;go_enter func127,ntmps127;go_wp2_with fail;refine (opened_note _ _ _ R N HA.out HK.out).mono ?_;rintro e w2 ⟨⟨p,rfl,-⟩,hb2⟩;have hb:=zA hb1 hb2;clear c0 c1;generalize hc:zP R N=c at *;go_wp2;go_ret;exact ⟨by rw [hc];rfl,hb⟩
theorem zML (w:World) (lo hi x:Int) (v:Value) (h:zKF x v w) (hx:I64 x) :
  Calls prog 57 #[.int .i64 lo,.int .i64 hi,v] w fun e w'=>e = .returned (.bool (inB x lo hi))/\Below w.heap.size w w':=by
 obtain ⟨b,rfl,hc⟩:=h;refine (in_built w lo hi _ [x] (sl_row1 hc hx)).mono ?_;intro e w' h;rcases h.both with ⟨g1,rfl,hb⟩ | ⟨g1,rfl,hb⟩
 ·exact ⟨zFH (zGY (g1 x (by simp))).symm,hb⟩
 ·exact ⟨zFH (zGZ (fun h=>g1 (fun y hy=>by simp at hy;rw [hy];exact h))).symm,hb⟩
open Classical in
noncomputable def partB (R:List Issue) (d l:Int) : Bool:=decide (zFO R d l)
open Classical in
theorem zGT (R:List Issue) (d l:Int) : partB R d l=true↔zFO R d l:=by unfold partB;rw [decide_eq_true_iff]
theorem zEW (w:World) (v:Value) (R:List Issue) (d l:Int) (h:RegArg w v R) (hz:zX R=0) (hk:∀ x∈R,In x.k 1 3) :
  Calls prog 69 #[.agg #[v],.agg #[.int .i64 d,.int .i64 l]] w fun e w'=>e = .returned (.bool (partB R d l))/\Below w.heap.size w w':=by
 have hb1:=zA (zB w (.cells #[v] 24)) (zB _ (.cells #[.int .i64 d,.int .i64 l] 45));have HA:=zE (h.ext hb1);have L0:=(Lay.new w 24 #[v]).alloc (.cells #[.int .i64 d,.int .i64 l] 45);obtain ⟨ar,cr,rfl,_⟩:=zD h.sl;have c0:=L0.cell 0 _ rfl;clear h L0;go_enter func69,ntmps69;go_wp2_with fail;refine (at_sheet _ _ R d l HA.out).mono ?_;rintro e w2 ⟨⟨x1,x2,x3,vi,vs,rfl,⟨a1,n1,c1,rfl⟩,⟨a2,n2,c2,rfl⟩,hx3⟩,hb2⟩;have hb:=zA hb1 (zA hb2 (zB w2 (.cells #[.int .i64 x1,.int .i64 x2,.int .u8 x3,.slice a1 n1 c1,.slice a2 n2 c2] 118)));have ha:zGC R d l=if zCQ R d l≠none then 0 else 6:=by unfold zGC;rw [if_pos hz]
 clear c0;cases hf:zCQ R d l with
 | none =>
   have e0:zGC R d l=6:=by rw [ha,if_neg (by rw [hf];simp)]
   have hp:partB R d l=false:=by rw [Bool.eq_false_iff];intro h;obtain ⟨x,hx,_⟩:=(zGT _ _ _).1 h;rw [hf] at hx;cases hx
   have HP:=zE hp;rw [e0];clear hp ha hx3 hf;go_wp2;go_ret;exact ⟨by rw [HP.out];rfl,hb⟩
 | some x =>
   have e0:zGC R d l=0:=by rw [ha,if_pos (by rw [hf];simp)]
   have hxk:=hx3 x hz hf;have hin:=hk x (by unfold zCQ at hf;exact List.mem_of_find?_eq_some hf);have hp:partB R d l=(x3 != 1):=by
    rw [Bool.eq_iff_iff,zGT,bne_iff_ne];constructor
    ·rintro ⟨y,hy,h1⟩ h2;rw [hf] at hy;cases hy;rw [hxk] at h2;omega
    ·intro h2;exact ⟨x,hf,by have:=hin.1;rw [hxk] at h2;omega⟩
   have HP:=zE hp;rw [e0];clear hp ha hx3 hf hxk;go_wp2;go_ret;exact ⟨by rw [HP.out];rfl,hb⟩
structure BuiltArg (w:World) (vr vn vm vh vs:Value) (b:Built) : Prop where
 notes:NoteArg w vr vn b.ns.reg b.ns.notes
 at_:BuiltAt w vr vn vm vh vs b
 hcap:∃ a c,vh = .slice a b.hs.length c/\b.hs.length<=c
 looks:zHN w
theorem BuiltArg.ext {w w':World} {vr vn vm vh vs:Value} {b:Built} (hb:Below w.heap.size w w') (h:BuiltArg w vr vn vm vh vs b) : BuiltArg w' vr vn vm vh vs b:=⟨h.notes.ext hb,h.at_.ext hb,h.hcap,h.looks.ext hb⟩
theorem zLM (w:World) (vr vn vm vh vs:Value) (b:Built) (x:Report) (h:BuiltArg w vr vn vm vh vs b) (hx:RNum x) (hz:zX b.ns.reg=0) (hk:∀ x∈b.ns.reg,In x.k 1 3) :
  Calls prog 133 #[.agg #[vr,vn,.int .i64 b.of,vm,vh,vs],.agg #[.int .i64 x.num,.int .i64 x.m,.int .i64 x.d,.int .i64 x.l,.int .u8 x.k]] w (zAK (zCE b.ns.reg b.ms x) w):=by
 obtain ⟨hn1,hn2,hn3,hn4,hn5⟩:=hx;obtain ⟨ar,cr,rfl,_⟩:=zD h.at_.reg;obtain ⟨an,cn,rfl,_⟩:=zD h.at_.notes;obtain ⟨am,cm,rfl,_⟩:=zD h.at_.ms;obtain ⟨ah,ch,rfl,_⟩:=zD h.at_.hs;obtain ⟨az,cz,rfl,_⟩:=zD h.at_.rs;have hb1:=zA (zB w (.cells #[.slice ar b.ns.reg.length cr,.slice an b.ns.notes.length cn,.int .i64 b.of,.slice am b.ms.length cm,.slice ah b.hs.length ch,.slice az b.rs.length cz] 32)) (zB _ (.cells #[.int .i64 x.num,.int .i64 x.m,.int .i64 x.d,.int .i64 x.l,.int .u8 x.k] 49));have L0:=(Lay.new w 32 #[.slice ar b.ns.reg.length cr,.slice an b.ns.notes.length cn,.int .i64 b.of,.slice am b.ms.length cm,.slice ah b.hs.length ch,.slice az b.rs.length cz]).alloc (.cells #[.int .i64 x.num,.int .i64 x.m,.int .i64 x.d,.int .i64 x.l,.int .u8 x.k] 49);have L1:=Lay.new (w.alloc (.cells #[.slice ar b.ns.reg.length cr,.slice an b.ns.notes.length cn,.int .i64 b.of,.slice am b.ms.length cm,.slice ah b.hs.length ch,.slice az b.rs.length cz] 32)) 49 #[.int .i64 x.num,.int .i64 x.m,.int .i64 x.d,.int .i64 x.l,.int .u8 x.k];rw [World.size_alloc] at L1;have HA:=zE (h.ext hb1);clear h;go_enter func133,ntmps133;have hu8:IntKind.i64.wrap x.k=x.k:=IntWalk.i64_in _ (by have:=hn5.1;have:=hn5.2;omega);go_wp2_with fail;have row:=zR ((w.alloc (.cells #[.slice ar b.ns.reg.length cr,.slice an b.ns.notes.length cn,.int .i64 b.of,.slice am b.ms.length cm,.slice ah b.hs.length ch,.slice az b.rs.length cz] 32)).alloc (.cells #[.int .i64 x.num,.int .i64 x.m,.int .i64 x.d,.int .i64 x.l,.int .u8 x.k] 49)) #[.int .i64 x.num] 3 0 (.int .i64 x.num) rfl;simp only [World.size_alloc] at row;have hb2:=zB ((w.alloc (.cells #[.slice ar b.ns.reg.length cr,.slice an b.ns.notes.length cn,.int .i64 b.of,.slice am b.ms.length cm,.slice ah b.hs.length ch,.slice az b.rs.length cz] 32)).alloc (.cells #[.int .i64 x.num,.int .i64 x.m,.int .i64 x.d,.int .i64 x.l,.int .u8 x.k] 49)) (.cells #[.int .i64 x.num] 3);have hb:=zA hb1 hb2;have L0:=L0.ext hb2;have L1:=L1.ext hb2;have HA:=zE (HA.out.ext hb2);clear hb1 hb2;generalize ((w.alloc _).alloc _).alloc _=w1 at *;refine (zML _ _ _ x.num _ ⟨_,rfl,row⟩ hn1).mono ?_;rintro e w2 ⟨rfl,hb3⟩;clear row;have hb:=zA hb hb3;have L0:=L0.ext hb3;have L1:=L1.ext hb3;have HA:=zE (HA.out.ext hb3);by_cases g1:inB x.num 1 9999=true
 case neg =>have g1':=zGD g1;go_wp2;go_ret;exact zAK.f (fun h=>zLW g1 h.1) hb
 have x4:=L1.cell 4 _ rfl;have l4:=L1.lt;go_wp2_with fail;have row:=zR w2 #[.int .i64 x.k] 3 0 (.int .i64 x.k) rfl;have hb4:=zB w2 (.cells #[.int .i64 x.k] 3);have hb:=zA hb hb4;have L0:=L0.ext hb4;have L1:=L1.ext hb4;have HA:=zE (HA.out.ext hb4);clear x4 l4;generalize w2.alloc _=w3 at *;refine (zML _ _ _ x.k _ ⟨_,rfl,row⟩ ⟨by have:=hn5.1;omega,by have:=hn5.2;omega⟩).mono ?_;rintro e w4 ⟨rfl,hb5⟩;clear row;have hb:=zA hb hb5;have L0:=L0.ext hb5;have L1:=L1.ext hb5;have HA:=zE (HA.out.ext hb5);by_cases g2:inB x.k 1 3=true
 case neg =>have g2':=zGD g2;go_wp2;go_ret;exact zAK.f (fun h=>zLW g2 h.2.1) hb
 have c3:=L0.cell 3 _ rfl;have x1:=L1.cell 1 _ rfl;have l0:=L0.lt;have l1:=L1.lt;go_wp2_with fail;refine (zDF _ _ b.ms x.m HA.out.at_.ms).mono ?_;clear c3 x1 l0 l1;intro e w5 hh;rcases hh.both with ⟨h1,rfl,rfl⟩ | ⟨h1,rfl,rfl⟩
 case inr =>have H1:=zE h1;clear hh h1;go_wp2;go_ret;exact zAK.f (fun h=>H1.out h.2.2.1) hb
 have H1:=zE h1;clear hh h1;have c0:=L0.cell 0 _ rfl;have x2:=L1.cell 2 _ rfl;have x3:=L1.cell 3 _ rfl;go_wp2_with fail;refine (zEW _ _ b.ns.reg x.d x.l HA.out.notes.reg hz hk).mono ?_;clear c0 x2 x3;rintro e w6 ⟨rfl,hb6⟩;have hb:=zA hb hb6;have HP:=zE (zGT b.ns.reg x.d x.l);generalize partB b.ns.reg x.d x.l=pb at *;have G1:=zE (zGA g1);have G2:=zE (zGA g2);cases pb with
 | true =>go_wp2;go_ret;exact zAK.t (show zCE b.ns.reg b.ms x from ⟨G1.out,G2.out,H1.out,HP.out.1 (by simp)⟩) hb
 | false =>go_wp2;go_ret;exact zAK.f (fun (h:zCE b.ns.reg b.ms x)=>by have:=HP.out.2 h.2.2.2;simp at this) hb
theorem enter_c1:Enters prog 129:=enters_of func129 (by kernel_rfl) rfl
theorem rising_built (w:World) (g:Nat) (vm:Value) (ms:List Int) (i:Nat) (hc:zK w g 2 vm\/zK w g 3 vm) (hg:zK w g 3 vm) (h:Sl zAM 1 w vm ms) (hi:i < ms.length) :
  Calls prog 129 #[.int .i64 i,.pointer (some ⟨g,0,none⟩)] w (zAK (∀ h0:0 < i,∀ h1:i - 1 < ms.length,ms[i - 1] < ms[i]) w):=by
 obtain ⟨am,cm,rfl,_⟩:=zD h;obtain ⟨b,off,rfl,q0,_⟩:=(zY h).2 i hi;rw [Nat.mul_one] at q0;have k3:=zH hg;have kq:=zH q0;have hil:(i:Int) < ms.length:=by omega
 go_enter func129,ntmps129;by_cases h0:i=0
 ·have H:=zE (show ∀ h0:0 < i,∀ h1:i - 1 < ms.length,ms[i - 1] < ms[i] from fun h=>absurd h (by omega))
  have hi0:((i:Int) == 0)=true:=by simp [h0]
  have HI0:=zE h0;clear h0;go_wp2;refine zM 16 (by kernel_rfl) (by kernel_rfl) ?_;simp only [tk_];iterate 16 (apply gx_;focus (intro vs xq hd;(try simp [hq_] at hd);simp only [pf_];go_simp;first | exact ⟨br_,rfl⟩ | exact rfl))
  refine zQ (by simp only [List.length_append,List.length_cons,List.length_nil]) (fun vs xq hd=>?_);simp [zW,zAI,List.range,List.range.loop] at hd;simp only [pf_];obtain ⟨_,_,_,_,_,_,_,_,_,_,_,_,_,_,_,e15⟩:=hd;simp only [Nat.zero_add,Nat.reduceAdd] at e15 ⊢;simp only [e15];clear k3 kq;go_wp2;go_ret;exact zAK.t H.out (zG w xq)
 ·obtain ⟨b',off',hh,y0,_⟩:=(zY h).2 (i - 1) (by omega)
  cases hh;rw [Nat.mul_one] at y0;have ky:=zH y0;have H:Hid ((∀ h0:0 < i,∀ h1:i - 1 < ms.length,ms[i - 1] < ms[i])↔ms[i - 1] < ms[i]):=⟨fun h=>h (by omega) (by omega),fun h _ _=>h⟩;have hi0:((i:Int) == 0)=false:=by simp [h0]
  have hz:IntKind.i64.wrap ((i:Int) - 1)=((i - 1:Nat) : Int):=by rw [IntWalk.i64_in _ (by obtain ⟨_,_,_,hm,_⟩:=h;omega)];omega
  have hz2:((i - 1:Nat) : Int) < ms.length:=by omega
  generalize hP:(∀ h0:0 < i,∀ h1:i - 1 < ms.length,ms[i - 1] < ms[i])=PP at *;generalize ms[i - 1]=y at *;generalize ms[i]=x at *;clear h0 hP;go_wp2;refine zM 16 (by kernel_rfl) (by kernel_rfl) ?_;simp only [tk_];iterate 16 (apply gx_;focus (intro vs xq hd;(try simp [hq_] at hd);simp only [pf_];go_simp;first | exact ⟨br_,rfl⟩ | exact rfl))
  refine zQ (by simp only [List.length_append,List.length_cons,List.length_nil]) (fun vs xq hd=>?_);simp [zW,zAI,List.range,List.range.loop] at hd;simp only [pf_];obtain ⟨_,_,_,_,_,_,_,_,_,_,_,_,_,_,_,e15⟩:=hd;simp only [Nat.zero_add,Nat.reduceAdd] at e15 ⊢;simp only [e15];clear k3 kq ky;go_wp2;go_ret;exact ⟨decide (y < x),rfl,by rw [decide_eq_true_iff];exact H.out.symm,zG w xq⟩
theorem enter_c2:Enters prog 131:=enters_of func131 (by kernel_rfl) rfl
theorem same_built (w:World) (o x:Heap) (g:Nat) (hg:zK w g 0 (.int .i64 x.d)/\zK w g 1 (.int .i64 x.l)/\zK w g 2 (.int .i64 x.lo)/\zK w g 3 (.int .i64 x.hi)) :
  Calls prog 131 #[.agg #[.int .i64 o.d,.int .i64 o.l,.int .i64 o.lo,.int .i64 o.hi],.pointer (some ⟨g,0,none⟩)] w (zAK (o.d=x.d/\o.l=x.l) w):=by
 have hb1:=zB w (.cells #[.int .i64 o.d,.int .i64 o.l,.int .i64 o.lo,.int .i64 o.hi] 42);have L0:=Lay.new w 42 #[.int .i64 o.d,.int .i64 o.l,.int .i64 o.lo,.int .i64 o.hi];have o0:=zH (show zK _ w.heap.size 0 (.int .i64 o.d) from L0.cell 0 _ rfl);have o1:=zH (show zK _ w.heap.size 1 (.int .i64 o.l) from L0.cell 1 _ rfl);have o2:=zH (show zK _ w.heap.size 2 (.int .i64 o.lo) from L0.cell 2 _ rfl);have o3:=zH (show zK _ w.heap.size 3 (.int .i64 o.hi) from L0.cell 3 _ rfl);have x0:=zH (zC hb1 hg.1);have x1:=zH (zC hb1 hg.2.1);have x2:=zH (zC hb1 hg.2.2.1);have x3:=zH (zC hb1 hg.2.2.2);go_enter func131,ntmps131;go_wp2;generalize w.alloc _=w1 at *;refine zM 5 (by kernel_rfl) (by kernel_rfl) ?_;simp only [tk_];apply gx_;focus (intro vs xq hd;(try simp [hq_] at hd);simp only [pf_];go_simp;first | exact ⟨br_,rfl⟩ | exact rfl)
 apply gx_;focus (intro vs xq hd;(try simp [hq_] at hd);simp only [pf_];go_simp;first | exact ⟨br_,rfl⟩ | exact rfl | (refine (zFF _ o).mono ?_;rintro e w' ⟨rfl,hb⟩;exact ⟨rfl,hb⟩))
 apply gx_;focus (intro vs xq hd;(try simp [hq_] at hd);simp only [pf_];go_simp;first | exact ⟨br_,rfl⟩ | exact rfl)
 apply gx_;focus (intro vs xq hd;(try simp [hq_] at hd);simp only [pf_];go_simp;first | exact ⟨br_,rfl⟩ | exact rfl | (refine (zFF _ x).mono ?_;rintro e w' ⟨rfl,hb⟩;exact ⟨rfl,hb⟩))
 refine zL (fun v _=>v = .bool (decide (o.d=x.d/\o.l=x.l))) (fun _ _ _ _ h=>h) ?_ ?_
 ·intro vs xq hd
  (try simp [hq_] at hd)
  simp only [pf_];go_simp;by_cases p:o.d=x.d <;> by_cases q:o.l=x.l <;> simp [p,q,Below.refl]
 refine zQ rfl (fun vs xq hd=>?_);simp [zW,zAI,List.range,List.range.loop] at hd;simp only [pf_];obtain ⟨_,_,_,_,e4⟩:=hd;simp only [Nat.zero_add,Nat.reduceAdd] at e4 ⊢;simp only [e4];have hb:=zA hb1 (zG w1 xq);clear o0 o1 o2 o3 x0 x1 x2 x3;go_wp2;go_ret;exact ⟨_,rfl,by simp,hb⟩
end
section
open Tryz
open Go.RowKit Go.Shelf
theorem opens_to (N:List Note) : zAH N N.length=zBO N:=by unfold zAH zBO;rw [List.take_length]
theorem zHF {R:List Issue} {N:List Note} (h:zDL R N) : (zBO N).Nodup:=by
 unfold zBO;have key:N.Pairwise (fun x y=>x.num≠y.num):=by rw [List.pairwise_iff_getElem];intro i j hi hj hij;exact (h.2.1 j hj).2.2.2.1 i hij (by omega)
 rw [List.Nodup,List.pairwise_map];exact (key.filter _)
open Classical in
noncomputable def zDA (N:List Note) (S:List Int) : Int:=if IsT (zBO N) S then 0 else 31
theorem isT_take {O S:List Int} (h:IsT O S) (k:Nat) (hk:k < S.length) : S[k]∈O/\S[k] ∉ S.take k/\∀ h0:0 < k,S[k - 1] < S[k]:=by
 obtain ⟨h1,h2⟩:=isT_at h k hk;refine ⟨h1,fun hm=>?_,h2⟩;obtain ⟨j,hj,he⟩:=List.mem_take_iff_getElem.1 hm;have:=List.pairwise_iff_getElem.1 h.1 j k (by omega) hk (by omega);omega
theorem truth_note (w:World) (pf:Nat) (vr vn vs:Value) (R:List Issue) (N:List Note) (S:List Int) (hF:FileAt w pf vr vn R N) (hs:Sl zAM 1 w vs S) (hok:zDL R N) :
  Calls prog 122 #[.pointer (some ⟨pf,0,none⟩),vs] w fun e w'=>e = .returned (.int .i64 (zDA N S))/\Below w.heap.size w w':=by
 obtain ⟨vd,vo,O,hL,_,hO,hOp⟩:=hF.is;have hnd:O.Nodup:=hOp.nodup_iff.2 (by rw [opens_to];exact zHF hok);have hOm:∀ x,x∈O↔x∈zBO N:=fun x=>by rw [hOp.mem_iff,opens_to]
 have hOl:O.length<=12:=by rw [hOp.length_eq,zMC N N.length (Nat.le_refl _)];have:=openTo_le N N.length;have:=hok.1;omega
 obtain ⟨ao,capo,rfl,hmo⟩:=zD hO;obtain ⟨az,capz,rfl,hmz⟩:=zD hs;have k1:IsT (zBO N) S->zDA N S=0:=fun h=>by unfold zDA;rw [if_pos h]
 have k2:¬ IsT (zBO N) S->zDA N S=31:=fun h=>by unfold zDA;rw [if_neg h]
 have K1:=zE k1;have K2:=zE k2;have HO:=zE hO;have HS:=zE hs;have HND:=zE hnd;have HOM:=zE hOm;have c3:=(hL.ext (zB w (.map #[] 0))).cell 3 _ rfl;have hmx:(12:Nat) < maxLen:=by decide
 have hmm:=@run_makeMap prog;clear hF hOp hO hs hok hL hnd hOm k1 k2;go_enter func122,ntmps122;go_wp2;clear c3;go_loopw [16] (fun i wr=>∃ k:Nat,i = .int .i64 k/\k<=O.length/\Hid (MapB wr w.heap.size k (O.take k))/\Hid (Below w.heap.size w wr)) (fun i _=>O.length - (intOf i).toNat)
 case atStart=>exact ⟨0,rfl,by omega,zE (mapB_made w),zE (zB _ _)⟩
 case round =>
  obtain ⟨k,rfl,hk,HM,HB⟩:=hrel;by_cases hlt:k < O.length
  ·obtain ⟨bo,oo,rfl,hc,hx⟩:=(zY HO.out).2 k hlt
   have hc:=zC HB.out hc;have hnot:O[k] ∉ O.take k:=fun hm=>by
    obtain ⟨j,hj,he⟩:=List.mem_take_iff_getElem.1 hm;have:=(List.getElem_inj HND.out).1 he;omega
   have htk:O.take (k+1)=O.take k++[O[k]]:=List.take_succ_eq_append_getElem hlt;obtain ⟨w',hr,hM',hg⟩:=mapB_put HM.out hx hnot (by omega);rw [<- htk] at hM';have HM2:=zE hM';have HB2:=zE (HB.out.grown hg HB.out.size (fun q e=>by cases e;exact Nat.le_refl _));clear hM' hg htk hnot;unfold zK at hc;rw [Nat.mul_one] at hc;generalize O[k]=x at *;go_wp2;go_roundw
   ·exact ⟨k+1,by go_num,by omega,HM2,HB2⟩
   ·simp [intOf];omega
  ·obtain rfl:k=O.length:=by omega
   have hM:=HM.out;rw [List.take_length] at hM;have HM:=zE hM;clear hM;go_wp2;go_loopw [25] (fun i wq=>∃ (k:Nat) (L:List Int),i = .int .i64 k/\k<=S.length/\Hid (MapB wq w.heap.size O.length L)/\Hid (Below w.heap.size w wq)/\Hid ((∀ x,x∈L↔x∈O/\x ∉ S.take k)/\∀ j,j < k->(hj:j < S.length)->S[j]∈O/\∀ h0:0 < j,S[j - 1] < S[j])) (fun i _=>S.length - (intOf i).toNat)
   case atStart=>exact ⟨0,O,rfl,by omega,HM,HB,zE ⟨fun x=>by simp,fun j hj=>absurd hj (by omega)⟩⟩
   case round =>
    clear HM HB;obtain ⟨k,L,rfl,hk,HM,HB,HH⟩:=hrel;by_cases hlt:k < S.length
    ·obtain ⟨bz,oz,rfl,hc,hx⟩:=(zY HS.out).2 k hlt
     have hc:=zC HB.out hc;have hlook:=mapB_look HM.out hx;have hT:=zE (fun h:IsT (zBO N) S=>isT_take h k hlt);have hLm:=zE (HH.out.1 S[k]);have hLS:=HH.out.2;unfold zK at hc;rw [Nat.mul_one] at hc;have hcp:0 < k->∃ y:Int,S[k - 1]? = some y/\zK wr bz (oz+(k - 1)) (.int .i64 y):=fun h0=>by
      obtain ⟨b2,o2,hh,hc2,_⟩:=(zY HS.out).2 (k - 1) (by omega);cases hh;have:=zC HB.out hc2;rw [Nat.mul_one] at this;exact ⟨S[k - 1],List.getElem?_eq_getElem (by omega),this⟩
     have hbad:S[k] ∉ L->zDA N S=31:=fun h=>K2.out (fun hT'=>by
      obtain ⟨h1,h2,_⟩:=hT.out hT';exact h (hLm.out.2 ⟨(HOM.out _).2 h1,h2⟩))
     have hbad2:∀ y,(h0:0 < k)->S[k - 1]? = some y->S[k] < y->zDA N S=31:=fun y h0 hy hlt'=>K2.out (fun hT'=>by
      obtain ⟨_,_,h3⟩:=hT.out hT';have:=h3 h0;rw [List.getElem?_eq_getElem (by omega)] at hy;have hy:=Option.some.inj hy;omega)
     have hstep:S[k]∈L->(∀ y,(h0:0 < k)->S[k - 1]? = some y->¬ S[k] < y)->(∀ x,x∈L.erase S[k]↔x∈O/\x ∉ S.take (k+1))/\∀ j,j < k+1->(hj:j < S.length)->S[j]∈O/\∀ h0:0 < j,S[j - 1] < S[j]:=fun hin hle=>by
      have hLnd:L.Nodup:=by obtain ⟨D,_,h,_⟩:=HM.out;exact h
      have hin2:=hLm.out.1 hin;refine ⟨fun x=>?_,fun j hj hjl=>?_⟩
      ·rw [hLnd.mem_erase_iff,HH.out.1 x,List.take_succ_eq_append_getElem hlt,List.mem_append,List.mem_singleton]
       constructor
       ·rintro ⟨a1,a2,a3⟩;exact ⟨a2,fun h=>h.elim a3 a1⟩
       ·rintro ⟨a1,a2⟩;exact ⟨fun h=>a2 (.inr h),a1,fun h=>a2 (.inl h)⟩
      ·by_cases e:j=k
       ·subst e
        refine ⟨hin2.1,fun h0=>?_⟩;have h3:=hle _ h0 (List.getElem?_eq_getElem (by omega));have h4:S[j - 1]≠S[j]:=fun e=>hin2.2 (List.mem_take_iff_getElem.2 ⟨j - 1,by omega,e⟩)
        omega
       ·exact hLS j (by omega) hjl
     have HBAD:=zE hbad;have HBAD2:=zE hbad2;have HSTEP:=zE hstep;have HCP:=zE hcp;clear hbad hbad2 hstep hLm hT hLS hcp;by_cases hin:S[k]∈L
     ·rw [decide_eq_true hin] at hlook
      obtain ⟨w',hr,hM',hg⟩:=mapB_del HM.out hx hin 0;have HM2:=zE hM';have HB2:=zE (HB.out.grown hg HB.out.size (fun q e=>by cases e;exact Nat.le_refl _));have HS2:=zE (HSTEP.out hin);clear hM' hg HSTEP HBAD hin;by_cases h0:0 < k
      ·obtain ⟨y,hy,hcy⟩:=HCP.out h0
       have HY:=zE hy;have hw1:IntKind.i64.wrap ((k:Int) - 1)=((k - 1:Nat) : Int):=by rw [IntWalk.i64_in _ (by omega)];omega
       have hkl:((k - 1:Nat) : Int) < S.length:=by omega
       unfold zK at hcy;clear hy HCP;by_cases hyx:S[k] < y
       ·have e1:=HBAD2.out y h0 HY.out hyx;clear HBAD2 HS2 HM2 HB2 hr;generalize S[k]=x at *;go_wp2;go_ret;exact ⟨zBT e1.symm,HB.out⟩
       ·have HS3:=zE (HS2.out (fun y' h0 hy'=>by rw [HY.out] at hy';cases hy';exact hyx))
        clear HBAD2 HS2;generalize S[k]=x at *;go_wp2;go_roundw
        ·exact ⟨k+1,_,by go_num,by omega,HM2,HB2,HS3⟩
        ·simp [intOf];omega
      ·obtain rfl:k=0:=by omega
       rw [Nat.add_zero] at hc;have HS3:=zE (HS2.out (fun y' h0=>absurd h0 (by omega)));clear HBAD2 HS2 HCP;generalize S[0]=x at *;go_wp2;go_roundw
       ·exact ⟨1,_,by go_num,by omega,HM2,HB2,HS3⟩
       ·simp [intOf];omega
     ·rw [decide_eq_false hin] at hlook;have e1:=HBAD.out hin;clear HBAD HBAD2 HSTEP hin HCP;generalize S[k]=x at *;go_wp2;go_ret;exact ⟨zBT e1.symm,HB.out⟩
    ·have e1:=K1.out (isT_of (fun j hj=>by
      obtain ⟨h1,h2⟩:=HH.out.2 j (by omega) hj;exact ⟨(HOM.out _).1 h1,h2⟩))
     go_wp2;go_ret;exact ⟨zBT e1.symm,HB.out⟩
open Classical in
noncomputable def zHO (R:List Issue) (N:List Note) (S:List Int) (m:Int) : Int:=if zP R N=0 then (if IsT (zBO N) S then (if In m 1 999 then 0 else 2) else 31) else zP R N
theorem asked_ok {R:List Issue} {N:List Note} {S:List Int} {m:Int} (h1:zP R N=0) (h2:IsT (zBO N) S) (h3:In m 1 999) : zHO R N S m=0:=by unfold zHO;rw [if_pos h1,if_pos h2,if_pos h3]
theorem zPK (w:World) (vr vn vs:Value) (R:List Issue) (N:List Note) (S:List Int) (m:Int) (h:NoteArg w vr vn R N) (hk:zHN w) (hs:Sl zAM 1 w vs S) (hm:I64 m) :
  Calls prog 77 #[.agg #[vr,vn],vs,.int .i64 m] w fun e w'=>(∃ p,e = .returned (.tuple #[.pointer p,.int .i64 (zHO R N S m)])/\(zHO R N S m=0->∃ pf,p=some ⟨pf,0,none⟩/\FileAt w' pf vr vn R N))/\Below w.heap.size w w':=by
 have hb1:=zB w (.cells #[vr,vn] 27);have LB:=Lay.new w 27 #[vr,vn];have HA:=zE (h.ext hb1);have HK:=zE (hk.ext hb1);have HS:=zE (zJ zN hb1 hs);obtain ⟨ar,cr,rfl,_⟩:=zD h.reg.sl;obtain ⟨an,cn,rfl,_⟩:=zD h.sl;obtain ⟨az,capz,rfl,_⟩:=zD hs;have c0:=LB.cell 0 _ rfl;have c1:=LB.cell 1 _ rfl;have k1:Hid (zP R N≠0->zHO R N S m=zP R N):=fun h=>by unfold zHO;rw [if_neg h]
 have k2:Hid (zP R N=0->zDA N S≠0->zHO R N S m=zDA N S):=fun h h'=>by
  unfold zHO;unfold zDA at h' ⊢;rw [if_pos h];by_cases e:IsT (zBO N) S
  ·rw [if_pos e] at h';exact absurd rfl h'
  ·rw [if_neg e,if_neg e]
 have k3:Hid (zP R N=0->zDA N S=0->zHO R N S m=if inB m 1 999 then 0 else 2):=fun h h'=>by
  unfold zHO;unfold zDA at h';rw [if_pos h];by_cases e:IsT (zBO N) S
  ·rw [if_pos e]
   by_cases e2:In m 1 999
   ·rw [if_pos e2,zGY e2];rfl
   ·rw [if_neg e2,zGZ e2];rfl
  ·rw [if_neg e] at h';cases h'
 have hok:Hid (zP R N=0->zDL R N):=fun h=>(zBJ h).2
 clear h hk LB hs;go_enter func77,ntmps77;go_wp2_with fail;generalize w.alloc _=w1 at *;refine (opened_note _ _ _ R N HA.out HK.out).mono ?_;rintro e w2 ⟨⟨p,rfl,hp⟩,hb2⟩;have HB2:=zE (zA hb1 hb2);have HS2:=zE (zJ zN hb2 HS.out);clear c0 c1 hb1 hb2;by_cases hz:zP R N=0
 ·obtain ⟨pf,rfl,hF⟩:=hp hz
  have HF:=zE hF;have HOK:=zE (hok.out hz);have k2:=zE (k2.out hz);have k3:=zE (k3.out hz);rw [hz];clear hp hz k1 hok hF;go_wp2_with fail;refine (truth_note _ pf _ _ _ R N S HF.out HS2.out HOK.out).mono ?_;rintro e w3 ⟨rfl,hb3⟩;have HB3:=zE (zA HB2.out hb3);have HF3:=zE (HF.out.ext hb3);clear hb3;by_cases ht:zDA N S=0
  ·have k3:=zE (k3.out ht)
   rw [ht];clear k2 ht;go_wp2_with fail;refine (zNB _ 1 999 m _ ⟨_,rfl,zR _ _ _ 0 _ rfl⟩ hm).mono ?_;rintro e w4 ⟨rfl,hb4⟩;have hb34:=zA (zB _ _) hb4;have HB4:=zE (zA HB3.out hb34);have HF4:=zE (HF3.out.ext hb34);clear hb4 hb34;by_cases hi:inB m 1 999=true
   ·rw [hi]
    have HC:Hid (zHO R N S m=0):=by have hc:=k3.out;rw [hi] at hc;exact hc
    clear k3 hi;go_wp2;go_ret2;exact ⟨⟨_,by rw [HC.out];rfl,fun _=>⟨_,rfl,HF4.out⟩⟩,HB4.out⟩
   ·have hi:=zGD hi
    rw [hi];have HC:Hid (zHO R N S m=2):=by have hc:=k3.out;rw [hi] at hc;exact hc
    clear k3 hi;go_wp2;go_ret2;exact ⟨⟨_,by rw [HC.out];rfl,fun h=>by rw [HC.out] at h;cases h⟩,HB4.out⟩
  ·have HC:=zE (k2.out ht);have HT:=zE ht;clear k3 k2;generalize zDA N S=t at *;go_wp2;go_ret2;exact ⟨⟨_,by rw [HC.out];rfl,fun h=>by rw [HC.out] at h;exact absurd h HT.out⟩,HB3.out⟩
 ·have HC:=zE (k1.out hz);have HZ:=zE hz;clear k1 k2 k3 hok hp;generalize zP R N=t at *;go_wp2;go_ret2;exact ⟨⟨_,by rw [HC.out];rfl,fun h=>by rw [HC.out] at h;exact absurd h HZ.out⟩,HB2.out⟩
end
section
open Go.RowKit
def Rv (v:Value) : Option (DataW Value×List MemPlace):=some (.held v,[])
theorem rv_inv {v u:Value} {ps:List MemPlace} (h:Rv v=some (.held u,ps)) : v=u:=by
 unfold Rv at h;simp only [Option.some.injEq,Prod.mk.injEq,DataW.held.injEq] at h;exact h.1
def zGF (w:World) (b n:Nat) (f:Int->Option Value) : Prop :=
 ∃ D:DataW Value,w.ownsMap Tryz.prog 3 Rv b n D /\
  ∀ x,I64 x->Maps.has D (.int .i64 x)=(f x).isSome/\∀ z,D.atKey (.int .i64 x) (.held z) = .held ((f x).getD z)
theorem zGF.same {w w':World} {b n:Nat} {f:Int->Option Value} (h:zGF w b n f) (e:w'.heap[b]? = w.heap[b]?) : zGF w' b n f:=by
 obtain ⟨D,h1,h2⟩:=h;exact ⟨D,zMO h1 e,h2⟩
theorem zGF.lt {w:World} {b n:Nat} {f:Int->Option Value} (h:zGF w b n f) : b < w.heap.size:=by obtain ⟨D,h1,h2⟩:=h;exact h1.lt
theorem zGF.is {w:World} {b n:Nat} {f:Int->Option Value} (h:zGF w b n f) : ∃ es ck,w.heap[b]? = some (.map es ck):=by obtain ⟨D,⟨es,ck,hb,_⟩,_⟩:=h;exact ⟨es,ck,hb⟩
theorem zGF.ext {w w':World} {b n:Nat} {f:Int->Option Value} (hb:Below w.heap.size w w') (h:zGF w b n f) : zGF w' b n f:=h.same (hb.block b h.lt)
theorem zGF.mono {w:World} {b n n':Nat} {f:Int->Option Value} (h:zGF w b n f) (hn:n<=n') : zGF w b n' f:=by
 obtain ⟨D,h1,h2⟩:=h;exact ⟨D,h1.mono hn,h2⟩
theorem zGF.eqv {w:World} {b n:Nat} {f g:Int->Option Value} (h:zGF w b n f) (e:∀ x,I64 x->f x=g x) : zGF w b n g:=by
 obtain ⟨D,h1,h2⟩:=h;exact ⟨D,h1,fun x hx=>by rw [<- e x hx];exact h2 x hx⟩
theorem zMY (w:World) : zGF (w.alloc (.map #[] 0)) w.heap.size 0 (fun _=>none) :=
 ⟨.map [],World.ownsMap_made w _ _ _,fun x _=>⟨by simp [Maps.has],fun z=>by simp [DataW.atKey]⟩⟩
theorem zFS {t e:TypeId} (ht:Tryz.prog.underlying t=some (.map 3 e)) {w:World} {z:Value} (hz:(zeroValue e).run Tryz.prog w = .ok z w) {b n:Nat} {f:Int->Option Value} (h:zGF w b n f) {x:Int} (hx:I64 x) :
  (Instr.lookup t (.map (some b)) (.int .i64 x) false).run Tryz.prog w = .ok ((f x).getD z) w:=by
 obtain ⟨D,ho,hD⟩:=h;obtain ⟨v,ps,hr,hv⟩:=ho.lookup zCS ht hz (zd:=.held z) (zp:=[]) rfl (zJN hx);rw [(hD x hx).2] at hv;rw [hr,rv_inv hv]
theorem mapV_look_ok {t e:TypeId} (ht:Tryz.prog.underlying t=some (.map 3 e)) {w:World} {z:Value} (hz:(zeroValue e).run Tryz.prog w = .ok z w) {b n:Nat} {f:Int->Option Value} (h:zGF w b n f) {x:Int} (hx:I64 x) :
  (Instr.lookup t (.map (some b)) (.int .i64 x) true).run Tryz.prog w = .ok (.tuple #[(f x).getD z,.bool (f x).isSome]) w:=by
 obtain ⟨D,ho,hD⟩:=h;obtain ⟨v,ps,hr,hv⟩:=ho.look_ok zCS ht hz (zd:=.held z) (zp:=[]) rfl (zJN hx);rw [(hD x hx).2] at hv;rw [hr,rv_inv hv,(hD x hx).1]
theorem zKU {t e:TypeId} (ht:Tryz.prog.underlying t=some (.map 3 e)) {w:World} {b n:Nat} {f:Int->Option Value} (h:zGF w b n f) {x:Int} (hx:I64 x) (v:Value) (hn:n < maxLen) :
  ∃ w',(Instr.mapUpdate t (.map (some b)) (.int .i64 x) v).run Tryz.prog w = .ok () w'/\zGF w' b (n+1) (fun y=>if y=x then some v else f y)/\w.grownBy w' (some b):=by
 obtain ⟨D,ho,hD⟩:=h;obtain ⟨w',hr,ho',hg⟩:=ho.update zCS ht hn (zJN hx) (show Rv v=some (.held v,[]) from rfl);refine ⟨w',hr,⟨_,ho',fun y hy=>?_⟩,hg⟩;by_cases e:y=x
 ·subst e;exact ⟨by rw [Maps.has_put_same ho.isMap (zGP _)];simp,fun z=>by rw [Maps.atKey_put_same ho.isMap (zGP _)];simp⟩
 ·exact ⟨by rw [Maps.has_put_other (zNH e),(hD y hy).1];simp [e],fun z=>by rw [Maps.atKey_put_other (zNH e),(hD y hy).2];simp [e]⟩
end
section
open Tryz
open Go.RowKit Go.Shelf
theorem zJR:Enters prog 158:=enters_of func158 (by kernel_rfl) rfl
abbrev forceFn (k f s u m i:Nat) : Value:=.func (.func 158) #[] #[.pointer (some ⟨k,0,none⟩),.pointer (some ⟨f,0,none⟩),.pointer (some ⟨s,0,none⟩),.pointer (some ⟨u,0,none⟩),.pointer (some ⟨m,0,none⟩),.pointer (some ⟨i,0,none⟩)]
structure FBox (w:World) (k f s u mb i mp pf:Nat) (vs:Value) (m:Int) : Prop where
 ck:zK w k 0 (.map (some mp))
 cf:zK w f 0 (.pointer (some ⟨pf,0,none⟩))
 cs:zK w s 0 vs
 cu:zK w u 0 (.slice none 0 0)
 cm:zK w mb 0 (.int .i64 m)
 ci:zK w i 0 (forceFn k f s u mb i)
 ne:k≠mp/\f≠mp/\s≠mp/\u≠mp/\mb≠mp/\i≠mp
theorem FBox.ext {w w':World} {k f s u mb i mp pf:Nat} {vs:Value} {m:Int} (hb:Below w.heap.size w w') (h:FBox w k f s u mb i mp pf vs m) : FBox w' k f s u mb i mp pf vs m :=
 ⟨zC hb h.ck,zC hb h.cf,zC hb h.cs,zC hb h.cu,zC hb h.cm,zC hb h.ci,h.ne⟩
theorem FBox.grown {w w':World} {k f s u mb i mp pf:Nat} {vs:Value} {m:Int} (hg:w.grownBy w' (some mp)) (h:FBox w k f s u mb i mp pf vs m) : FBox w' k f s u mb i mp pf vs m :=
 ⟨zNL hg h.ne.1 h.ck,zNL hg h.ne.2.1 h.cf,zNL hg h.ne.2.2.1 h.cs,zNL hg h.ne.2.2.2.1 h.cu,zNL hg h.ne.2.2.2.2.1 h.cm,zNL hg h.ne.2.2.2.2.2 h.ci,h.ne⟩
def Mem (w:World) (mp n:Nat) (S:List Int) (m:Int) (N:List Note) : Prop:=∃ g,zGF w mp n g/\∀ x v,g x=some v->∃ j:Nat,x=j/\v = .bool (fAt S m N j)
theorem Mem.ext {w w':World} {mp n:Nat} {S:List Int} {m:Int} {N:List Note} (hb:Below w.heap.size w w') (h:Mem w mp n S m N) : Mem w' mp n S m N:=by
 obtain ⟨g,h1,h2⟩:=h;exact ⟨g,h1.ext hb,h2⟩
theorem Mem.lt {w:World} {mp n:Nat} {S:List Int} {m:Int} {N:List Note} (h:Mem w mp n S m N) : mp < w.heap.size:=by
 obtain ⟨g,h1,h2⟩:=h;exact h1.lt
theorem Mem.put {w:World} {mp n:Nat} {S:List Int} {m:Int} {N:List Note} (h:Mem w mp n S m N) (j:Nat) (hj:j<=1000) (hn:n < maxLen) :
  ∃ w',(Instr.mapUpdate 243 (.map (some mp)) (.int .i64 j) (.bool (fAt S m N j))).run prog w = .ok () w'/\Mem w' mp (n+1) S m N/\w.grownBy w' (some mp):=by
 obtain ⟨g,h1,h2⟩:=h;obtain ⟨w',hr,hM,hg⟩:=zKU underlying243 h1 (x:=j) ⟨by omega,by omega⟩ (.bool (fAt S m N j)) hn;refine ⟨w',hr,⟨_,hM,fun x v hx=>?_⟩,hg⟩;by_cases e:x=(j:Int)
 ·subst e;simp at hx;exact ⟨j,rfl,hx.symm⟩
 ·rw [if_neg e] at hx;exact h2 x v hx
theorem zAV {w w':World} {g:Option Nat} (h:Below w.heap.size w w') : w.grownBy w' g:=⟨h.os,h.tape,h.output,h.size,fun k hk _=>h.block k hk⟩
theorem zHS {w0 w:World} {a:Option Addr} {n c:Nat} {N:List Note} (h:Sl zBL 10 w0 (.slice a n c) N) (hb:Below w0.heap.size w0 w) (j:Nat) (hj:j < N.length) : ∃ b off,a=some ⟨b,off,none⟩/\zBL w b (off+j*10) N[j]:=(zY (zJ zAN hb h)).2 j hj
theorem fAt_false {S:List Int} {m:Int} {N:List Note} {k:Nat} (hk:k < N.length) (h:¬ (inF S m N[k]=true/\∀ j,k < j->∀ hj:j < N.length,fAt S m N j=true->N[j].ca≠N[k].num)) : fAt S m N k=false:=by
 have:=fun h2=>h ((fAt_iff S m N k hk).1 h2)
 simpa using this
theorem zLK (w0:World) (k f s u mb i mp pf:Nat) (vr vn vs:Value) (R:List Issue) (N:List Note) (S:List Int) (m:Int) (hF:FileAt w0 pf vr vn R N) (hN:Sl zBL 10 w0 vn N) (hS:Sl zAM 1 w0 vs S) (h12:N.length<=12) (hmp:w0.heap.size<=mp) (hm:I64 m) :
  ∀ (t j n:Nat) (w:World),N.length - j<=t->j < N.length->Below w0.heap.size w0 w->FBox w k f s u mb i mp pf vs m->Mem w mp n S m N->n+2 ^ (N.length - j)<=1000000000 ->
   Calls prog 158 #[.int .i64 j,.pointer (some ⟨k,0,none⟩),.pointer (some ⟨f,0,none⟩),.pointer (some ⟨s,0,none⟩),.pointer (some ⟨u,0,none⟩),.pointer (some ⟨mb,0,none⟩),.pointer (some ⟨i,0,none⟩)] w fun e w' =>
    e = .returned (.bool (fAt S m N j))/\Below w0.heap.size w0 w'/\w.grownBy w' (some mp)/\∃ n',n'<=n+2 ^ (N.length - j)/\Mem w' mp n' S m N:=by
 obtain ⟨vd,vo,O,hL,_,_,_⟩:=hF.is;obtain ⟨an,capn,rfl,hmn⟩:=zD hN;obtain ⟨az,capz,rfl,hmz⟩:=zD hS;have HL:=zE hL;have HN:=zE hN;have HS:=zE hS;have hbig:(1000000000:Nat) < maxLen:=by decide
 clear hF hL hN hS;intro t;induction t with
 | zero=>intro j n w h1 h2;omega
 | succ t ih =>
   intro j n w ht hj hb hbx hmem hn;have eg:=zJR;unfold Enters at eg;have IH:=zE ih;have HBX:=zE hbx;have HB:=zE hb;have HM:=zE hmem;have ck:=hbx.ck;have cf:=hbx.cf;have hmem_lt:=hmem.lt;obtain ⟨g,hM,hg⟩:=hmem;have hji:(j:Int) < N.length:=by omega
   have hlook:=mapV_look_ok underlying243 (Tryz.zeroValue4 w) hM (x:=(j:Int)) (show I64 (j:Int) from ⟨by omega,by omega⟩);unfold zK at ck cf;clear ih hbx hb;cases hgj:g j with
   | some v =>
     obtain ⟨j',e,rfl⟩:=hg _ _ hgj;obtain rfl:j=j':=by omega
     rw [hgj] at hlook;simp only [Option.getD_some,Option.isSome_some] at hlook;clear hM hg hgj e;go_enter func158,ntmps158;go_wp2;go_ret;exact ⟨rfl,HB.out,zBH _ _ _ rfl rfl rfl rfl,n,Nat.le_add_right _ _,HM.out⟩
   | none =>
     rw [hgj] at hlook;simp only [Option.getD_none,Option.isSome_none] at hlook;obtain ⟨bn,on,rfl,⟨q0,q1,q2,q3,q4,q5,q6,q7,q8,q9⟩,hnum⟩:=zHS HN.out HB.out j hj;have l1:=(Lay.ext HL.out HB.out).cell 1 _ rfl;have hfi:=zE (fAt_iff S m N j hj);have hff:=zE (fun h=>fAt_false (S:=S) (m:=m) hj h);have hIF:Hid (inF S m N[j]=((N[j].sg == 2 || decide (N[j].num∈S)) && inB m N[j].fr N[j].to)):=rfl;generalize hx:N[j]=x at *;have HX:=zE hx;clear hM hg hgj hx;unfold zK at q0 q1 q2 q3 q4 q5 q6 q7 q8 q9;have HXN:=zE hmem_lt;have hbn:=zB w (.cells #[.int .i64 x.num,.int .i64 x.day,.int .u8 x.sg,.int .i64 x.d,.int .i64 x.l,.int .i64 x.fr,.int .i64 x.to,.int .i64 x.ca,.bool x.use,.int .u8 x.ways] 74);have cs:=zC hbn HBX.out.cs;have cu:=zC hbn HBX.out.cu;have cm:=zC hbn HBX.out.cm;have hx:=(zBY w #[.int .i64 x.num,.int .i64 x.day,.int .u8 x.sg,.int .i64 x.d,.int .i64 x.l,.int .i64 x.fr,.int .i64 x.to,.int .i64 x.ca,.bool x.use,.int .u8 x.ways] 74).2;have x0:=hx 0 _ rfl;have x5:=hx 5 _ rfl;have x6:=hx 6 _ rfl;clear hx;have HBN:=zE hbn;have HXA:Hid (zK (w.alloc (.cells #[.int .i64 x.num,.int .i64 x.day,.int .u8 x.sg,.int .i64 x.d,.int .i64 x.l,.int .i64 x.fr,.int .i64 x.to,.int .i64 x.ca,.bool x.use,.int .u8 x.ways] 74)) w.heap.size 0 (.int .i64 x.num)):=zR _ _ _ 0 _ rfl;clear hbn;unfold zK at cs cu cm x0 x5 x6;by_cases hsg:x.sg=2
     case' pos =>
      have hsg':(x.sg == 2)=true:=by simpa using hsg
      have HY:Hid (inF S m x=inB m x.fr x.to):=by unfold Hid;rw [hIF.out,hsg'];simp
      clear hsg hIF;go_enter func158,ntmps158;go_wp2_with fail;refine (zDF _ _ [] x.num (zIR _ _ _ _ _)).mono ?_;intro e w' hr;rcases hr.both with ⟨h1,_,_⟩ | ⟨_,rfl,rfl⟩
      ·simp at h1
      clear hr;generalize w.alloc _=wA at *;go_wp2_with fail;refine (zNB _ x.fr x.to m _ ⟨_,rfl,by exact zR _ _ _ 0 _ rfl⟩ hm).mono ?_;rintro e wB ⟨rfl,hbB⟩;have hbB2:=zA (zB _ _) hbB;have HBW:=zE (zA HBN.out hbB2);have HXC:Hid (zK wB w.heap.size 0 (.int .i64 x.num)):=zC hbB2 HXA.out;clear hbB2;generalize inB m x.fr x.to=y0 at *;clear hbB q0 q1 q2 q3 q4 q5 q6 q7 q8 q9 ck cf cs cu cm l1 hlook hnum x0 x5 x6;go_wp2
     case' neg =>
      have hsg':(x.sg == 2)=false:=by simpa using hsg
      clear hsg;by_cases hin:x.num∈S
      case' pos =>
       have HY:Hid (inF S m x=inB m x.fr x.to):=by unfold Hid;rw [hIF.out,hsg'];simp [hin]
       clear hIF;go_enter func158,ntmps158;go_wp2_with fail;refine (zDF _ _ S x.num (zJ zN (zA HB.out HBN.out) HS.out)).mono ?_;intro e w' hr;rcases hr.both with ⟨_,rfl,rfl⟩ | ⟨h1,_,_⟩
       rotate_left
       ·exact absurd hin h1
       clear hr hin;generalize w.alloc _=wA at *;go_wp2_with fail;refine (zDF _ _ [] x.num (zIR _ _ _ _ _)).mono ?_;intro e w' hr;rcases hr.both with ⟨h1,_,_⟩ | ⟨_,rfl,rfl⟩
       ·simp at h1
       clear hr;go_wp2_with fail;refine (zNB _ x.fr x.to m _ ⟨_,rfl,by exact zR _ _ _ 0 _ rfl⟩ hm).mono ?_;rintro e wB ⟨rfl,hbB⟩;have hbB2:=zA (zB _ _) hbB;have HBW:=zE (zA HBN.out hbB2);have HXC:Hid (zK wB w.heap.size 0 (.int .i64 x.num)):=zC hbB2 HXA.out;clear hbB2;generalize inB m x.fr x.to=y0 at *;clear hbB q0 q1 q2 q3 q4 q5 q6 q7 q8 q9 ck cf cs cu cm l1 hlook hnum x0 x5 x6;go_wp2
      case' neg =>
       have HY:Hid (inF S m x=false):=by unfold Hid;rw [hIF.out,hsg'];simp [hin]
       clear hIF;go_enter func158,ntmps158;go_wp2_with fail;refine (zDF _ _ S x.num (zJ zN (zA HB.out HBN.out) HS.out)).mono ?_;intro e w' hr;rcases hr.both with ⟨h1,_,_⟩ | ⟨_,rfl,rfl⟩
       ·exact absurd h1 hin
       clear hr hin;have HBW:=HBN;have HXC:=HXA;clear q0 q1 q2 q3 q4 q5 q6 q7 q8 q9 ck cf cs cu cm l1 hlook hnum x0 x5 x6;clear HBN HXA;generalize w.alloc _=wB at *;go_wp2
     all_goals
      have hxb:=HXC.out;unfold zK at hxb;clear hxb;have HPW:Hid (2 ^ (N.length - j)=2*2 ^ (N.length - (j+1))):=by unfold Hid;rw [show N.length - j=N.length - (j+1)+1 by omega,Nat.pow_succ,Nat.mul_comm]
      go_loopw [12,13] (fun b i wq=>∃ (q cn:Nat) (y:Bool),i = .int .i64 q/\b = .bool y/\j+1<=q/\q<=N.length/\Hid (y=true↔inF S m x=true/\∀ l,j < l->l < q->∀ hl:l < N.length,fAt S m N l=true->N[l].ca≠x.num) /\
       Hid (Below w0.heap.size w0 wq/\wB.grownBy wq (some mp)/\Mem wq mp cn S m N/\cn+2*2 ^ (N.length - q)<=n+2 ^ (N.length - j))) (fun _ i _=>N.length - (intOf i).toNat)
      case atStart=>exact ⟨j+1,n,_,by go_num,rfl,by omega,by omega,zE ⟨fun h=>⟨by rw [HY.out];exact h,fun l h1 h2=>absurd h2 (by omega)⟩,fun h=>by rw [HY.out] at h;exact h.1⟩,zE ⟨zA HB.out HBW.out,zBH _ _ _ rfl rfl rfl rfl,HM.out.ext HBW.out,by rw [HPW.out];exact Nat.le_refl _⟩⟩
      case round =>
       obtain ⟨q,cn,y,rfl,rfl,hq1,hq2,HIFF,HH⟩:=hrel;obtain ⟨hbq,hgq,hmq,hnq⟩:=HH.out;have hbxq:=zE ((HBX.out.ext HBW.out).grown hgq);have HNQ:=zE hnq;have hpos:0 < 2 ^ (N.length - q):=Nat.two_pow_pos _;have ck:=hbxq.out.ck;have cf:=hbxq.out.cf;have l1:=(Lay.ext HL.out hbq).cell 1 _ rfl;have hput:=zE (hmq.put j (by omega) (by omega));have HQ:=zE (And.intro hbq (And.intro hgq hmq));clear hbq hgq hmq HH hpos hnq;unfold zK at ck cf;have fin:∀ v:Bool,fAt S m N j=v->∃ w9,(Instr.mapUpdate 243 (.map (some mp)) (.int .i64 j) (.bool v)).run prog wr = .ok () w9/\Hid (Below w0.heap.size w0 w9/\w.grownBy w9 (some mp)/\∃ n',n'<=n+2 ^ (N.length - j)/\Mem w9 mp n' S m N):=fun v hv=>by
        obtain ⟨w9,hr,hM9,hg9⟩:=hput.out;rw [hv] at hr;refine ⟨w9,hr,HQ.out.1.grown hg9 HQ.out.1.size (fun r e=>by cases e;exact hmp),zAG (zAV HBW.out) (zAG HQ.out.2.1 hg9),cn+1,?_,hM9⟩;have hpos:0 < 2 ^ (N.length - q):=Nat.two_pow_pos _;have:=HNQ.out;omega
       cases y with
       | false =>
         have e1:fAt S m N j=false:=hff.out (fun h=>by
          have:=HIFF.out.2 ⟨h.1,fun l a1 a2 hl=>h.2 l a1 hl⟩;cases this)
         obtain ⟨w9,hr,HR⟩:=fin _ e1;clear fin hput HIFF l1 cf;go_wp2;go_ret;exact ⟨by rw [e1];rfl,HR.out.1,HR.out.2⟩
       | true =>
         have HT:=zE (HIFF.out.1 rfl);clear HIFF;by_cases hql:q < N.length
         case neg =>
          obtain rfl:q=N.length:=by omega
          have e1:fAt S m N j=true:=hfi.out.2 ⟨HT.out.1,fun l a1 hl=>HT.out.2 l a1 hl hl⟩;obtain ⟨w9,hr,HR⟩:=fin _ e1;clear fin hput;go_wp2;go_ret;exact ⟨by rw [e1];rfl,HR.out.1,HR.out.2⟩
         case pos =>
          clear fin hput;obtain ⟨b2,o2,hh,⟨_,_,_,_,_,_,_,p7,_⟩,_⟩:=zHS HN.out HQ.out.1 q hql;cases hh;have hxb:zK wr w.heap.size 0 (.int .i64 x.num):=zNL HQ.out.2.1 (by have:=HXN.out;omega) HXC.out;have ci:=hbxq.out.ci;unfold zK at p7 hxb ci;have hql2:(q:Int) < N.length:=by omega
          have HPQ:Hid (2 ^ (N.length - q)=2*2 ^ (N.length - (q+1))):=by unfold Hid;rw [show N.length - q=N.length - (q+1)+1 by omega,Nat.pow_succ,Nat.mul_comm]
          have HSTEP:∀ y2:Bool,Hid ((y2=true↔(fAt S m N q=true->N[q].ca≠x.num))->(y2=true↔inF S m x=true/\∀ l,j < l->l < q+1->∀ hl:l < N.length,fAt S m N l=true->N[l].ca≠x.num)):=fun y2 h=>by
           rw [h];constructor
           ·intro h3
            refine ⟨HT.out.1,fun l a1 a2 hl a3=>?_⟩;by_cases el:l=q
            ·subst el;exact h3 a3
            ·exact HT.out.2 l a1 (by omega) hl a3
           ·rintro ⟨_,h2⟩ h3;exact h2 q (by omega) (by omega) hql h3
          have HCALL:=zE (IH.out q cn wr.drew (by omega) hql (HQ.out.1.drew) (hbxq.out.ext (zO wr)) (HQ.out.2.2.ext (zO wr)) (by have:=HNQ.out;have:=HPW.out;omega));generalize N[q].ca=ca at *;by_cases hca:ca=x.num
          ·have hca':(ca != x.num)=false:=by simpa using hca
           have hca2:(ca == x.num)=true:=by simpa using hca
           generalize fAt S m N q=z at *;have HS2:=zE ((HSTEP (!z)).out (by cases z <;> simp [hca]));clear HSTEP hca;go_wp2;go_still_tail 15,(by kernel_rfl)
           go_wp2_with (go_at_fn 158;refine HCALL.out.mono ?_;rintro e w' ⟨rfl,hb',hg',n2,hn2,hm2⟩);have HE:=zE (And.intro hb' (And.intro (zAG HQ.out.2.1 (zAG (zAV (zO wr)) hg')) (And.intro hm2 (show n2+2*2 ^ (N.length - (q+1))<=n+2 ^ (N.length - j) by have:=HNQ.out;have:=HPQ.out;omega))));clear hb' hg' hm2 hn2 HCALL;go_wp2;go_roundw
           ·exact ⟨q+1,n2,_,by go_num,rfl,by omega,by omega,HS2,HE⟩
           ·simp [intOf];omega
          ·have hca':(ca != x.num)=true:=by simpa using hca
           have hca2:(ca == x.num)=false:=by simpa using hca
           have HS2:=zE ((HSTEP true).out (by simp [hca]));clear HSTEP hca HCALL;go_wp2;refine wp_region_quiet_lit (by kernel_rfl) (by kernel_rfl) (no_implicit_lambda% ?_);repeat ((with_reducible refine wpQuiet_step (fun K hK=>?_));go_simp;first | ((with_reducible refine hK _ ?_);clear hK K) | (refine hK _ (no_implicit_lambda% ?_);clear hK K) | (apply Exists.intro;(with_reducible refine ⟨fun _=>?_,hK _ ?_⟩);(fail);clear hK K))
           with_reducible refine wpQuiet_nil ?_
           intro _ hw9;obtain ⟨nq,hw8⟩:=hw9;subst hw8;have HE:=zE (And.intro (zA HQ.out.1 (zAJ wr nq)) (And.intro (zAG HQ.out.2.1 (zAV (zAJ wr nq))) (And.intro (HQ.out.2.2.ext (zAJ wr nq)) (show cn+2*2 ^ (N.length - (q+1))<=n+2 ^ (N.length - j) by have:=HNQ.out;have:=HPQ.out;omega))));go_wp2;go_roundw
           ·exact ⟨q+1,cn,true,by go_num,rfl,by omega,by omega,zE ⟨fun _=>HS2.out.1 trivial,fun _=>rfl⟩,HE⟩
           ·simp [intOf];omega
theorem own_kept1 {w w':World} {base:Nat} {e:TypeId} {sz n:Nat} {v:Value} {cs:List Value} {mp:Nat} (h:w.ownsRow base e sz v n cs) (hg:w.grownBy w' (some mp)) (hm:mp < base) : w'.ownsRow base e sz v n cs :=
 h.kept hg (.inr fun e=>by have:=(h.lt mp e).1;omega)
theorem zCI {W:World} {o x:Obj} {k:Nat} (h:W.heap[k]? = some x) : (W.alloc o).heap[k]? = some x:=(Below.heap_alloc W o k (Array.getElem?_eq_some_iff.1 h).1).trans h
theorem zJE (W:World) (o:Obj) (n:Nat) (h:W.heap.size=n) : (W.alloc o).heap[n]? = some o:=by subst h;exact World.alloc_heap_new W o
theorem seven_at (w:World) (o1 o2 o3 o4 o5 o6 o7:Obj) : let W:=((((((w.alloc o1).alloc o2).alloc o3).alloc o4).alloc o5).alloc o6).alloc o7
  W.heap[w.heap.size]? = some o1/\W.heap[w.heap.size+1]? = some o2/\W.heap[w.heap.size+2]? = some o3/\W.heap[w.heap.size+3]? = some o4/\W.heap[w.heap.size+4]? = some o5/\W.heap[w.heap.size+5]? = some o6/\W.heap[w.heap.size+6]? = some o7:=by
 refine ⟨zCI (zCI (zCI (zCI (zCI (zCI (zJE _ _ _ rfl)))))),zCI (zCI (zCI (zCI (zCI (zJE _ _ _ ?_))))),zCI (zCI (zCI (zCI (zJE _ _ _ ?_)))),zCI (zCI (zCI (zJE _ _ _ ?_))),zCI (zCI (zJE _ _ _ ?_)),zCI (zJE _ _ _ ?_),zJE _ _ _ ?_⟩;all_goals simp only [World.size_alloc]
theorem zIO {W:World} {b:Nat} {cs:Array Value} {t:TypeId} (h:W.heap[b]? = some (.cells cs t)) (j:Nat) (v:Value) (hv:cs[j]? = some v) : zK W b j v:=by
 have h':Lay W b cs t:=h;exact h'.cell j v hv
theorem mem_made {W:World} {mp:Nat} {S:List Int} {m:Int} (N:List Note) (n:Nat) (h:W.heap[mp]? = some (.map #[] 0)) : Mem W mp n S m N:=by
 have hlt:=(Array.getElem?_eq_some_iff.1 h).1;obtain ⟨W0,hW0⟩ : ∃ W0:World,W0.heap.size=mp:=⟨{ W with heap:=W.heap.take mp },by simp;omega⟩;have h1:zGF (W0.alloc (.map #[] 0)) mp 0 (fun _=>none):=by rw [<- hW0];exact zMY W0
 have h2:(W0.alloc (.map #[] 0)).heap[mp]? = some (.map #[] 0):=by rw [<- hW0];exact World.alloc_heap_new W0 _
 exact ⟨_,(h1.same (h.trans h2.symm)).mono (Nat.zero_le n),fun x v hx=>by cases hx⟩
theorem zPO (w:World) (pf:Nat) (vs:Value) (a:Option Addr) (ns cs:Nat) (hvs:vs = .slice a ns cs) (S:List Int) (m:Int) (N:List Note) :
  Calls prog 117 #[.pointer (some ⟨pf,0,none⟩),vs,.slice none 0 0,.int .i64 m] w fun e w' =>
   ∃ k f s u mb i mp,e = .returned (forceFn k f s u mb i)/\w.heap.size<=mp/\FBox w' k f s u mb i mp pf vs m/\Mem w' mp 0 S m N/\Below w.heap.size w w':=by
 subst hvs;have hmm:=@run_makeMap prog;go_enter func117,ntmps117;go_wp2;go_ret;refine ⟨w.heap.size+5,w.heap.size,w.heap.size+1,w.heap.size+2,w.heap.size+3,w.heap.size+6,w.heap.size+4,rfl,by omega,?_,?_,?_⟩
 ·obtain ⟨h1,h2,h3,h4,_,h6,h7⟩:=seven_at w (.cells #[.pointer (some ⟨pf,0,none⟩)] 149) (.cells #[.slice a ns cs] 28) (.cells #[.slice none 0 0] 28) (.cells #[.int .i64 m] 3) (.map #[] 0) (.cells #[.map (some (w.heap.size+4))] 243) (.cells #[forceFn (w.heap.size+5) w.heap.size (w.heap.size+1) (w.heap.size+2) (w.heap.size+3) (w.heap.size+6)] 196);exact ⟨zIO h6 0 _ rfl,zIO h1 0 _ rfl,zIO h2 0 _ rfl,zIO h3 0 _ rfl,zIO h4 0 _ rfl,zIO h7 0 _ rfl,by omega,by omega,by omega,by omega,by omega,by omega⟩
 ·refine mem_made _ _ ?_;exact (seven_at w (.cells #[.pointer (some ⟨pf,0,none⟩)] 149) (.cells #[.slice a ns cs] 28) (.cells #[.slice none 0 0] 28) (.cells #[.int .i64 m] 3) (.map #[] 0) (.cells #[.map (some (w.heap.size+4))] 243) (.cells #[forceFn (w.heap.size+5) w.heap.size (w.heap.size+1) (w.heap.size+2) (w.heap.size+3) (w.heap.size+6)] 196)).2.2.2.2.1
 ·exact zA (zB _ _) (zA (zB _ _) (zA (zB _ _) (zA (zB _ _) (zA (zB _ _) (zA (zB _ _) (zB _ _))))))
structure OnlyAt (X:Nat) (W W':World) : Prop where
 os:W'.os=W.os
 tape:W'.tape=W.tape
 output:W'.output=W.output
 size:W'.heap.size=W.heap.size
 block:∀ b,b≠X->W'.heap[b]? = W.heap[b]?
theorem zNR (X:Nat) (W:World) : OnlyAt X W W:=⟨rfl,rfl,rfl,rfl,fun _ _=>rfl⟩
theorem OnlyAt.set {X:Nat} {W W':World} (h:OnlyAt X W W') {j:Nat} {u:Value} : OnlyAt X W (W'.setCell ⟨X,j,none⟩ u) :=
 ⟨h.os,h.tape,h.output,by rw [<- h.size];simp,fun b hb=>(Below.heap_setCell W' ⟨X,j,none⟩ u b (by simpa using hb)).trans (h.block b hb)⟩
theorem OnlyAt.below {X B:Nat} {w W W':World} (h:OnlyAt X W W') (hX:B<=X) (hb:Below B w W) : Below B w W' :=
 ⟨h.os.trans hb.os,h.tape.trans hb.tape,h.output.trans hb.output,by rw [h.size];exact hb.size,fun k hk=>(h.block k (by omega)).trans (hb.block k hk)⟩
theorem OnlyAt.grown {X:Nat} {w W W':World} {g:Option Nat} (h:OnlyAt X W W') (hX:w.heap.size<=X) (hg:w.grownBy W g) : w.grownBy W' g :=
 ⟨h.os.trans hg.os,h.tape.trans hg.tape,h.output.trans hg.output,by rw [h.size];exact hg.size,fun k hk hne=>(h.block k (by omega)).trans (hg.block k hk hne)⟩
theorem OnlyAt.mem {X:Nat} {W W':World} {mp n:Nat} {S:List Int} {m:Int} {N:List Note} (h:OnlyAt X W W') (hX:mp≠X) (hm:Mem W mp n S m N) : Mem W' mp n S m N:=by
 obtain ⟨g,h1,h2⟩:=hm;exact ⟨g,h1.same (h.block mp hX),h2⟩
def noteV:Option Note->Value
 | some x=>.agg #[.int .i64 x.num,.int .i64 x.day,.int .u8 x.sg,.int .i64 x.d,.int .i64 x.l,.int .i64 x.fr,.int .i64 x.to,.int .i64 x.ca,.bool x.use,.int .u8 x.ways]
 | none=>.agg #[.int .i64 0,.int .i64 0,.int .u8 0,.int .i64 0,.int .i64 1,.int .i64 0,.int .i64 0,.int .i64 0,.bool false,.int .u8 0]
theorem by_note (w0:World) (k f s u mb i mp pf:Nat) (vr vn vs:Value) (R:List Issue) (N:List Note) (S:List Int) (m d:Int) (hF:FileAt w0 pf vr vn R N) (hN:Sl zBL 10 w0 vn N) (hS:Sl zAM 1 w0 vs S) (h12:N.length<=12) (hmp:w0.heap.size<=mp) (hm:I64 m)
  (n:Nat) (w:World) (hb:Below w0.heap.size w0 w) (hbx:FBox w k f s u mb i mp pf vs m) (hmem:Mem w mp n S m N) (hn:n+49152<=900000000) :
  Calls prog 116 #[.pointer (some ⟨pf,0,none⟩),forceFn k f s u mb i,.int .i64 d] w fun e w' =>
   e = .returned (noteV (zIG S m N d))/\Below w0.heap.size w0 w'/\w.grownBy w' (some mp)/\∃ n',n'<=n+49152/\Mem w' mp n' S m N:=by
 have eg:=zJR;unfold Enters at eg;obtain ⟨vd,vo,O,hL,_,_,_⟩:=hF.is;obtain ⟨an,capn,rfl,hmn⟩:=zD hN;have hmlt:=hmem.lt;have HF:=zE hF;have HL:=zE hL;have HN:=zE hN;have HS:=zE hS;have HB:=zE hb;have HBX:=zE hbx;have HM:=zE hmem;have l1:=((Lay.ext hL hb).ext (zB w (.cells #[.int .i64 0,.int .i64 0,.int .u8 0,.int .i64 0,.int .i64 0,.int .i64 0,.int .i64 0,.int .i64 0,.bool false,.int .u8 0] 74))).cell 1 _ rfl;clear hF hL hN hS hb hbx hmem;go_enter func116,ntmps116;go_wp2;have LX:=zE (Lay.new w 74 #[.int .i64 0,.int .i64 0,.int .u8 0,.int .i64 0,.int .i64 0,.int .i64 0,.int .i64 0,.int .i64 0,.bool false,.int .u8 0]);have HBW:=zE (zB w (.cells #[.int .i64 0,.int .i64 0,.int .u8 0,.int .i64 0,.int .i64 0,.int .i64 0,.int .i64 0,.int .i64 0,.bool false,.int .u8 0] 74));generalize w.alloc _=w1 at *;clear l1;have hw1:IntKind.i64.wrap ((N.length:Int) - 1)=(N.length:Int) - 1:=IntWalk.i64_in _ (by omega);go_loopw [7] (fun q wr=>∃ (c cn:Nat),q = .int .i64 ((c:Int) - 1)/\c<=N.length/\Hid (zIG S m N d=zKE N (fAt S m N) d c)/\Hid (Below w0.heap.size w0 wr/\w1.grownBy wr (some mp)/\Mem wr mp cn S m N)/\cn+c*4096<=n+49152) (fun q _=>(intOf q+1).toNat)
 case atStart=>exact ⟨N.length,n,rfl,Nat.le_refl _,zE rfl,zE ⟨zA HB.out HBW.out,zBH _ _ _ rfl rfl rfl rfl,HM.out.ext HBW.out⟩,by omega⟩
 case round =>
  clear hw1;obtain ⟨c,cn,rfl,hc,HQ,HH,hcn⟩:=hrel;obtain ⟨hbq,hgq,hmq⟩:=HH.out;have hlx:=LX.out.kept hgq (fun e=>by cases e;omega);have hbxq:=zE ((HBX.out.ext HBW.out).grown hgq);have hl1:=(Lay.ext HL.out hbq).cell 1 _ rfl;have HR:=zE (And.intro hbq (And.intro hgq hmq));clear hbq hgq hmq HH;cases c with
  | zero =>
    have q0:=hlx.cell 0 _ rfl;have q1:=hlx.cell 1 _ rfl;have q2:=hlx.cell 2 _ rfl;have q3:=hlx.cell 3 _ rfl;have q4:=hlx.cell 4 _ rfl;have q5:=hlx.cell 5 _ rfl;have q6:=hlx.cell 6 _ rfl;have q7:=hlx.cell 7 _ rfl;have q8:=hlx.cell 8 _ rfl;have q9:=hlx.cell 9 _ rfl;have f0:=hlx.frozen;have hll:=hlx.lt;clear hl1 hlx;have hn0:zIG S m N d=none:=HQ.out;have hne:mp≠w.heap.size:=by omega
    go_wp2;refine bodyPost_ret (v:=noteV none) (by simp [results,results116,go_sem,q0,q1,q2,q3,q4,q5,q6,q7,q8,q9,hll,noteV]) rfl ?_;have hO:=((((((((((zNR w.heap.size wr).set (j:=0) (u:=.int .i64 0)).set (j:=1) (u:=.int .i64 0)).set (j:=2) (u:=.int .u8 0)).set (j:=3) (u:=.int .i64 0)).set (j:=4) (u:=.int .i64 1)).set (j:=5) (u:=.int .i64 0)).set (j:=6) (u:=.int .i64 0)).set (j:=7) (u:=.int .i64 0)).set (j:=8) (u:=.bool false)).set (j:=9) (u:=.int .u8 0);refine ⟨by rw [hn0],hO.below (by have:=HB.out.size;omega) HR.out.1,hO.grown (Nat.le_refl _) (zAG (zAV HBW.out) HR.out.2.1),cn,by omega,hO.mem hne HR.out.2.2⟩
  | succ c =>
    have hci:((c+1:Nat) : Int) - 1=c:=by omega
    rw [hci];clear hci;have hcl:c < N.length:=by omega
    obtain ⟨bn,on,rfl,⟨q0,q1,q2,q3,q4,q5,q6,q7,q8,q9⟩,hnum⟩:=zHS HN.out HR.out.1 c hcl;have hyes:=zE (fun h1 h2=>noteTo_yes (f:=fAt S m N) (d:=d) hcl h1 h2);have hno:=zE (fun h=>noteTo_no (f:=fAt S m N) (d:=d) hcl h);have hnb:=zB wr (.cells #[.int .i64 N[c].num,.int .i64 N[c].day,.int .u8 N[c].sg,.int .i64 N[c].d,.int .i64 N[c].l,.int .i64 N[c].fr,.int .i64 N[c].to,.int .i64 N[c].ca,.bool N[c].use,.int .u8 N[c].ways] 74);have hLN:=Lay.new wr 74 #[.int .i64 N[c].num,.int .i64 N[c].day,.int .u8 N[c].sg,.int .i64 N[c].d,.int .i64 N[c].l,.int .i64 N[c].fr,.int .i64 N[c].to,.int .i64 N[c].ca,.bool N[c].use,.int .u8 N[c].ways];have hp2:2 ^ (N.length - c)<=4096:=by have:2 ^ (N.length - c)<=2 ^ 12:=Nat.pow_le_pow_right (by decide) (by omega);exact this
    have HCALL:=zE (zLK w0 k f s u mb i mp pf vr _ vs R N S m HF.out HN.out HS.out h12 hmp hm (N.length - c) c cn _ (Nat.le_refl _) hcl (zA HR.out.1 hnb) (hbxq.out.ext hnb) (HR.out.2.2.ext hnb) (by omega));generalize N[c]=x at *;have HX:=zE hlx;have HLN:=zE hLN;have HNB:=zE hnb;unfold zK at q0 q1 q2 q3 q4 q5 q6 q7 q8 q9;have x3:=hLN.cell 3 _ rfl;clear hlx hLN hnb;by_cases hd:x.d=d
    ·have hd':(x.d == d)=true:=by simpa using hd
     clear hd;generalize fAt S m N c=z at *;cases z with
     | true =>
       go_wp2_with (
        go_at_fn 158
        refine HCALL.out.mono ?_;rintro e w' ⟨rfl,hb',hg',n2,hn2,hm2⟩;have HE:=zE (And.intro hb' (And.intro (zAG HR.out.2.1 (zAG (zAV HNB.out) hg')) hm2));have hln:=(HLN.out.kept hg' (fun e=>by cases e;have:=HR.out.2.1.size;have:=HBW.out.size;omega));have hlx:=(HX.out.ext HNB.out).kept hg' (fun e=>by cases e;omega);clear q0 q1 q2 q3 q4 q5 q6 q7 q8 q9 x3 hb' hg' hm2 HCALL;have hres:=zE (hyes.out (by trivial) (by simpa using hd'));have q0:=hlx.cell 0 _ rfl;have q1:=hlx.cell 1 _ rfl;have q2:=hlx.cell 2 _ rfl;have q3:=hlx.cell 3 _ rfl;have q4:=hlx.cell 4 _ rfl;have q5:=hlx.cell 5 _ rfl;have q6:=hlx.cell 6 _ rfl;have q7:=hlx.cell 7 _ rfl;have q8:=hlx.cell 8 _ rfl;have q9:=hlx.cell 9 _ rfl;have f0:=hlx.frozen;have hll:=hlx.lt;have p0:=hln.cell 0 _ rfl;have p1:=hln.cell 1 _ rfl;have p2:=hln.cell 2 _ rfl;have p3:=hln.cell 3 _ rfl;have p4:=hln.cell 4 _ rfl;have p5:=hln.cell 5 _ rfl;have p6:=hln.cell 6 _ rfl;have p7:=hln.cell 7 _ rfl;have p8:=hln.cell 8 _ rfl;have p9:=hln.cell 9 _ rfl;have hne:mp≠w.heap.size:=by omega
        clear hlx hln hyes hno)
       refine bodyPost_ret (v:=noteV (some x)) (by simp [results,results116,go_sem,q0,q1,q2,q3,q4,q5,q6,q7,q8,q9,hll,noteV]) rfl ?_;have hO:=((((((((((zNR w.heap.size w').set (j:=0) (u:=.int .i64 x.num)).set (j:=1) (u:=.int .i64 x.day)).set (j:=2) (u:=.int .u8 x.sg)).set (j:=3) (u:=.int .i64 x.d)).set (j:=4) (u:=.int .i64 x.l)).set (j:=5) (u:=.int .i64 x.fr)).set (j:=6) (u:=.int .i64 x.to)).set (j:=7) (u:=.int .i64 x.ca)).set (j:=8) (u:=.bool x.use)).set (j:=9) (u:=.int .u8 x.ways);refine ⟨by rw [HQ.out,hres.out],hO.below (by have:=HB.out.size;omega) HE.out.1,hO.grown (Nat.le_refl _) (zAG (zAV HBW.out) HE.out.2.1),n2,by omega,hO.mem hne HE.out.2.2⟩
     | false =>
       go_wp2_with (go_at_fn 158;refine HCALL.out.mono ?_;rintro e w' ⟨rfl,hb',hg',n2,hn2,hm2⟩);have HE:=zE (And.intro hb' (And.intro (zAG HR.out.2.1 (zAG (zAV HNB.out) hg')) hm2));have hln:=(HLN.out.kept hg' (fun e=>by cases e;have:=HR.out.2.1.size;have:=HBW.out.size;omega));have hlx:=(HX.out.ext HNB.out).kept hg' (fun e=>by cases e;omega);clear q0 q1 q2 q3 q4 q5 q6 q7 q8 q9 x3 hb' hg' hm2 HCALL;have hres:=zE (hno.out (fun h=>by cases h.1));clear hlx hln hyes hno;go_wp2;go_roundw
       ·exact ⟨c,n2,by go_num,by omega,zE (by rw [HQ.out,hres.out]),HE,by omega⟩
       ·first | (simp [intOf];done) | (simp [intOf];omega)
    ·have hd':(x.d == d)=false:=by simpa using hd
     have hres:=zE (hno.out (fun h=>hd h.2));have HE:=zE (And.intro (zA HR.out.1 HNB.out) (And.intro (zAG HR.out.2.1 (zAV HNB.out)) (HR.out.2.2.ext HNB.out)));clear hyes hno HCALL hd;go_wp2;go_roundw
     ·exact ⟨c,cn,rfl,by omega,zE (by rw [HQ.out,hres.out]),HE,by omega⟩
     ·first | (simp [intOf];done) | (simp [intOf];omega)
theorem noteV_is (o:Option Note) : ∃ a1 a2 a3 a5 a6 a7 a8 a9,noteV o = .agg #[.int .i64 (o.elim 0 (·.num)),a1,a2,a3,.int .i64 (o.elim 1 (·.l)),a5,a6,a7,a8,a9]:=by
 cases o <;> exact ⟨_,_,_,_,_,_,_,_,rfl⟩
theorem zOW {wb w w':World} {g:Option Nat} {v:Nat} (h:wb.grownBy w (some v)) (hg:w.grownBy w' g) (hr:∀ r,g=some r->wb.heap.size<=r) : wb.grownBy w' (some v) :=
 ⟨hg.os.trans h.os,hg.tape.trans h.tape,hg.output.trans h.output,Nat.le_trans h.size hg.size,fun k hk hne=>(hg.block k (Nat.lt_of_lt_of_le hk h.size) (fun e=>by have:=hr k e.symm;omega)).trans (h.block k hk hne)⟩
theorem Mem.kept {w w':World} {mp n:Nat} {S:List Int} {m:Int} {N:List Note} {g:Option Nat} (h:Mem w mp n S m N) (hg:w.grownBy w' g) (hne:some mp≠g) : Mem w' mp n S m N:=by
 have hlt:=h.lt;obtain ⟨f,h1,h2⟩:=h;exact ⟨f,h1.same (hg.block mp hlt hne),h2⟩
theorem letters_note (w:World) (pf:Nat) (vr vn vs:Value) (R:List Issue) (N:List Note) (S:List Int) (m:Int) (hF:FileAt w pf vr vn R N) (hN:Sl zBL 10 w vn N) (hS:Sl zAM 1 w vs S) (h12:N.length<=12) (hR:(nums R).length<=20) (hm:I64 m) :
  Calls prog 78 #[.pointer (some ⟨pf,0,none⟩),vs,.int .i64 m] w fun e w'=>∃ u,e = .returned u/\Sl zAM 1 w' u ((nums R).map (zAA S m N))/\Below w.heap.size w w':=by
 obtain ⟨i0,hif,iz0,iz1,iz2⟩:=info_parts zFY;obtain ⟨vd,vo,O,hL,hD,_,_⟩:=hF.is;obtain ⟨az,capz,rfl,hmz⟩:=zD hS;obtain ⟨ad,capd,rfl,hmd⟩:=zD hD;have HI:Hid (∀ x∈(nums R).map (zAA S m N),I64 x):=fun x hx=>by
  obtain ⟨d,_,rfl⟩:=List.mem_map.1 hx;exact letterBy_I64 hN d
 have HF:=zE hF;have HL:=zE hL;have HN:=zE hN;have HS:=zE hS;have HD:=zE hD;clear hF hL hN hS hD;go_enter func78,ntmps78;go_wp2_with fail;refine (zPO _ pf _ az S.length capz rfl S m N).mono ?_;rintro e w2 ⟨k,f,s,u,mb,i,mp,rfl,hmp,hbx,hmem,hb2⟩;have c2:=(HL.out.ext hb2).cell 2 _ rfl;have hm2:=hmem.lt;have HBX:=zE hbx;have HM:=zE hmem;have HB2:=zE hb2;clear hbx hmem hb2;generalize hDD:nums R=D at *;have HDD:=zE hDD;clear hDD;go_wp2;clear c2;go_loopw [8,20] (fun o q wr=>∃ (j cn:Nat),q = .int .i64 j/\j<=D.length/\wr.ownsRow w2.heap.size 3 1 o j (rowL (zAA S m N) D j)/\Hid (Below w.heap.size w wr/\w2.grownBy wr (some mp)/\Mem wr mp cn S m N)/\cn<=j*49152) (fun _ q _=>D.length - (intOf q).toNat)
 case atStart=>exact ⟨0,0,rfl,by omega,by rw [rowL_zero];exact World.ownsRow_nil _ _ _ _,zE ⟨HB2.out,zBH _ _ _ rfl rfl rfl rfl,HM.out⟩,by omega⟩
 case round =>
  obtain ⟨j,cn,rfl,hj,hown,HH,hcn⟩:=hrel;have HOWN:=zE hown;clear hown;by_cases hlt:j < D.length
  ·obtain ⟨bd,od,rfl,hc,_⟩:=(zY HD.out).2 j hlt
   have hc:=zC HH.out.1 hc;have hnew:=zE (nums_take D (zAA S m N) j hlt);generalize D[j]=d at *;unfold zK at hc;rw [Nat.mul_one] at hc;go_wp2_with fail;clear hc;refine (by_note w k f s u mb i mp pf vr _ _ R N S m d HF.out HN.out HS.out h12 hmp hm cn wr HH.out.1 (HBX.out.grown HH.out.2.1) HH.out.2.2 (by omega)).mono ?_;rintro e w3 ⟨rfl,hb3,hg3,n3,hn3,hm3⟩;obtain ⟨a1,a2,a3,a5,a6,a7,a8,a9,hnv⟩:=noteV_is (zIG S m N d);have hlb:(zIG S m N d).elim 1 (·.l)=zAA S m N d:=rfl;rw [hlb] at hnv;rw [hnv];have hown3:=own_kept1 HOWN.out hg3 hm2;have HG3:=zE (zAG HH.out.2.1 hg3);have HM3:=zE hm3;have HB3:=zE hb3;have hs3:w2.heap.size<=w3.heap.size:=HG3.out.size;clear hnv hlb hg3 hm3 hb3 HOWN HH;generalize zAA S m N d=l at *;generalize (zIG S m N d).elim 0 (·.num)=nn at *;have hfd:∀ W,(Instr.field 74 (.agg #[.int .i64 nn,a1,a2,a3,.int .i64 l,a5,a6,a7,a8,a9]) 4).run prog W = .ok (.int .i64 l) W:=fun _=>by kernel_rfl
   go_wp2_with (at_builtin;refine wpList_append_own _ rfl _ _ 28 rfl w2.heap.size 3 i0 (.int .i64 0) 1 8 underlying28 hif iz0 iz1 iz2 rfl (by decide) _ _ _ rfl (hown3.alloc _) ⟨w3.heap.size,0,none⟩ 1 1 [.int .i64 l] rfl rfl (cell_one_new _ _ _) (by simp [Value.oneCell']) (by unfold maxLen;omega) (by omega) (by simp;omega) ?_;intro v' w4 hown' hgrow _);have hge:∀ r,u8.ownBlock=some r->w2.heap.size<=r:=fun r e=>(hown3.lt r e).1
   have hba:=zB w3 (.cells #[.int .i64 l] 3);have HE:=zE (And.intro ((zA HB3.out hba).grown hgrow (zA HB3.out hba).size (fun r e=>by have:=hge r e;have:=HB2.out.size;omega)) (And.intro (zOW (zAG HG3.out (zAV hba)) hgrow hge) ((HM3.out.ext hba).kept hgrow (fun e=>by have:=hge mp e.symm;omega))));clear hgrow hba hown3 HG3 HM3 HB3;go_roundw
   ·exact ⟨j+1,n3,by go_num,by omega,by rw [hnew.out];exact hown',HE,by omega⟩
   ·simp [intOf];omega
  ·obtain rfl:j=D.length:=by omega
   have hown:=HOWN.out;rw [rowL_all] at hown;have HSL:Hid (Sl zAM 1 wr u8 (D.map (zAA S m N))):=zBF (by rw [List.length_map];exact hown) HI.out;clear hown HOWN;go_wp2;go_ret;exact ⟨u8,rfl,by rw [HDD.out];exact HSL.out,HH.out.1⟩
theorem lettersOf_note (w:World) (vr vn vs:Value) (R:List Issue) (N:List Note) (S:List Int) (m:Int) (h:NoteArg w vr vn R N) (hk:zHN w) (hs:Sl zAM 1 w vs S) (hv:zP R N=0) (hT:IsT (zBO N) S) (hm:In m 1 999) :
  Calls prog 30 #[.agg #[vr,vn],vs,.int .i64 m] w fun e w'=>∃ u,e = .returned (.tuple #[u,.int .i64 0])/\Sl zAM 1 w' u ((nums R).map (zAA S m N))/\Below w.heap.size w w':=by
 have hb1:=zB w (.cells #[vr,vn] 27);have LB:=Lay.new w 27 #[vr,vn];have HA:=zE (h.ext hb1);have HK:=zE (hk.ext hb1);have HS:=zE (zJ zN hb1 hs);obtain ⟨ar,cr,rfl,_⟩:=zD h.reg.sl;obtain ⟨an,cn,rfl,_⟩:=zD h.sl;obtain ⟨az,capz,rfl,_⟩:=zD hs;have c0:=LB.cell 0 _ rfl;have c1:=LB.cell 1 _ rfl;have HZ:=zE (asked_ok hv hT hm);have hI:I64 m:=by unfold In at hm;unfold I64;omega
 have h12:=(zBJ hv).2.1;have h20:=(zAW (zBJ hv).1).2.2.2;clear h hk LB hs;go_enter func30,ntmps30;go_wp2_with fail;generalize w.alloc _=w1 at *;refine (zPK _ _ _ _ R N S m HA.out HK.out HS.out hI).mono ?_;rintro e w2 ⟨⟨p,rfl,hp⟩,hb2⟩;obtain ⟨pf,rfl,hF⟩:=hp HZ.out;have HF:=zE hF;have HA2:=zE (HA.out.ext hb2);have HS2:=zE (zJ zN hb2 HS.out);have HB2:=zE (zA hb1 hb2);rw [HZ.out];clear c0 c1 hp hF hb2 hb1;go_wp2_with fail;refine (letters_note _ pf _ _ _ R N S m HF.out HA2.out.sl HS2.out h12 h20 hI).mono ?_;rintro e w3 ⟨u,rfl,hu,hb3⟩;obtain ⟨LL,hLL⟩ : ∃ LL,(nums R).map (zAA S m N)=LL:=⟨_,rfl⟩;rw [hLL] at hu;have HLL:=zE hLL;clear hLL;obtain ⟨au,cu,rfl,_⟩:=zD hu;have HU:=zE hu;have HB3:=zE (zA HB2.out hb3);clear hu hb3;go_wp2;go_ret2;exact ⟨_,rfl,by rw [HLL.out];exact HU.out,HB3.out⟩
theorem drawn_note (w:World) (vr vn vs:Value) (R:List Issue) (N:List Note) (S:List Int) (m d:Int) (h:NoteArg w vr vn R N) (hk:zHN w) (hs:Sl zAM 1 w vs S) (hv:zP R N=0) (hT:IsT (zBO N) S) (hm:In m 1 999) (hd:d∈nums R) :
  Calls prog 115 #[.agg #[vr,vn],vs,.int .i64 m,.int .i64 d] w fun e w'=>∃ pf,e = .returned (.tuple #[.pointer (some ⟨pf,0,none⟩),.int .i64 0])/\FileAt w' pf vr vn R N/\Below w.heap.size w w':=by
 have hb1:=zB w (.cells #[vr,vn] 27);have LB:=Lay.new w 27 #[vr,vn];have HA:=zE (h.ext hb1);have HK:=zE (hk.ext hb1);have HS:=zE (zJ zN hb1 hs);obtain ⟨ar,cr,rfl,_⟩:=zD h.reg.sl;obtain ⟨an,cn,rfl,_⟩:=zD h.sl;obtain ⟨az,capz,rfl,_⟩:=zD hs;have c0:=LB.cell 0 _ rfl;have c1:=LB.cell 1 _ rfl;have HZ:=zE (asked_ok hv hT hm);have hI:I64 m:=by unfold In at hm;unfold I64;omega
 have HDR:=zE hd;clear h hk LB hs hd;go_enter func115,ntmps115;go_wp2_with fail;generalize w.alloc _=w1 at *;refine (zPK _ _ _ _ R N S m HA.out HK.out HS.out hI).mono ?_;rintro e w2 ⟨⟨p,rfl,hp⟩,hb2⟩;obtain ⟨pf,rfl,hF⟩:=hp HZ.out;obtain ⟨vd,vo,O,hL,hD,_,_⟩:=hF.is;obtain ⟨ad,capd,rfl,_⟩:=zD hD;have c2:=hL.cell 2 _ rfl;have HD:=zE hD;have HF:=zE hF;have HB2:=zE (zA hb1 hb2);rw [HZ.out];clear c0 c1 hp hF hb2 hb1 hL hD;go_wp2_with fail;refine (zDF _ _ (nums R) d HD.out).mono ?_;intro e w3 hr;rcases hr.both with ⟨_,rfl,rfl⟩ | ⟨h1,_,_⟩
 ·clear hr;go_wp2;go_ret2;exact ⟨pf,rfl,HF.out,HB2.out⟩
 ·exact absurd HDR.out h1
theorem byOf_note (w:World) (vr vn vs:Value) (R:List Issue) (N:List Note) (S:List Int) (m d:Int) (h:NoteArg w vr vn R N) (hk:zHN w) (hs:Sl zAM 1 w vs S) (hv:zP R N=0) (hT:IsT (zBO N) S) (hm:In m 1 999) (hd:d∈nums R) :
  Calls prog 65 #[.agg #[vr,vn],vs,.int .i64 d,.int .i64 m] w fun e w'=>e = .returned (.tuple #[.int .i64 (zLR S m N d),.int .i64 0])/\Below w.heap.size w w':=by
 have hb1:=zB w (.cells #[vr,vn] 27);have LB:=Lay.new w 27 #[vr,vn];have HA:=zE (h.ext hb1);have HK:=zE (hk.ext hb1);have HS:=zE (zJ zN hb1 hs);obtain ⟨ar,cr,rfl,_⟩:=zD h.reg.sl;obtain ⟨an,cn,rfl,_⟩:=zD h.sl;obtain ⟨az,capz,rfl,_⟩:=zD hs;have c0:=LB.cell 0 _ rfl;have c1:=LB.cell 1 _ rfl;have HV:=zE (And.intro hv (And.intro hT (And.intro hm hd)));have hI:I64 m:=by unfold In at hm;unfold I64;omega
 have h12:=(zBJ hv).2.1;clear h hk LB hs hd hv hT hm;go_enter func65,ntmps65;go_wp2_with fail;generalize w.alloc _=w1 at *;refine (drawn_note _ _ _ _ R N S m d HA.out HK.out HS.out HV.out.1 HV.out.2.1 HV.out.2.2.1 HV.out.2.2.2).mono ?_;rintro e w2 ⟨pf,rfl,hF,hb2⟩;have HF:=zE hF;have HA2:=zE (HA.out.ext hb2);have HS2:=zE (zJ zN hb2 HS.out);have HB2:=zE (zA hb1 hb2);clear c0 c1 hF hb2 hb1;go_wp2_with fail;refine (zPO _ pf _ az S.length capz rfl S m N).mono ?_;rintro e w3 ⟨k,f,s,u,mb,i,mp,rfl,hmp,hbx,hmem,hb3⟩;have HBX:=zE hbx;have HM:=zE hmem;have HB3:=zE hb3;clear hbx hmem hb3;go_wp2_with fail;refine (by_note w2 k f s u mb i mp pf _ _ _ R N S m d HF.out HA2.out.sl HS2.out h12 hmp hI 0 w3 HB3.out HBX.out HM.out (by omega)).mono ?_;rintro e w4 ⟨rfl,hb4,_,_⟩;obtain ⟨a1,a2,a3,a5,a6,a7,a8,a9,hnv⟩:=noteV_is (zIG S m N d);have hlb:(zIG S m N d).elim 0 (·.num)=zLR S m N d:=rfl;obtain ⟨nn,hnn⟩ : ∃ nn,zLR S m N d=nn:=⟨_,rfl⟩;rw [hlb,hnn] at hnv;rw [hnv];have HNN:=zE hnn;have HB4:=zE (zA HB2.out hb4);clear hnv hlb hb4 hnn;generalize (zIG S m N d).elim 1 (·.l)=l at *;have hfd:∀ W,(Instr.field 74 (.agg #[.int .i64 nn,a1,a2,a3,.int .i64 l,a5,a6,a7,a8,a9]) 0).run prog W = .ok (.int .i64 nn) W:=fun _=>by kernel_rfl
 go_wp2;go_ret2;exact ⟨by rw [HNN.out];rfl,HB4.out⟩
end
end Go.Proofs.YtipaopbmklbmnaaGreatDoor
