/- Lemmas. -/
import Derived.WalkMore
import Derived.Laws.EntriesVeiled
import Derived.Test.YtipaopbmklbmnaaGreatDoorT21
set_option linter.all false
set_option maxRecDepth 100000
set_option maxHeartbeats 0
namespace Go.Proofs.YtipaopbmklbmnaaGreatDoor
section
open Tryz
open Go.RowKit Go.Shelf
attribute [local go_sem] zAE Oper.grows Oper.growUpon Oper.wild Oper.wildUpon
def zHN (w:World) : Prop:=zK w 1 0 (.func (.func 244) #[] #[])/\zK w 1 1 (.func (.func 245) #[] #[])/\zK w 1 2 (.func (.func 246) #[] #[])/\zK w 1 3 (.func (.func 247) #[] #[])/\zK w 1 4 (.func (.func 248) #[] #[])/\zK w 1 5 (.func (.func 249) #[] #[])/\zK w 1 6 (.func (.func 251) #[] #[])/\zK w 1 7 (.func (.func 253) #[] #[])
theorem zHN.ext {w w':World} (hb:Below w.heap.size w w') (h:zHN w) : zHN w':=by
 obtain ⟨h1,h2,h3,h4,h5,h6,h7,h8⟩:=h;exact ⟨zC hb h1,zC hb h2,zC hb h3,zC hb h4,zC hb h5,zC hb h6,zC hb h7,zC hb h8⟩
theorem enter_nc1:Enters prog 244:=enters_of func244 (by kernel_rfl) rfl
theorem enter_nc2:Enters prog 245:=enters_of func245 (by kernel_rfl) rfl
theorem enter_nc3:Enters prog 246:=enters_of func246 (by kernel_rfl) rfl
theorem enter_nc4:Enters prog 247:=enters_of func247 (by kernel_rfl) rfl
theorem enter_nc5:Enters prog 248:=enters_of func248 (by kernel_rfl) rfl
theorem enter_nc6:Enters prog 249:=enters_of func249 (by kernel_rfl) rfl
theorem enter_nc7:Enters prog 251:=enters_of func251 (by kernel_rfl) rfl
theorem enter_nc8:Enters prog 253:=enters_of func253 (by kernel_rfl) rfl
structure MidN (w w2 wr:World) (pf:Nat) (vr vn u vd:Value) (L:List Int) : Prop where
 below:Below w.heap.size w wr
 lo:w.heap.size < pf
 box:Lay wr w.heap.size #[vr,vn] 27
 file:Lay wr pf #[vr,vn,u,vd] 209
 own:wr.ownsRow (pf+1) 3 1 vd L.length (L.map (Value.int .i64))
 below2:Below w2.heap.size w2 wr
 lo2:w2.heap.size<=pf
theorem MidN.ext {w w2 wr wr':World} {pf:Nat} {vr vn u vd:Value} {L:List Int} (h:MidN w w2 wr pf vr vn u vd L) (hb:Below wr.heap.size wr wr') : MidN w w2 wr' pf vr vn u vd L :=
 ⟨zA h.below hb,h.lo,h.box.ext hb,h.file.ext hb,zAC hb h.own,zA h.below2 hb,h.lo2⟩
theorem Lay.set3 {W:World} {B:Nat} {a b c v:Value} {t:TypeId} (h:Lay W B #[a,b,c,v] t) (v':Value) : Lay (W.setCell ⟨B,3,none⟩ v') B #[a,b,c,v'] t:=by
 obtain ⟨hlt,hk⟩:=Array.getElem?_eq_some_iff.1 (show W.heap[B]? = _ from h);show (W.heap.modify B _)[B]? = _
 rw [Array.getElem?_eq_getElem (by rw [Array.size_modify];exact hlt),Array.getElem_modify_self,hk];rfl
theorem Lay.other {W:World} {B g j:Nat} {cs:Array Value} {t:TypeId} (h:Lay W B cs t) (hne:B≠g) (v:Value) : Lay (W.setCell ⟨g,j,none⟩ v) B cs t:=(Below.heap_setCell W ⟨g,j,none⟩ v B hne).trans h
theorem MidN.app {w w2 wq w7:World} {pf:Nat} {vr vn u vd v':Value} {L:List Int} {x:Int} (h:MidN w w2 wq pf vr vn u vd L) (hown:w7.ownsRow (pf+1) 3 1 v' (L.length+1) (L.map (Value.int .i64)++[.int .i64 x])) (hg:wq.grownBy w7 vd.ownBlock) :
  Lay w7 pf #[vr,vn,u,vd] 209/\MidN w w2 (w7.setCell ⟨pf,3,none⟩ v') pf vr vn u v' (L++[x]):=by
 have hlo:=h.lo;have hl:Lay w7 pf #[vr,vn,u,vd] 209:=h.file.kept hg (fun e=>by have:=(h.own.lt _ e.symm).1;omega);have hb:Lay w7 w.heap.size #[vr,vn] 27:=h.box.kept hg (fun e=>by have:=(h.own.lt _ e.symm).1;omega);have hlo2:=h.lo2;refine ⟨hl,zI (by omega) (zEX h.own hg h.below (by omega)),hlo,hb.other (by omega) v',hl.set3 v',?_,zI (by omega) (zEX h.own hg h.below2 (by omega)),hlo2⟩;have:=own_set (g:=pf) (j:=3) (u:=v') hown (by omega);rw [List.length_append,List.map_append];exact this
theorem opensTo_i64 {w:World} {v:Value} {N:List Note} (h:Sl zBL 10 w v N) : ∀ x∈zAH N N.length,I64 x:=by
 obtain ⟨a,cap,rfl,_⟩:=zD h;have key:∀ k,k<=N.length->∀ x∈zAH N k,I64 x:=by
  intro k;induction k with
  | zero=>intro _ x hx;simp [zAH] at hx
  | succ k ih =>
    intro hk x hx;rw [zHK N k (by omega),List.mem_append] at hx;rcases hx with hx | hx
    ·exact ih (by omega) x hx
    ·obtain ⟨_,_,_,hn⟩:=(zY h).2 k (by omega)
     split at hx
     ·rw [List.mem_singleton] at hx;rw [hx];exact hn.2.1
     ·simp at hx
 exact key _ (Nat.le_refl _)
structure FileAt (w:World) (pf:Nat) (vr vn:Value) (R:List Issue) (N:List Note) : Prop where
 is:∃ vd vo O,Lay w pf #[vr,vn,vd,vo] 209/\Sl zAM 1 w vd (nums R)/\Sl zAM 1 w vo O/\O.Perm (zAH N N.length)
theorem FileAt.ext {w w':World} {pf:Nat} {vr vn:Value} {R:List Issue} {N:List Note} (hb:Below w.heap.size w w') (h:FileAt w pf vr vn R N) : FileAt w' pf vr vn R N:=by
 obtain ⟨vd,vo,O,h1,h2,h3,h4⟩:=h.is;exact ⟨vd,vo,O,h1.ext hb,zJ zN hb h2,zJ zN hb h3,h4⟩
theorem opened_note (w:World) (vr vn:Value) (R:List Issue) (N:List Note) (h:NoteArg w vr vn R N) (hk:zHN w) :
  Calls prog 119 #[.agg #[vr,vn]] w fun e w'=>(∃ p,e = .returned (.tuple #[.pointer p,.int .i64 (zP R N)])/\(zP R N=0->∃ pf,p=some ⟨pf,0,none⟩/\FileAt w' pf vr vn R N))/\Below w.heap.size w w':=by
 obtain ⟨i0,hif,iz0,iz1,iz2⟩:=info_parts zFY;obtain ⟨ar,cr,rfl,_⟩:=zD h.reg.sl;obtain ⟨an,cn,rfl,hcn⟩:=h.cap;have hb1:=zB w (.cells #[.slice ar R.length cr,.slice an N.length cn] 27);have LB:=Lay.new w 27 #[.slice ar R.length cr,.slice an N.length cn];have c0:=LB.cell 0 _ rfl;have HA:=zE (h.ext hb1);have HLN:=zE (hk.ext hb1);have HL:=zE LB;have H0:=zE h;have HK0:=zE hk;clear h hk LB;go_enter func119,ntmps119;go_wp2;go_step3;go_wp2_with fail;clear c0;generalize w.alloc _=w1 at *;refine (zLI _ _ R HA.out.reg).mono ?_;rintro e w2 ⟨⟨u,rfl,⟨a3,n3,c3,rfl⟩,hdr⟩,hb2⟩;have HDR:=zE hdr;clear hdr;have hb:=zA hb1 hb2;have k1:zX R≠0->zP R N=zX R:=fun h=>by unfold zP;rw [if_pos h]
 have k2:zX R=0->zDL R N->zP R N=0:=fun h h'=>by unfold zP;rw [if_neg (by simp [h]),if_pos h']
 have k3:zX R=0->¬ zDL R N->zP R N=30:=fun h h'=>by unfold zP;rw [if_neg (by simp [h]),if_neg h']
 by_cases hz:zX R=0
 case neg =>
  have e1:=k1 hz;have HZ:=zE hz;clear k1 k2 k3 hb1 hb2;generalize hcc:zX R=c at *;go_wp2;try rw [Exit.noGoto_ret]
  go_ret2;exact ⟨⟨none,by rw [e1];rfl,fun h=>absurd (e1 ▸ h) HZ.out⟩,hb⟩
 have HDR:=zE (HDR.out hz);have k2:=k2 hz;have k3:=k3 hz;have HL2:=zE (HL.out.ext hb2);have HA2:=zE (HA.out.ext hb2);have HLN2:=zE (HLN.out.ext hb2);have c1:=HL2.out.cell 1 _ rfl;rw [hz];clear k1;by_cases h12:12 < N.length
 ·have e1:=k3 (fun h=>by have:=h.1;omega)
  generalize hNN:N.length=NL at c1 h12;go_wp2;try rw [Exit.noGoto_ret]
  go_ret2;exact ⟨⟨none,by rw [e1];rfl,fun h=>absurd (e1 ▸ h) (by decide)⟩,hb⟩
 have h12':N.length<=12:=by omega
 have c0:=HL2.out.cell 0 _ rfl;have l0:=HL2.out.lt;clear h12;go_wp2;go_step3;go_wp2;have hbf:=zA hb (zB w2 (.cells #[.slice ar R.length cr,.slice an N.length cn,.slice a3 n3 c3,.slice none 0 0] 209));have hmid:MidN w w2 (w2.alloc (.cells #[.slice ar R.length cr,.slice an N.length cn,.slice a3 n3 c3,.slice none 0 0] 209)) w2.heap.size (.slice ar R.length cr) (.slice an N.length cn) (.slice a3 n3 c3) (.slice none 0 0) [] :=
  ⟨hbf,l0,HL2.out.alloc _,Lay.new w2 _ _,World.ownsRow_nil _ _ _ _,zB _ _,Nat.le_refl _⟩
 clear c0 c1 hbf hb hb1 hb2;generalize hpf:w2.heap.size=pf at *;generalize w2.alloc _=w3 at *;go_loopw [7,32] (fun bd i wr=>∃ (k:Nat) (vd:Value),bd = .bool false/\i = .int .i64 k/\k<=N.length/\Hid (MidN w w2 wr pf (.slice ar R.length cr) (.slice an N.length cn) (.slice a3 n3 c3) vd (zAH N k))/\Hid (∀ j,j < k->(h:j < N.length)->zNE R N j N[j])) (fun _ i _=>N.length - (intOf i).toNat)
 case atStart=>exact ⟨0,_,rfl,rfl,Nat.zero_le _,zE hmid,zE fun j hj=>absurd hj (Nat.not_lt_zero _)⟩
 case round =>
  obtain ⟨k,vd,rfl,rfl,hk,hmd,hall⟩:=hrel;clear hmid;have hbw:=hmd.out.below;by_cases hlt:k < N.length
  ·obtain ⟨b,off,rfl,hx⟩:=(zY H0.out.sl).2 k hlt
   obtain ⟨⟨q0,q1,q2,q3,q4,q5,q6,q7,q8,q9⟩,hnum⟩:=zAN _ _ _ _ _ hbw hx;obtain ⟨n0,n1,n2,n3',n4,n5,n6,n7⟩:=HK0.out.ext hbw;have lb:=zAD q0;have ln:=zAD n0;have hna:=H0.out.ext hbw;have hbad0:¬ zNE R N k N[k]->zP R N=30:=fun h=>k3 (fun hn=>h (hn.2.1 k hlt))
   have hok0:=note_all R N k N[k] hz hnum.2.2.2.2.2.2.2.2.1;have hop:=zHK N k hlt;clear hx;generalize hxx:N[k]=x at *;have HX:=zE hxx;have HOP:=zE hop;have HKN:=zE hlt;have hbad:¬ (zOS x/\zPC x/\zLA x/\zLN R x/\zLX x/\zJV N k x/\zLE N k x/\zLB N k x)->zP R N=30:=fun h=>hbad0 (fun h2=>h (hok0.1 h2))
   have HOK:=zE hok0;clear hxx hbad0 hok0 hop;unfold zK at q0 q1 q2 q3 q4 q5 q6 q7 q8 q9 n0 n1 n2 n3' n4 n5 n6 n7;go_wp2;have hmdA:=zE (hmd.out.ext (zB wr (.cells #[.int .i64 x.num,.int .i64 x.day,.int .u8 x.sg,.int .i64 x.d,.int .i64 x.l,.int .i64 x.fr,.int .i64 x.to,.int .i64 x.ca,.bool x.use,.int .u8 x.ways] 74)));have LX:=zE (Lay.new wr 74 #[.int .i64 x.num,.int .i64 x.day,.int .u8 x.sg,.int .i64 x.d,.int .i64 x.l,.int .i64 x.fr,.int .i64 x.to,.int .i64 x.ca,.bool x.use,.int .u8 x.ways]);have HNA:=zE (hna.ext (zB wr (.cells #[.int .i64 x.num,.int .i64 x.day,.int .u8 x.sg,.int .i64 x.d,.int .i64 x.l,.int .i64 x.fr,.int .i64 x.to,.int .i64 x.ca,.bool x.use,.int .u8 x.ways] 74)));clear q0 q1 q2 q3 q4 q5 q6 q7 q8 q9 n0 n1 n2 n3' n4 n5 n6 n7 hna hbw lb ln;generalize hgg:wr.heap.size=gx at *;generalize wr.alloc _=wA at *;go_loopw [7,38] (fun bd j wm=>∃ m:Nat,bd = .bool false/\j = .int .i64 m/\m<=8/\Hid (Below wA.heap.size wA wm)/\Hid ((0 < m->zOS x)/\(1 < m->zPC x)/\(2 < m->zLA x)/\(3 < m->zLN R x)/\(4 < m->zLX x)/\(5 < m->zJV N k x)/\(6 < m->zLE N k x)/\(7 < m->zLB N k x))) (fun _ j _=>8 - (intOf j).toNat)
   case atStart=>exact ⟨0,rfl,rfl,by omega,zE (br_),zE ⟨fun h=>absurd h (by omega),fun h=>absurd h (by omega),fun h=>absurd h (by omega),fun h=>absurd h (by omega),fun h=>absurd h (by omega),fun h=>absurd h (by omega),fun h=>absurd h (by omega),fun h=>absurd h (by omega)⟩⟩
   case round =>
    obtain ⟨m,rfl,rfl,hm8,hbm,HCH⟩:=hrel;have hna:=zE (HNA.out.ext hbm.out);have c0:=(hmdA.out.ext hbm.out).box.cell 0 _ rfl;have c1:=(hmdA.out.ext hbm.out).box.cell 1 _ rfl;have lbx:=(hmdA.out.ext hbm.out).box.lt;have hmc:m=0\/m=1\/m=2\/m=3\/m=4\/m=5\/m=6\/m=7\/m=8:=by omega
    rcases hmc with rfl | rfl | rfl | rfl | rfl | rfl | rfl | rfl | rfl
    ·have eg:=enter_nc1
     unfold Enters at eg;have ix:∀ w:World,(Instr.index 247 (.agg #[.func (.func 244) #[] #[],.func (.func 245) #[] #[],.func (.func 246) #[] #[],.func (.func 247) #[] #[],.func (.func 248) #[] #[],.func (.func 249) #[] #[],.func (.func 251) #[] #[],.func (.func 253) #[] #[]]) (.int .i64 0)).run prog w = .ok (.agg #[.func (.func 244) #[] #[]]) w:=fun _=>by kernel_rfl
     have HC:=zE (fun W (hb:Below wr.heap.size wr W)=>by have:=ncheck1 W (.slice ar R.length cr) (.slice (some ⟨b,off,none⟩) N.length cn) R N k (hna.out.ext hb) HKN.out;rw [HX.out] at this;exact this);go_wp2_with (go_at_fn 244;refine (HC.out _ (zB _ _)).mono ?_;intro e w' hr;rcases hr.both with ⟨h1,rfl,hb'⟩ | ⟨h1,rfl,hb'⟩ <;> clear hr)
     ·have hbm2:=zA hbm.out (zA (zB _ _) hb')
      have HCH2:=zE (show (0 < 1->zOS x)/\(1 < 1->zPC x)/\(2 < 1->zLA x)/\(3 < 1->zLN R x)/\(4 < 1->zLX x)/\(5 < 1->zJV N k x)/\(6 < 1->zLE N k x)/\(7 < 1->zLB N k x) from ⟨fun _=>h1,fun h=>absurd h (by omega),fun h=>absurd h (by omega),fun h=>absurd h (by omega),fun h=>absurd h (by omega),fun h=>absurd h (by omega),fun h=>absurd h (by omega),fun h=>absurd h (by omega)⟩);clear h1 hbm HCH hna HC c0 c1;go_wp2;go_roundw
      ·exact ⟨1,rfl,by go_num,by omega,zE hbm2,HCH2⟩
      ·simp [intOf]
     ·have e1:=hbad (fun h=>h1 h.1)
      have hm9:=zE (hmdA.out.ext (zA hbm.out (zA (zB _ _) hb')));clear h1 hbm HCH hbad hna HC c0 c1;go_wp2;try rw [Exit.noGoto_ret]
      go_ret2;exact ⟨⟨none,by rw [e1];rfl,fun h=>absurd (e1 ▸ h) (by decide)⟩,hm9.out.below⟩
    ·have eg:=enter_nc2
     unfold Enters at eg;have ix:∀ w:World,(Instr.index 247 (.agg #[.func (.func 244) #[] #[],.func (.func 245) #[] #[],.func (.func 246) #[] #[],.func (.func 247) #[] #[],.func (.func 248) #[] #[],.func (.func 249) #[] #[],.func (.func 251) #[] #[],.func (.func 253) #[] #[]]) (.int .i64 1)).run prog w = .ok (.agg #[.func (.func 245) #[] #[]]) w:=fun _=>by kernel_rfl
     have HC:=zE (fun W (hb:Below wr.heap.size wr W)=>by have:=ncheck2 W (.slice ar R.length cr) (.slice (some ⟨b,off,none⟩) N.length cn) R N k (hna.out.ext hb) HKN.out;rw [HX.out] at this;exact this);go_wp2_with (go_at_fn 245;refine (HC.out _ (zB _ _)).mono ?_;intro e w' hr;rcases hr.both with ⟨h1,rfl,hb'⟩ | ⟨h1,rfl,hb'⟩ <;> clear hr)
     ·have hbm2:=zA hbm.out (zA (zB _ _) hb')
      have HCH2:=zE (show (0 < 2->zOS x)/\(1 < 2->zPC x)/\(2 < 2->zLA x)/\(3 < 2->zLN R x)/\(4 < 2->zLX x)/\(5 < 2->zJV N k x)/\(6 < 2->zLE N k x)/\(7 < 2->zLB N k x) from ⟨fun _=>HCH.out.1 (by omega),fun _=>h1,fun h=>absurd h (by omega),fun h=>absurd h (by omega),fun h=>absurd h (by omega),fun h=>absurd h (by omega),fun h=>absurd h (by omega),fun h=>absurd h (by omega)⟩);clear h1 hbm HCH hna HC c0 c1;go_wp2;go_roundw
      ·exact ⟨2,rfl,by go_num,by omega,zE hbm2,HCH2⟩
      ·simp [intOf]
     ·have e1:=hbad (fun h=>h1 h.2.1)
      have hm9:=zE (hmdA.out.ext (zA hbm.out (zA (zB _ _) hb')));clear h1 hbm HCH hbad hna HC c0 c1;go_wp2;try rw [Exit.noGoto_ret]
      go_ret2;exact ⟨⟨none,by rw [e1];rfl,fun h=>absurd (e1 ▸ h) (by decide)⟩,hm9.out.below⟩
    ·have eg:=enter_nc3
     unfold Enters at eg;have ix:∀ w:World,(Instr.index 247 (.agg #[.func (.func 244) #[] #[],.func (.func 245) #[] #[],.func (.func 246) #[] #[],.func (.func 247) #[] #[],.func (.func 248) #[] #[],.func (.func 249) #[] #[],.func (.func 251) #[] #[],.func (.func 253) #[] #[]]) (.int .i64 2)).run prog w = .ok (.agg #[.func (.func 246) #[] #[]]) w:=fun _=>by kernel_rfl
     have HC:=zE (fun W (hb:Below wr.heap.size wr W)=>by have:=ncheck3 W (.slice ar R.length cr) (.slice (some ⟨b,off,none⟩) N.length cn) R N k (hna.out.ext hb) HKN.out;rw [HX.out] at this;exact this);go_wp2_with (go_at_fn 246;refine (HC.out _ (zB _ _)).mono ?_;intro e w' hr;rcases hr.both with ⟨h1,rfl,hb'⟩ | ⟨h1,rfl,hb'⟩ <;> clear hr)
     ·have hbm2:=zA hbm.out (zA (zB _ _) hb')
      have HCH2:=zE (show (0 < 3->zOS x)/\(1 < 3->zPC x)/\(2 < 3->zLA x)/\(3 < 3->zLN R x)/\(4 < 3->zLX x)/\(5 < 3->zJV N k x)/\(6 < 3->zLE N k x)/\(7 < 3->zLB N k x) from ⟨fun _=>HCH.out.1 (by omega),fun _=>HCH.out.2.1 (by omega),fun _=>h1,fun h=>absurd h (by omega),fun h=>absurd h (by omega),fun h=>absurd h (by omega),fun h=>absurd h (by omega),fun h=>absurd h (by omega)⟩);clear h1 hbm HCH hna HC c0 c1;go_wp2;go_roundw
      ·exact ⟨3,rfl,by go_num,by omega,zE hbm2,HCH2⟩
      ·simp [intOf]
     ·have e1:=hbad (fun h=>h1 h.2.2.1)
      have hm9:=zE (hmdA.out.ext (zA hbm.out (zA (zB _ _) hb')));clear h1 hbm HCH hbad hna HC c0 c1;go_wp2;try rw [Exit.noGoto_ret]
      go_ret2;exact ⟨⟨none,by rw [e1];rfl,fun h=>absurd (e1 ▸ h) (by decide)⟩,hm9.out.below⟩
    ·have eg:=enter_nc4
     unfold Enters at eg;have ix:∀ w:World,(Instr.index 247 (.agg #[.func (.func 244) #[] #[],.func (.func 245) #[] #[],.func (.func 246) #[] #[],.func (.func 247) #[] #[],.func (.func 248) #[] #[],.func (.func 249) #[] #[],.func (.func 251) #[] #[],.func (.func 253) #[] #[]]) (.int .i64 3)).run prog w = .ok (.agg #[.func (.func 247) #[] #[]]) w:=fun _=>by kernel_rfl
     have HC:=zE (fun W (hb:Below wr.heap.size wr W)=>by have:=ncheck4 W (.slice ar R.length cr) (.slice (some ⟨b,off,none⟩) N.length cn) R N k (hna.out.ext hb) HKN.out;rw [HX.out] at this;exact this);go_wp2_with (go_at_fn 247;refine (HC.out _ (zB _ _)).mono ?_;intro e w' hr;rcases hr.both with ⟨h1,rfl,hb'⟩ | ⟨h1,rfl,hb'⟩ <;> clear hr)
     ·have hbm2:=zA hbm.out (zA (zB _ _) hb')
      have HCH2:=zE (show (0 < 4->zOS x)/\(1 < 4->zPC x)/\(2 < 4->zLA x)/\(3 < 4->zLN R x)/\(4 < 4->zLX x)/\(5 < 4->zJV N k x)/\(6 < 4->zLE N k x)/\(7 < 4->zLB N k x) from ⟨fun _=>HCH.out.1 (by omega),fun _=>HCH.out.2.1 (by omega),fun _=>HCH.out.2.2.1 (by omega),fun _=>h1,fun h=>absurd h (by omega),fun h=>absurd h (by omega),fun h=>absurd h (by omega),fun h=>absurd h (by omega)⟩);clear h1 hbm HCH hna HC c0 c1;go_wp2;go_roundw
      ·exact ⟨4,rfl,by go_num,by omega,zE hbm2,HCH2⟩
      ·simp [intOf]
     ·have e1:=hbad (fun h=>h1 h.2.2.2.1)
      have hm9:=zE (hmdA.out.ext (zA hbm.out (zA (zB _ _) hb')));clear h1 hbm HCH hbad hna HC c0 c1;go_wp2;try rw [Exit.noGoto_ret]
      go_ret2;exact ⟨⟨none,by rw [e1];rfl,fun h=>absurd (e1 ▸ h) (by decide)⟩,hm9.out.below⟩
    ·have eg:=enter_nc5
     unfold Enters at eg;have ix:∀ w:World,(Instr.index 247 (.agg #[.func (.func 244) #[] #[],.func (.func 245) #[] #[],.func (.func 246) #[] #[],.func (.func 247) #[] #[],.func (.func 248) #[] #[],.func (.func 249) #[] #[],.func (.func 251) #[] #[],.func (.func 253) #[] #[]]) (.int .i64 4)).run prog w = .ok (.agg #[.func (.func 248) #[] #[]]) w:=fun _=>by kernel_rfl
     have HC:=zE (fun W (hb:Below wr.heap.size wr W)=>by have:=ncheck5 W (.slice ar R.length cr) (.slice (some ⟨b,off,none⟩) N.length cn) R N k (hna.out.ext hb) HKN.out;rw [HX.out] at this;exact this);go_wp2_with (go_at_fn 248;refine (HC.out _ (zB _ _)).mono ?_;intro e w' hr;rcases hr.both with ⟨h1,rfl,hb'⟩ | ⟨h1,rfl,hb'⟩ <;> clear hr)
     ·have hbm2:=zA hbm.out (zA (zB _ _) hb')
      have HCH2:=zE (show (0 < 5->zOS x)/\(1 < 5->zPC x)/\(2 < 5->zLA x)/\(3 < 5->zLN R x)/\(4 < 5->zLX x)/\(5 < 5->zJV N k x)/\(6 < 5->zLE N k x)/\(7 < 5->zLB N k x) from ⟨fun _=>HCH.out.1 (by omega),fun _=>HCH.out.2.1 (by omega),fun _=>HCH.out.2.2.1 (by omega),fun _=>HCH.out.2.2.2.1 (by omega),fun _=>h1,fun h=>absurd h (by omega),fun h=>absurd h (by omega),fun h=>absurd h (by omega)⟩);clear h1 hbm HCH hna HC c0 c1;go_wp2;go_roundw
      ·exact ⟨5,rfl,by go_num,by omega,zE hbm2,HCH2⟩
      ·simp [intOf]
     ·have e1:=hbad (fun h=>h1 h.2.2.2.2.1)
      have hm9:=zE (hmdA.out.ext (zA hbm.out (zA (zB _ _) hb')));clear h1 hbm HCH hbad hna HC c0 c1;go_wp2;try rw [Exit.noGoto_ret]
      go_ret2;exact ⟨⟨none,by rw [e1];rfl,fun h=>absurd (e1 ▸ h) (by decide)⟩,hm9.out.below⟩
    ·have eg:=enter_nc6
     unfold Enters at eg;have ix:∀ w:World,(Instr.index 247 (.agg #[.func (.func 244) #[] #[],.func (.func 245) #[] #[],.func (.func 246) #[] #[],.func (.func 247) #[] #[],.func (.func 248) #[] #[],.func (.func 249) #[] #[],.func (.func 251) #[] #[],.func (.func 253) #[] #[]]) (.int .i64 5)).run prog w = .ok (.agg #[.func (.func 249) #[] #[]]) w:=fun _=>by kernel_rfl
     have HC:=zE (fun W (hb:Below wr.heap.size wr W)=>by have:=ncheck6 W (.slice ar R.length cr) (.slice (some ⟨b,off,none⟩) N.length cn) R N k (hna.out.ext hb) HKN.out;rw [HX.out] at this;exact this);go_wp2_with (go_at_fn 249;refine (HC.out _ (zB _ _)).mono ?_;intro e w' hr;rcases hr.both with ⟨h1,rfl,hb'⟩ | ⟨h1,rfl,hb'⟩ <;> clear hr)
     ·have hbm2:=zA hbm.out (zA (zB _ _) hb')
      have HCH2:=zE (show (0 < 6->zOS x)/\(1 < 6->zPC x)/\(2 < 6->zLA x)/\(3 < 6->zLN R x)/\(4 < 6->zLX x)/\(5 < 6->zJV N k x)/\(6 < 6->zLE N k x)/\(7 < 6->zLB N k x) from ⟨fun _=>HCH.out.1 (by omega),fun _=>HCH.out.2.1 (by omega),fun _=>HCH.out.2.2.1 (by omega),fun _=>HCH.out.2.2.2.1 (by omega),fun _=>HCH.out.2.2.2.2.1 (by omega),fun _=>h1,fun h=>absurd h (by omega),fun h=>absurd h (by omega)⟩);clear h1 hbm HCH hna HC c0 c1;go_wp2;go_roundw
      ·exact ⟨6,rfl,by go_num,by omega,zE hbm2,HCH2⟩
      ·simp [intOf]
     ·have e1:=hbad (fun h=>h1 h.2.2.2.2.2.1)
      have hm9:=zE (hmdA.out.ext (zA hbm.out (zA (zB _ _) hb')));clear h1 hbm HCH hbad hna HC c0 c1;go_wp2;try rw [Exit.noGoto_ret]
      go_ret2;exact ⟨⟨none,by rw [e1];rfl,fun h=>absurd (e1 ▸ h) (by decide)⟩,hm9.out.below⟩
    ·have eg:=enter_nc7
     unfold Enters at eg;have ix:∀ w:World,(Instr.index 247 (.agg #[.func (.func 244) #[] #[],.func (.func 245) #[] #[],.func (.func 246) #[] #[],.func (.func 247) #[] #[],.func (.func 248) #[] #[],.func (.func 249) #[] #[],.func (.func 251) #[] #[],.func (.func 253) #[] #[]]) (.int .i64 6)).run prog w = .ok (.agg #[.func (.func 251) #[] #[]]) w:=fun _=>by kernel_rfl
     have HC:=zE (fun W (hb:Below wr.heap.size wr W)=>by have:=ncheck7 W (.slice ar R.length cr) (.slice (some ⟨b,off,none⟩) N.length cn) R N k (hna.out.ext hb) HKN.out;rw [HX.out] at this;exact this);go_wp2_with (go_at_fn 251;refine (HC.out _ (zB _ _)).mono ?_;intro e w' hr;rcases hr.both with ⟨h1,rfl,hb'⟩ | ⟨h1,rfl,hb'⟩ <;> clear hr)
     ·have hbm2:=zA hbm.out (zA (zB _ _) hb')
      have HCH2:=zE (show (0 < 7->zOS x)/\(1 < 7->zPC x)/\(2 < 7->zLA x)/\(3 < 7->zLN R x)/\(4 < 7->zLX x)/\(5 < 7->zJV N k x)/\(6 < 7->zLE N k x)/\(7 < 7->zLB N k x) from ⟨fun _=>HCH.out.1 (by omega),fun _=>HCH.out.2.1 (by omega),fun _=>HCH.out.2.2.1 (by omega),fun _=>HCH.out.2.2.2.1 (by omega),fun _=>HCH.out.2.2.2.2.1 (by omega),fun _=>HCH.out.2.2.2.2.2.1 (by omega),fun _=>h1,fun h=>absurd h (by omega)⟩);clear h1 hbm HCH hna HC c0 c1;go_wp2;go_roundw
      ·exact ⟨7,rfl,by go_num,by omega,zE hbm2,HCH2⟩
      ·simp [intOf]
     ·have e1:=hbad (fun h=>h1 h.2.2.2.2.2.2.1)
      have hm9:=zE (hmdA.out.ext (zA hbm.out (zA (zB _ _) hb')));clear h1 hbm HCH hbad hna HC c0 c1;go_wp2;try rw [Exit.noGoto_ret]
      go_ret2;exact ⟨⟨none,by rw [e1];rfl,fun h=>absurd (e1 ▸ h) (by decide)⟩,hm9.out.below⟩
    ·have eg:=enter_nc8
     unfold Enters at eg;have ix:∀ w:World,(Instr.index 247 (.agg #[.func (.func 244) #[] #[],.func (.func 245) #[] #[],.func (.func 246) #[] #[],.func (.func 247) #[] #[],.func (.func 248) #[] #[],.func (.func 249) #[] #[],.func (.func 251) #[] #[],.func (.func 253) #[] #[]]) (.int .i64 7)).run prog w = .ok (.agg #[.func (.func 253) #[] #[]]) w:=fun _=>by kernel_rfl
     have HC:=zE (fun W (hb:Below wr.heap.size wr W)=>by have:=ncheck8 W (.slice ar R.length cr) (.slice (some ⟨b,off,none⟩) N.length cn) R N k (hna.out.ext hb) HKN.out;rw [HX.out] at this;exact this);go_wp2_with (go_at_fn 253;refine (HC.out _ (zB _ _)).mono ?_;intro e w' hr;rcases hr.both with ⟨h1,rfl,hb'⟩ | ⟨h1,rfl,hb'⟩ <;> clear hr)
     ·have hbm2:=zA hbm.out (zA (zB _ _) hb')
      have HCH2:=zE (show (0 < 8->zOS x)/\(1 < 8->zPC x)/\(2 < 8->zLA x)/\(3 < 8->zLN R x)/\(4 < 8->zLX x)/\(5 < 8->zJV N k x)/\(6 < 8->zLE N k x)/\(7 < 8->zLB N k x) from ⟨fun _=>HCH.out.1 (by omega),fun _=>HCH.out.2.1 (by omega),fun _=>HCH.out.2.2.1 (by omega),fun _=>HCH.out.2.2.2.1 (by omega),fun _=>HCH.out.2.2.2.2.1 (by omega),fun _=>HCH.out.2.2.2.2.2.1 (by omega),fun _=>HCH.out.2.2.2.2.2.2.1 (by omega),fun _=>h1⟩);clear h1 hbm HCH hna HC c0 c1;go_wp2;go_roundw
      ·exact ⟨8,rfl,by go_num,by omega,zE hbm2,HCH2⟩
      ·simp [intOf]
     ·have e1:=hbad (fun h=>h1 h.2.2.2.2.2.2.2)
      have hm9:=zE (hmdA.out.ext (zA hbm.out (zA (zB _ _) hb')));clear h1 hbm HCH hbad hna HC c0 c1;go_wp2;try rw [Exit.noGoto_ret]
      go_ret2;exact ⟨⟨none,by rw [e1];rfl,fun h=>absurd (e1 ▸ h) (by decide)⟩,hm9.out.below⟩
    ·have hnok:=HOK.out.2 ⟨HCH.out.1 (by omega),HCH.out.2.1 (by omega),HCH.out.2.2.1 (by omega),HCH.out.2.2.2.1 (by omega),HCH.out.2.2.2.2.1 (by omega),HCH.out.2.2.2.2.2.1 (by omega),HCH.out.2.2.2.2.2.2.1 (by omega),HCH.out.2.2.2.2.2.2.2 (by omega)⟩
     have hmq:=zE (hmdA.out.ext hbm.out);have LXr:=zE (LX.out.ext hbm.out);have x2:=LXr.out.cell 2 _ rfl;clear HCH hbad hna HNA hmdA LX hbm;by_cases hsg:x.sg=1
     ·have hnk:zAH N (k+1)=zAH N k++[x.num]:=by rw [HOP.out,if_pos hsg]
      have hsg':(x.sg == 1)=true:=by simp [hsg]
      clear hsg;go_wp2;have BXT:Hid (BoxT wr gx 74):=⟨_,LXr.out⟩;have bxq:=(show zK wr gx 0 (.int .i64 x.num) from LXr.out.cell 0 _ rfl);have hbx:=BXT.out;have hnl:(zAH N k).length<=12:=by rw [zMC N k (by omega)];have:=openTo_le N k;omega
      have hszq:pf+1<=wr.heap.size:=hmq.out.file.lt;refine zBU 9 8 [7] (fun a c=>a.grownBy c vd.ownBlock) (fun c=>wr.grownBy c vd.ownBlock) (fun _ _ hb h=>zCG hb h) (zBH _ _ _ rfl rfl rfl rfl)
       (fun c=>c.ownsRow (pf+1) 3 1 vd (zAH N k).length ((zAH N k).map (Value.int .i64))/\pf+1<=c.heap.size) (fun _ _ hb h=>⟨zAC hb h.1,Nat.le_trans h.2 hb.size⟩) ⟨zAC ⟨rfl,rfl,rfl,Nat.le_refl _,fun _ _=>rfl⟩ hmq.out.own,hszq⟩ (by kernel_rfl) (by kernel_rfl) ?_
      simp only [tk_];apply gw_ (by rfl)
      ·intro vs w2 hw hd
       (try simp [hq_] at hd)
       simp only [pf_];go_simp;exact ⟨br_,rfl⟩
      apply gw_ (by rfl)
      ·intro vs w2 hw hd
       (try simp [hq_] at hd)
       simp only [pf_];go_simp;exact ⟨br_,rfl⟩
      apply gw_ (by rfl)
      ·intro vs w2 hw hd
       (try simp [hq_] at hd)
       simp only [pf_];go_simp;exact ⟨br_,rfl⟩
      apply gw_ (by rfl)
      ·intro vs w2 hw hd
       (try simp [hq_] at hd)
       simp only [pf_];go_simp;exact ⟨br_,rfl⟩
      apply gw_ (by rfl)
      ·intro vs w2 hw hd
       (try simp [hq_] at hd)
       have k0:=zDG hmq.out.own hw (by omega) (show zK wr pf 3 vd from hmq.out.file.cell 3 _ rfl);unfold zK at k0;simp only [pf_];go_simp;exact ⟨br_,rfl⟩
      apply gw_ (by rfl)
      ·intro vs w2 hw hd
       (try simp [hq_] at hd)
       simp only [pf_];go_simp;exact ⟨br_,rfl⟩
      apply gw_ (by rfl)
      ·intro vs w2 hw hd
       (try simp [hq_] at hd)
       have k0:=zAF (zOJ hmq.out.own hw hbx (by decide)) bxq;unfold zK at k0;simp only [pf_];go_simp;exact ⟨br_,rfl⟩
      refine zCC (zKF x.num) (zEB x.num) (by rfl) (.inl (by rfl)) ?_ ?_
      ·intro vs w2 hw hd
       (try simp [hq_] at hd)
       simp only [pf_];go_simp;exact ⟨zB _ _,_,rfl,zR _ _ _ 0 _ rfl⟩
      refine zFD (fun v w'=>w'.ownsRow (pf+1) 3 1 v ((zAH N k).length+1) ((zAH N k).map (Value.int .i64)++[.int .i64 x.num])) (fun _ _ _ hb h=>zAC hb h) (by rfl) ?_ ?_
      ·intro vs w2 hw hi hd
       (try simp [hq_] at hd)
       simp only [pf_];obtain ⟨e3,bb,e5,hbb⟩:=hd;refine zEG (.tmp 55) (.tmp 58) 28 (by rfl) (pf+1) 3 i0 _ 1 8 underlying28 hif iz0 iz1 iz2 rfl (by decide) vd _ _ (by exact e3) hi.1 (vs 7) ⟨bb,0,none⟩ 1 1 e5 [.int .i64 x.num] (by rfl) rfl (fun j u hj=>by
        cases j with
        | zero=>simp at hj;subst hj;exact hbb
        | succ j=>simp at hj) (fun u hu=>by simp at hu;subst hu;rfl) (by unfold maxLen;omega) (by omega) hi.2 (fun v' w' h1 h2=>⟨zAG hw h2,h2,h1⟩)
      refine zEU rfl (fun vs w7 hw hd=>?_);simp [zW,zAI,List.range,List.range.loop,List.filter_cons,List.filter_nil] at hd;simp only [pf_];obtain ⟨e0,e1,e2,e3,e4,e5,e6,h8⟩:=hd;obtain ⟨hl7,hm7⟩:=hmq.out.app h8 hw;obtain ⟨g7,cap7,e8⟩:=zDM h8;rw [e8] at hm7;simp only [Nat.zero_add,Nat.reduceAdd] at e0 e1 e2 e3 e4 e5 e6 e8 ⊢;simp only [e0,e1,e2,e3,e4,e5,e6,e8];have hm7:=zE hm7;have c7:=hl7.cell 3 _ rfl;have f7:=hl7.frozen 3;clear h8 hw hl7 hbx hszq hmq bxq BXT e0 e1 e2 e3 e4 e5 e6 e8 c0 c1 x2 lbx;generalize vs 7=u7 at *;go_wp2;go_roundw
      case rel=>exact ⟨k+1,_,rfl,by go_num,by omega,zE (by rw [hnk];exact hm7.out),zE (fun j hj hjl=>by
       by_cases e:j=k
       ·subst e;rw [HX.out];exact hnok
       ·exact hall.out j (by omega) hjl)⟩
      case measure=>simp [intOf];omega
     ·have hnk:zAH N (k+1)=zAH N k:=by rw [HOP.out,if_neg hsg,List.append_nil]
      have hsg':(x.sg == 1)=false:=by simp [hsg]
      clear hsg;go_wp2;go_roundw
      case rel=>exact ⟨k+1,vd,rfl,by go_num,by omega,zE (by rw [hnk];exact hmq.out),zE (fun j hj hjl=>by
       by_cases e:j=k
       ·subst e;rw [HX.out];exact hnok
       ·exact hall.out j (by omega) hjl)⟩
      case measure=>simp [intOf];omega
  ·have hke:k=N.length:=by omega
   subst hke;have hsl:∃ a c,vd = .slice a (zAH N N.length).length c:=by
    rcases hmd.out.own.2 with ⟨rfl,h0⟩ | ⟨g,cap,cur,rfl,_⟩
    ·exact ⟨none,0,by rw [h0]⟩
    ·exact ⟨_,_,rfl⟩
   obtain ⟨a8,c8,rfl⟩:=hsl;have hol:=zMC N N.length (Nat.le_refl _);have c3:=hmd.out.file.cell 3 _ rfl;have hm9:=hmd;by_cases h5:5 < (zAH N N.length).length
   ·have e1:=k3 (fun h=>by have:=h.2.2;omega)
    clear hol hmd hall;generalize (zAH N N.length).length=NL at *;go_wp2;try rw [Exit.noGoto_ret]
    go_ret2;exact ⟨⟨none,by rw [e1];rfl,fun h=>absurd (e1 ▸ h) (by decide)⟩,hm9.out.below⟩
   ·have e1:=k2 ⟨h12',fun j hj=>hall.out j hj hj,by omega⟩
    have HI64:=zE (opensTo_i64 H0.out.sl);have HS:=zE (sort_ints wr (pf+1) _ (zAH N N.length) (by omega) hmd.out.own);have HO:=zE hmd.out.own;have hlo:=hmd.out.lo;clear hol hall;generalize hNL:(zAH N N.length).length=NL at c3 h5 HS HO;clear hmd;go_wp2_with fail;refine HS.out.mono ?_;rintro e w4 ⟨⟨u9,rfl⟩,hg,O,hO,hOp,-⟩;have hbe:=zEX HO.out hg hm9.out.below (by omega);have hlo2:=hm9.out.lo2;have hb2e:=zEX HO.out hg hm9.out.below2 (by omega);have hfile:=hm9.out.file.kept hg (fun e=>by have:=(HO.out.lt _ e.symm).1;omega);have HF:Hid (FileAt w4 pf (.slice ar R.length cr) (.slice an N.length cn) R N):=⟨_,_,O,hfile,zJ zN hb2e HDR.out,zBF (base:=pf+1) (by rw [hOp.length_eq,hNL];exact hO) (fun x hx=>HI64.out x (hOp.mem_iff.1 hx)),hOp⟩;clear hO hOp hb2e hfile hlo2;clear c3 HS;go_wp2;try rw [Exit.noGoto_ret]
    go_ret2;exact ⟨⟨_,by rw [e1];rfl,fun _=>⟨_,rfl,HF.out⟩⟩,hbe⟩
end
end Go.Proofs.YtipaopbmklbmnaaGreatDoor
