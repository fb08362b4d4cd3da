/- Lemmas. -/
import Derived.Test.YtipaopbmklbmnaaGreatDoorT25
set_option linter.all false
set_option maxRecDepth 100000
set_option maxHeartbeats 0
namespace Go.Proofs.YtipaopbmklbmnaaGreatDoor
section
open Tryz
open Go.RowKit Go.Shelf
attribute [local go_sem] zAE Oper.grows Oper.growUpon
def zQP (g:Nat->Int) (n:Nat) : List Value:=(List.range n).map (fun j=>Value.int .i64 (g j))
theorem zMV (g:Nat->Int) (n:Nat) : (zQP g n).length=n:=by simp [zQP]
theorem rowI_at (g:Nat->Int) (n i:Nat) (h:i < n) : (zQP g n)[i]? = some (.int .i64 (g i)):=by
 unfold zQP;rw [List.getElem?_map,List.getElem?_range h];rfl
theorem rowI_eq {g g':Nat->Int} {n:Nat} (h:∀ j,j < n->g j=g' j) : zQP g n=zQP g' n:=by
 unfold zQP;exact List.map_congr_left fun j hj=>by rw [h j (List.mem_range.1 hj)]
theorem rowI_set (g:Nat->Int) (n i:Nat) (x:Int) : (zQP g n).set i (.int .i64 x)=zQP (fun j=>if j=i then x else g j) n:=by
 apply List.ext_getElem?;intro j;rw [List.getElem?_set];by_cases e:i=j
 ·subst e
  by_cases hl:i < n
  ·rw [if_pos rfl,if_pos (by rw [zMV];exact hl),rowI_at _ _ _ hl];simp
  ·rw [if_pos rfl,if_neg (by rw [zMV];exact hl),List.getElem?_eq_none (by rw [zMV];omega)]
 ·rw [if_neg e]
  by_cases hl:j < n
  ·rw [rowI_at _ _ _ hl,rowI_at _ _ _ hl,if_neg (fun h=>e h.symm)]
  ·rw [List.getElem?_eq_none (by rw [zMV];omega),List.getElem?_eq_none (by rw [zMV];omega)]
theorem rowI_zero (n:Nat) : (madeCells (Value.int .i64 0).cells (n*1)).toList=zQP (fun _=>0) n:=by
 rw [Nat.mul_one];show (madeCells #[Value.int .i64 0] n).toList=_
 rw [toList_madeCells_one];unfold zQP;rw [List.map_const',List.length_range]
def HasRow (w:World) (vhas:Value) (b:Built) (S:List Int) (n:Nat) : Prop :=
 ∃ a cap,vhas = .slice a n cap/\∀ i,i < n->∃ g off mb k,a=some ⟨g,off,none⟩/\zK w g (off+i) (.map (some mb))/\zGF w mb k (visF b S i)
theorem HasRow.ext {w w':World} {vhas:Value} {b:Built} {S:List Int} {n:Nat} (hb:Below w.heap.size w w') (h:HasRow w vhas b S n) : HasRow w' vhas b S n:=by
 obtain ⟨a,cap,h1,h2⟩:=h;refine ⟨a,cap,h1,fun i hi=>?_⟩;obtain ⟨g,off,mb,k,h3,h4,h5⟩:=h2 i hi;exact ⟨g,off,mb,k,h3,zC hb h4,h5.ext hb⟩
structure SiteAt (w:World) (p:Nat) (vr vn vm vh vs vz:Value) (b:Built) (S:List Int) : Prop where
 box:∃ vhas,Lay w p #[vr,vn,.int .i64 b.of,vm,vh,vs,vz,vhas] 129/\HasRow w vhas b S b.ms.length
 at_:BuiltAt w vr vn vm vh vs b
 sl:Sl zAM 1 w vz S
theorem SiteAt.ext {w w':World} {p:Nat} {vr vn vm vh vs vz:Value} {b:Built} {S:List Int} (hb:Below w.heap.size w w') (h:SiteAt w p vr vn vm vh vs vz b S) : SiteAt w' p vr vn vm vh vs vz b S:=by
 obtain ⟨vhas,h1,h2⟩:=h.box;exact ⟨⟨vhas,h1.ext hb,h2.ext hb⟩,h.at_.ext hb,zJ zN hb h.sl⟩
def zGR (w:World) (p:Nat) (vr vn vm vh vs vz:Value) (b:Built) (S:List Int) : Prop :=
 ∃ vhas cs base,Lay w p #[vr,vn,.int .i64 b.of,vm,vh,vs,vz,vhas] 129/\w.ownsRow base 200 1 vhas b.ms.length cs/\∀ i,i < b.ms.length->∃ mb k,cs[i]? = some (.map (some mb))/\zGF w mb k (visF b S i)
theorem zGR.row {w:World} {p:Nat} {vr vn vm vh vs vz:Value} {b:Built} {S:List Int} (h:zGR w p vr vn vm vh vs vz b S) : ∃ vhas,Lay w p #[vr,vn,.int .i64 b.of,vm,vh,vs,vz,vhas] 129/\HasRow w vhas b S b.ms.length:=by
 obtain ⟨vhas,cs,base,hl,h1,h2⟩:=h;refine ⟨vhas,hl,?_⟩;rcases h1.2 with ⟨rfl,h0⟩ | ⟨g,cap,cur,rfl,_⟩
 ·exact ⟨none,0,by rw [h0],fun i hi=>by omega⟩
 ·refine ⟨some ⟨g,0,none⟩,cap,rfl,fun i hi=>?_⟩;obtain ⟨mb,k,h3,h4⟩:=h2 i hi;have h5:=h1.cells (g:=g) rfl i _ h3;rw [zAZ] at h5;exact ⟨g,0,mb,k,rfl,by rw [Nat.zero_add];exact h5,h4⟩
theorem OnlyAt.drawn {X:Nat} {W W':World} (h:OnlyAt X W W') : OnlyAt X W W'.drew:=⟨h.os,h.tape,h.output,h.size,h.block⟩
theorem OnlyAt.grown1 {X:Nat} {W W':World} (h:OnlyAt X W W') : W.grownBy W' (some X):=⟨h.os,h.tape,h.output,by rw [h.size];exact Nat.le_refl _,fun k _ hk=>h.block k (fun e=>hk (by rw [e]))⟩
theorem infoMapH:(prog.info? 200).map (fun i=>(i.zero,i.size,i.bytes))=some (some (.map none),1,8):=by kernel_rfl
theorem own_boxT {w:World} {base g:Nat} {e:TypeId} {sz n m cap:Nat} {cs:List Value} (h:w.ownsRow base e sz (.slice (some ⟨g,0,none⟩) m cap) n cs) : BoxT w g e:=by
 rcases h.2 with ⟨h,_⟩ | ⟨g',cap',cur,hv,_,hc,_⟩
 ·cases h
 ·cases hv;exact ⟨cur,hc⟩
theorem map_row {w:World} {base mb:Nat} {e:TypeId} {sz n k:Nat} {v:Value} {cs:List Value} {f:Int->Option Value} (hm:zGF w mb k f) (hown:w.ownsRow base e sz v n cs) : some mb≠v.ownBlock:=by
 obtain ⟨es,ck,hh⟩:=hm.is;intro he;rcases hown.2 with ⟨rfl,_⟩ | ⟨g,cap,cur,rfl,_,hc,_⟩
 ·cases he
 ·have e2:mb=g:=Option.some.inj (show some mb=some g from he);subst e2;rw [hh] at hc;cases hc
theorem map_box {w:World} {mb g k:Nat} {t:TypeId} {f:Int->Option Value} (hm:zGF w mb k f) (hb:BoxT w g t) : mb≠g:=by
 obtain ⟨es,ck,hh⟩:=hm.is;obtain ⟨cur,hc⟩:=hb;rintro rfl;rw [hh] at hc;cases hc
theorem zDC {w:World} {base:Nat} {e:TypeId} {sz n:Nat} {v:Value} {cs:List Value} (h:w.ownsRow base e sz v n cs) : ∃ a c,v = .slice a n c:=by
 rcases h.2 with ⟨rfl,h0⟩ | ⟨g,cap,cur,rfl,_⟩
 ·exact ⟨none,0,by rw [h0]⟩
 ·exact ⟨_,_,rfl⟩
theorem enter_vis1:Enters prog 154:=enters_of func154 (by kernel_rfl) rfl
theorem visited1 (w:World) (x:Note) (g:Nat) (num:Int) (hg:zK w g 0 (.int .i64 num)) :
  Calls prog 154 #[.agg #[.int .i64 x.num,.int .i64 x.day,.int .u8 x.sg,.int .i64 x.d,.int .i64 x.l,.int .i64 x.fr,.int .i64 x.to,.int .i64 x.ca,.bool x.use,.int .u8 x.ways],.pointer (some ⟨g,0,none⟩)] w (zAK (x.num=num/\x.use=true) w):=by
 obtain ⟨n1,n2,n3,n4,n5,n6,n7,n8,u,n9⟩:=x;simp only;have hb:=zB w (.cells #[.int .i64 n1,.int .i64 n2,.int .u8 n3,.int .i64 n4,.int .i64 n5,.int .i64 n6,.int .i64 n7,.int .i64 n8,.bool u,.int .u8 n9] 74);have hc:=zC hb hg;have HB:=zE hb;unfold zK at hc;clear hb hg;by_cases he:n1=num
 ·have he':(n1 == num)=true:=by simpa using he
  have HE:=zE he;clear he;cases u
  ·go_enter func154,ntmps154;go_wp2;go_ret;exact zAK.f (fun h=>by cases h.2) HB.out
  ·go_enter func154,ntmps154;go_wp2;go_ret;exact zAK.t ⟨HE.out,trivial⟩ HB.out
 ·have he':(n1 == num)=false:=by simpa using he
  have HE:=zE he;clear he;go_enter func154,ntmps154;go_wp2;go_ret;exact zAK.f (fun h=>HE.out h.1) HB.out
structure VisO (wa w1 wr:World) (Z:Nat) (vr vn vm vh vs vz vtk vhas:Value) (b:Built) (S:List Int) (i:Nat) : Prop where
 below:Below wa.heap.size wa wr
 ints:∀ g o x,zK w1 g o (.int .i64 x)->zK wr g o (.int .i64 x)
 size:w1.heap.size<=wr.heap.size
 lo:wa.heap.size<=Z/\Z < w1.heap.size
 site:Lay wr Z #[vr,vn,.int .i64 b.of,vm,vh,vs,vz,vhas] 129
 tk:wr.ownsRow w1.heap.size 3 1 vtk b.hs.length (zQP (fun k=>zCX b S k i) b.hs.length)
 has:∃ cs,wr.ownsRow w1.heap.size 200 1 vhas i cs/\∀ j,j < i->∃ mb k,cs[j]? = some (.map (some mb))/\zGF wr mb k (visF b S j)
theorem VisO.ext {wa w1 wr wr':World} {Z:Nat} {vr vn vm vh vs vz vtk vhas:Value} {b:Built} {S:List Int} {i:Nat} (h:VisO wa w1 wr Z vr vn vm vh vs vz vtk vhas b S i) (hb:Below wr.heap.size wr wr') : VisO wa w1 wr' Z vr vn vm vh vs vz vtk vhas b S i:=by
 obtain ⟨cs,h1,h2⟩:=h.has;refine ⟨zA h.below hb,fun g o x hc=>zC hb (h.ints g o x hc),Nat.le_trans h.size hb.size,h.lo,h.site.ext hb,zAC hb h.tk,cs,zAC hb h1,fun j hj=>?_⟩;obtain ⟨mb,k,h3,h4⟩:=h2 j hj;exact ⟨mb,k,h3,h4.ext hb⟩
theorem zIU (w:World) (vr vn vm vh vs vz:Value) (b:Built) (S:List Int) (hA:BuiltArg w vr vn vm vh vs b) (hS:Sl zAM 1 w vz S) (hv:zF b=0) (hT:IsT (zBO b.ns.notes) S) :
  Calls prog 108 #[.agg #[vr,vn,.int .i64 b.of,vm,vh,vs],vz] w fun e w'=>∃ p,e = .returned (.pointer (some ⟨p,0,none⟩))/\zGR w' p vr vn vm vh vs vz b S/\Below w.heap.size w w':=by
 obtain ⟨i0,hif,iz0,iz1,iz2⟩:=info_parts zFY;obtain ⟨l0,hlf,lz0,lz1,lz2⟩:=info_parts infoMapH;have hmm:=@run_makeMap prog;obtain ⟨ar,cr,rfl,_⟩:=zD hA.at_.reg;obtain ⟨an,cn,rfl,_⟩:=zD hA.at_.notes;obtain ⟨am,cm,rfl,_⟩:=zD hA.at_.ms;obtain ⟨ah,ch,rfl,_⟩:=zD hA.at_.hs;obtain ⟨as',cs',rfl,_⟩:=zD hA.at_.rs;obtain ⟨az,cz,rfl,_⟩:=zD hS;obtain ⟨hb1,B1⟩:=zBY w #[.slice ar b.ns.reg.length cr,.slice an b.ns.notes.length cn,.int .i64 b.of,.slice am b.ms.length cm,.slice ah b.hs.length ch,.slice as' b.rs.length cs'] 32;have c0:=B1 0 _ rfl;have c1:=B1 1 _ rfl;have c2:=B1 2 _ rfl;have c3:=B1 3 _ rfl;have c4:=B1 4 _ rfl;have c5:=B1 5 _ rfl;have CA:=zE (And.intro c0 (And.intro c1 (And.intro c2 (And.intro c3 (And.intro c4 c5)))));have HA:=zE (hA.ext hb1);have HS:=zE (zJ zN hb1 hS);have HV:=zE hv;have HT:=zE hT;have hbu:=(zS hv).2;have HBU:=zE hbu;have hm12:b.ms.length<=12:=hbu.2.1;have hh4:b.hs.length<=4:=hbu.2.2.1;have hvr:=(zBJ (zS hv).1).1;have HVR:=zE hvr;have hls:=zAW hvr;have h20:(nums b.ns.reg).length<=20:=hls.2.2.2;have hmach:Hid (∀ m∈b.ms,In m 1 999):=fun m hm=>by
  obtain ⟨k,hk,rfl⟩:=List.getElem_of_mem hm;exact (hbu.2.2.2.2.1 k hk hk).1
 have hheap:Hid (∀ x∈b.hs,x.d∈nums b.ns.reg/\1<=x.l/\x.l<=8):=fun x hx=>by
  obtain ⟨k,hk,rfl⟩:=List.getElem_of_mem hx;obtain ⟨y,hy,_⟩:=(hbu.2.2.2.2.2.1 k hk hk).1;obtain ⟨h1,h2,h3⟩:=zIH hy;obtain ⟨q,hq,rfl⟩:=List.getElem_of_mem h1;have h4:=((hls.2.1 q hq).1 hq).1.2.1;unfold In at h4;rw [<- h2,<- h3];exact ⟨zOE _ (fun j hj=>(hls.2.1 j hj).2) q hq,h4⟩
 have hla:(w.alloc (.cells #[.slice ar b.ns.reg.length cr,.slice an b.ns.notes.length cn,.int .i64 b.of,.slice am b.ms.length cm,.slice ah b.hs.length ch,.slice as' b.rs.length cs'] 32)).heap.size=w.heap.size+1:=by simp
 have hbig:(100000:Nat) < maxLen:=by decide
 clear B1 hA hS hv hT hbu hvr hls;unfold zK at c0 c1 c2 c3 c4 c5;have hbz:=zB (w.alloc (.cells #[.slice ar b.ns.reg.length cr,.slice an b.ns.notes.length cn,.int .i64 b.of,.slice am b.ms.length cm,.slice ah b.hs.length ch,.slice as' b.rs.length cs'] 32)) (.cells #[.slice ar b.ns.reg.length cr,.slice an b.ns.notes.length cn,.int .i64 b.of,.slice am b.ms.length cm,.slice ah b.hs.length ch,.slice as' b.rs.length cs',.slice az S.length cz,.slice none 0 0] 129);have d0:=zC hbz CA.out.1;unfold zK at d0;have hLZ:=Lay.new (w.alloc (.cells #[.slice ar b.ns.reg.length cr,.slice an b.ns.notes.length cn,.int .i64 b.of,.slice am b.ms.length cm,.slice ah b.hs.length ch,.slice as' b.rs.length cs'] 32)) 129 #[.slice ar b.ns.reg.length cr,.slice an b.ns.notes.length cn,.int .i64 b.of,.slice am b.ms.length cm,.slice ah b.hs.length ch,.slice as' b.rs.length cs',.slice az S.length cz,.slice none 0 0];have HLZ:=zE hLZ;have HBZ:=zE hbz;clear hLZ hbz;go_enter func108,ntmps108;go_wp2_with fail;generalize w.alloc _=wa at *;rw [hla] at HLZ;generalize wa.alloc _=wz at *;refine (zLI _ _ b.ns.reg (HA.out.notes.reg.ext HBZ.out)).mono ?_;rintro e w1 ⟨⟨u,rfl,-,hdr⟩,hb1'⟩;have hdr:=hdr HVR.out;obtain ⟨ad,cd,rfl,_⟩:=zD hdr;rw [HVR.out];have HDR:=zE hdr;have hbz1:=zA HBZ.out hb1';have HBZ1:=zE hbz1;have HLZ1:=zE (HLZ.out.ext hb1');have k4:=zC hbz1 CA.out.2.2.2.2.1;unfold zK at k4;clear c0 c1 c2 c3 c4 c5 d0 hdr hb1' hbz1 HLZ HBZ;go_wp2_with (at_make;refine wpList_make_full _ rfl _ _ 28 rfl w1.heap.size 3 i0 (.int .i64 0) 1 underlying28 hif iz0 iz1 .i64 .i64 _ _ b.hs.length rfl rfl rfl rfl (by rw [iz2];omega) (by unfold maxLen;omega) (Nat.le_refl _) ?_;intro w2 hown0 hg0;have hb2:Below w1.heap.size w1 w2:=(Below.refl _ w1).grown hg0 (Nat.le_refl _) (fun k e=>by cases e);have k3:=zC (zA HBZ1.out hb2) CA.out.2.2.2.1;unfold zK at k3);rw [rowI_zero] at hown0;have hO0:VisO wa w1 w2 (w.heap.size+1) (.slice ar b.ns.reg.length cr) (.slice an b.ns.notes.length cn) (.slice am b.ms.length cm) (.slice ah b.hs.length ch) (.slice as' b.rs.length cs') (.slice az S.length cz) (.slice (some ⟨w1.heap.size,0,none⟩) b.hs.length b.hs.length) (.slice none 0 0) b S 0 :=
  ⟨zA HBZ1.out hb2,fun g o x hc=>zC hb2 hc,hb2.size,⟨by omega,HLZ1.out.lt⟩,HLZ1.out.ext hb2,hown0,[],World.ownsRow_nil _ _ _ _,fun j hj=>absurd hj (by omega)⟩
 have HO0:=zE hO0;clear hown0 hg0 hb2 hO0 k4 k3 HLZ1;go_loopw [44] (fun q wr=>∃ (i:Nat) (vhas:Value),q = .int .i64 i/\i<=b.ms.length/\Hid (VisO wa w1 wr (w.heap.size+1) (.slice ar b.ns.reg.length cr) (.slice an b.ns.notes.length cn) (.slice am b.ms.length cm) (.slice ah b.hs.length ch) (.slice as' b.rs.length cs') (.slice az S.length cz) (.slice (some ⟨w1.heap.size,0,none⟩) b.hs.length b.hs.length) vhas b S i)) (fun q _=>b.ms.length - (intOf q).toNat)
 case atStart=>exact ⟨0,_,rfl,by omega,HO0⟩
 case round =>
  clear HO0;obtain ⟨i,vhas,rfl,hi,HO⟩:=hrel;by_cases hlt:i < b.ms.length
  ·obtain ⟨bm,om,rfl,m0,hmI⟩:=(zY HA.out.at_.ms).2 i hlt
   have m0:=zC HO.out.below m0;have k0:=zC HO.out.below CA.out.1;have k1:=zC HO.out.below CA.out.2.1;have hmm1:b.ms[i]? = some b.ms[i]:=List.getElem?_eq_getElem hlt;have hmI1:=hmach.out _ (List.getElem_mem hlt);generalize b.ms[i]=m at *;have HMM:=zE hmm1;unfold zK at m0 k0 k1;rw [Nat.mul_one] at m0;clear hmm1;go_wp2_with fail;refine (lettersOf_note wr _ _ _ b.ns.reg b.ns.notes S m (HA.out.notes.ext HO.out.below) (HA.out.looks.ext HO.out.below) (zJ zN HO.out.below HS.out) (zS HV.out).1 HT.out hmI1).mono ?_;rintro e w3 ⟨ul,rfl,hul,hb3⟩;have HO3:=zE (HO.out.ext hb3);obtain ⟨al,cl,e9,hml⟩:=zD hul;rw [List.length_map] at e9;subst e9;have k0:=zC HO3.out.below CA.out.1;have k2:=zC HO3.out.below CA.out.2.2.1;unfold zK at k0 k2;clear hb3 m0 k1 HO;go_wp2_with fail;refine (explode_sheet w3 _ _ b.ns.reg (zAA S m b.ns.notes) b.of (HA.out.notes.reg.ext HO3.out.below) hul HVR.out (zNM (zS HV.out).1 S m) (zQS HV.out)).mono ?_;rintro e w4 ⟨up,rfl,hup,hb4⟩;have HO4:=zE (HO3.out.ext hb4);have HUL:=zE (zJ zN hb4 hul);obtain ⟨ap,cp,rfl,hmp⟩:=zD hup;have HUP:=zE hup;have HDR4:Hid (Sl zAM 1 w4 (.slice ad (nums b.ns.reg).length cd) (nums b.ns.reg)):=sl_to (fun _ _ _ h=>⟨HO4.out.ints _ _ _ h.1,h.2⟩) HDR.out;clear hup hul hb4 HO3 k0 k2;go_wp2;go_loopw [69] (fun q wq=>∃ j:Nat,q = .int .i64 j/\j<=(nums b.ns.reg).length/\Hid (Below w4.heap.size w4 wq/\zGF wq w4.heap.size j (vis2 b S m ((nums b.ns.reg).take j)))) (fun q _=>(nums b.ns.reg).length - (intOf q).toNat)
   case atStart=>exact ⟨0,rfl,by omega,zE ⟨zB _ _,(zMY w4).eqv (fun x _=>by simp [vis2])⟩⟩
   case round =>
    obtain ⟨j,rfl,hj,HJ⟩:=hrel;by_cases hlj:j < (nums b.ns.reg).length
    ·obtain ⟨bd,od,rfl,p0,hp0⟩:=(zY HDR4.out).2 j hlj
     obtain ⟨bl,ol,rfl,l0,_⟩:=(zY HUL.out).2 j (by rw [List.length_map];exact hlj);rw [List.getElem_map] at l0;have p0:=zC HJ.out.1 p0;have l0:=zC HJ.out.1 l0;have hjl:(j:Int) < (nums b.ns.reg).length:=by omega
     have htk:(nums b.ns.reg).take (j+1)=(nums b.ns.reg).take j++[(nums b.ns.reg)[j]]:=List.take_succ_eq_append_getElem hlj;have hmax:j < maxLen:=by omega
     generalize (nums b.ns.reg)[j]=d at *;obtain ⟨w9,hr,hM9,hg9⟩:=zKU underlying200 HJ.out.2 hp0 (zQZ 0 (zAA S m b.ns.notes d) (-1) 0) hmax;have HE:Hid (Below w4.heap.size w4 w9/\zGF w9 w4.heap.size (j+1) (vis2 b S m ((nums b.ns.reg).take (j+1)))):=⟨HJ.out.1.grown hg9 HJ.out.1.size (fun r e=>by cases e;exact Nat.le_refl _),hM9.eqv (fun y _=>by
      rw [htk];by_cases e:y=d
      ·subst e;simp [vis2]
      ·simp [vis2,e])⟩
     unfold zQZ at hr;unfold zK at p0 l0;rw [Nat.mul_one] at p0 l0;clear hM9 hg9 htk;go_wp2;go_roundw
     ·exact ⟨j+1,by go_num,by omega,HE⟩
     ·simp [intOf];omega
    ·obtain rfl:j=(nums b.ns.reg).length:=by omega
     have hM2:=HJ.out.2;rw [List.take_length] at hM2;have HM2:=zE (And.intro HJ.out.1 hM2);clear hM2 HJ;have hL20:(zIL b.ns.reg (zAA S m b.ns.notes) b.of).length<=20:=by have:=posTo_len (nums b.ns.reg) (zIE b.ns.reg (zAA S m b.ns.notes) b.of) (nums b.ns.reg).length;unfold zIL;omega
     have hLm:Hid (∀ x∈zIL b.ns.reg (zAA S m b.ns.notes) b.of,x.d∈nums b.ns.reg):=fun x hx=>(posTo_mem hx).1
     have hVZ:=zE (vis6_zero HV.out S m i);go_wp2;generalize zIL b.ns.reg (zAA S m b.ns.notes) b.of=L at *;go_loopw [84] (fun q wq=>∃ j:Nat,q = .int .i64 j/\j<=L.length/\Hid (Below w4.heap.size w4 wq/\zGF wq w4.heap.size (20+j) (vis4 b S m L j))) (fun q _=>L.length - (intOf q).toNat)
     case atStart=>exact ⟨0,rfl,by omega,zE ⟨HM2.out.1,HM2.out.2.mono (by omega)⟩⟩
     case round =>
      clear HM2;obtain ⟨j,rfl,hj,HJ⟩:=hrel;by_cases hlj:j < L.length
      ·obtain ⟨bi,oi,rfl,⟨p0,p1⟩,hx0,hx1⟩:=(zY HUP.out).2 j hlj
       have p0:=zC HJ.out.1 p0;have p1:=zC HJ.out.1 p1;have hxd:=hLm.out _ (List.getElem_mem hlj);have hyes:=zE (fun n h=>lastC_yes (n:=n) hlj h);have hno:=zE (fun n h=>lastC_no (n:=n) hlj h);generalize L[j]=x at *;have hmax:20+j < maxLen:=by omega
       have hbA:=zB wr (.cells #[.int .i64 x.d,.int .i64 x.c] 97);have hv4:vis4 b S m L j x.d=some (zQZ (zQN L x.d j) (zAA S m b.ns.notes x.d) (-1) 0):=by unfold vis4;rw [if_pos hxd]
       have hlook:=zFS underlying200 (Tryz.zeroValue199 (wr.alloc (.cells #[.int .i64 x.d,.int .i64 x.c] 97))) (HJ.out.2.ext hbA) hx0;rw [hv4] at hlook;simp only [Option.getD_some,zQZ] at hlook;have hbB:Below wr.heap.size wr ((wr.alloc (.cells #[.int .i64 x.d,.int .i64 x.c] 97)).alloc (.cells #[.int .i64 x.c,.int .i64 (zAA S m b.ns.notes x.d),.int .i64 (-1),.int .i64 0] 199)):=zA hbA (zB _ _);obtain ⟨w9,hr,hM9,hg9⟩:=zKU underlying200 (HJ.out.2.ext hbB) hx0 (.agg #[.int .i64 x.c,.int .i64 (zAA S m b.ns.notes x.d),.int .i64 (-1),.int .i64 0]) hmax;have HE:Hid (Below w4.heap.size w4 w9/\zGF w9 w4.heap.size (20+(j+1)) (vis4 b S m L (j+1))):=⟨(zA HJ.out.1 hbB).grown hg9 (zA HJ.out.1 hbB).size (fun r e=>by cases e;exact Nat.le_refl _),hM9.eqv (fun y _=>by
        by_cases e:y=x.d
        ·subst e;rw [if_pos rfl];unfold vis4;rw [if_pos hxd,hyes.out _ rfl];rfl
        ·rw [if_neg e];unfold vis4;rw [hno.out _ (fun h=>e h.symm)])⟩
       unfold zK at p0 p1;clear hbA hbB hM9 hg9 hyes hno hv4 hxd;generalize zQN L x.d j=lc at *;generalize zAA S m b.ns.notes x.d=ll at *;go_wp2;go_roundw
       ·exact ⟨j+1,by go_num,by omega,HE⟩
       ·simp [intOf];omega
      ·obtain rfl:j=L.length:=by omega
       have hM4:=HJ.out.2;rw [hVZ.out] at hM4;have HM4:=zE (And.intro HJ.out.1 (hM4.mono (show 20+L.length<=40 by omega)));have k4:=zC (zA HO4.out.below HJ.out.1) CA.out.2.2.2.2.1;unfold zK at k4;have hG:w1.heap.size < w4.heap.size:=(HO4.out.tk.lt w1.heap.size rfl).2;have hGa:wa.heap.size<=w1.heap.size:=by have:=HO4.out.lo;omega
       have HK0:Hid (w4.grownBy wr (some w1.heap.size)/\wr.ownsRow w1.heap.size 3 1 (.slice (some ⟨w1.heap.size,0,none⟩) b.hs.length b.hs.length) b.hs.length (zQP (zQU b S i 0) b.hs.length)/\zGF wr w4.heap.size (40+0) (vis6 b S m i 0)) :=
        ⟨zAV HJ.out.1,by rw [tkTo_zero];exact zAC HJ.out.1 HO4.out.tk,HM4.out.2⟩
       clear hM4 HJ HM4;go_wp2;clear k4;go_loopw [103] (fun q wq=>∃ k:Nat,q = .int .i64 k/\k<=b.hs.length/\Hid (w4.grownBy wq (some w1.heap.size)/\wq.ownsRow w1.heap.size 3 1 (.slice (some ⟨w1.heap.size,0,none⟩) b.hs.length b.hs.length) b.hs.length (zQP (zQU b S i k) b.hs.length)/\zGF wq w4.heap.size (40+k) (vis6 b S m i k))) (fun q _=>b.hs.length - (intOf q).toNat)
       case atStart=>exact ⟨0,rfl,by omega,HK0⟩
       case round =>
        clear HK0;obtain ⟨k,rfl,hk,HK⟩:=hrel;have hBK:=zE (HO4.out.below.grown HK.out.1 HO4.out.below.size (fun r e=>by cases e;exact hGa));by_cases hlk:k < b.hs.length
        ·obtain ⟨bh,oh,rfl,⟨g0,g1,g2,g3⟩,hgn⟩:=(zY HA.out.at_.hs).2 k hlk
         have g0:=zC hBK.out g0;have g1:=zC hBK.out g1;have g2:=zC hBK.out g2;have g3:=zC hBK.out g3;obtain ⟨hxd,hxl1,hxl8⟩:=hheap.out _ (List.getElem_mem hlk);have hd64:=hgn.1;have hl64:=hgn.2.1;have hsucc:Hid (∀ d,zNT b S m d (k+1)=if zMD b.ns.notes (zLR S m b.ns.notes d)=true/\b.hs[k].d=d/\b.hs[k].l=zAA S m b.ns.notes d - 1 then (k:Int) else zNT b S m d k):=fun d=>by
          rw [zMZ];by_cases hc:zMD b.ns.notes (zLR S m b.ns.notes d)=true/\b.hs[k].d=d/\b.hs[k].l=zAA S m b.ns.notes d - 1
          ·rw [if_pos hc,if_pos ⟨hc.1,hlk,hc.2⟩]
          ·rw [if_neg hc,if_neg (fun ⟨h1,_,h2⟩=>hc ⟨h1,h2⟩)]
         have htake:=zE (takeB_step HV.out (S:=S) (m:=m) hlk);have hlb:=zNN (zS HV.out).1 S m hxd;generalize b.hs[k]=x at *;obtain ⟨x,xl,xlo,xhi⟩:=x;simp only at *;have hbA:=zB wr (.cells #[.int .i64 x,.int .i64 xl,.int .i64 xlo,.int .i64 xhi] 42);have hv6:vis6 b S m i k x=some (zQZ (zIE b.ns.reg (zAA S m b.ns.notes) b.of x) (zAA S m b.ns.notes x) (zNT b S m x k) (bfAt b S i (zNT b S m x k))):=by unfold vis6;rw [if_pos hxd]
         have HV6:=zE hv6;have hcb:=cnt_bd HVR.out (zAA S m b.ns.notes) (zQS HV.out) x;have hCI:Hid (∀ y,vis6 b S m i (k+1) y=if y∈nums b.ns.reg then some (zQZ (zIE b.ns.reg (zAA S m b.ns.notes) b.of y) (zAA S m b.ns.notes y) (zNT b S m y (k+1)) (bfAt b S i (zNT b S m y (k+1)))) else none):=fun _=>rfl
         have hCK:Hid (∀ y,vis6 b S m i k y=if y∈nums b.ns.reg then some (zQZ (zIE b.ns.reg (zAA S m b.ns.notes) b.of y) (zAA S m b.ns.notes y) (zNT b S m y k) (bfAt b S i (zNT b S m y k))) else none):=fun _=>rfl
         have hlook:=zFS underlying200 (Tryz.zeroValue199 (wr.alloc (.cells #[.int .i64 x,.int .i64 xl,.int .i64 xlo,.int .i64 xhi] 42))) (HK.out.2.2.ext hbA) hd64;rw [hv6] at hlook;simp only [Option.getD_some,zQZ] at hlook;obtain ⟨C,hC⟩ : ∃ C,zIE b.ns.reg (zAA S m b.ns.notes) b.of x=C:=⟨_,rfl⟩;obtain ⟨Lt,hLt⟩ : ∃ Lt,zAA S m b.ns.notes x=Lt:=⟨_,rfl⟩;obtain ⟨HP,hHP⟩ : ∃ HP,zNT b S m x k=HP:=⟨_,rfl⟩;obtain ⟨BF,hBF⟩ : ∃ BF,bfAt b S i HP=BF:=⟨_,rfl⟩;rw [hHP,hBF,hC,hLt] at hlook;rw [hLt] at hlb;rw [hC] at hcb;have EQ:=zE (And.intro hC (And.intro hLt (And.intro hHP hBF)));have L22:=Lay.new wr 42 #[.int .i64 x,.int .i64 xl,.int .i64 xlo,.int .i64 xhi];have L23:=Lay.new (wr.alloc (.cells #[.int .i64 x,.int .i64 xl,.int .i64 xlo,.int .i64 xhi] 42)) 199 #[.int .i64 C,.int .i64 Lt,.int .i64 HP,.int .i64 BF];rw [World.size_alloc] at L23;have hbB:=zA hbA (zB (wr.alloc (.cells #[.int .i64 x,.int .i64 xl,.int .i64 xlo,.int .i64 xhi] 42)) (.cells #[.int .i64 C,.int .i64 Lt,.int .i64 HP,.int .i64 BF] 199));have L22:=L22.ext (zB _ (.cells #[.int .i64 C,.int .i64 Lt,.int .i64 HP,.int .i64 BF] 199));have k0:=zC (zA hBK.out hbB) CA.out.1;have k1:=zC (zA hBK.out hbB) CA.out.2.1;have HL22:=zE L22;have HL23:=zE L23;have HBB:=zE hbB;have HXD:=zE hxd;unfold zK at g0 g1 g2 g3 k0 k1;clear hv6 hC hLt hHP hBF L22 L23 hbA hbB hxd;go_wp2_with fail;clear g0 g1 g2 g3 k0 k1 hlook;generalize (wr.alloc _).alloc _=wB at *;refine (byOf_note wB _ _ _ b.ns.reg b.ns.notes S m x (HA.out.notes.ext (zA hBK.out HBB.out)) (HA.out.looks.ext (zA hBK.out HBB.out)) (zJ zN (zA hBK.out HBB.out) HS.out) (zS HV.out).1 HT.out hmI1 HXD.out).mono ?_;rintro e w7 ⟨rfl,hb7⟩;obtain ⟨nm,hnm⟩ : ∃ nm,zLR S m b.ns.notes x=nm:=⟨_,rfl⟩;rw [hnm];have HNM:=zE hnm;have hba8:=zB w7 (.cells #[.int .i64 nm] 3);have hb8:=zA HBB.out (zA hb7 hba8);have hb87:=zA hb7 hba8;have l22:=HL22.out.ext hb87;have l23:=HL23.out.ext hb87;have k1:=zC (zA hBK.out hb8) CA.out.2.1;have n8:=zR w7 #[.int .i64 nm] 3 0 _ rfl;have HB8:=zE hb8;have HL22:=zE l22;have HL23:=zE l23;have HN8:=zE n8;have p1:=l22.cell 1 _ rfl;have r1:=l23.cell 1 _ rfl;have hwx:IntKind.i64.wrap (xl+1)=xl+1:=IntWalk.i64_in _ (by omega);unfold zK at k1;clear hnm hba8 hb8 hb87 hb7 l22 l23 n8 HBB;have eg:=enter_vis1;unfold Enters at eg;by_cases hml2:Lt=xl+1
         ·have hml':(Lt == xl+1)=true:=by simpa using hml2
          have HML:=zE hml2;clear hml2;go_wp2_with fail;refine (zEQ _ _ b.ns.notes (HA.out.notes.ext (zA hBK.out HB8.out)).sl 154 #[.pointer (some ⟨w7.heap.size,0,none⟩)] eg (fun y=>y.num=nm/\y.use=true) (fun y hy w' hb'=>visited1 w' y w7.heap.size nm (zC hb' HN8.out))).mono ?_;intro e w9 hr;rcases hr.both with ⟨h1,rfl,hb9⟩ | ⟨h1,rfl,hb9⟩
          ·have HUS:Hid (zMD b.ns.notes nm=true):=by
            obtain ⟨y,hy,h2,h3⟩:=h1;unfold Hid zMD;rw [List.any_eq_true];exact ⟨y,hy,by simp [h2,h3]⟩
           have hb89:=zA HB8.out hb9;have HB9:=zE hb89;have l22:=HL22.out.ext hb9;have l23:=HL23.out.ext hb9;have HO9:=zE (zAC hb89 HK.out.2.1);have HM9:=zE (HK.out.2.2.ext hb89);have t0:=HO9.out.cells (g:=w1.heap.size) rfl k _ (rowI_at _ _ _ hlk);rw [zAZ] at t0;have hTk:zQU b S i k k=zCX b S k i:=by unfold zQU;rw [if_neg (by omega)]
           rw [hTk] at t0;have hne1:w1.heap.size≠wr.heap.size+1:=by have:=HK.out.1.size;omega
           have hkl:(k:Int) < b.hs.length:=by omega
           obtain ⟨T,hT9⟩ : ∃ T,zCX b S k i=T:=⟨_,rfl⟩;rw [hT9] at t0;have HT9:=zE hT9;have p0:=l22.cell 0 _ rfl;have r0:=l23.cell 0 _ rfl;have r1:=l23.cell 1 _ rfl;have r2:=l23.cell 2 _ rfl;have r3:=l23.cell 3 _ rfl;have rf2:=l23.frozen 2;have rf3:=l23.frozen 3;have rl:=l23.lt;have HL22:=zE l22;have HL23:=zE l23;clear h1 hr hb9 hb89 l22 l23 hTk hT9 p1 k1;go_wp2;go_region;have hOn:=(((zNR (wr.heap.size+1) w9).set (j:=2) (u:=.int .i64 k)).set (j:=3) (u:=.int .i64 T)).drawn;have L23c:Lay ((w9.setCell ⟨wr.heap.size+1,2,none⟩ (.int .i64 k)).setCell ⟨wr.heap.size+1,3,none⟩ (.int .i64 T)).drew (wr.heap.size+1) #[.int .i64 C,.int .i64 Lt,.int .i64 k,.int .i64 T] 199:=zCF (zCF HL23.out 2 (.int .i64 k)) 3 (.int .i64 T);have L22c:Lay ((w9.setCell ⟨wr.heap.size+1,2,none⟩ (.int .i64 k)).setCell ⟨wr.heap.size+1,3,none⟩ (.int .i64 T)).drew wr.heap.size #[.int .i64 x,.int .i64 xl,.int .i64 xlo,.int .i64 xhi] 42:=zFX (zFX HL22.out (by omega) 2 (.int .i64 k)) (by omega) 3 (.int .i64 T);have hoc:=HO9.out.kept hOn.grown1 (.inr fun e=>by have:=Option.some.inj (show some w1.heap.size=some (wr.heap.size+1) from e);omega);have hmc:zGF ((w9.setCell ⟨wr.heap.size+1,2,none⟩ (.int .i64 k)).setCell ⟨wr.heap.size+1,3,none⟩ (.int .i64 T)).drew w4.heap.size (40+k) (vis6 b S m i k):=HM9.out.same (hOn.block _ (by have:=HK.out.1.size;have:=HK.out.2.2.lt;omega));have HON:=zE hOn;clear t0 p0 r0 r1 r2 r3 rf2 rf3 rl hOn;generalize ((w9.setCell ⟨wr.heap.size+1,2,none⟩ (.int .i64 k)).setCell ⟨wr.heap.size+1,3,none⟩ (.int .i64 T)).drew=wC at *;have t0:=hoc.cells (g:=w1.heap.size) rfl k _ (rowI_at _ _ _ hlk);rw [zAZ] at t0;have hTk:zQU b S i k k=T:=by rw [<- HT9.out];unfold zQU;rw [if_neg (by omega)]
           rw [hTk] at t0;have tf:=zNI hoc k;have tl:=(hoc.lt w1.heap.size rfl).2;have r0:=L23c.cell 0 _ rfl;have hbfb:=bef_bd HV.out S k i;rw [HT9.out] at hbfb;have hi12:i*16777216000000<=12*16777216000000:=Nat.mul_le_mul_right _ (by omega);have hwTC:IntKind.i64.wrap (T+C)=T+C:=IntWalk.i64_in _ (by omega);have hst:=(hoc.stored k (.int .i64 (T+C))).1;rw [rowI_set] at hst;have hTS:Hid (zHZ b S k m=C):=by unfold Hid;rw [htake.out,if_pos,EQ.out.1];rw [hsucc.out,if_pos];exact ⟨by rw [HNM.out];exact HUS.out,rfl,by rw [EQ.out.2.1,HML.out];omega⟩
           have hrow:zQP (fun j=>if j=k then T+C else zQU b S i k j) b.hs.length=zQP (zQU b S i (k+1)) b.hs.length:=rowI_eq fun j hj=>by
            by_cases e:j=k
            ·subst e;rw [if_pos rfl];unfold zQU;rw [if_pos (by omega),zPI HMM.out,hTS.out,HT9.out]
            ·rw [if_neg e]
             unfold zQU;by_cases e2:j < k
             ·rw [if_pos e2,if_pos (by omega)]
             ·rw [if_neg e2,if_neg (by omega)]
           rw [hrow] at hst;have HST:=zE hst;have HOC:=zE hoc;have HMC:=zE hmc;have HL23:=zE L23c;have HL22:=zE L22c;clear hst hrow hoc hmc L23c L22c hTk hbfb hi12;go_wp2;go_region;have hOn2:=((zNR w1.heap.size wC).set (j:=k) (u:=.int .i64 (T+C))).drawn;have ho2:(wC.setCell ⟨w1.heap.size,k,none⟩ (.int .i64 (T+C))).drew.ownsRow w1.heap.size 3 1 (.slice (some ⟨w1.heap.size,0,none⟩) b.hs.length b.hs.length) b.hs.length (zQP (zQU b S i (k+1)) b.hs.length):=HST.out;have l22:=HL22.out.kept hOn2.grown1 (fun e=>by have:=Option.some.inj e;have:=HK.out.1.size;omega);have l23:=HL23.out.kept hOn2.grown1 (fun e=>by have:=Option.some.inj e;omega);have hmd:=HMC.out.same (hOn2.block w4.heap.size (by omega));have HON2:=zE hOn2;clear t0 tf tl r0 HST hOn2;generalize (wC.setCell ⟨w1.heap.size,k,none⟩ (.int .i64 (T+C))).drew=wD at *;have p0:=l22.cell 0 _ rfl;have r0:=l23.cell 0 _ rfl;have r1:=l23.cell 1 _ rfl;have r2:=l23.cell 2 _ rfl;have r3:=l23.cell 3 _ rfl;obtain ⟨w10,hr10,hM10,hg10⟩:=zKU underlying200 hmd hd64 (.agg #[.int .i64 C,.int .i64 Lt,.int .i64 k,.int .i64 T]) (show 40+k < maxLen by omega);have HE:Hid (w4.grownBy w10 (some w1.heap.size)/\w10.ownsRow w1.heap.size 3 1 (.slice (some ⟨w1.heap.size,0,none⟩) b.hs.length b.hs.length) b.hs.length (zQP (zQU b S i (k+1)) b.hs.length)/\zGF w10 w4.heap.size (40+(k+1)) (vis6 b S m i (k+1))):=by
            have hsz:=HK.out.1.size;have g1:=zAG HK.out.1 (zAV (g:=some w1.heap.size) HB9.out);have g2:=HON.out.grown (by omega) g1;have g3:=zAG g2 HON2.out.grown1;refine ⟨zOW g3 hg10 (fun r e=>by cases e;exact Nat.le_refl _),ho2.kept hg10 (.inr fun e=>by have:=Option.some.inj (show some w1.heap.size=some w4.heap.size from e);omega),hM10.eqv fun y _=>?_⟩;have hsx:zNT b S m x (k+1)=k:=by rw [hsucc.out,if_pos];exact ⟨by rw [HNM.out];exact HUS.out,rfl,by rw [EQ.out.2.1,HML.out];omega⟩
            by_cases e:y=x
            ·subst e
             rw [if_pos rfl,hCI.out,if_pos HXD.out,EQ.out.1,EQ.out.2.1,hsx];have:bfAt b S i ((k:Nat) : Int)=T:=by unfold bfAt;rw [if_pos (by omega),Int.toNat_natCast,HT9.out]
             rw [this];rfl
            ·have hy:zNT b S m y (k+1)=zNT b S m y k:=by rw [hsucc.out,if_neg (fun h=>e h.2.1.symm)]
             rw [if_neg e,hCI.out,hCK.out,hy]
           clear hM10 hg10 l22 l23 hmd ho2;go_wp2;go_roundw
           ·exact ⟨k+1,by go_num,by omega,HE⟩
           ·simp [intOf];omega
          ·have hb89:=zA HB8.out hb9
           have HB9:=zE hb89;have HUSN:Hid (¬ zMD b.ns.notes nm=true):=fun h=>h1 (by unfold zMD at h;rw [List.any_eq_true] at h;obtain ⟨y,hy,h2⟩:=h;simp at h2;exact ⟨y,hy,h2.1,h2.2⟩)
           have HUF:Hid (zHZ b S k m=0/\∀ y,zNT b S m y (k+1)=zNT b S m y k):=by
            have hx:∀ y,¬ (zMD b.ns.notes (zLR S m b.ns.notes y)=true/\x=y/\xl=zAA S m b.ns.notes y - 1):=fun y hc=>by
             obtain ⟨c1,rfl,c3⟩:=hc;rw [HNM.out] at c1;exact HUSN.out c1
            refine ⟨?_,fun y=>by rw [hsucc.out,if_neg (hx y)]⟩;rw [htake.out,if_neg];rw [hsucc.out,if_neg (hx x)];have:=(zNY b.hs x (zAA S m b.ns.notes x) (zMD b.ns.notes (zLR S m b.ns.notes x)) k).2;unfold zNT;omega
           clear h1 hr hb9 hb89;have hrow:zQP (zQU b S i k) b.hs.length=zQP (zQU b S i (k+1)) b.hs.length:=rowI_eq fun j hj=>by
            unfold zQU;by_cases e:j=k
            ·subst e;rw [if_neg (by omega),if_pos (by omega),zPI HMM.out,HUF.out.1,Int.add_zero]
            ·by_cases e2:j < k
             ·rw [if_pos e2,if_pos (by omega)]
             ·rw [if_neg e2,if_neg (by omega)]
           have HE:Hid (w4.grownBy w9 (some w1.heap.size)/\w9.ownsRow w1.heap.size 3 1 (.slice (some ⟨w1.heap.size,0,none⟩) b.hs.length b.hs.length) b.hs.length (zQP (zQU b S i (k+1)) b.hs.length)/\zGF w9 w4.heap.size (40+(k+1)) (vis6 b S m i (k+1))):=by refine ⟨zAG HK.out.1 (zAV HB9.out),by rw [<- hrow];exact zAC HB9.out HK.out.2.1,((HK.out.2.2.ext HB9.out).mono (by omega)).eqv fun y _=>?_⟩;rw [hCI.out,hCK.out,HUF.out.2]
           clear hrow p1 k1 hml';go_wp2;go_roundw
           ·exact ⟨k+1,by go_num,by omega,HE⟩
           ·simp [intOf];omega
         ·have hml':(Lt == xl+1)=false:=by simpa using hml2
          have HML:=zE hml2;have HUF:Hid (zHZ b S k m=0/\∀ y,zNT b S m y (k+1)=zNT b S m y k):=by
           have hx:∀ y,¬ (zMD b.ns.notes (zLR S m b.ns.notes y)=true/\x=y/\xl=zAA S m b.ns.notes y - 1):=fun y hc=>by
            obtain ⟨c1,rfl,c3⟩:=hc;rw [EQ.out.2.1] at c3;exact HML.out (by omega)
           refine ⟨?_,fun y=>by rw [hsucc.out,if_neg (hx y)]⟩;rw [htake.out,if_neg];rw [hsucc.out,if_neg (hx x)];have:=(zNY b.hs x (zAA S m b.ns.notes x) (zMD b.ns.notes (zLR S m b.ns.notes x)) k).2;unfold zNT;omega
          have hrow:zQP (zQU b S i k) b.hs.length=zQP (zQU b S i (k+1)) b.hs.length:=rowI_eq fun j hj=>by
           unfold zQU;by_cases e:j=k
           ·subst e;rw [if_neg (by omega),if_pos (by omega),zPI HMM.out,HUF.out.1,Int.add_zero]
           ·by_cases e2:j < k
            ·rw [if_pos e2,if_pos (by omega)]
            ·rw [if_neg e2,if_neg (by omega)]
          have HE:Hid (w4.grownBy (w7.alloc (.cells #[.int .i64 nm] 3)) (some w1.heap.size)/\(w7.alloc (.cells #[.int .i64 nm] 3)).ownsRow w1.heap.size 3 1 (.slice (some ⟨w1.heap.size,0,none⟩) b.hs.length b.hs.length) b.hs.length (zQP (zQU b S i (k+1)) b.hs.length)/\zGF (w7.alloc (.cells #[.int .i64 nm] 3)) w4.heap.size (40+(k+1)) (vis6 b S m i (k+1))):=by refine ⟨zAG HK.out.1 (zAV HB8.out),by rw [<- hrow];exact zAC HB8.out HK.out.2.1,((HK.out.2.2.ext HB8.out).mono (by omega)).eqv fun y _=>?_⟩;rw [hCI.out,hCK.out,HUF.out.2]
          clear hrow k1 hml2;go_wp2;go_roundw
          ·exact ⟨k+1,by go_num,by omega,HE⟩
          ·simp [intOf];omega
        ·obtain rfl:k=b.hs.length:=by omega
         obtain ⟨cs,hoc,hmaps⟩:=HO4.out.has;have hbG:=own_boxT HO4.out.tk;have hZ1:=HO4.out.lo;have hne:=own_boxT_ne hoc hbG (by decide);have hocr:=hoc.kept HK.out.1 (.inr hne);obtain ⟨av,cv,rfl⟩:=zDC hocr;have hsite:=HO4.out.site.kept HK.out.1 (fun e=>by have:=Option.some.inj e;omega);have hintr:Hid (∀ g o x,zK w1 g o (.int .i64 x)->zK wr g o (.int .i64 x)):=fun g o x hc=>zNL HK.out.1 (by have:=zAD hc;omega) (HO4.out.ints g o x hc)
         have hmr:Hid (∀ j,j < i->∃ mb k,cs[j]? = some (.map (some mb))/\zGF wr mb k (visF b S j)):=fun j hj=>by
          obtain ⟨mb,k,h1,h2⟩:=hmaps j hj;exact ⟨mb,k,h1,h2.same (HK.out.1.block mb h2.lt (fun e=>map_box h2 hbG (Option.some.inj e)))⟩
         have hown6:Hid (wr.ownsRow w1.heap.size 3 1 (.slice (some ⟨w1.heap.size,0,none⟩) b.hs.length b.hs.length) b.hs.length (zQP (fun k=>zCX b S k (i+1)) b.hs.length)):=by have h:=HK.out.2.1;rw [rowI_eq (g':=fun k=>zCX b S k (i+1)) (fun j hj=>tkTo_all hj)] at h;exact h
         have hmap6:Hid (zGF wr w4.heap.size (40+b.hs.length) (visF b S i)):=by have h:=HK.out.2.2;rw [visF_is HMM.out] at h;exact h
         have s7:=hsite.cell 7 _ rfl;have HSI:=zE hsite;have HOC:=zE hocr;have hsz:w1.heap.size<=wr.heap.size:=by have:=HK.out.1.size;omega
         clear hoc hmaps hne hocr hsite hbG;go_wp2_with (
          at_builtin
          refine wpList_append_own _ rfl _ _ 127 rfl w1.heap.size 200 l0 (.map none) 1 8 underlying127 hlf lz0 lz1 lz2 rfl (by decide) _ _ _ rfl (HOC.out.alloc _) ⟨wr.heap.size,0,none⟩ 1 1 [.map (some w4.heap.size)] rfl rfl (cell_one_new _ _ _) (by simp [Value.oneCell']) (by unfold maxLen;omega) (by omega) (by simp;omega) ?_;intro v' w11 hown' hgrow _;obtain ⟨g',cap',rfl⟩:=zDM hown';have hge:∀ r,(Value.slice av i cv).ownBlock=some r->w1.heap.size<=r:=fun r e=>(HOC.out.lt r e).1
          have hsite11:=(HSI.out.alloc (.cells #[.map (some w4.heap.size)] 200)).kept hgrow (fun e=>by have:=hge _ e.symm;omega);have s7:=hsite11.cell 7 _ rfl;have sf:=hsite11.frozen 7;have sl:=hsite11.lt)
         have hba:=zB wr (.cells #[.map (some w4.heap.size)] 200);have hbT:=own_boxT (zAC hba hown6.out);have hneT:=own_boxT_ne (HOC.out.alloc (.cells #[.map (some w4.heap.size)] 200)) hbT (by decide);have hV:VisO wa w1 (w11.setCell ⟨w.heap.size+1,7,none⟩ (.slice (some ⟨g',0,none⟩) (i+1) cap')) (w.heap.size+1) (.slice ar b.ns.reg.length cr) (.slice an b.ns.notes.length cn) (.slice (some ⟨bm,om,none⟩) b.ms.length cm) (.slice ah b.hs.length ch) (.slice as' b.rs.length cs') (.slice az S.length cz) (.slice (some ⟨w1.heap.size,0,none⟩) b.hs.length b.hs.length) (.slice (some ⟨g',0,none⟩) (i+1) cap') b S (i+1):=by
          have hmk:∀ mb k f,zGF wr mb k f->zGF (w11.setCell ⟨w.heap.size+1,7,none⟩ (.slice (some ⟨g',0,none⟩) (i+1) cap')) mb k f:=fun mb k f h=>by
           have h1:=h.ext hba;have h2:zGF w11 mb k f:=h1.same (hgrow.block mb h1.lt (map_row h1 (HOC.out.alloc _)));exact h2.same (Below.heap_setCell w11 ⟨w.heap.size+1,7,none⟩ _ mb (map_box h2 ⟨_,hsite11⟩))
          refine ⟨zI (by omega) ((zA hBK.out hba).grown hgrow (zA hBK.out hba).size (fun r e=>by have:=hge r e;omega)),fun g o y hc=>?_,?_,hZ1,zCF hsite11 7 _,own_set ((zAC hba hown6.out).kept hgrow (.inr fun e=>hneT (e ▸ rfl))) (by omega),cs++[.map (some w4.heap.size)],own_set hown' (by omega),fun j hj=>?_⟩
          ·have h1:=zC hba (hintr.out g o y hc)
           have hg1:=zAD hc;have h2:zK w11 g o (.int .i64 y):=zAF (hgrow.block g (zAD h1) (fun e=>by have:=hge g e.symm;omega)) h1;by_cases eg2:g=w.heap.size+1
           ·subst eg2
            by_cases eo:o=7
            ·subst eo;unfold zK at h2;rw [s7] at h2;cases h2
            ·exact cell_set_off eo h2
           ·exact zBR h2 eg2
          ·have:=hgrow.size;simp at this ⊢;omega
          ·by_cases e:j=i
           ·subst e
            have hl:cs.length=j:=by have:=HOC.out.1;omega
            exact ⟨w4.heap.size,_,by rw [<- hl];simp,hmk _ _ _ hmap6.out⟩
           ·obtain ⟨mb,k,h1,h2⟩:=hmr.out j (by omega);exact ⟨mb,k,by rw [List.getElem?_append_left (List.getElem?_eq_some_iff.1 h1).1];exact h1,hmk _ _ _ h2⟩
         have HVF:=zE hV;clear hown' hgrow hge hsite11 s7 sf sl hba hbT hneT hV;go_roundw
         ·exact ⟨i+1,_,by go_num,by omega,HVF⟩
         ·simp [intOf];omega
  ·obtain rfl:i=b.ms.length:=by omega
   have HF:Hid (zGR wr (w.heap.size+1) (.slice ar b.ns.reg.length cr) (.slice an b.ns.notes.length cn) (.slice am b.ms.length cm) (.slice ah b.hs.length ch) (.slice as' b.rs.length cs') (.slice az S.length cz) b S):=by obtain ⟨cs,h1,h2⟩:=HO.out.has;exact ⟨vhas,cs,w1.heap.size,HO.out.site,h1,h2⟩
   have HBF:=zE (zA hb1 HO.out.below);go_wp2;go_ret;exact ⟨_,rfl,HF.out,HBF.out⟩
end
end Go.Proofs.YtipaopbmklbmnaaGreatDoor
