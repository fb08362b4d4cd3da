/- Lemmas. -/
import Derived.DeepKeys4
import Derived.Shelf.SlGeneric
import Derived.Shelf.Sort.Plain
import Derived.Shelf.Slices.CompactI
import Derived.Shelf.SlicesE.DeleteFunc
import Derived.Test.YtipaopbmklbmnaaGreatDoorProg
import Derived.Test.YtipaopbmklbmnaaGreatDoorT37
set_option linter.all false
set_option maxRecDepth 100000
set_option maxHeartbeats 0
namespace Go.Proofs.YtipaopbmklbmnaaGreatDoor
section
open Go.RowKit
theorem laidOut_prog:laidOutB Tryz.prog=true:=by kernel_rfl
theorem zJS:Maps.Keyed Tryz.prog 45 :=
 Maps.Keyed.of_law (deep_law_laid laidOut_prog (m:=9) (by decide) (of_decide_eq_true (by kernel_rfl)) (by kernel_rfl) (by kernel_rfl))
def kRef (d l:Int) : Value:=.agg #[.int .i64 d,.int .i64 l]
def kLit (d l:Int) : Lit:=.string (keyBytes [.int .i64 d,.int .i64 l])
theorem zPN {d l:Int} (hd:I64 d) (hl:I64 l) : keyOf Tryz.prog 45 (kRef d l)=some (kLit d l):=by
 have h1:Tryz.prog.keyType 45=true:=by kernel_rfl
 have h2:(kRef d l).formed Tryz.prog 45=true:=by kernel_rfl
 obtain ⟨N,hN⟩ : ∃ N,Tryz.prog.types.size+1=N+2:=⟨Tryz.prog.types.size - 1,by have:Tryz.prog.types.size≠0:=of_decide_eq_true (by kernel_rfl);omega⟩;have hc:Tryz.prog.cellsOf 45=2:=by kernel_rfl
 have hi:Tryz.prog.cellsOf 3=1:=by kernel_rfl
 have hwd:=wf_i64 hd;have hwl:=wf_i64 hl;have h3:Tryz.prog.keyLits (Tryz.prog.types.size+1) 45 (kRef d l).cells.toList=some [.int .i64 d,.int .i64 l]:=by rw [hN];simp [Program.keyLits,Tryz.underlying45,Tryz.underlying3,hc,hi,kRef,Value.cells,hwd,hwl]
 unfold keyOf;rw [Tryz.underlying45];simp only;rw [h1,h2,h3];rfl
theorem kLit_key (d l:Int) : WideAt.IsKeyLit (kLit d l):=by simp [WideAt.IsKeyLit,kLit]
theorem kLit_ne {d l d' l':Int} (hd:I64 d) (hl:I64 l) (hd':I64 d') (hl':I64 l') (h:¬ (d=d'/\l=l')) : kLit d l≠kLit d' l':=fun e=>h (by
 have h1:=zPN hd hl;rw [e] at h1;have:=zJS.inj h1 (zPN hd' hl');unfold kRef at this;simp at this;exact this)
def zOX (w:World) (b n:Nat) (f:Int->Int->Option Value) : Prop :=
 ∃ D:DataW Value,w.ownsMap Tryz.prog 45 Rv b n D /\
  ∀ d l,I64 d->I64 l->Maps.has D (kLit d l)=(f d l).isSome/\∀ z,D.atKey (kLit d l) (.held z) = .held ((f d l).getD z)
theorem zOX.same {w w':World} {b n:Nat} {f:Int->Int->Option Value} (h:zOX w b n f) (e:w'.heap[b]? = w.heap[b]?) : zOX w' b n f:=by
 obtain ⟨D,h1,h2⟩:=h;exact ⟨D,zMO h1 e,h2⟩
theorem zOX.lt {w:World} {b n:Nat} {f:Int->Int->Option Value} (h:zOX w b n f) : b < w.heap.size:=by obtain ⟨D,h1,h2⟩:=h;exact h1.lt
theorem zOX.ext {w w':World} {b n:Nat} {f:Int->Int->Option Value} (hb:Below w.heap.size w w') (h:zOX w b n f) : zOX w' b n f:=h.same (hb.block b h.lt)
theorem zOX.mono {w:World} {b n n':Nat} {f:Int->Int->Option Value} (h:zOX w b n f) (hn:n<=n') : zOX w b n' f:=by
 obtain ⟨D,h1,h2⟩:=h;exact ⟨D,h1.mono hn,h2⟩
theorem zOX.eqv {w:World} {b n:Nat} {f g:Int->Int->Option Value} (h:zOX w b n f) (e:∀ d l,I64 d->I64 l->f d l=g d l) : zOX w b n g:=by
 obtain ⟨D,h1,h2⟩:=h;exact ⟨D,h1,fun d l hd hl=>by rw [<- e d l hd hl];exact h2 d l hd hl⟩
theorem mapS_made (w:World) : zOX (w.alloc (.map #[] 0)) w.heap.size 0 (fun _ _=>none) :=
 ⟨.map [],World.ownsMap_made w _ _ _,fun d l _ _=>⟨by simp [Maps.has],fun z=>by simp [DataW.atKey]⟩⟩
theorem mapS_look {t e:TypeId} (ht:Tryz.prog.underlying t=some (.map 45 e)) {w:World} {z:Value} (hz:(zeroValue e).run Tryz.prog w = .ok z w) {b n:Nat} {f:Int->Int->Option Value} (h:zOX w b n f) {d l:Int} (hd:I64 d) (hl:I64 l) :
  (Instr.lookup t (.map (some b)) (kRef d l) false).run Tryz.prog w = .ok ((f d l).getD z) w:=by
 obtain ⟨D,ho,hD⟩:=h;obtain ⟨v,ps,hr,hv⟩:=ho.lookup zJS ht hz (zd:=.held z) (zp:=[]) rfl (zPN hd hl);rw [(hD d l hd hl).2] at hv;rw [hr,rv_inv hv]
theorem mapS_look_ok {t e:TypeId} (ht:Tryz.prog.underlying t=some (.map 45 e)) {w:World} {z:Value} (hz:(zeroValue e).run Tryz.prog w = .ok z w) {b n:Nat} {f:Int->Int->Option Value} (h:zOX w b n f) {d l:Int} (hd:I64 d) (hl:I64 l) :
  (Instr.lookup t (.map (some b)) (kRef d l) true).run Tryz.prog w = .ok (.tuple #[(f d l).getD z,.bool (f d l).isSome]) w:=by
 obtain ⟨D,ho,hD⟩:=h;obtain ⟨v,ps,hr,hv⟩:=ho.look_ok zJS ht hz (zd:=.held z) (zp:=[]) rfl (zPN hd hl);rw [(hD d l hd hl).2] at hv;rw [hr,rv_inv hv,(hD d l hd hl).1]
theorem mapS_put {t e:TypeId} (ht:Tryz.prog.underlying t=some (.map 45 e)) {w:World} {b n:Nat} {f:Int->Int->Option Value} (h:zOX w b n f) {d l:Int} (hd:I64 d) (hl:I64 l) (v:Value) (hn:n < maxLen) :
  ∃ w',(Instr.mapUpdate t (.map (some b)) (kRef d l) v).run Tryz.prog w = .ok () w'/\zOX w' b (n+1) (fun y z=>if y=d/\z=l then some v else f y z)/\w.grownBy w' (some b):=by
 obtain ⟨D,ho,hD⟩:=h;obtain ⟨w',hr,ho',hg⟩:=ho.update zJS ht hn (zPN hd hl) (show Rv v=some (.held v,[]) from rfl);refine ⟨w',hr,⟨_,ho',fun y z hy hz=>?_⟩,hg⟩;by_cases e:y=d/\z=l
 ·obtain ⟨rfl,rfl⟩:=e;exact ⟨by rw [Maps.has_put_same ho.isMap (kLit_key _ _)];simp,fun z=>by rw [Maps.atKey_put_same ho.isMap (kLit_key _ _)];simp⟩
 ·have hne:=kLit_ne hy hz hd hl e;exact ⟨by rw [Maps.has_put_other hne,(hD y z hy hz).1];simp only [if_neg e],fun u=>by rw [Maps.atKey_put_other hne,(hD y z hy hz).2];simp only [if_neg e]⟩
theorem mapS_del {t e:TypeId} (ht:Tryz.prog.underlying t=some (.map 45 e)) {w:World} {b n:Nat} {f:Int->Int->Option Value} (h:zOX w b n f) {d l:Int} (hd:I64 d) (hl:I64 l) (ty:TypeId) :
  ∃ w',(Builtin.delete_ #[t,45] ty #[.map (some b),kRef d l]).run Tryz.prog w = .ok (.tuple #[]) w'/\zOX w' b n (fun y z=>if y=d/\z=l then none else f y z)/\w.grownBy w' (some b):=by
 obtain ⟨D,ho,hD⟩:=h;obtain ⟨w',hr,ho',hg⟩:=ho.drop zJS ht (zPN hd hl) ty;refine ⟨w',hr,⟨_,ho',fun y z hy hz=>?_⟩,hg.grown⟩;by_cases e:y=d/\z=l
 ·obtain ⟨rfl,rfl⟩:=e;exact ⟨by rw [Maps.has_del_same];simp,fun z=>by rw [Maps.atKey_del_same];simp⟩
 ·have hne:=kLit_ne hy hz hd hl e;exact ⟨by rw [Maps.has_del_other hne,(hD y z hy hz).1];simp only [if_neg e],fun u=>by rw [Maps.atKey_del_other hne,(hD y z hy hz).2];simp only [if_neg e]⟩
end
section
open Tryz
open Go.RowKit Go.Shelf
attribute [local go_sem] zAE Oper.grows Oper.growUpon
theorem zLT (w:World) (vr vn vm vh vs:Value) (b:Built) (m:Int) (hA:BuiltArg w vr vn vm vh vs b) (hK:KindsAt w) :
  Calls prog 32 #[.agg #[vr,vn,.int .i64 b.of,vm,vh,vs],.int .i64 m] w fun e w'=>∃ u,e = .returned (.tuple #[u,.int .i64 (zBK b m)])/\Sl AtHold 4 w' u (zBA b m)/\Below w.heap.size w w':=by
 obtain ⟨l0,hlf,lz0,lz1,lz2⟩:=info_parts infoHold;obtain ⟨ar,cr,rfl,_⟩:=zD hA.at_.reg;obtain ⟨an,cn,rfl,_⟩:=zD hA.at_.notes;obtain ⟨am,cm,rfl,_⟩:=zD hA.at_.ms;obtain ⟨ah,ch,rfl,_⟩:=zD hA.at_.hs;obtain ⟨as',cs',rfl,_⟩:=zD hA.at_.rs;have hmm:=@run_makeMap prog;have hb1:=zB w (.cells #[.slice ar b.ns.reg.length cr,.slice an b.ns.notes.length cn,.int .i64 b.of,.slice am b.ms.length cm,.slice ah b.hs.length ch,.slice as' b.rs.length cs'] 32);have hbox:=Lay.new w 32 #[.slice ar b.ns.reg.length cr,.slice an b.ns.notes.length cn,.int .i64 b.of,.slice am b.ms.length cm,.slice ah b.hs.length ch,.slice as' b.rs.length cs'];have hl1:(w.alloc (.cells #[.slice ar b.ns.reg.length cr,.slice an b.ns.notes.length cn,.int .i64 b.of,.slice am b.ms.length cm,.slice ah b.hs.length ch,.slice as' b.rs.length cs'] 32)).heap.size=w.heap.size+1:=World.size_alloc _ _;have HBW:=zE hb1;have HBOX:=zE hbox;have HA:=zE (hA.ext hb1);have HK:=zE (hK.ext hb1);clear hb1 hbox hA hK;have c3:=HBOX.out.cell 3 _ rfl;go_enter func32,ntmps32;go_wp2_with fail;generalize w.alloc _=w1 at *;refine (zJX w1 _ b.ms m HA.out.at_.ms).mono ?_;rintro e w' ⟨rfl,rfl⟩;have hb4:=zB w1 (.cells #[.int .i64 (zKD b.ms m)] 3);have hat:=Lay.new w1 3 #[.int .i64 (zKD b.ms m)];rw [hl1] at hat;have HAT:=zE hat;have HBOX:=zE (HBOX.out.ext hb4);have HA:=zE (HA.out.ext hb4);have HK:=zE (HK.out.ext hb4);have HBW:=zE (zA HBW.out hb4);have k0:=HBOX.out.cell 0 _ rfl;have k1:=HBOX.out.cell 1 _ rfl;have k2:=HBOX.out.cell 2 _ rfl;have k3:=HBOX.out.cell 3 _ rfl;have k4:=HBOX.out.cell 4 _ rfl;have k5:=HBOX.out.cell 5 _ rfl;clear hb4 hat c3;go_wp2_with fail;clear k0 k1 k2 k3 k4 k5 hl1;generalize w1.alloc _=w5 at *;have hright:zF b=0->∀ w',Below w5.heap.size w5 w'->Calls prog 81 #[.pointer (some ⟨w.heap.size+1,0,none⟩)] w' fun e w''=>e = .returned (.int .i64 (if 0<=zKD b.ms m then 0 else 2))/\Below w'.heap.size w' w'' :=
  fun hv w' hb=>(rightP_built w' _ (zKD b.ms m) (zC hb (HAT.out.cell 0 _ rfl))).mono (fun e w'' ⟨h1,h2⟩=>⟨h1,h2 ▸ br_⟩)
 refine (zKR w5 _ _ _ _ _ b 81 _ (if 0<=zKD b.ms m then 0 else 2) HA.out HK.out enter_rightP hright).mono ?_;clear hright;rintro e w2 ⟨hb2,v,rfl,⟨a,n,q,rfl⟩,hf⟩;rw [someC_ask] at hf ⊢;have HF:=zE hf;have HAT:=zE (HAT.out.ext hb2);have HBOX:=zE (HBOX.out.ext hb2);have HA:=zE (HA.out.ext hb2);have HBW:=zE (zA HBW.out hb2);clear hf hb2;by_cases hc:zBK b m=0
 case neg =>
  have hc':(zBK b m != 0)=true:=by simpa using hc
  have hS:Hid (zBA b m=[]):=by unfold Hid zBA;rw [if_neg hc]
  clear hc;go_wp2;go_ret2;exact ⟨_,rfl,by rw [hS.out];exact sl_none _ _ _,HBW.out⟩
 case pos =>
  have HC:=zE hc;obtain ⟨hv,hm⟩:=ask_ok (.inl hc);have HV:=zE hv;have hi:b.ms.idxOf m < b.ms.length:=List.idxOf_lt_length_of_mem hm;have hmi:Hid (b.ms[b.ms.idxOf m]? = some m):=by unfold Hid;rw [List.getElem?_eq_getElem hi,List.getElem_idxOf]
  have hls:=zAW (zKA hv).1;have HLS:=zE hls;have hord:Hid (∀ k,k < b.ns.reg.length->zHI b.ns.reg k):=fun k hk=>(hls.2.1 k hk).2
  have hR60:b.ns.reg.length<=60:=by have:=hls.1.2;omega
  have hS:Hid (zBA b m=zES b m b.ns.reg.length):=by unfold Hid zBA;rw [if_pos hc,holdsTo_all]
  obtain ⟨n1,fs,hFi,h32,hpos⟩:=HF.out hc;have HFI:=zE hFi;have hidx:=zE (idxI_is hm);have HM:=zE hm;have k0:=HBOX.out.alloc (.map #[] 0) |>.cell 0 _ rfl
  rw [hc];have hbm:=zB w2 (.map #[] 0);have hM0:=mapS_made w2;clear hc hv hm hi hls hFi HF;go_wp2;clear k0 hmm;go_loopw [38] (fun i wr=>∃ k:Nat,i = .int .i64 k/\k<=b.ns.reg.length/\Hid (zOX wr w2.heap.size k (zJJ b m k))/\Hid (Below w2.heap.size w2 wr)) (fun i _=>b.ns.reg.length - (intOf i).toNat)
  case atStart=>exact ⟨0,rfl,by omega,zE (hM0.eqv (fun d l _ _=>by rw [partF_zero])),zE hbm⟩
  case round =>
   clear hM0 hbm;obtain ⟨k,rfl,hk,HMP,HB⟩:=hrel;by_cases hlt:k < b.ns.reg.length
   case pos =>
    obtain ⟨bi,oi,rfl,⟨q0,q1,q2⟩,hnum,vi,vd,q3,q4,si,sd⟩:=(zY (zJ zU HB.out HA.out.at_.reg)).2 k hlt;have hdn:b.ns.reg[k].d∈nums b.ns.reg:=zOE _ (fun j hj=>(HLS.out.2.1 j hj).2) k hlt;have hpt:=part_at hord.out hlt;have hk3:=(zKA HV.out).2 _ (List.getElem_mem hlt);have hyes:=zE (partF_yes (b:=b) (m:=m) hlt);have hno:=zE (partF_no (b:=b) hord.out (m:=m) hlt);have hnn:=piecesR_nn HV.out (zAQ b) m b.ns.reg[k].d b.ns.reg[k].l;have hpb:=zPB HV.out HM.out (zAQ b) b.ns.reg[k].d b.ns.reg[k].l;have hho:zBQ b m b.ns.reg[k]=if 1 < b.ns.reg[k].k/\0 < (zAU b (zAQ b) m b.ns.reg[k].d b.ns.reg[k].l).hi then [⟨b.ns.reg[k].d,b.ns.reg[k].l,(zAU b (zAQ b) m b.ns.reg[k].d b.ns.reg[k].l).lo,(zAU b (zAQ b) m b.ns.reg[k].d b.ns.reg[k].l).hi⟩] else []:=by
     unfold zBQ;by_cases h:zFO b.ns.reg b.ns.reg[k].d b.ns.reg[k].l/\0 < (zAU b (zAQ b) m b.ns.reg[k].d b.ns.reg[k].l).hi
     ·rw [if_pos h,if_pos ⟨hpt.1 h.1,h.2⟩]
     ·rw [if_neg h,if_neg (fun h2=>h ⟨hpt.2 h2.1,h2.2⟩)]
    have HHO:=zE hho;clear hho hpt;generalize b.ns.reg[k]=x at *;obtain ⟨ai,ci,rfl,_⟩:=zD si;obtain ⟨ad,cd,rfl,_⟩:=zD sd;have hkl:(k:Int) < b.ns.reg.length:=by omega
    have hbA:=zB wr (.cells #[.int .i64 x.d,.int .i64 x.l,.int .u8 x.k,.slice ai x.items.length ci,.slice ad x.dims.length cd] 118);have hX:=(Lay.new wr 118 #[.int .i64 x.d,.int .i64 x.l,.int .u8 x.k,.slice ai x.items.length ci,.slice ad x.dims.length cd]).alloc (.cells #[.int .i64 x.d,.int .i64 x.l] 45);have hsA:(wr.alloc (.cells #[.int .i64 x.d,.int .i64 x.l,.int .u8 x.k,.slice ai x.items.length ci,.slice ad x.dims.length cd] 118)).heap.size=wr.heap.size+1:=World.size_alloc _ _;have hRf:=Lay.new (wr.alloc (.cells #[.int .i64 x.d,.int .i64 x.l,.int .u8 x.k,.slice ai x.items.length ci,.slice ad x.dims.length cd] 118)) 45 #[.int .i64 x.d,.int .i64 x.l];rw [hsA] at hRf;have hbB:=zA hbA (zB (wr.alloc (.cells #[.int .i64 x.d,.int .i64 x.l,.int .u8 x.k,.slice ai x.items.length ci,.slice ad x.dims.length cd] 118)) (.cells #[.int .i64 x.d,.int .i64 x.l] 45));have HX:=zE hX;have HRF:=zE hRf;have HBA:=zE (zA HB.out hbB);have HMA:=zE (HMP.out.ext hbB);have hwr:=HB.out.size;have hw2r:=HMP.out.lt;unfold zK at q0 q1 q2 q3 q4;clear hbA hX hsA hRf hbB si sd HMP;go_wp2;clear q0 q1 q2 q3 q4;generalize (wr.alloc _).alloc _=wA at *;have r0:=zH (show zK wA (wr.heap.size+1) 0 _ from HRF.out.cell 0 _ rfl);have r1:=zH (show zK wA (wr.heap.size+1) 1 _ from HRF.out.cell 1 _ rfl);have hcall:=zE (fun xq=>over_pieces (wA.later xq) 82 (w.heap.size+1) (wr.heap.size+1) _ _ _ _ _ _ n1 fs b (b.ms.idxOf m) m x.d x.l enter_parts2
     (fun w' y vz S L h1 h2 h3 h4=>tell_parts w' y _ _ _ _ _ _ _ vz b S L _ m x.d x.l h1 HV.out h2 hmi.out rfl hdn hnum.1 h3 h4) (HFI.out.keepM (zBW (zA HBA.out (zG wA xq)))) (HA.out.ext (zA HBA.out (zG wA xq))).at_ hpos h32
     (by rw [<- hidx.out];exact zC (zA HBA.out (zG wA xq)) (HAT.out.cell 0 _ rfl)) ⟨r0 xq,r1 xq⟩)
    refine zM 5 (by kernel_rfl) (by kernel_rfl) ?_;simp only [tk_];iterate 4 (apply gx_;focus (intro vs xq hd;(try simp [hq_] at hd);simp only [pf_];go_simp;exact ⟨br_,rfl⟩))
    refine zT ?_;apply Exists.intro;refine ⟨fun vs xq hd=>?_,?_⟩
    ·(try simp [hq_] at hd)
     simp only [pf_];go_simp;refine (hcall.out xq).mono ?_;rintro e w9 ⟨rfl,hb9⟩;exact ⟨rfl,hb9⟩
    refine zQ (by simp only [List.length_append,List.length_cons,List.length_nil]) (fun vs xq hd=>?_);simp [zW,zAI,List.range,List.range.loop] at hd;simp only [pf_];obtain ⟨e0,e1,e2,e3,e4⟩:=hd;simp only [Nat.zero_add,Nat.reduceAdd] at e0 e1 e2 e3 e4 ⊢;simp only [e0,e1,e2,e3,e4];have hb8:=zG wA xq;obtain ⟨w9,hr,hM9,hg9⟩:=mapS_put underlying160 (HMA.out.ext hb8) hnum.1 hnum.2.1 (spV b m x.d x.l) (show k < maxLen by unfold maxLen;omega);have hRf9:=(HRF.out.ext hb8).kept hg9 (fun e=>by have:=Option.some.inj e;omega);have hX9:=(HX.out.ext hb8).kept hg9 (fun e=>by have:=Option.some.inj e;omega);have HB9:=zE ((zA HBA.out hb8).grown hg9 (zA HBA.out hb8).size (fun r e=>by cases e;exact Nat.le_refl _));have hlook:=mapS_look underlying160 (Tryz.zeroValue40 w9) hM9 hnum.1 hnum.2.1;rw [if_pos ⟨rfl,rfl⟩] at hlook;simp only [Option.getD_some] at hlook;have hdel:=mapS_del underlying160 hM9 hnum.1 hnum.2.1;have HM9:=zE hM9;have HDEL:=zE hdel;unfold kRef spV at hr hlook;have p0:=hRf9.cell 0 _ rfl;have p1:=hRf9.cell 1 _ rfl;have y2:=hX9.cell 2 _ rfl;clear e0 e1 e2 e3 e4 r0 r1 hcall hRf9 hX9 hg9 hM9 hdel hb8;obtain ⟨plo,hplo⟩ : ∃ z,(zAU b (zAQ b) m x.d x.l).lo=z:=⟨_,rfl⟩;obtain ⟨phi,hphi⟩ : ∃ z,(zAU b (zAQ b) m x.d x.l).hi=z:=⟨_,rfl⟩;rw [hplo,hphi] at hr hlook ⊢;rw [hphi] at hnn;have HPH:=zE hphi;clear hplo hphi hpb;have hfd:∀ W,(Instr.field 40 (.agg #[.int .i64 plo,.int .i64 phi]) 1).run prog W = .ok (.int .i64 phi) W:=fun _=>by kernel_rfl
    have hdrop:Hid ((¬ 1 < x.k\/phi=0)->zBQ b m x=[]):=fun h=>by
     rw [HHO.out,HPH.out,if_neg];rintro ⟨h1,h2⟩;rcases h with h | h <;> omega
    have hkeep:Hid (1 < x.k->phi≠0->zBQ b m x≠[]):=fun h1 h2=>by
     rw [HHO.out,HPH.out,if_pos ⟨h1,by omega⟩];simp
    by_cases hp0:phi=0
    ·have hd0:=zE (hdrop.out (.inr hp0))
     have hp0':(phi == 0)=true:=by simpa using hp0
     clear hdrop hkeep hyes hp0;obtain ⟨w10,hrd,hM10,hg10⟩:=HDEL.out 0;have HM10:Hid (zOX w10 w2.heap.size (k+1) (zJJ b m (k+1))):=hM10.eqv (fun y z _ _=>hno.out hd0.out (spV b m x.d x.l) y z);have HB10:=zE (HB9.out.grown hg10 HB9.out.size (fun r e=>by cases e;exact Nat.le_refl _));unfold kRef at hrd;clear hM10 hg10 HDEL HM9;go_wp2;go_roundw
     ·exact ⟨k+1,by go_num,by omega,HM10,HB10⟩
     ·simp [intOf];omega
    ·have hp0':(phi == 0)=false:=by simpa using hp0
     by_cases hk1:x.k=1
     ·have hd0:=zE (hdrop.out (.inl (by omega)))
      have hk1':(x.k == 1)=true:=by simpa using hk1
      clear hdrop hkeep hyes hp0 hk1;obtain ⟨w10,hrd,hM10,hg10⟩:=HDEL.out 0;have HM10:Hid (zOX w10 w2.heap.size (k+1) (zJJ b m (k+1))):=hM10.eqv (fun y z _ _=>hno.out hd0.out (spV b m x.d x.l) y z);have HB10:=zE (HB9.out.grown hg10 HB9.out.size (fun r e=>by cases e;exact Nat.le_refl _));unfold kRef at hrd;clear hM10 hg10 HDEL HM9;go_wp2;go_roundw
      ·exact ⟨k+1,by go_num,by omega,HM10,HB10⟩
      ·simp [intOf];omega
     ·have hd0:=zE (hkeep.out (by unfold In at hk3;omega) hp0)
      have hk1':(x.k == 1)=false:=by simpa using hk1
      have HM10:Hid (zOX w9 w2.heap.size (k+1) (zJJ b m (k+1))):=HM9.out.eqv (fun y z _ _=>hyes.out hd0.out y z);clear hdrop hkeep hno hp0 hk1 HM9 HDEL;go_wp2;go_roundw
      ·exact ⟨k+1,by go_num,by omega,HM10,HB9⟩
      ·simp [intOf];omega
   case neg =>
    obtain rfl:k=b.ns.reg.length:=by omega
    generalize wr=w4 at *;have k0:=HBOX.out.ext HB.out |>.cell 0 _ rfl
    have HM4:=HMP;have hw4:=HB.out.size;go_wp2;clear k0;go_loopw [13,70] (fun q i wr=>∃ k:Nat,i = .int .i64 k/\k<=b.ns.reg.length/\Hid (wr.ownsRow w4.heap.size 94 4 q (zES b m k).length ((zES b m k).flatMap encHold))/\Hid (Below w4.heap.size w4 wr)) (fun _ i _=>b.ns.reg.length - (intOf i).toNat)
    case atStart=>exact ⟨0,rfl,by omega,zE (World.ownsRow_nil _ _ _ _),zE (br_)⟩
    case round =>
     obtain ⟨k,rfl,hk,HO,HB2⟩:=hrel;have hle:=holdsTo_le b m k hk;by_cases hlt:k < b.ns.reg.length
     case neg =>
      obtain rfl:k=b.ns.reg.length:=by omega
      have ho:=HO.out;have hR:∀ x∈b.ns.reg,I64 x.d/\I64 x.l:=fun x hx=>by
       obtain ⟨j,hj,rfl⟩:=List.getElem_of_mem hx;obtain ⟨_,_,_,_,hn,_⟩:=(zY HA.out.at_.reg).2 j hj;exact ⟨hn.1,hn.2.1⟩
      have hbd:=holds_bd HV.out HM.out hR;rw [<- holdsTo_all] at hbd;have hsl:Sl AtHold 4 wr u13 (zES b m b.ns.reg.length):=((rowIs_enc (F:=IsHold) (enc:=encHold) (sz:=4) (w:=wr) _ (fun x hx=>⟨rfl,fun _=>⟨rfl,hbd x hx⟩⟩)).sl ho isHold_at).now;obtain ⟨aq,cq,rfl,_⟩:=zD hsl;have HSL:=zE hsl;clear hsl ho hR hbd HO;go_wp2;go_ret2;exact ⟨_,by rw [HC.out];rfl,by rw [hS.out];exact HSL.out,zA HBW.out (zA HB.out HB2.out)⟩
     case pos =>
      obtain ⟨bi,oi,rfl,⟨q0,q1,q2⟩,hnum,vi,vd,q3,q4,si,sd⟩:=(zY (zJ zU (zA HB.out HB2.out) HA.out.at_.reg)).2 k hlt;have hall:=zE (partF_all (b:=b) hord.out (m:=m) hlt);have hsucc:=zE (zQC b m hlt);have hpb:=zPB HV.out HM.out (zAQ b) b.ns.reg[k].d b.ns.reg[k].l;have hho:Hid (zBQ b m b.ns.reg[k]≠[]->zBQ b m b.ns.reg[k]=[⟨b.ns.reg[k].d,b.ns.reg[k].l,(zAU b (zAQ b) m b.ns.reg[k].d b.ns.reg[k].l).lo,(zAU b (zAQ b) m b.ns.reg[k].d b.ns.reg[k].l).hi⟩]):=fun h=>by
       unfold zBQ at h ⊢;split
       ·rfl
       ·rename_i hn;rw [if_neg hn] at h;exact absurd rfl h
      generalize b.ns.reg[k]=x at *;obtain ⟨ai,ci,rfl,_⟩:=zD si;obtain ⟨ad,cd,rfl,_⟩:=zD sd;have hkl:(k:Int) < b.ns.reg.length:=by omega
      have hbA:=zB wr (.cells #[.int .i64 x.d,.int .i64 x.l,.int .u8 x.k,.slice ai x.items.length ci,.slice ad x.dims.length cd] 118);have hbB:=zA hbA (zB (wr.alloc (.cells #[.int .i64 x.d,.int .i64 x.l,.int .u8 x.k,.slice ai x.items.length ci,.slice ad x.dims.length cd] 118)) (.cells #[.int .i64 x.d,.int .i64 x.l] 45));have hsA:(wr.alloc (.cells #[.int .i64 x.d,.int .i64 x.l,.int .u8 x.k,.slice ai x.items.length ci,.slice ad x.dims.length cd] 118)).heap.size=wr.heap.size+1:=World.size_alloc _ _;have hRf:=Lay.new (wr.alloc (.cells #[.int .i64 x.d,.int .i64 x.l,.int .u8 x.k,.slice ai x.items.length ci,.slice ad x.dims.length cd] 118)) 45 #[.int .i64 x.d,.int .i64 x.l];rw [hsA] at hRf;have hMA:=HM4.out.ext (zA HB2.out hbB);have hlook:=mapS_look_ok underlying160 (Tryz.zeroValue40 ((wr.alloc (.cells #[.int .i64 x.d,.int .i64 x.l,.int .u8 x.k,.slice ai x.items.length ci,.slice ad x.dims.length cd] 118)).alloc (.cells #[.int .i64 x.d,.int .i64 x.l] 45))) hMA hnum.1 hnum.2.1;unfold kRef at hlook;have HRF:=zE hRf;have HBA:=zE (zA HB2.out hbB);have HOA:=zE (zAC hbB HO.out);unfold zK at q0 q1 q2 q3 q4;clear hbA hbB hsA hRf hMA si sd;by_cases hh:zBQ b m x=[]
      ·have hlk:=hall.out.2 hh
       rw [hlk] at hlook;simp only [Option.getD_none,Option.isSome_none] at hlook;have HH:=zE hh;clear hh hlk hall;go_wp2;go_roundw
       ·exact ⟨k+1,by go_num,by omega,zE (by rw [hsucc.out,HH.out,List.append_nil];exact zAC (zB _ _) HOA.out),zE (zA HBA.out (zB _ _))⟩
       ·simp [intOf];omega
      ·have hlk:=hall.out.1 hh
       rw [hlk] at hlook;simp only [Option.getD_some,Option.isSome_some] at hlook;unfold spV at hlook;have HH:=zE (hho.out hh);obtain ⟨plo,hplo⟩ : ∃ z,(zAU b (zAQ b) m x.d x.l).lo=z:=⟨_,rfl⟩;obtain ⟨phi,hphi⟩ : ∃ z,(zAU b (zAQ b) m x.d x.l).hi=z:=⟨_,rfl⟩;rw [hplo,hphi] at hlook HH;have hs3:Hid ((((wr.alloc (.cells #[.int .i64 x.d,.int .i64 x.l,.int .u8 x.k,.slice ai x.items.length ci,.slice ad x.dims.length cd] 118)).alloc (.cells #[.int .i64 x.d,.int .i64 x.l] 45)).alloc (.cells #[.int .i64 plo,.int .i64 phi] 40)).heap.size=wr.heap.size+1+1+1):=by unfold Hid;rw [World.size_alloc,World.size_alloc,World.size_alloc]
       have hc4:∀ j u,[Value.int .i64 x.d,.int .i64 x.l,.int .i64 plo,.int .i64 phi][j]? = some u->((((wr.alloc (.cells #[.int .i64 x.d,.int .i64 x.l,.int .u8 x.k,.slice ai x.items.length ci,.slice ad x.dims.length cd] 118)).alloc (.cells #[.int .i64 x.d,.int .i64 x.l] 45)).alloc (.cells #[.int .i64 plo,.int .i64 phi] 40)).alloc (.cells #[.int .i64 x.d,.int .i64 x.l,.int .i64 plo,.int .i64 phi] 94)).cell? ((⟨wr.heap.size+1+1+1,0,none⟩ : Addr).add j)=some u:=fun j u hj=>by
        rw [zAZ,<- hs3.out];exact zR _ #[.int .i64 x.d,.int .i64 x.l,.int .i64 plo,.int .i64 phi] _ j u (by simpa using hj)
       have hszr:=HB2.out.size;clear hh hlk hall hplo hphi hpb;go_wp2_with (at_builtin;refine wpList_append_own _ rfl _ _ 88 rfl w4.heap.size 94 l0 (.agg #[.int .i64 0,.int .i64 0,.int .i64 0,.int .i64 0]) 4 32 underlying88 hlf lz0 lz1 lz2 rfl (by decide) _ _ _ rfl ((HOA.out.alloc _).alloc _) ⟨wr.heap.size+1+1+1,0,none⟩ 1 1 [.int .i64 x.d,.int .i64 x.l,.int .i64 plo,.int .i64 phi] rfl rfl hc4 (by intro u hu;simp at hu;rcases hu with rfl | rfl | rfl | rfl <;> rfl) (by unfold maxLen;omega) (by omega) (by simp;omega) ?_;intro v' w7 hown' hgrow _);have hbz:=zA (zA HBA.out (zB _ (.cells #[.int .i64 plo,.int .i64 phi] 40))) (zB _ (.cells #[.int .i64 x.d,.int .i64 x.l,.int .i64 plo,.int .i64 phi] 94));have HB7:=zE (hbz.grown hgrow hbz.size (fun r e=>(HOA.out.lt r e).1));have HO7:Hid (w7.ownsRow w4.heap.size 94 4 v' (zES b m (k+1)).length ((zES b m (k+1)).flatMap encHold)):=by unfold Hid;rw [hsucc.out,HH.out,List.length_append,List.flatMap_append,List.flatMap_singleton];exact hown'
       clear hown' hgrow hbz;go_wp2;go_roundw
       ·exact ⟨k+1,by go_num,by omega,HO7,HB7⟩
       ·simp [intOf];omega
end
section
open Tryz
open Go.RowKit
attribute [local go_sem] zAE Oper.grows Oper.growUpon
noncomputable def zMG (b:Built) : List (List Int):=if zF b=0 then zAQ b else []
theorem sameLists08 (w:World) (v v':Value) (A:List (List Int)) (hx:Sl zJU 1 w v A) (hy:Sl zJU 1 w v' A) :
  Calls prog 45 #[v,v'] w fun e w'=>e = .returned (.bool true)/\Below w.heap.size w w':=by
 obtain ⟨a,cap,rfl,hm⟩:=zD hx;obtain ⟨a',cap',rfl,_⟩:=zD hy;go_enter func45,ntmps45;go_wp2;go_loopw [5] (fun i wr=>∃ k:Nat,i = .int .i64 k/\k<=A.length/\Below w.heap.size w wr) (fun i _=>A.length - (intOf i).toNat)
 case atStart=>exact ⟨0,rfl,by omega,br_⟩
 case round =>
  obtain ⟨k,rfl,hk,hb⟩:=hrel;by_cases hlt:k < A.length
  ·have X:=(zY (zJ zGK hb hx)).2 k hlt
   have Y:=(zY (zJ zGK hb hy)).2 k hlt;obtain ⟨b,off,rfl,u,hu,su⟩:=X;obtain ⟨b',off',rfl,u',hu',su'⟩:=Y;generalize A[k]=S at *;clear hx hy;obtain ⟨ab,cb,rfl,_⟩:=zD su;obtain ⟨ab',cb',rfl,_⟩:=zD su';rw [Nat.mul_one] at hu hu';have u0:=zH hu;have u1:=zH hu';clear hu hu';go_wp2;refine zAR (by kernel_rfl) (by kernel_rfl) (no_implicit_lambda% ?_);repeat ((with_reducible refine wpQuiet_step (fun K hK=>?_));go_simp;first | ((with_reducible refine hK _ ?_);clear hK K) | (refine hK _ (no_implicit_lambda% ?_);clear hK K) | (apply Exists.intro;(with_reducible refine ⟨fun _=>?_,hK _ ?_⟩);((go_at_call 16;exact Calls.quiet_later (zKT _ _ _ S (zJ zN (zG _ _) su) (zJ zN (zG _ _) su'))));clear hK K))
   with_reducible refine wpQuiet_nil ?_
   intro _ hw9;obtain ⟨xq,hw8⟩:=hw9;subst hw8;go_wp2;go_roundw
   ·exact ⟨k+1,by go_num,by omega,zA hb (zG _ _)⟩
   ·simp [intOf];omega
  ·go_wp2;go_ret;exact ⟨rfl,hb⟩
end
section
open Tryz
open Go.RowKit Go.Shelf
theorem ints_rows {w0 w:World} {base n:Nat} {v:Value} {cs:List Value} {A:List (List Int)} (hown:w.ownsRow base 28 1 v n cs) (hn:A.length=n) (h:∀ j (hj:j < A.length),∃ u,cs[j]? = some u/\Sl zAM 1 w0 u A[j]) (hb:Below w0.heap.size w0 w) : Sl zJU 1 w v A:=by
 rcases hown.2 with ⟨rfl,h0⟩ | ⟨g,cap,cur,rfl,_,_,hc,hcm,_⟩
 ·exact ⟨none,0,by rw [hn,h0],by omega,fun k hk=>by omega⟩
 ·refine ⟨some ⟨g,0,none⟩,cap,by rw [hn],by unfold maxLen at hcm;omega,fun k hk=>?_⟩;obtain ⟨u,hu,hs⟩:=h k hk;refine ⟨g,0,rfl,u,?_,zJ zN hb hs⟩;have:=hown.cells (g:=g) rfl k u hu;rw [zAZ] at this;unfold zK;rw [Nat.zero_add,Nat.mul_one];exact this
theorem signed_built (w:World) (vr vn vm vh vs:Value) (b:Built) (hA:BuiltArg w vr vn vm vh vs b) (hK:KindsAt w) :
  Calls prog 15 #[.agg #[vr,vn,.int .i64 b.of,vm,vh,vs]] w fun e w'=>∃ u,e = .returned (.tuple #[u,.int .i64 (zF b)])/\Sl zJU 1 w' u (zMG b)/\Below w.heap.size w w':=by
 obtain ⟨i0,hif,iz0,iz1,iz2⟩:=info_parts infoInts;obtain ⟨ar,cr,rfl,_⟩:=zD hA.at_.reg;obtain ⟨an,cn,rfl,_⟩:=zD hA.at_.notes;obtain ⟨am,cm,rfl,_⟩:=zD hA.at_.ms;obtain ⟨ah,ch,rfl,_⟩:=zD hA.at_.hs;obtain ⟨as',cs',rfl,_⟩:=zD hA.at_.rs;have hb1:=zB w (.cells #[.slice ar b.ns.reg.length cr,.slice an b.ns.notes.length cn,.int .i64 b.of,.slice am b.ms.length cm,.slice ah b.hs.length ch,.slice as' b.rs.length cs'] 32);have hbox:=Lay.new w 32 #[.slice ar b.ns.reg.length cr,.slice an b.ns.notes.length cn,.int .i64 b.of,.slice am b.ms.length cm,.slice ah b.hs.length ch,.slice as' b.rs.length cs'];have HA:=zE (hA.ext hb1);have HK:=zE (hK.ext hb1);have c0:=hbox.cell 0 _ rfl;have c1:=hbox.cell 1 _ rfl;have c2:=hbox.cell 2 _ rfl;have c3:=hbox.cell 3 _ rfl;have c4:=hbox.cell 4 _ rfl;have c5:=hbox.cell 5 _ rfl;clear hA hK hbox;go_enter func15,ntmps15;go_wp2_with fail;clear c0 c1 c2 c3 c4 c5;generalize w.alloc _=w1 at *;refine (zOR w1 _ _ _ _ _ b HA.out HK.out).mono ?_;rintro e w2 ⟨hb2,v,rfl,⟨a,n,c,rfl⟩,hF⟩;have HB2:=zE (zA hb1 hb2);have HA2:=zE (HA.out.ext hb2);clear hb1 hb2 HA HK;by_cases hz:zF b=0
 case neg =>
  have hne:(zF b != 0)=true:=by simpa using hz
  have hs:Hid (zMG b=[]):=by unfold Hid zMG;rw [if_neg hz]
  clear hz hF;go_wp2;go_ret2;exact ⟨_,rfl,by rw [hs.out];exact zIR _ _ _ _ _,HB2.out⟩
 case pos =>
  have hs:Hid (zMG b=zAQ b):=by unfold Hid zMG;rw [if_pos hz]
  obtain ⟨n1,fs,hFi,h32⟩:=hF hz;have hl:=zMP hFi.row;obtain ⟨a',c',he,_⟩:=zD hl;cases he;have HL:=zE hl;have HF:=zE hFi;have HZ:=zE hz;rw [hz];clear hF hl hFi hz;generalize zAQ b=A at *;go_wp2;go_loopw [6,19] (fun o q wr=>∃ (k:Nat) (cs:List Value),q = .int .i64 k/\k<=fs.length/\Hid (wr.ownsRow w2.heap.size 28 1 o k cs)/\Hid (∀ j,j < k->∀ hj:j < A.length,∃ u,cs[j]? = some u/\Sl zAM 1 w2 u A[j])/\Hid (Below w2.heap.size w2 wr)) (fun _ q _=>fs.length - (intOf q).toNat)
  case atStart=>exact ⟨0,[],rfl,by omega,zE (World.ownsRow_nil _ _ _ _),zE (fun j hj=>absurd hj (by omega)),zE (br_)⟩
  case round =>
   obtain ⟨k,cs,rfl,hk,HO,HX,HB⟩:=hrel;by_cases hlt:k < fs.length
   case neg =>
    obtain rfl:k=fs.length:=by omega
    have hsl:=ints_rows HO.out HF.out.len.symm (fun j hj=>HX.out j (by rw [HF.out.len];exact hj) hj) HB.out;obtain ⟨ao,co,rfl,_⟩:=zD hsl;have HSL:=zE hsl;clear hsl;go_wp2;go_ret2;exact ⟨_,by rw [HZ.out];rfl,by rw [hs.out];exact HSL.out,zA HB2.out HB.out⟩
   case pos =>
    have hkA:k < A.length:=by have:=HF.out.len;omega
    obtain ⟨bf,of',rfl,c0,c1⟩:=(zY (zJ zNW HB.out HL.out)).2 k hlt;obtain ⟨vz,L,hfo,_⟩:=(HF.out.at_ k hlt hkA).found HA2.out.at_;obtain ⟨vhas,hlay,_⟩:=hfo.site.box;have hsz:=hfo.site.sl;obtain ⟨az,cz,rfl,_⟩:=zD hsz;obtain ⟨zl,hzl⟩ : ∃ z,A[k].length=z:=⟨_,rfl⟩;rw [hzl] at hlay hsz;have HSZ:Hid (∀ hj:k < A.length,Sl zAM 1 w2 (.slice az zl cz) A[k]):=fun _=>hsz
    clear hzl hfo;generalize fs[k]=f at *;have hba:=zB wr (.cells #[.pointer (some ⟨f.p,0,none⟩),.slice f.a f.n f.c] 126);have LF:=Lay.new wr 126 #[.pointer (some ⟨f.p,0,none⟩),.slice f.a f.n f.c];have z0:=LF.cell 0 _ rfl;have z6:=(hlay.ext (zA HB.out hba)).cell 6 _ rfl;have hb2:=zB (wr.alloc (.cells #[.pointer (some ⟨f.p,0,none⟩),.slice f.a f.n f.c] 126)) (.cells #[.slice az zl cz] 28);have HOA:=zE (zAC hb2 (zAC hba HO.out));have HBA:=zE (zA HB.out (zA hba hb2));have HCN:=zE (cell_one_new (wr.alloc (.cells #[.pointer (some ⟨f.p,0,none⟩),.slice f.a f.n f.c] 126)) (.slice az zl cz) 28);rw [World.size_alloc] at HCN;clear hlay LF hba hb2 HO hsz;unfold zK at c0 c1;go_wp2_with (at_builtin;refine wpList_append_own _ rfl _ _ 37 rfl w2.heap.size 28 i0 (.slice none 0 0) 1 24 underlying37 hif iz0 iz1 iz2 rfl (by decide) _ _ _ rfl HOA.out ⟨wr.heap.size+1,0,none⟩ 1 1 [.slice az zl cz] rfl rfl HCN.out (by simp [Value.oneCell']) (by unfold maxLen;omega) (by omega) HBA.out.size ?_;intro v' w4 hown' hgrow _);have HB4:=zE (HBA.out.grown hgrow HBA.out.size (fun r e=>(HOA.out.lt r e).1));have HO4:=zE hown';have hcl:=HOA.out.1;have HX4:Hid (∀ j,j < k+1->∀ hj:j < A.length,∃ u,(cs++[.slice az zl cz])[j]? = some u/\Sl zAM 1 w2 u A[j]):=fun j hj hjA=>by
     by_cases e:j=k
     ·subst e;exact ⟨_,by rw [List.getElem?_append_right (by omega),show j - cs.length=0 by omega];rfl,HSZ.out hjA⟩
     ·obtain ⟨u,h1,h2⟩:=HX.out j (by omega) hjA;exact ⟨u,by rw [List.getElem?_append_left (by omega)];exact h1,h2⟩
    clear hown' hgrow HX HBA HOA hcl HCN;go_wp2;go_roundw
    ·exact ⟨k+1,_,by go_num,by omega,HO4,HX4,HB4⟩
    ·simp [intOf];omega
end
end Go.Proofs.YtipaopbmklbmnaaGreatDoor
namespace Go.Proofs
section
open Go.Shelf
def Tryz.lays150_ren:Go.Shelf.Ren:=⟨fun | 189=>150 | 125=>180 | 257=>179 | 128=>204 | 129=>205 | 294=>196 | 295=>197 | 296=>198 | 297=>199 | 298=>200 | 299=>201 | 216=>190 | 300=>202 | 301=>203 | 328=>216 | 329=>217 | 330=>218 | 331=>219 | 332=>220 | 215=>140 | 343=>225 | n=>n,fun | 28=>28 | 3=>3 | 46=>269 | 0=>0 | 51=>114 | 53=>289 | 4=>4 | 183=>282 | 182=>281 | 131=>64 | 5=>5 | 9=>9 | 218=>296 | 222=>300 | 228=>304 | 229=>305 | n=>n,fun | n=>n⟩
theorem Tryz.lays150:Go.Proofs.Lays.n189 Tryz.prog Tryz.lays150_ren:={
 mixed:=by kernel_rfl
 f125:=Tryz.func180.trans (congrArg some (by kernel_rfl))
 f128:=Tryz.func204.trans (congrArg some (by kernel_rfl))
 f129:=Tryz.func205.trans (congrArg some (by kernel_rfl))
 f189:=Tryz.func150.trans (congrArg some (by kernel_rfl))
 f215:=Tryz.func140.trans (congrArg some (by kernel_rfl))
 f216:=Tryz.func190.trans (congrArg some (by kernel_rfl))
 f257:=Tryz.func179.trans (congrArg some (by kernel_rfl))
 f294:=Tryz.func196.trans (congrArg some (by kernel_rfl))
 f295:=Tryz.func197.trans (congrArg some (by kernel_rfl))
 f296:=Tryz.func198.trans (congrArg some (by kernel_rfl))
 f297:=Tryz.func199.trans (congrArg some (by kernel_rfl))
 f298:=Tryz.func200.trans (congrArg some (by kernel_rfl))
 f299:=Tryz.func201.trans (congrArg some (by kernel_rfl))
 f300:=Tryz.func202.trans (congrArg some (by kernel_rfl))
 f301:=Tryz.func203.trans (congrArg some (by kernel_rfl))
 f328:=Tryz.func216.trans (congrArg some (by kernel_rfl))
 f329:=Tryz.func217.trans (congrArg some (by kernel_rfl))
 f330:=Tryz.func218.trans (congrArg some (by kernel_rfl))
 f331:=Tryz.func219.trans (congrArg some (by kernel_rfl))
 f332:=Tryz.func220.trans (congrArg some (by kernel_rfl))
 f343:=Tryz.func225.trans (congrArg some (by kernel_rfl))
 t0:=Tryz.underlying0
 a0:=Tryz.isAgg0
 z0:=Tryz.sizeOf0
 v0:=Tryz.zeroValue0
 t3:=Tryz.underlying3
 a3:=Tryz.isAgg3
 z3:=Tryz.sizeOf3
 v3:=Tryz.zeroValue3
 t4:=Tryz.underlying4
 a4:=Tryz.isAgg4
 z4:=Tryz.sizeOf4
 v4:=Tryz.zeroValue4
 t5:=Tryz.underlying5
 a5:=Tryz.isAgg5
 z5:=Tryz.sizeOf5
 v5:=Tryz.zeroValue5
 t9:=Tryz.underlying9
 a9:=Tryz.isAgg9
 z9:=Tryz.sizeOf9
 v9:=Tryz.zeroValue9
 t28:=Tryz.underlying28
 a28:=Tryz.isAgg28
 z28:=Tryz.sizeOf28
 v28:=Tryz.zeroValue28
 t46:=Tryz.underlying269
 a46:=Tryz.isAgg269
 z46:=Tryz.sizeOf269
 v46:=Tryz.zeroValue269
 t51:=Tryz.underlying114
 a51:=Tryz.isAgg114
 z51:=Tryz.sizeOf114
 v51:=Tryz.zeroValue114
 t53:=Tryz.underlying289
 a53:=Tryz.isAgg289
 z53:=Tryz.sizeOf289
 v53:=Tryz.zeroValue289
 t131:=Tryz.underlying64
 a131:=Tryz.isAgg64
 z131:=Tryz.sizeOf64
 v131:=Tryz.zeroValue64
 t182:=Tryz.underlying281
 a182:=Tryz.isAgg281
 z182:=Tryz.sizeOf281
 v182:=Tryz.zeroValue281
 t183:=Tryz.underlying282
 a183:=Tryz.isAgg282
 z183:=Tryz.sizeOf282
 v183:=Tryz.zeroValue282
 t218:=Tryz.underlying296
 a218:=Tryz.isAgg296
 z218:=Tryz.sizeOf296
 v218:=Tryz.zeroValue296
 t222:=Tryz.underlying300
 a222:=Tryz.isAgg300
 z222:=Tryz.sizeOf300
 v222:=Tryz.zeroValue300
 t228:=Tryz.underlying304
 a228:=Tryz.isAgg304
 z228:=Tryz.sizeOf304
 v228:=Tryz.zeroValue304
 t229:=Tryz.underlying305
 a229:=Tryz.isAgg305
 z229:=Tryz.sizeOf305
 v229:=Tryz.zeroValue305 }
def Tryz.lays182_ren:Go.Shelf.Ren:=⟨fun | 20=>182 | n=>n,fun | 22=>28 | 3=>3 | 4=>4 | 0=>0 | n=>n,fun | n=>n⟩
theorem Tryz.lays182:Go.Proofs.Lays2.n20 Tryz.prog Tryz.lays182_ren:={
 mixed:=by kernel_rfl
 f20:=Tryz.func182.trans (congrArg some (by kernel_rfl))
 t0:=Tryz.underlying0
 a0:=Tryz.isAgg0
 z0:=Tryz.sizeOf0
 v0:=Tryz.zeroValue0
 t3:=Tryz.underlying3
 a3:=Tryz.isAgg3
 z3:=Tryz.sizeOf3
 v3:=Tryz.zeroValue3
 t4:=Tryz.underlying4
 a4:=Tryz.isAgg4
 z4:=Tryz.sizeOf4
 v4:=Tryz.zeroValue4
 t22:=Tryz.underlying28
 a22:=Tryz.isAgg28
 z22:=Tryz.sizeOf28
 v22:=Tryz.zeroValue28
 i3:=by kernel_rfl }
def Tryz.lays183_ren:Go.Shelf.Ren:=⟨fun | 10=>183 | 6=>157 | n=>n,fun | 22=>28 | 23=>3 | 25=>196 | 3=>3 | 4=>4 | 0=>0 | n=>n,fun | n=>n⟩
theorem Tryz.lays183:Go.Proofs.SlLaysH.n10 Tryz.prog Tryz.lays183_ren:={
 mixed:=by kernel_rfl
 f6:=⟨Tryz.f157.name,by decide,Tryz.func157.trans (congrArg some (by kernel_rfl))⟩
 f10:=⟨Tryz.f183.name,by decide,Tryz.func183.trans (congrArg some (by kernel_rfl))⟩
 t0:=Tryz.underlying0
 a0:=Tryz.isAgg0
 z0:=Tryz.sizeOf0
 v0:=Tryz.zeroValue0
 t3:=Tryz.underlying3
 a3:=Tryz.isAgg3
 z3:=Tryz.sizeOf3
 v3:=Tryz.zeroValue3
 t4:=Tryz.underlying4
 a4:=Tryz.isAgg4
 z4:=Tryz.sizeOf4
 v4:=Tryz.zeroValue4
 t22:=Tryz.underlying28
 a22:=Tryz.isAgg28
 z22:=Tryz.sizeOf28
 v22:=Tryz.zeroValue28
 a23:=Tryz.isAgg3
 z23:=Tryz.sizeOf3
 t25:=Tryz.underlying196
 a25:=Tryz.isAgg196
 z25:=Tryz.sizeOf196
 v25:=Tryz.zeroValue196 }
end
end Go.Proofs
namespace Go.Proofs.YtipaopbmklbmnaaGreatDoor
section
open Tryz
open Go.RowKit Go.Shelf
theorem compact_mem (d:Array Int) (m:Nat) (hm:m<=d.size) (x:Int) (h:x∈Lib.compactUpTo d m) : x∈d.toList:=by
 unfold Lib.compactUpTo at h;obtain ⟨j,hj,rfl⟩:=List.mem_map.1 h;have h1:=List.mem_range.1 (List.mem_filter.1 hj).1;show d[j]! ∈ d.toList
 rw [getElem!_pos d j (by omega)];exact Array.getElem_mem_toList (by omega)
theorem compact_len (d:Array Int) (m:Nat) : (Lib.compactUpTo d m).length<=m:=by
 unfold Lib.compactUpTo;rw [List.length_map];exact Nat.le_trans (List.length_filter_le _ _) (by rw [List.length_range];exact Nat.le_refl _)
theorem own_world {w:World} {base g cap n:Nat} {cs:List Value} (h:w.ownsRow base 3 1 (.slice (some ⟨g,0,none⟩) n cap) n cs) (m:Nat) (dk:List Int) (os:Array Obj) (hd:dk.length=n) :
  (sortWorld (Value.int .i64) w g 0 m dk.toArray os).ownsRow base 3 1 (.slice (some ⟨g,0,none⟩) n cap) n (dk.map (Value.int .i64)):=by
 rcases h.2 with ⟨h0,_⟩ | ⟨g',cap',cur,h0,h1,hc,q1,q2,q3,_⟩
 ·cases h0
 ·cases h0;refine ⟨by simp [hd],.inr ⟨g,cap,Go.Sort.putCells (Value.int .i64) 0 dk.toArray cur,rfl,h1,zNZ _ _ _ _ _ _ _ _ _ hc,q1,q2,by simp [Go.Sort.putCells,q3],?_⟩⟩;rw [Nat.mul_one];have:=zOC (Value.int .i64) dk.toArray cur n (by simpa using hd) (by omega);simpa using this
theorem own_holds {w:World} {base g cap n:Nat} {cs:List Int} (h:w.ownsRow base 3 1 (.slice (some ⟨g,0,none⟩) n cap) n (cs.map (Value.int .i64))) : Go.Sort.Holds (Value.int .i64) w g 0 cs.toArray:=fun j hj=>by
 have hj':j < cs.length:=by simpa using hj
 rw [Nat.zero_add];refine ⟨?_,zNI h j⟩;have:=h.cells (g:=g) rfl j (.int .i64 cs[j]) (by simp [hj']);rw [zAZ] at this;rw [this,getElem!_pos cs.toArray j (by simpa using hj')];simp
theorem own_pre {w:World} {base g cap n:Nat} {e:TypeId} {cs:List Value} (h:w.ownsRow base e 1 (.slice (some ⟨g,0,none⟩) n cap) n cs) (k:Nat) (hk:k<=n) : w.ownsRow base e 1 (.slice (some ⟨g,0,none⟩) k cap) k (cs.take k):=by
 rcases h.2 with ⟨h0,_⟩ | ⟨g',cap',cur,h0,h1,hc,q1,q2,q3,q4⟩
 ·cases h0
 ·cases h0;refine ⟨by rw [List.length_take,h.1];omega,.inr ⟨g,cap,cur,rfl,h1,hc,by omega,q2,q3,?_⟩⟩;rw [<- q4,List.take_take];congr 1;omega
theorem zKP {w:World} {base g cap n:Nat} {e:TypeId} {cs:List Value} (h:w.ownsRow base e 1 (.slice (some ⟨g,0,none⟩) n cap) n cs) : g < w.heap.size/\n<=cap/\base<=g:=by
 rcases h.2 with ⟨h0,_⟩ | ⟨g',cap',cur,h0,h1,hc,q1,q2,q3,q4⟩
 ·cases h0
 ·cases h0;exact ⟨(Array.getElem?_eq_some_iff.1 hc).1,q1,h1⟩
theorem zPX (W:World) (x:Int) : FnGives prog 184 #[] #[.int .i64 x] (.bool (decide (999 < x))) W:=by
 show Calls prog 184 #[.int .i64 x] W _
 go_enter func184,ntmps184;go_wp2;go_ret;exact ⟨rfl,0,rfl⟩
def markL (N:List Note) (k:Nat) : List Int:=1 :: (N.take k).flatMap fun x=>[x.fr,x.to+1]
theorem markL_succ (N:List Note) (k:Nat) (hk:k < N.length) : markL N (k+1)=markL N k++[N[k].fr,N[k].to+1]:=by
 unfold markL;rw [List.take_succ_eq_append_getElem hk,List.flatMap_append];rfl
theorem markL_len (N:List Note) (k:Nat) (hk:k<=N.length) : (markL N k).length=2*k+1:=by
 unfold markL;induction k with
 | zero=>rfl
 | succ k ih =>have:=ih (by omega);rw [List.take_succ_eq_append_getElem (by omega),List.flatMap_append];simp only [List.length_cons,List.length_append,List.flatMap_cons,List.flatMap_nil,List.length_nil] at this ⊢;omega
theorem marks_note (w:World) (pf:Nat) (vr vn:Value) (R:List Issue) (N:List Note) (hF:FileAt w pf vr vn R N) (hN:Sl zBL 10 w vn N) (h12:N.length<=12) (hto:∀ x∈N,I64 x.fr/\0<=x.to/\x.to<=999) :
  Calls prog 156 #[.pointer (some ⟨pf,0,none⟩)] w fun e w'=>∃ u L,e = .returned u/\Sl zAM 1 w' u L/\L.length<=25/\Below w.heap.size w w':=by
 obtain ⟨i0,hif,iz0,iz1,iz2⟩:=info_parts zFY;obtain ⟨vd,vo,O,hL,_,_,_⟩:=hF.is;obtain ⟨an,capn,rfl,hmn⟩:=zD hN;have HN:=zE hN;have HT:=zE hto;have hb1:=zB w (.cells #[.int .i64 1] 3);have c1:=(hL.ext hb1).cell 1 _ rfl;have HB1:=zE hb1;have hI:∀ k,k<=N.length->∀ x∈markL N k,I64 x:=fun k _ x hx=>by
  unfold markL at hx;rcases List.mem_cons.1 hx with rfl | hx
  ·exact ⟨by omega,by omega⟩
  obtain ⟨y,hy,hx⟩:=List.mem_flatMap.1 hx;have h1:=HT.out y (List.mem_of_mem_take hy);simp at hx;rcases hx with rfl | rfl
  ·exact h1.1
  ·unfold I64;omega
 have HI:=zE hI;clear hF hL hN hto hb1 hI;unfold zK at c1;go_enter func156,ntmps156;go_wp2;clear c1;go_loopw [3,13] (fun o q wr=>∃ j:Nat,q = .int .i64 j/\j<=N.length/\Hid (wr.ownsRow w.heap.size 3 1 o (2*j+1) ((markL N j).map (Value.int .i64)))/\Hid (Below w.heap.size w wr)) (fun _ q _=>N.length - (intOf q).toNat)
 case atStart=>exact ⟨0,rfl,by omega,zE ⟨rfl,.inr ⟨w.heap.size,1,#[.int .i64 1],rfl,Nat.le_refl _,zJE w _ _ rfl,by omega,by decide,rfl,rfl⟩⟩,HB1⟩
 case round =>
  obtain ⟨j,rfl,hj,HOWN,HB⟩:=hrel;by_cases hlt:j < N.length
  ·obtain ⟨b,off,rfl,⟨q0,q1,q2,q3,q4,q5,q6,q7,q8,q9⟩,_⟩:=zHS HN.out HB.out j hlt
   have hnew:=zE (congrArg (List.map (Value.int .i64)) (markL_succ N j hlt));have ht:=HT.out N[j] (List.getElem_mem hlt);generalize N[j]=x at *;have hx:=(zBY wr #[.int .i64 x.num,.int .i64 x.day,.int .u8 x.sg,.int .i64 x.d,.int .i64 x.l,.int .i64 x.fr,.int .i64 x.to,.int .i64 x.ca,.bool x.use,.int .u8 x.ways] 74).2;have x5:=hx 5 _ rfl;have x6:=hx 6 _ rfl;clear hx;obtain ⟨_,ht0,ht1⟩:=ht;have hba:=zA (zB wr (.cells #[.int .i64 x.num,.int .i64 x.day,.int .u8 x.sg,.int .i64 x.d,.int .i64 x.l,.int .i64 x.fr,.int .i64 x.to,.int .i64 x.ca,.bool x.use,.int .u8 x.ways] 74)) (zB _ (.cells #[.int .i64 x.fr,.int .i64 (x.to+1)] 3));have HBA:=zE (zA HB.out hba);have HOA:=zE (zAC hba HOWN.out);have HCN:=zE (cell_two_new (wr.alloc (.cells #[.int .i64 x.num,.int .i64 x.day,.int .u8 x.sg,.int .i64 x.d,.int .i64 x.l,.int .i64 x.fr,.int .i64 x.to,.int .i64 x.ca,.bool x.use,.int .u8 x.ways] 74)) (.int .i64 x.fr) (.int .i64 (x.to+1)) 3);rw [World.size_alloc] at HCN;clear hba;unfold zK at q0 q1 q2 q3 q4 q5 q6 q7 q8 q9 x5 x6;go_wp2_with (at_builtin;refine wpList_append_own _ rfl _ _ 28 rfl w.heap.size 3 i0 (.int .i64 0) 1 8 underlying28 hif iz0 iz1 iz2 rfl (by decide) _ _ _ rfl HOA.out ⟨wr.heap.size+1,0,none⟩ 2 2 [.int .i64 x.fr,.int .i64 (x.to+1)] rfl rfl HCN.out (by simp [Value.oneCell']) (by unfold maxLen;omega) (by omega) HBA.out.size ?_;intro v' w4 hown' hgrow _);have HB4:=zE (HBA.out.grown hgrow HBA.out.size (fun r e=>(HOA.out.lt r e).1));have HO4:Hid (w4.ownsRow w.heap.size 3 1 v' (2*(j+1)+1) ((markL N (j+1)).map (Value.int .i64))):=by rw [hnew.out,List.map_append];exact hown'
   clear hgrow hown' HOA HBA HOWN HB HCN;go_wp2;go_roundw
   ·exact ⟨j+1,by go_num,by omega,HO4,HB4⟩
   ·simp [intOf];omega
  ·obtain rfl:j=N.length:=by omega
   have hlen:=markL_len N N.length (Nat.le_refl _);obtain ⟨g,cap,rfl⟩:=zDM HOWN.out;have hI:=HI.out N.length (Nat.le_refl _);generalize markL N N.length=L at *;have hown:=HOWN.out;rw [<- hlen] at hown ⊢;have HI2:=zE hI;have H1:=zE hown;have hsz:L.length<=25:=by omega
   clear hI HOWN hown HI HN HT hlen;have hst:=Any.slices_Sort_int Tryz.lays150 g 0 cap L wr (own_holds H1.out) (zKP H1.out).1 (Nat.lt_of_le_of_lt hsz (by decide));change Calls prog 150 _ _ _ at hst;have HST:=zE hst;clear hst;go_wp2_with fail;refine HST.out.mono ?_;rintro e w2 ⟨rfl,n2,os2,hw2⟩;have hperm:=List.mergeSort_perm L (fun x y=>decide (x<=y));have hl2:=hperm.length_eq;have hI2:∀ x∈L.mergeSort (fun x y=>decide (x<=y)),I64 x:=fun x hx=>HI2.out x (hperm.mem_iff.1 hx)
   generalize L.mergeSort (fun x y=>decide (x<=y))=L2 at *;have hw2':w2=sortWorld (Value.int .i64) wr g 0 n2 L2.toArray os2:=hw2;have hown2:=own_world H1.out n2 L2 os2 hl2;have hgr2:=zEI (Value.int .i64) wr g n2 L2.toArray os2;rw [<- hw2'] at hown2 hgr2;rw [<- hl2] at hown2 ⊢;have H2:=zE hown2;have HB2:=zE (HB.out.grown hgr2 HB.out.size (fun r e=>by cases e;exact (zKP H1.out).2.2));have HI3:=zE hI2;have hsz2:L2.length<=25:=by omega
   clear hw2 hw2' hperm hl2 hown2 hgr2 H1 HB HI2 hI2 hsz;have hcp:=Any.slices_Compact_int Tryz.lays182 g 0 cap L2 w2 (own_holds H2.out) (Nat.le_trans hsz2 (by decide)) (zKP H2.out).2.1;change Calls prog 182 _ _ _ at hcp;have HCP:=zE hcp;clear hcp;go_wp2_with fail;refine HCP.out.mono ?_;rintro e w3 ⟨rfl,n3,hw3⟩;have hcl:(Lib.compact L2).length<=L2.length:=by have:=compact_len L2.toArray L2.length;exact this
   have hcm:∀ x∈Lib.compact L2,I64 x:=fun x hx=>HI3.out x (by have:=compact_mem L2.toArray L2.length (by simp) x hx;simpa using this)
   generalize Lib.compact L2=L3 at *;have hw3':w3=sortWorld (Value.int .i64) w2 g 0 n3 (L3++List.replicate (L2.length - L3.length) 0).toArray #[]:=hw3;have hown3:=own_pre (own_world H2.out n3 (L3++List.replicate (L2.length - L3.length) 0) #[] (by simp;omega)) L3.length hcl;rw [List.map_append,List.take_left' (by simp)] at hown3;have hgr3:=zEI (Value.int .i64) w2 g n3 (L3++List.replicate (L2.length - L3.length) 0).toArray #[];rw [<- hw3'] at hown3 hgr3;have H3:=zE hown3;have HB3:=zE (HB2.out.grown hgr3 HB2.out.size (fun r e=>by cases e;exact (zKP H2.out).2.2));have HI4:=zE hcm;have hsz3:L3.length<=25:=by omega
   clear hw3 hw3' hown3 hgr3 H2 HB2 HI3 hcm hcl hsz2;have hdel:=AnyE.slices_DeleteFunc Tryz.lays183 (Value.int .i64) (fun _=>rfl) (fun x=>decide (999 < x)) 184 #[] (enters_of func184 (by kernel_rfl) rfl) 0 Tryz.zeroValue3 g 0 cap L3.toArray w3
    (fun W x _=>zPX W x) (fun n os dk x _=>zPX _ x) (own_holds H3.out) (Nat.le_trans hsz3 (by decide)) (zKP H3.out).2.1
   change Calls prog 183 _ _ _ at hdel;have HDEL:=zE hdel;clear hdel;go_wp2_with fail;refine HDEL.out.mono ?_;rintro e w5 ⟨rfl,n5,hw5⟩;have e1:L3.toArray.toList=L3:=rfl;have e2:L3.toArray.size=L3.length:=by simp
   rw [e2] at hw5
   (try rw [e1])
   have hfl:(L3.filter fun x=>!decide (999 < x)).length<=L3.length:=List.length_filter_le _ _;have hfm:∀ x∈L3.filter (fun x=>!decide (999 < x)),I64 x:=fun x hx=>HI4.out x (List.mem_filter.1 hx).1
   generalize (L3.filter fun x=>!decide (999 < x))=L4 at *;have hw5':w5=sortWorld (Value.int .i64) w3 g 0 n5 (L4++List.replicate (L3.length - L4.length) 0).toArray #[]:=hw5;have hown5:=own_pre (own_world H3.out n5 (L4++List.replicate (L3.length - L4.length) 0) #[] (by simp;omega)) L4.length hfl;rw [List.map_append,List.take_left' (by simp)] at hown5;have hgr5:=zEI (Value.int .i64) w3 g n5 (L4++List.replicate (L3.length - L4.length) 0).toArray #[];rw [<- hw5'] at hown5 hgr5;have HS:=zE (zBF hown5 hfm);have HB5:=zE (HB3.out.grown hgr5 HB3.out.size (fun r e=>by cases e;exact (zKP H3.out).2.2));clear hw5 hw5' hown5 hgr5 HDEL H3 HB3 HI4 hfm;go_wp2;go_ret;exact ⟨_,L4,rfl,HS.out,by omega,HB5.out⟩
end
section
open Go.RowKit
theorem laid_pair:laidOutB Tryz.prog=true:=by kernel_rfl
theorem keyed_pair:Maps.Keyed Tryz.prog 241 :=
 Maps.Keyed.of_law (deep_law_laid laid_pair (m:=9) (by decide) (of_decide_eq_true (by kernel_rfl)) (by kernel_rfl) (by kernel_rfl))
def kPr (d l:Int) : Value:=.agg #[.int .i64 d,.int .i64 l]
def lPr (d l:Int) : Lit:=.string (keyBytes [.int .i64 d,.int .i64 l])
theorem key_pair {d l:Int} (hd:I64 d) (hl:I64 l) : keyOf Tryz.prog 241 (kPr d l)=some (lPr d l):=by
 have h1:Tryz.prog.keyType 241=true:=by kernel_rfl
 have h2:(kPr d l).formed Tryz.prog 241=true:=by kernel_rfl
 obtain ⟨N,hN⟩ : ∃ N,Tryz.prog.types.size+1=N+2:=⟨Tryz.prog.types.size - 1,by have:Tryz.prog.types.size≠0:=of_decide_eq_true (by kernel_rfl);omega⟩;have hc:Tryz.prog.cellsOf 241=2:=by kernel_rfl
 have hi:Tryz.prog.cellsOf 3=1:=by kernel_rfl
 have hwd:=wf_i64 hd;have hwl:=wf_i64 hl;have h3:Tryz.prog.keyLits (Tryz.prog.types.size+1) 241 (kPr d l).cells.toList=some [.int .i64 d,.int .i64 l]:=by rw [hN];simp [Program.keyLits,Tryz.underlying241,Tryz.underlying3,hc,hi,kPr,Value.cells,hwd,hwl,List.range,List.range.loop]
 unfold keyOf;rw [Tryz.underlying241];simp only;rw [h1,h2,h3];rfl
theorem lPr_key (d l:Int) : WideAt.IsKeyLit (lPr d l):=by simp [WideAt.IsKeyLit,lPr]
def MapP (w:World) (b n:Nat) : Prop :=
 ∃ D:DataW Value,w.ownsMap Tryz.prog 241 Rv b n D/\∀ d l,∃ o:Option Bool,∀ z,D.atKey (lPr d l) (.held z) = .held ((o.map Value.bool).getD z)
theorem MapP.same {w w':World} {b n:Nat} (h:MapP w b n) (e:w'.heap[b]? = w.heap[b]?) : MapP w' b n:=by
 obtain ⟨D,h1,h2⟩:=h;exact ⟨D,zMO h1 e,h2⟩
theorem MapP.lt {w:World} {b n:Nat} (h:MapP w b n) : b < w.heap.size:=by obtain ⟨D,h1,h2⟩:=h;exact h1.lt
theorem MapP.ext {w w':World} {b n:Nat} (hb:Below w.heap.size w w') (h:MapP w b n) : MapP w' b n:=h.same (hb.block b h.lt)
theorem mapP_made (w:World) : MapP (w.alloc (.map #[] 0)) w.heap.size 0 :=
 ⟨.map [],World.ownsMap_made w _ _ _,fun d l=>⟨none,fun z=>by simp [DataW.atKey]⟩⟩
theorem mapP_look {w:World} {b n:Nat} (h:MapP w b n) {d l:Int} (hd:I64 d) (hl:I64 l) :
  ∃ c:Bool,(Instr.lookup 239 (.map (some b)) (.agg #[.int .i64 d,.int .i64 l]) false).run Tryz.prog w = .ok (.bool c) w:=by
 obtain ⟨D,ho,hD⟩:=h;obtain ⟨v,ps,hr,hv⟩:=ho.lookup keyed_pair Tryz.underlying239 (Tryz.zeroValue4 w) (zd:=.held (.bool false)) (zp:=[]) rfl (key_pair hd hl);obtain ⟨o,hO⟩:=hD d l;rw [hO] at hv;exact ⟨o.getD false,by rw [show (Value.agg #[.int .i64 d,.int .i64 l])=kPr d l from rfl,hr,rv_inv hv];cases o <;> rfl⟩
theorem mapP_put {w:World} {b n:Nat} (h:MapP w b n) {d l:Int} (hd:I64 d) (hl:I64 l) (c:Bool) (hn:n < maxLen) :
  ∃ w',(Instr.mapUpdate 239 (.map (some b)) (.agg #[.int .i64 d,.int .i64 l]) (.bool c)).run Tryz.prog w = .ok () w'/\MapP w' b (n+1)/\w.grownBy w' (some b):=by
 obtain ⟨D,ho,hD⟩:=h;obtain ⟨w',hr,ho',hg⟩:=ho.update keyed_pair Tryz.underlying239 hn (key_pair hd hl) (show Rv (.bool c)=some (.held (.bool c),[]) from rfl);refine ⟨w',hr,⟨_,ho',fun y z=>?_⟩,hg⟩;by_cases e:lPr y z=lPr d l
 ·exact ⟨some c,fun u=>by rw [e,Maps.atKey_put_same ho.isMap (lPr_key _ _)];rfl⟩
 ·obtain ⟨o,hO⟩:=hD y z;exact ⟨o,fun u=>by rw [Maps.atKey_put_other e];exact hO u⟩
end
end Go.Proofs.YtipaopbmklbmnaaGreatDoor
