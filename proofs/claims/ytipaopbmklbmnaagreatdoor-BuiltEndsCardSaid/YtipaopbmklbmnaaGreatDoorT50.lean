/- Lemmas. -/
import Derived.Test.YtipaopbmklbmnaaGreatDoorT47
set_option linter.all false
set_option maxRecDepth 100000
set_option maxHeartbeats 0
namespace Go.Proofs.YtipaopbmklbmnaaGreatDoor
section
open Tryz
open Go.RowKit Go.Shelf
attribute [local go_sem] zAE Oper.grows Oper.growUpon
def encP (p:Int×Int) : List Value:=[.int .i64 p.1,.int .i64 p.2]
theorem infoRef:(prog.info? 45).map (fun i=>(i.zero,i.size,i.bytes))=some (some (.agg #[.int .i64 0,.int .i64 0]),2,16):=by kernel_rfl
theorem refsOf_succ {R:List Issue} {k:Nat} (hk:k < R.length) : zCT (R.take (k+1))=zCT (R.take k)++(if R[k].k=1 then [] else [(R[k].d,R[k].l)]):=by
 unfold zCT;rw [List.take_succ_eq_append_getElem hk,List.filter_append,List.map_append];by_cases h:R[k].k=1 <;> simp [h]
theorem refsOf_le (R:List Issue) (k:Nat) : (zCT (R.take k)).length<=k:=by
 unfold zCT;rw [List.length_map];exact Nat.le_trans (List.length_filter_le _ _) (by rw [List.length_take];omega)
theorem encP_get:∀ (L:List (Int×Int)) (k:Nat) (hk:k < L.length),(L.flatMap encP)[k*2]? = some (.int .i64 L[k].1)/\(L.flatMap encP)[k*2+1]? = some (.int .i64 L[k].2)
 | [],k,hk=>by simp at hk
 | x :: L,0,_=>⟨rfl,rfl⟩
 | x :: L,k+1,hk=>by
   have h:=encP_get L k (by simpa using hk);rw [List.flatMap_cons];constructor
   ·rw [List.getElem?_append_right (by simp [encP];omega),show (k+1)*2 - (encP x).length=k*2 by simp [encP];omega];exact h.1
   ·rw [List.getElem?_append_right (by simp [encP];omega),show (k+1)*2+1 - (encP x).length=k*2+1 by simp [encP];omega];exact h.2
def RetIssue (R:List Issue) (w:World) (e:Ending) (w':World) : Prop :=
 Below w.heap.size w w'/\((zCT R=[]/\e = .returned (.tuple #[.agg #[.int .i64 0,.int .i64 0],.bool false]))\/∃ p∈zCT R,e = .returned (.tuple #[.agg #[.int .i64 p.1,.int .i64 p.2],.bool true]))
theorem issue_law (w:World) (vr vn vm vh vs:Value) (b:Built) (n:Int) (hB:BuiltAt w vr vn vm vh vs b) (hl:b.ns.reg.length<=1000) (hn:0<=n) (hn2:n<=4294967295) :
  Calls prog 12 #[.agg #[vr,vn,.int .i64 b.of,vm,vh,vs],.int .i64 n] w (RetIssue b.ns.reg w):=by
 obtain ⟨i0,hif,iz0,iz1,iz2⟩:=info_parts infoRef;obtain ⟨ar,cr,rfl,_⟩:=zD hB.reg;have H:=((HeldB.nil w).new #[.slice ar b.ns.reg.length cr,vn,.int .i64 b.of,vm,vh,vs] 32).new #[.int .i64 0,.int .i64 0] 45;rw [World.size_alloc] at H;have hreg:=zJ zU H.below hB.reg;obtain ⟨l0,⟨q0,-⟩,-⟩:=(H.get 1 rfl).q6;go_enter func12,ntmps12;go_wp2;clear q0 l0;have HH:=zE H;have HR:=zE hreg;clear H hreg hB;generalize hgw:w.heap.size=g0 at *;generalize (w.alloc _).alloc _=w1 at *;generalize b.ns.reg=R at *;go_loopw [6,14] (fun o q wr=>∃ k:Nat,q = .int .i64 k/\k<=R.length/\Hid (wr.ownsRow w1.heap.size 45 2 o (zCT (R.take k)).length ((zCT (R.take k)).flatMap encP))/\Hid (Below w1.heap.size w1 wr)) (fun _ q _=>R.length - (intOf q).toNat)
 case atStart=>exact ⟨0,rfl,by omega,zE (World.ownsRow_nil _ _ _ _),zE (br_)⟩
 case round =>
  obtain ⟨k,rfl,hk,HO,HB⟩:=hrel;by_cases hlt:k < R.length
  case neg =>
   obtain rfl:k=R.length:=by omega
   rw [List.take_length] at HO;obtain ⟨a9,c9,rfl⟩:=zDC HO.out;have HH2:=zE (HH.out.ext HB.out);have L0:=HH2.out.get 0 rfl;obtain ⟨l0,⟨q0,q1⟩,f0,f1⟩:=L0.q2;clear HR HH;by_cases h0:zCT R=[]
   ·have HE:=zE h0;rw [h0];clear h0;go_wp2;generalize hW:(wr.setCell _ _).setCell _ _=w9;obtain ⟨L9,h9,-⟩:=zIW L0 [.int .i64 0,.int .i64 0] rfl hW;obtain ⟨l,⟨q0,q1⟩,-⟩:=L9.q2;refine bodyPost_ret (v:=.tuple #[.agg #[.int .i64 0,.int .i64 0],.bool false]) (by simp [results,results12,go_sem,q0,q1,l]) rfl ?_;exact ⟨HH2.out.below.trans (h9 _ (by omega)),.inl ⟨HE.out,rfl⟩⟩
   ·have hlen:0 < (zCT R).length:=List.length_pos_iff.2 h0
    have hle:(zCT R).length<=R.length:=by have:=refsOf_le R R.length;rwa [List.take_length] at this
    obtain ⟨g9,cap9,e9,_⟩:=zIQ HO.out hlen;cases e9;have hn':((zCT R).length == 0)=false:=by simpa using h0
    obtain ⟨i,hi,hin⟩ : ∃ i:Nat,i < (zCT R).length/\n.tmod (zCT R).length=i:=by have h1:=Int.tmod_lt_of_pos n (show (0:Int) < (zCT R).length by omega);have h2:=Int.tmod_nonneg ((zCT R).length:Int) hn;exact ⟨(n.tmod (zCT R).length).toNat,by omega,by omega⟩
    have e0:=HO.out.cells (g:=g9) rfl _ _ (encP_get _ i hi).1;have e1:=HO.out.cells (g:=g9) rfl _ _ (encP_get _ i hi).2;rw [zAZ] at e0 e1;have HP:=zE (List.getElem_mem hi);generalize (zCT R)[i]=p at *;go_wp2;generalize hW:(wr.setCell _ _).setCell _ _=w9;obtain ⟨L9,h9,-⟩:=zIW L0 [.int .i64 p.1,.int .i64 p.2] rfl hW;obtain ⟨l,⟨q0,q1⟩,-⟩:=L9.q2;refine bodyPost_ret (v:=.tuple #[.agg #[.int .i64 p.1,.int .i64 p.2],.bool true]) (by simp [results,results12,go_sem,q0,q1,l]) rfl ?_;exact ⟨HH2.out.below.trans (h9 _ (by omega)),.inr ⟨p,HP.out,rfl⟩⟩
  case pos =>
   obtain ⟨bi,oi,rfl,⟨c0,c1,c2⟩,hnum,vi,vd,c3,c4,hi,hd⟩:=(zY (zJ zU HB.out HR.out)).2 k hlt;obtain ⟨ai,ci,rfl,_⟩:=zD hi;obtain ⟨ad,cd,rfl,_⟩:=zD hd;have hsucc:=refsOf_succ hlt;have hle:=refsOf_le R k;generalize R[k]=x at *;unfold zK at c0 c1 c2 c3 c4;by_cases h1:x.k=1
   ·rw [if_pos h1,List.append_nil] at hsucc
    have h1':(x.k != 1)=false:=by simp [h1]
    have HO':=zE (hsucc ▸ zAC (zB wr (.cells #[.int .i64 x.d,.int .i64 x.l,.int .u8 x.k,.slice ai x.items.length ci,.slice ad x.dims.length cd] 118)) HO.out);have HB':=zE (zA HB.out (zB wr (.cells #[.int .i64 x.d,.int .i64 x.l,.int .u8 x.k,.slice ai x.items.length ci,.slice ad x.dims.length cd] 118)));clear hsucc h1 HO hi hd;go_wp2;go_roundw
    ·exact ⟨k+1,by go_num,by omega,HO',HB'⟩
    ·simp [intOf];omega
   ·rw [if_neg h1] at hsucc
    have h1':(x.k != 1)=true:=by simp [h1]
    have L1:=(HeldB.nil wr).new #[.int .i64 x.d,.int .i64 x.l,.int .u8 x.k,.slice ai x.items.length ci,.slice ad x.dims.length cd] 118;have HO1:=zE (zAC L1.below HO.out);have HB1:=zE (zA HB.out L1.below);clear h1 HO HB hi hd;go_wp2_with fail;clear c0 c1 c2 c3 c4;generalize hg5:wr.heap.size=g5 at *;generalize wr.alloc _=w5 at *;refine (refOf02 _ _ _ _ _ _).mono ?_;rintro e w6 ⟨rfl,h6⟩;have HO2:=zE (zAC (zB w6 (.cells #[.int .i64 x.d,.int .i64 x.l] 45)) (zAC h6 HO1.out));have HB2:=zE (zA HB1.out (zA h6 (zB w6 (.cells #[.int .i64 x.d,.int .i64 x.l] 45))));have HC:=zE (cellsN_new w6 [.int .i64 x.d,.int .i64 x.l] 45 _ rfl);clear HO1 HB1 h6 L1;go_wp2_with (at_builtin;generalize w6.heap.size=g6 at *;generalize w6.alloc _=w7 at *;refine wpList_append_own _ rfl _ _ 115 rfl w1.heap.size 45 i0 _ 2 16 underlying115 hif iz0 iz1 iz2 rfl (by decide) _ _ _ rfl HO2.out ⟨g6,0,none⟩ 1 1 [.int .i64 x.d,.int .i64 x.l] rfl rfl HC.out (by intro u hu;simp at hu;rcases hu with rfl | rfl <;> rfl) (by unfold maxLen;omega) (by omega) HB2.out.size ?_;intro v' w8 hown' hgrow _);have HB4:=HB2.out.grown hgrow HB2.out.size (fun r e=>(HO2.out.lt r e).1);refine ⟨⟨k+1,by go_num,by omega,zE ?_,zE HB4⟩,by simp [intOf];omega⟩;rw [hsucc,List.length_append,List.flatMap_append];exact hown'
end
end Go.Proofs.YtipaopbmklbmnaaGreatDoor
