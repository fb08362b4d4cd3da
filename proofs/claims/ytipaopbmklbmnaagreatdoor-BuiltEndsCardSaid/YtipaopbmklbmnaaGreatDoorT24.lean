/- Lemmas. -/
import Derived.Test.YtipaopbmklbmnaaGreatDoorT23
set_option linter.all false
set_option maxRecDepth 100000
set_option maxHeartbeats 0
namespace Go.Proofs.YtipaopbmklbmnaaGreatDoor
section
open Tryz
open Go.RowKit Go.Shelf
attribute [local go_sem] zAE Oper.grows Oper.growUpon
theorem zGU {w w':World} {b o mb:Nat} {v:Value} (hm:∃ es ck,w.heap[mb]? = some (.map es ck)) (hg:w.grownBy w' (some mb)) (h:zK w b o v) : zK w' b o v:=by
 obtain ⟨es,ck,hm⟩:=hm;exact cell_kept h hg (fun r e=>by cases e;exact ⟨_,hm,rfl⟩)
theorem zQB {w w':World} {mb:Nat} {vi vd:Value} {x:Issue} (hm:∃ es ck,w.heap[mb]? = some (.map es ck)) (hg:w.grownBy w' (some mb)) (h:IssueAt w vi vd x) : IssueAt w' vi vd x :=
 ⟨sl_to (fun _ _ _ ⟨⟨h1,h2⟩,h3⟩=>⟨⟨zGU hm hg h1,zGU hm hg h2⟩,h3⟩) h.items,sl_to (fun _ _ _ ⟨⟨h1,h2,h3⟩,h4⟩=>⟨⟨zGU hm hg h1,zGU hm hg h2,zGU hm hg h3⟩,h4⟩) h.dims,h.num⟩
def IssTo (w:World) (mb n:Nat) (R:List Issue) (lt:Int->Int) (D:List Int) : Prop:=∃ f,zGF w mb n f/\∀ d∈D,∃ x vi vd,zCQ R d (lt d)=some x/\f d=some (.agg #[.int .i64 x.d,.int .i64 x.l,.int .u8 x.k,vi,vd])/\IssueAt w vi vd x
theorem IssTo.ext {w w':World} {mb n:Nat} {R:List Issue} {lt:Int->Int} {D:List Int} (hb:Below w.heap.size w w') (h:IssTo w mb n R lt D) : IssTo w' mb n R lt D:=by
 obtain ⟨f,h1,h2⟩:=h;refine ⟨f,h1.ext hb,fun d hd=>?_⟩;obtain ⟨x,vi,vd,a1,a2,a3⟩:=h2 d hd;exact ⟨x,vi,vd,a1,a2,a3.ext hb⟩
theorem IssTo.put {w:World} {mb n:Nat} {R:List Issue} {lt:Int->Int} {D:List Int} (h:IssTo w mb n R lt D) {x:Issue} {vi vd:Value} (hx:zCQ R x.d (lt x.d)=some x) (hI:IssueAt w vi vd x) (hn:n < maxLen) :
  ∃ w',(Instr.mapUpdate 154 (.map (some mb)) (.int .i64 x.d) (.agg #[.int .i64 x.d,.int .i64 x.l,.int .u8 x.k,vi,vd])).run prog w = .ok () w'/\IssTo w' mb (n+1) R lt (D++[x.d])/\w.grownBy w' (some mb):=by
 obtain ⟨f,h1,h2⟩:=h;obtain ⟨w',hr,hM,hg⟩:=zKU underlying154 h1 hI.num.1 (.agg #[.int .i64 x.d,.int .i64 x.l,.int .u8 x.k,vi,vd]) hn;refine ⟨w',hr,⟨_,hM,fun d hd=>?_⟩,hg⟩;by_cases e:d=x.d
 ·subst e;exact ⟨x,vi,vd,hx,by simp,zQB h1.is hg hI⟩
 ·rw [List.mem_append,List.mem_singleton] at hd;obtain ⟨y,ui,ud,a1,a2,a3⟩:=h2 d (hd.resolve_right e);exact ⟨y,ui,ud,a1,by rw [if_neg e];exact a2,zQB h1.is hg a3⟩
theorem IssTo.lt {w:World} {mb n:Nat} {R:List Issue} {lt:Int->Int} {D:List Int} (h:IssTo w mb n R lt D) : mb < w.heap.size:=by
 obtain ⟨f,h1,_⟩:=h;exact h1.lt
theorem taken_sheet (w:World) (v vl:Value) (R:List Issue) (lt:Int->Int) (d:Int) (h:RegArg w v R) (hl:Sl zAM 1 w vl ((nums R).map lt)) (hz:zX R=0) (hall:∀ d∈nums R,∃ x,zCQ R d (lt d)=some x) (hd:d∈nums R) :
  Calls prog 79 #[.agg #[v],vl,.int .i64 d] w fun e w'=>∃ pb vd mb n,e = .returned (.tuple #[.pointer (some ⟨pb,0,none⟩),.map (some mb),.int .i64 0])/\BookAt w' pb v vd R (nums R)/\n<=1000/\IssTo w' mb n R lt (nums R)/\Below w.heap.size w w':=by
 obtain ⟨hb1,B1⟩:=zBY w #[v] 24;have c0:=B1 0 _ rfl;have H1:=zE (h.ext hb1);have HL1:=zE (zJ zN hb1 hl);obtain ⟨a,cap,rfl,_⟩:=zD h.sl;obtain ⟨al,capl,rfl,hml⟩:=zD hl;have c0:zK _ w.heap.size 0 (.slice a R.length cap):=c0;unfold zK at c0;have hmm:=@run_makeMap prog;have hmx:(1000:Nat) < maxLen:=by decide
 have HALL:=zE hall;have HD:=zE hd;have HZ:=zE hz;have hls:=zCJ hz;have HLS:=zE hls;have hne:=listed_ne hls;have h20:(nums R).length<=20:=hls.2.2.2;simp only [List.length_map] at HL1 hml ⊢;clear B1 h hl hall hd hz hls;go_enter func79,ntmps79;go_wp2_with fail;clear c0;generalize w.alloc _=w1 at *;refine (zQW _ _ R H1.out.sl H1.out.cap H1.out.looks).mono ?_;rintro e w2 ⟨⟨p,rfl,hp1,hp2⟩,hb2⟩;obtain ⟨pb,vd,rfl,hbk⟩:=hp2 HZ.out;rw [HZ.out];obtain ⟨ad,capd,rfl,hmd⟩:=zD hbk.dr;have c1:=hbk.c1;have HBK:=zE hbk;have HB2:=zE (zA hb1 hb2);have HL2:=zE (zJ zN hb2 HL1.out);unfold zK at c1;clear hp1 hp2 hbk hb1 hb2;generalize hDD:nums R=D at *;have HDD:=zE hDD;clear hDD;go_wp2;clear c1;go_loopw [34] (fun i wr=>∃ j:Nat,i = .int .i64 j/\j<=D.length/\Hid (Below w2.heap.size w2 wr/\IssTo wr w2.heap.size j R lt (D.take j))) (fun i _=>D.length - (intOf i).toNat)
 case atStart=>exact ⟨0,rfl,by omega,zE ⟨zB _ _,_,zMY w2,fun d hd=>by simp at hd⟩⟩
 case round =>
  obtain ⟨j,rfl,hj,HH⟩:=hrel;have HBKr:=zE (HBK.out.ext HH.out.1);by_cases hlt:j < D.length
  ·obtain ⟨bd,od,rfl,p0,hp0⟩:=(zY HBKr.out.dr).2 j hlt
   obtain ⟨bl,ol,rfl,p1,_⟩:=(zY (zJ zN HH.out.1 HL2.out)).2 j (by rw [List.length_map];exact hlt);rw [List.getElem_map] at p1;obtain ⟨x,hx⟩:=HALL.out _ (List.getElem_mem hlt);have hxd:=(zIH hx).2.1;have htk:D.take (j+1)=D.take j++[x.d]:=by rw [List.take_succ_eq_append_getElem hlt,hxd]
   have HTK:=zE htk;have hlx:Hid (lt D[j]=lt x.d):=by unfold Hid;rw [hxd]
   have hjl:(j:Int) < D.length:=by omega
   have hfind:=zE (fun W (hb:Below wr.heap.size wr W)=>find_iss0 w2 W (zA HH.out.1 hb) pb _ _ R _ D[j] (lt D[j]) HBK.out (zFT HLS.out).1 (by omega) hne.1);rw [<- hxd] at hx p0 p1 hfind;have HX:=zE hx;have HP:=zE (And.intro HBKr.out.c1 (And.intro p0 p1));generalize hge:lt x.d=lx at *;have HGE:=zE hge;clear hge;clear htk hx hxd p0 p1 hp0 hlx;have c1:∀ xq,(wr.later xq).cell? ⟨pb,1,none⟩=some (.slice (some ⟨bd,od,none⟩) D.length capd):=fun xq=>zC (zG wr xq) HP.out.1
   have p0:∀ xq,(wr.later xq).cell? ⟨bd,od+j,none⟩=some (.int .i64 x.d):=fun xq=>by
    have:=zC (zG wr xq) HP.out.2.1;rw [Nat.mul_one] at this;exact this
   have p1:∀ xq,(wr.later xq).cell? ⟨bl,ol+j,none⟩=some (.int .i64 lx):=fun xq=>by
    have:=zC (zG wr xq) HP.out.2.2;rw [Nat.mul_one] at this;exact this
   go_wp2;refine wp_region_growD 18 16 (by kernel_rfl) (by kernel_rfl) rfl rfl (fun v=>v = .bool true) ?_;simp only [tk_];iterate 13 (apply gx_;focus (intro vs xq hd;(try simp [hq_] at hd);simp only [pf_];go_simp;exact ⟨br_,rfl⟩))
   refine zL (fun v _=>TupF x w2 v) (fun v w w' hb h=>h) ?_ ?_
   ·intro vs xq hd
    (try simp [hq_] at hd)
    simp only [pf_];go_simp;refine (hfind.out _ (zG wr xq)).mono ?_;rintro e w9 ⟨hb9,hf⟩;rcases hf with ⟨y,vi,vd,h1,rfl,h3⟩ | ⟨h1,_⟩
    ·have hyx:y=x:=by rw [HX.out] at h1;cases h1;rfl
     subst hyx;exact ⟨_,rfl,hb9,vi,vd,rfl,h3⟩
    ·rw [HX.out] at h1;cases h1
   refine zL (fun v _=>TupF x w2 v) (fun v w w' hb h=>h) ?_ ?_
   ·intro vs xq hd
    (try simp [hq_] at hd)
    simp only [pf_];go_simp;exact br_
   refine zL (fun v _=>AggF x w2 v) (fun v w w' hb h=>h) ?_ ?_
   ·intro vs xq hd
    (try simp [hq_] at hd)
    simp only [pf_];obtain ⟨vi,vd,e,hI⟩:=hd;rw [e];go_simp;exact ⟨br_,vi,vd,rfl,hI⟩
   refine zL (fun v _=>v = .bool true) (fun v w w' hb h=>h) ?_ ?_
   ·intro vs xq hd
    (try simp [hq_] at hd)
    simp only [pf_];obtain ⟨vi,vd,e,hI⟩:=hd;rw [e];go_simp;exact br_
   refine zL (NewIss wr.heap.size) (fun v w w' hb h=>by obtain ⟨b,e,h1,h2⟩:=h;exact ⟨b,e,h1,h2.ext hb⟩) ?_ ?_
   ·intro vs xq hd
    (try simp [hq_] at hd)
    simp only [pf_];go_simp;exact ⟨zB _ _,_,rfl,(zG wr xq).size,Lay.new _ _ _⟩
   refine ⟨fun v w h=>h,fun vs w8 w9 hd=>?_,fun vs w8 hb8 hf=>?_⟩
   ·simp [Oper.waitsOn,Region.binds,List.filter_cons,List.filter_nil,zAI] at hd;obtain ⟨vi,vd,e,hI⟩:=hd;refine ⟨.bool true,?_,rfl⟩;simp only [pf_];rw [e];go_simp
   ·have h15:=hf 15 (by decide) (by decide)
    have h17:=hf 17 (by decide) (by decide);simp [zAI] at h15 h17;clear hf;obtain ⟨vi,vd,e15,hI⟩:=h15;obtain ⟨gb,e17,hgb,hLb⟩:=h17;obtain ⟨ai,capi,rfl,_⟩:=zD hI.items;obtain ⟨ad',capd',rfl,_⟩:=zD hI.dims;have HI:=zE hI;have HLB:=zE hLb;have q0:=hLb.cell 0 _ rfl;have q1:=hLb.cell 1 _ rfl;have q2:=hLb.cell 2 _ rfl;have q3:=hLb.cell 3 _ rfl;have q4:=hLb.cell 4 _ rfl;have f0:=hLb.frozen 0;have f1:=hLb.frozen 1;have f2:=hLb.frozen 2;have f3:=hLb.frozen 3;have f4:=hLb.frozen 4;have hl:=hLb.lt;clear hLb hI c1 p0 p1;simp only [pf_];rw [e15,e17];go_simp
    (try simp only [List.drop_succ_cons,List.drop_zero])
    have hbw:Below wr.heap.size wr (((((w8.setCell ⟨gb,0,none⟩ (.int .i64 x.d)).setCell ⟨gb,1,none⟩ (.int .i64 x.l)).setCell ⟨gb,2,none⟩ (.int .u8 x.k)).setCell ⟨gb,3,none⟩ (.slice ai x.items.length capi)).setCell ⟨gb,4,none⟩ (.slice ad' x.dims.length capd')) :=
     zI hgb (zI hgb (zI hgb (zI hgb (zI hgb hb8))))
    have hL5:=lay_set5 HLB.out (.int .i64 x.d) (.int .i64 x.l) (.int .u8 x.k) (.slice ai x.items.length capi) (.slice ad' x.dims.length capd');clear q0 q1 q2 q3 q4 f0 f1 f2 f3 f4 hl;generalize ((((w8.setCell ⟨gb,0,none⟩ (.int .i64 x.d)).setCell ⟨gb,1,none⟩ (.int .i64 x.l)).setCell ⟨gb,2,none⟩ (.int .u8 x.k)).setCell ⟨gb,3,none⟩ (.slice ai x.items.length capi)).setCell ⟨gb,4,none⟩ (.slice ad' x.dims.length capd')=w5 at *;have q0:=hL5.cell 0 _ rfl;have q1:=hL5.cell 1 _ rfl;have q2:=hL5.cell 2 _ rfl;have q3:=hL5.cell 3 _ rfl;have q4:=hL5.cell 4 _ rfl;have hb25:=zA HH.out.1 hbw;obtain ⟨w9,hr,hM9,hg9⟩:=(HH.out.2.ext hbw).put (by rw [HGE.out];exact HX.out) (HI.out.ext hb25) (by omega);have HE:=zE (And.intro (hb25.grown hg9 hb25.size (fun r e=>by cases e;exact Nat.le_refl _)) hM9);clear hL5 hbw hb8 hb25 hM9 hg9;go_wp2;go_roundw
    ·exact ⟨j+1,by go_num,by omega,zE ⟨HE.out.1,by rw [HTK.out];exact HE.out.2⟩⟩
    ·simp [intOf];omega
  ·obtain rfl:j=D.length:=by omega
   have hM:=HH.out.2;rw [List.take_length] at hM;have HM:=zE hM;clear hM;go_wp2_with fail;refine (has_int _ pb (.slice a R.length cap) _ R D d HBKr.out.c1 HBKr.out.dr (by rw [<- HDD.out];exact (zFT HLS.out).2) (by omega)).mono ?_;rintro e w3 ⟨rfl,rfl⟩;rw [decide_eq_true HD.out];go_wp2;refine bodyPost_ret (v:=.tuple #[.pointer (some ⟨pb,0,none⟩),.map (some w2.heap.size),.int .i64 0]) (by simp [results,results79,go_sem]) rfl ?_;exact ⟨pb,_,w2.heap.size,D.length,rfl,by rw [HDD.out];exact HBKr.out,by omega,by rw [HDD.out];exact HM.out,zA HB2.out HH.out.1⟩
end
end Go.Proofs.YtipaopbmklbmnaaGreatDoor
