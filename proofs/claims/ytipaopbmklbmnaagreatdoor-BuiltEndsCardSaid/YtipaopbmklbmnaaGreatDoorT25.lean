/- Lemmas. -/
import Derived.Test.YtipaopbmklbmnaaGreatDoorT24
set_option linter.all false
set_option maxRecDepth 100000
set_option maxHeartbeats 0
namespace Go.Proofs.YtipaopbmklbmnaaGreatDoor
section
open Tryz
open Go.RowKit Go.Shelf
def MapC (w:World) (b n:Nat) (g:Int->Int) : Prop:=∃ f,zGF w b n f/\∀ x,(f x).getD (.int .i64 0) = .int .i64 (g x)
theorem MapC.ext {w w':World} {b n:Nat} {g:Int->Int} (hb:Below w.heap.size w w') (h:MapC w b n g) : MapC w' b n g:=by
 obtain ⟨f,h1,h2⟩:=h;exact ⟨f,h1.ext hb,h2⟩
theorem MapC.lt {w:World} {b n:Nat} {g:Int->Int} (h:MapC w b n g) : b < w.heap.size:=by obtain ⟨f,h1,_⟩:=h;exact h1.lt
theorem MapC.look {w:World} {b n:Nat} {g:Int->Int} (h:MapC w b n g) {x:Int} (hx:I64 x) : (Instr.lookup 92 (.map (some b)) (.int .i64 x) false).run prog w = .ok (.int .i64 (g x)) w:=by
 obtain ⟨f,h1,h2⟩:=h;rw [<- h2 x];exact zFS underlying92 (Tryz.zeroValue3 w) h1 hx
theorem MapC.put {w:World} {b n:Nat} {g:Int->Int} (h:MapC w b n g) {x:Int} (hx:I64 x) (c:Int) (hn:n < maxLen) :
  ∃ w',(Instr.mapUpdate 92 (.map (some b)) (.int .i64 x) (.int .i64 c)).run prog w = .ok () w'/\MapC w' b (n+1) (fun y=>if y=x then c else g y)/\w.grownBy w' (some b):=by
 obtain ⟨f,h1,h2⟩:=h;obtain ⟨w',hr,hM,hg⟩:=zKU underlying92 h1 hx (.int .i64 c) hn;refine ⟨w',hr,⟨_,hM,fun y=>?_⟩,hg⟩;by_cases e:y=x
 ·simp [e]
 ·simp [e,h2 y]
theorem enter_expl1:Enters prog 80:=enters_of func80 (by kernel_rfl) rfl
abbrev explFn (b c a:Nat) : Value:=.func (.func 80) #[] #[.pointer (some ⟨b,0,none⟩),.pointer (some ⟨c,0,none⟩),.pointer (some ⟨a,0,none⟩)]
structure EBox (w:World) (b c a mb mc:Nat) : Prop where
 cb:zK w b 0 (.map (some mb))
 cc:zK w c 0 (.map (some mc))
 ca:zK w a 0 (explFn b c a)
 ne:b≠mc/\c≠mc/\a≠mc
theorem EBox.ext {w w':World} {b c a mb mc:Nat} (hb:Below w.heap.size w w') (h:EBox w b c a mb mc) : EBox w' b c a mb mc:=⟨zC hb h.cb,zC hb h.cc,zC hb h.ca,h.ne⟩
theorem EBox.grown {w w':World} {b c a mb mc:Nat} (hg:w.grownBy w' (some mc)) (h:EBox w b c a mb mc) : EBox w' b c a mb mc:=⟨zNL hg h.ne.1 h.cb,zNL hg h.ne.2.1 h.cc,zNL hg h.ne.2.2 h.ca,h.ne⟩
theorem expl1_sheet (R:List Issue) (lt:Int->Int) (hL:zDR R) (w0:World) (b c a mb mc nb:Nat) (hI:IssTo w0 mb nb R lt (nums R)) (hmc:w0.heap.size<=mc) :
  ∀ (f e:Nat) (w:World) (d m:Int) (n:Nat) (g:Int->Int),Below w0.heap.size w0 w->EBox w b c a mb mc->MapC w mc n g->d∈nums R->dep R f d < f->dep R f d<=e->1<=m->m*160 ^ e<=16777216000000 ->
   (∀ n,0<=g n/\g n+tot n (zFJ R lt f d m)<=4611686018427387904)->n+8 ^ e<=1000000000 ->
   Calls prog 80 #[.int .i64 d,.int .i64 m,.pointer (some ⟨b,0,none⟩),.pointer (some ⟨c,0,none⟩),.pointer (some ⟨a,0,none⟩)] w fun e' w' =>
    e' = .returned (.tuple #[])/\Below w0.heap.size w0 w'/\w.grownBy w' (some mc)/\∃ n',n'<=n+8 ^ e/\MapC w' mc n' (fun n=>g n+tot n (zFJ R lt f d m)):=by
 have hbig:(1000000000:Nat) < maxLen:=by decide
 intro f;induction f with
 | zero =>intro e w d m n g _ _ _ _ h;simp [dep] at h
 | succ f ih =>
   intro e w d m n g hb0 hbx hM hd hdep hde hm hme hg hn;have eg:=enter_expl1;unfold Enters at eg;obtain ⟨fb,hfb,hall⟩:=hI;obtain ⟨x,vi,vd,hx,hfx,hIss⟩:=hall d hd;obtain ⟨hxR,hxd,hxl⟩:=zIH hx;have hok:zGW x:=by obtain ⟨k,hk,rfl⟩:=List.getElem_of_mem hxR;exact (hL.2.1 k hk).1 hk
   have hd64:I64 d:=by rw [<- hxd];exact hIss.num.1
   obtain ⟨ai,capi,rfl,hmi⟩:=zD hIss.items;obtain ⟨ad,capd,rfl,_⟩:=zD hIss.dims;have hlook:=zFS underlying154 (Tryz.zeroValue118 w) (hfb.ext hb0) hd64;rw [hfx] at hlook;simp only [Option.getD_some] at hlook;have IH:=zE ih;have HBX:=zE hbx;have HM:=zE hM;have HB0:=zE hb0;have HG:=zE hg;have HDEP:=zE (And.intro hdep (And.intro hde hme));have HD:=zE hd;have HOK:=zE hok;have HI:=zE (hIss.items);have HX:=zE hx;have hcb:=hbx.cb;have hmcl:=hM.lt;have HXD:=zE (And.intro hxd hxR);have hbn:=zB w (.cells #[.int .i64 x.d,.int .i64 x.l,.int .u8 x.k,.slice ai x.items.length capi,.slice ad x.dims.length capd] 118);have hx5:=(zBY w #[.int .i64 x.d,.int .i64 x.l,.int .u8 x.k,.slice ai x.items.length capi,.slice ad x.dims.length capd] 118).2;have x2:=hx5 2 _ rfl;have x3:=hx5 3 _ rfl;have hcc:=zC hbn hbx.cc;have HX3:=zE x3;have HBN:=zE hbn;unfold zK at hcb x2 x3 hcc;clear ih hbx hM hb0 hg hdep hde hme hd hok hIss hfb hall hfx hx hx5 hxd hxR hxl hbn;by_cases hk:x.k=1
   ·have hk':(x.k != 1)=false:=by simp [hk]
    have hcon:Hid (zFJ R lt (f+1) d m=x.items.flatMap (fun y=>zFJ R lt f y.d (m*y.c))):=contr_asm HX.out hk;have hItems:=zE HOK.out.2.1;have hl8:x.items.length<=8:=by have:=(HOK.out.1.2.2.2.1 hk).1.2;omega
    have he1:1<=e:=by have h1:=dep_pos HXD.out.2 f;rw [HXD.out.1] at h1;have:=HDEP.out.2.1;omega
    obtain ⟨e',rfl⟩ : ∃ e',e=e'+1:=⟨e - 1,by omega⟩;have hk2:(x.k == 1)=true:=by simp [hk]
    clear hk hcc;go_enter func80,ntmps80;go_wp2;clear hlook hcb x2 x3;generalize w.alloc _=w3 at *;go_loopw [24] (fun i wz=>∃ (j nj:Nat),i = .int .i64 j/\j<=x.items.length/\Hid (Below w0.heap.size w0 wz/\w3.grownBy wz (some mc)/\MapC wz mc nj (fun n=>g n+zDY R lt f m x j n))/\nj<=n+j*8 ^ e') (fun i _=>x.items.length - (intOf i).toNat)
    case atStart=>exact ⟨0,n,rfl,by omega,zE ⟨zA HB0.out HBN.out,zBH _ _ _ rfl rfl rfl rfl,by simp only [zQM,Int.add_zero];exact HM.out.ext HBN.out⟩,by omega⟩
    case round =>
     obtain ⟨j,nj,rfl,hj,HH,hnj⟩:=hrel;by_cases hlt:j < x.items.length
     ·obtain ⟨bi,oi,rfl,⟨p0,p1⟩,hn0,hn1⟩:=(zY HI.out).2 j hlt
      have p0:=zC HH.out.1 p0;have p1:=zC HH.out.1 p1;have hyx:x.items[j]∈x.items:=List.getElem_mem hlt;have hIt:=hItems.out j hlt hlt;have hdc:=dep_child HXD.out.2 hyx f;rw [HXD.out.1] at hdc;have hdy:x.items[j].d∈nums R:=by obtain ⟨k,hk2,hkx⟩:=List.getElem_of_mem HXD.out.2;have:=hL.2.2.1 k hk2 hk2 j (by rw [hkx];exact hlt);simp only [hkx] at this;exact this
      have hstep:=zE (fun n=>zQK R lt f m x j hlt n);have hnn:∀ y∈x.items,∀ n,0<=tot n (zFJ R lt f y.d (m*y.c)):=fun y hy n=>by
       obtain ⟨i,hi,rfl⟩:=List.getElem_of_mem hy;have h1:=(hItems.out i hi hi).2.1.1;have h2:=dep_child HXD.out.2 hy f;rw [HXD.out.1] at h2;have h3:=Int.mul_le_mul_of_nonneg_left h1 (show (0:Int)<=m by omega);exact (contr_bd (lt:=lt) (fun z hz=>by
        obtain ⟨k,hk9,rfl⟩:=List.getElem_of_mem hz;exact (hL.2.1 k hk9).1 hk9) n f f _ _ (by omega) (by have:=HDEP.out.1;omega) (zNF R f _).2).1
      have hbnd:Hid (∀ n,0<=g n+zDY R lt f m x j n/\(g n+zDY R lt f m x j n)+tot n (zFJ R lt f x.items[j].d (m*x.items[j].c))<=4611686018427387904):=fun n=>by
       have h1:=HG.out n;rw [hcon.out,<- itemsTo_all] at h1;have h2:=zQE hnn n 0 j (by omega) (by omega);have h3:=zQE hnn n (j+1) x.items.length (by omega) (Nat.le_refl _);rw [zQM] at h2;rw [hstep.out n] at h3;omega
      clear hnn;generalize x.items[j]=y at *;obtain ⟨hdep,hde,hme⟩:=HDEP.out;have hpow:(1:Int)<=160 ^ e':=by have:(0:Int) < 160 ^ e':=Int.pow_pos (by decide);omega
      have hm1:m*160 ^ (e'+1)=m*160 ^ e'*160:=by rw [Int.pow_succ,Int.mul_assoc]
      have hm2:m<=m*160 ^ e':=by have:=Int.mul_le_mul_of_nonneg_left hpow (show (0:Int)<=m by omega);omega
      have hc1:m*y.c<=m*20:=Int.mul_le_mul_of_nonneg_left hIt.2.1.2 (by omega);have hc0:1<=m*y.c:=by have:=Int.mul_le_mul_of_nonneg_left hIt.2.1.1 (show (0:Int)<=m by omega);omega
      have hc2:m*y.c*160 ^ e'<=16777216000000:=by
       have h1:=Int.mul_le_mul_of_nonneg_right hc1 (show (0:Int)<=160 ^ e' by omega);have h2:m*20*160 ^ e'=m*160 ^ e'*20:=by rw [Int.mul_assoc,Int.mul_comm 20,<- Int.mul_assoc]
       omega
      have hwm:IntKind.i64.wrap (m*y.c)=m*y.c:=IntWalk.i64_in _ (by omega);have h88:8 ^ (e'+1)=8*8 ^ e':=by rw [Nat.pow_succ,Nat.mul_comm]
      have h8:n+8*8 ^ e'<=1000000000:=by omega
      have hj8:nj+8 ^ e'<=n+(j+1)*8 ^ e':=by rw [Nat.succ_mul];omega
      have hj9:(j+1)*8 ^ e'<=8*8 ^ e':=Nat.mul_le_mul_right _ (by omega);have hbb:=zB wr (.cells #[.int .i64 y.d,.int .i64 y.c] 97);have hbxw:=(HBX.out.ext HBN.out).grown HH.out.2.1;have HC:=zE (IH.out e' _ y.d (m*y.c) nj _ (zA HH.out.1 hbb) (hbxw.ext hbb) (HH.out.2.2.ext hbb) hdy (by omega) (by omega) hc0 hc2 hbnd.out (by omega));have hy0:=(zBY wr #[.int .i64 y.d,.int .i64 y.c] 97).2;have y0:=hy0 0 _ rfl;have y1:=hy0 1 _ rfl;have hca:=zC hbb hbxw.ca;have HBB:=zE hbb;have HJ:=zE (And.intro hj8 hj9);unfold zK at p0 p1 y0 y1 hca;clear hm1 hm2 hc0 hc1 hc2 hpow hdep hde hme hIt hdc hdy hy0 hbb hbxw hj8 hj9 hbnd h88 h8;go_wp2_with (go_at_fn 80;refine HC.out.mono ?_;rintro e9 w9 ⟨rfl,hb9,hg9,n9,hn9,hM9⟩);have HE:=zE (And.intro hb9 (And.intro (zAG HH.out.2.1 (zAG (zAV HBB.out) hg9)) hM9));clear hb9 hg9 hM9 y0 y1 hca p0 p1;go_roundw
      case rel =>
       refine ⟨j+1,n9,by go_num,by omega,zE ⟨HE.out.1,HE.out.2.1,?_⟩,by have:=HJ.out;omega⟩;have e1:(fun n=>g n+zDY R lt f m x (j+1) n)=fun n=>g n+zDY R lt f m x j n+tot n (zFJ R lt f y.d (m*y.c)):=funext fun n=>by rw [hstep.out n];omega
       rw [e1];exact HE.out.2.2
      case measure=>simp [intOf];omega
     ·obtain rfl:j=x.items.length:=by omega
      have e1:(fun n=>g n+zDY R lt f m x x.items.length n)=fun n=>g n+tot n (zFJ R lt (f+1) d m):=funext fun n=>by rw [itemsTo_all,hcon.out]
      have h1:=HH.out.2.2;rw [e1] at h1;have H1:=zE h1;have hn9:nj<=n+8 ^ (e'+1):=by
       have h9:8 ^ (e'+1)=8*8 ^ e':=by rw [Nat.pow_succ,Nat.mul_comm]
       have:x.items.length*8 ^ e'<=8*8 ^ e':=Nat.mul_le_mul_right _ hl8;omega
      clear h1 e1;go_wp2;refine bodyPost_end (v:=.tuple #[]) (by simp [results,results80,go_sem]) rfl ?_;exact ⟨rfl,HH.out.1,zAG (zAV HBN.out) HH.out.2.1,nj,hn9,H1.out⟩
   ·have hk':(x.k != 1)=true:=by simp [hk]
    have hi0:x.items=[]:=by have h1:=HOK.out.1.2.2.1.1;exact List.eq_nil_of_length_eq_zero (HOK.out.1.2.2.2.2 (by omega)).2
    have hcon:Hid (zFJ R lt (f+1) d m=[(d,m)]):=contr_part HX.out hk hi0;have hl0:Hid (x.items.length=0):=by unfold Hid;rw [hi0];rfl
    have hk2:(x.k == 1)=false:=by simp [hk]
    have hpos:0 < 8 ^ e:=Nat.pow_pos (by decide);have hM2:=HM.out.ext HBN.out;have hlook2:=hM2.look hd64;obtain ⟨w9,hr,hM9,hg9⟩:=hM2.put hd64 (g d+m) (by omega);have hsum:IntKind.i64.wrap (g d+m)=g d+m:=IntWalk.i64_in _ (by have h1:=HG.out d;rw [hcon.out] at h1;simp [tot] at h1;omega)
    have hge:(fun y=>if y=d then g d+m else g y)=fun n=>g n+tot n (zFJ R lt (f+1) d m):=funext fun y=>by
     rw [hcon.out];by_cases e9:y=d
     ·subst e9;simp [tot]
     ·simp [tot,e9,Ne.symm e9]
    rw [hge] at hM9;have x3':w9.cell? ⟨w.heap.size,3,none⟩=some (.slice ai x.items.length capi):=zNL hg9 (by omega) HX3.out;have HE:=zE (And.intro ((zA HB0.out HBN.out).grown hg9 (zA HB0.out HBN.out).size (fun r e=>by cases e;exact hmc)) (And.intro (zAG (zAV HBN.out) hg9) hM9));clear hk hM2 hM9 hg9 hge hi0;go_enter func80,ntmps80;go_wp2;clear hlook hlook2 hcb hcc x2 x3;go_loopw [24] (fun i wz=>i = .int .i64 0/\wz=w9) (fun _ _=>0)
    case atStart=>exact ⟨rfl,rfl⟩
    case round =>
     obtain ⟨rfl,rfl⟩:=hrel;have hl1:¬ (0:Int) < x.items.length:=by have:=hl0.out;omega
     go_wp2;refine bodyPost_end (v:=.tuple #[]) (by simp [results,results80,go_sem]) rfl ?_;exact ⟨rfl,HE.out.1,HE.out.2.1,n+1,by omega,HE.out.2.2⟩
theorem cells_new (w:World) (vs:List Value) (t:TypeId) (cs:Array Value) (h:cs=vs.toArray) : ∀ j u,vs[j]? = some u->(w.alloc (.cells cs t)).cell? ((⟨w.heap.size,0,none⟩ : Addr).add j)=some u:=by
 subst h;intro j u hj;rw [zAZ];exact zR w vs.toArray t j u (by simpa using hj)
theorem four_at (w:World) (o1 o2 o3 o4:Obj) : let W:=(((w.alloc o1).alloc o2).alloc o3).alloc o4
  W.heap[w.heap.size]? = some o1/\W.heap[w.heap.size+1]? = some o2/\W.heap[w.heap.size+2]? = some o3/\W.heap[w.heap.size+3]? = some o4:=by
 refine ⟨zCI (zCI (zCI (zJE _ _ _ rfl))),zCI (zCI (zJE _ _ _ ?_)),zCI (zJE _ _ _ ?_),zJE _ _ _ ?_⟩;all_goals simp only [World.size_alloc]
theorem mapC_made {W:World} {b:Nat} (n:Nat) (h:W.heap[b]? = some (.map #[] 0)) : MapC W b n (fun _=>0):=by
 have hlt:=(Array.getElem?_eq_some_iff.1 h).1;obtain ⟨W0,hW0⟩ : ∃ W0:World,W0.heap.size=b:=⟨{ W with heap:=W.heap.take b },by simp;omega⟩;have h1:zGF (W0.alloc (.map #[] 0)) b 0 (fun _=>none):=by rw [<- hW0];exact zMY W0
 have h2:(W0.alloc (.map #[] 0)).heap[b]? = some (.map #[] 0):=by rw [<- hW0];exact World.alloc_heap_new W0 _
 exact ⟨_,(h1.same (h.trans h2.symm)).mono (Nat.zero_le n),fun x=>rfl⟩
theorem explode_sheet (w:World) (v vl:Value) (R:List Issue) (lt:Int->Int) (d:Int) (h:RegArg w v R) (hl:Sl zAM 1 w vl ((nums R).map lt)) (hz:zX R=0) (hall:∀ d∈nums R,∃ x,zCQ R d (lt d)=some x) (hd:d∈nums R) :
  Calls prog 31 #[.agg #[v],vl,.int .i64 d] w fun e w'=>∃ u,e = .returned (.tuple #[u,.int .i64 0])/\Sl zBV 2 w' u (zIL R lt d)/\Below w.heap.size w w':=by
 obtain ⟨j0,hjf,jz0,jz1,jz2⟩:=info_parts infoItem;have eg:=enter_expl1;unfold Enters at eg;obtain ⟨hb1,B1⟩:=zBY w #[v] 24;have c0:=B1 0 _ rfl;have H1:=zE (h.ext hb1);have HL1:=zE (zJ zN hb1 hl);obtain ⟨a,cap,rfl,_⟩:=zD h.sl;obtain ⟨al,capl,rfl,hml⟩:=zD hl;have c0:zK _ w.heap.size 0 (.slice a R.length cap):=c0;unfold zK at c0;have hmm:=@run_makeMap prog;have HALL:=zE hall;have HD:=zE hd;have HZ:=zE hz;have HLS:=zE (zCJ hz);have h20:(nums R).length<=20:=HLS.out.2.2.2;have hI64:Hid (∀ n∈nums R,I64 n):=nums_I64 h.sl;have hdep:=zE (dep_of hz hd);have hbd:=zE (fun n=>cnt_bd hz lt hd n);simp only [List.length_map] at HL1 hml ⊢;clear B1 h hl hall hd hz;go_enter func31,ntmps31;go_wp2_with fail;clear c0;generalize w.alloc _=w1 at *;refine (taken_sheet _ _ _ R lt d H1.out HL1.out HZ.out HALL.out HD.out).mono ?_;rintro e w2 ⟨pb,vd,mb,nb,rfl,hbk,hnb,hIss,hb2⟩;have HBK:=zE hbk;have HIS:=zE hIss;have HB2:=zE (zA hb1 hb2);have hf4:=four_at w2 (.cells #[.map (some mb)] 154) (.map #[] 0) (.cells #[.map (some (w2.heap.size+1))] 92) (.cells #[explFn w2.heap.size (w2.heap.size+2) (w2.heap.size+3)] 157);have hbx:EBox ((((w2.alloc (.cells #[.map (some mb)] 154)).alloc (.map #[] 0)).alloc (.cells #[.map (some (w2.heap.size+1))] 92)).alloc (.cells #[explFn w2.heap.size (w2.heap.size+2) (w2.heap.size+3)] 157)) w2.heap.size (w2.heap.size+2) (w2.heap.size+3) mb (w2.heap.size+1) :=
  ⟨zIO hf4.1 0 _ rfl,zIO hf4.2.2.1 0 _ rfl,zIO hf4.2.2.2 0 _ rfl,by omega,by omega,by omega⟩
 have hMC:=mapC_made 0 hf4.2.1;have hbA:Below w2.heap.size w2 ((((w2.alloc (.cells #[.map (some mb)] 154)).alloc (.map #[] 0)).alloc (.cells #[.map (some (w2.heap.size+1))] 92)).alloc (.cells #[explFn w2.heap.size (w2.heap.size+2) (w2.heap.size+3)] 157)) :=
  zA (zB _ _) (zA (zB _ _) (zA (zB _ _) (zB _ _)))
 have hcall:=zE (expl1_sheet R lt HLS.out w2 w2.heap.size (w2.heap.size+2) (w2.heap.size+3) mb (w2.heap.size+1) nb hIss (by omega) ((nums R).length+1) 6 _ d 1 0 (fun _=>0) hbA hbx hMC HD.out hdep.out.1 hdep.out.2 (Int.le_refl 1) (by decide) (fun n=>by
  have:=hbd.out n;unfold zIE at this;omega) (by decide))
 have HBX:=zE hbx;have hca:=hbx.ca;unfold zK at hca;clear hb2 hb1 hbk hIss hf4 hMC hbA hbx hdep;go_wp2_with (
  go_at_fn 80
  refine hcall.out.mono ?_;rintro e w5 ⟨rfl,hb5,hg5,n5,hn5,hM5⟩;have hbk5:=HBK.out.ext hb5;obtain ⟨ad,capd,rfl,hmd⟩:=zD hbk5.dr;have c1:=hbk5.c1;have HDR:=zE hbk5.dr;have HCC:=zE (HBX.out.grown hg5).cc;have hMe:MapC w5 (w2.heap.size+1) n5 (zIE R lt d):=by
   have e1:(fun n=>(fun _=>(0:Int)) n+tot n (zFJ R lt ((nums R).length+1) d 1))=zIE R lt d:=funext fun n=>by simp [zIE]
   rw [<- e1];exact hM5
  have HM5:=zE hMe;have HB5:=zE (zA HB2.out hb5);have hmc5:=hMe.lt;unfold zK at c1;clear hb5 hg5 hM5 hbk5 hcall hMe hca)
 clear c1;have hI:Hid (∀ x∈zEP (nums R) (zIE R lt d) (nums R).length,I64 x.d/\I64 x.c):=fun x hx=>by
  obtain ⟨h1,h2⟩:=posTo_mem hx;refine ⟨hI64.out _ h1,?_⟩;have:=hbd.out x.d;rw [h2];unfold I64;omega
 have hPL:Hid (zIL R lt d=zEP (nums R) (zIE R lt d) (nums R).length):=rfl;have hD64:Hid (∀ k (h:k < (nums R).length),I64 (nums R)[k]):=fun k h=>hI64.out _ (List.getElem_mem h)
 clear hbd hI64;generalize zIE R lt d=c at *;generalize hDD:nums R=D at *;have HDD:=zE hDD;clear hDD;go_loopw [13,37] (fun q i wr=>∃ k:Nat,i = .int .i64 k/\k<=D.length/\Hid (wr.ownsRow w5.heap.size 97 2 q (zEP D c k).length ((zEP D c k).flatMap encItem))/\Hid (Below w5.heap.size w5 wr)) (fun _ i _=>D.length - (intOf i).toNat)
 case atStart=>exact ⟨0,rfl,by omega,zE (by rw [posTo_zero];exact World.ownsRow_nil _ _ _ _),zE (br_)⟩
 case round =>
  obtain ⟨k,rfl,hk,HOWN,HB⟩:=hrel;have hle:=posTo_len D c k;by_cases hlt:k < D.length
  ·obtain ⟨b1,o1,rfl,p0,hp0⟩:=(zY HDR.out).2 k hlt
   have p0:=zC HB.out p0;have hcc:=zC HB.out HCC.out;have hyes:Hid (0 < c D[k]->zEP D c (k+1)=zEP D c k++[⟨D[k],c D[k]⟩]):=fun h=>posTo_yes hlt h
   have hno:Hid (¬ 0 < c D[k]->zEP D c (k+1)=zEP D c k):=fun h=>posTo_no hlt h
   have hlook:=(HM5.out.ext HB.out).look hp0;generalize D[k]=x at *;generalize c x=y at *;unfold zK at p0 hcc;rw [Nat.mul_one] at p0;by_cases hy:0 < y
   ·have hnew:=zE (hyes.out hy)
    clear hyes hno;go_wp2_with (at_builtin;refine wpList_append_own _ rfl _ _ 85 rfl w5.heap.size 97 j0 _ 2 16 underlying85 hjf jz0 jz1 jz2 rfl (by decide) _ _ _ rfl (HOWN.out.alloc _) ⟨wr.heap.size,0,none⟩ 1 1 [.int .i64 x,.int .i64 y] rfl rfl (cells_new _ _ _ _ rfl) (by simp [Value.oneCell']) (by unfold maxLen;omega) (by omega) (by have:=HB.out.size;simp;omega) ?_;intro v' w6 hown' hgrow _);have hb6:=(zA HB.out (zB wr (.cells #[.int .i64 x,.int .i64 y] 97))).grown hgrow (by have:=HB.out.size;simp;omega) (fun r e=>(HOWN.out.lt r e).1);have HO6:=zE hown';have HB6:=zE hb6;clear hown' hgrow hb6;go_roundw
    ·exact ⟨k+1,by go_num,by omega,zE (by rw [hnew.out,List.length_append,List.flatMap_append];exact HO6.out),HB6⟩
    ·simp [intOf];omega
   ·have hnew:=zE (hno.out hy)
    clear hyes hno;go_wp2;go_roundw
    ·exact ⟨k+1,by go_num,by omega,zE (by rw [hnew.out];exact HOWN.out),HB⟩
    ·simp [intOf];omega
  ·obtain rfl:k=D.length:=by omega
   have hsl:=zE (((rowIs_enc (F:=IsItem) (enc:=encItem) (sz:=2) (w:=wr) (zEP D c D.length) (fun x hx=>⟨rfl,fun _=>⟨rfl,hI.out x hx⟩⟩)).sl HOWN.out isItem_at).now);have HBX9:=zE (zA HB5.out HB.out);obtain ⟨aq,cq,rfl,_⟩:=zD hsl.out;clear HOWN;go_wp2;refine bodyPost_ret (v:=.tuple #[.slice aq (zEP D c D.length).length cq,.int .i64 0]) (by simp [results,results31,go_sem]) rfl ?_;exact ⟨_,rfl,by rw [hPL.out];exact hsl.out,HBX9.out⟩
end
end Go.Proofs.YtipaopbmklbmnaaGreatDoor
