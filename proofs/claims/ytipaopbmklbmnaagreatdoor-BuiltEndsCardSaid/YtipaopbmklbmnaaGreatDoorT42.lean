/- Lemmas. -/
import Derived.Test.YtipaopbmklbmnaaGreatDoorT41
set_option linter.all false
set_option maxRecDepth 100000
set_option maxHeartbeats 0
namespace Go.Proofs.YtipaopbmklbmnaaGreatDoor
section
open Tryz
open Go.RowKit Go.Shelf
theorem infoPair:(prog.info? 241).map (fun i=>(i.zero,i.size,i.bytes))=some (some (.agg #[.int .i64 0,.int .i64 0]),2,16):=by kernel_rfl
theorem cell_no_map {w:World} {b o:Nat} {v:Value} {n:Nat} (h:zK w b o v) (hm:MapP w b n) : False:=by
 obtain ⟨D,⟨es,ck,hb,_⟩,_⟩:=hm;unfold zK World.cell? at h;simp [hb] at h
theorem zKK {w w':World} {b o g n:Nat} {v:Value} (h:zK w b o v) (hm:MapP w g n) (hg:w.grownBy w' (some g)) : zK w' b o v :=
 zNL hg (fun e=>cell_no_map (e ▸ h) hm) h
theorem row_lay {w:World} {base b sz n:Nat} {e t:TypeId} {v:Value} {cs:List Value} {ds:Array Value} (hown:w.ownsRow base e sz v n cs) (hl:Lay w b ds t) (hne:t≠e) : some b≠v.ownBlock:=fun h=>by
 rcases hown.2 with ⟨rfl,_⟩ | ⟨g,cap,cur,rfl,_,hc,_⟩
 ·cases h
 ·cases h;have:Lay w g ds t:=hl;unfold Lay at this;rw [hc] at this;cases this;exact hne rfl
structure ClO (w w2 wq:World) (k f s u mb i mp pf:Nat) (vs:Value) (m:Int) (S:List Int) (N:List Note) (n c:Nat) : Prop where
 map:MapP wq w.heap.size n
 bel:Below w.heap.size w wq
 gr:w2.grownBy wq (some w.heap.size)
 fb:FBox wq k f s u mb i mp pf vs m
 mem:Mem wq mp c S m N
 hmp:w2.heap.size<=mp/\w.heap.size < w2.heap.size
theorem ClO.call {w w2 wq w':World} {k f s u mb i mp pf:Nat} {vs:Value} {m:Int} {S:List Int} {N:List Note} {n c c':Nat} (h:ClO w w2 wq k f s u mb i mp pf vs m S N n c) (hb:Below w.heap.size w w') (hg:wq.grownBy w' (some mp)) (hm:Mem w' mp c' S m N) : ClO w w2 w' k f s u mb i mp pf vs m S N n c' :=
 ⟨h.map.same (hg.block _ h.map.lt (fun e=>by cases e;have:=h.hmp;omega)),hb,zOW h.gr hg (fun r e=>by cases e;exact h.hmp.1),h.fb.grown hg,hm,h.hmp⟩
theorem ClO.put {w w2 wq w':World} {k f s u mb i mp pf:Nat} {vs:Value} {m:Int} {S:List Int} {N:List Note} {n c:Nat} (h:ClO w w2 wq k f s u mb i mp pf vs m S N n c) (hg:wq.grownBy w' (some w.heap.size)) (hm:MapP w' w.heap.size (n+1)) : ClO w w2 w' k f s u mb i mp pf vs m S N (n+1) c :=
 ⟨hm,h.bel.grown hg h.bel.size (fun r e=>by cases e;exact Nat.le_refl _),zAG h.gr hg,
  ⟨zKK h.fb.ck h.map hg,zKK h.fb.cf h.map hg,zKK h.fb.cs h.map hg,zKK h.fb.cu h.map hg,zKK h.fb.cm h.map hg,zKK h.fb.ci h.map hg,h.fb.ne⟩,h.mem.kept hg (fun e=>by cases e;have:=h.hmp;omega),h.hmp⟩
structure ClP (w wq:World) (v:Value) (n:Nat) : Prop where
 map:∃ c,MapP wq w.heap.size c
 bel:Below w.heap.size w wq
 row:∃ cs,wq.ownsRow (w.heap.size+1) 241 2 v n cs
theorem ClP.grow {w wq w':World} {v:Value} {n:Nat} (h:ClP w wq v n) (hb:Below wq.heap.size wq w') : ClP w w' v n:=by
 obtain ⟨⟨c,hm⟩,hbe,cs,hr⟩:=h;exact ⟨⟨c,hm.ext hb⟩,zA hbe hb,cs,zAC hb hr⟩
theorem ClP.app {w wq w':World} {v v':Value} {n n':Nat} {cs cs':List Value} (h:ClP w wq v n) (hrow:wq.ownsRow (w.heap.size+1) 241 2 v n cs) (hg:wq.grownBy w' v.ownBlock) (ho:w'.ownsRow (w.heap.size+1) 241 2 v' n' cs') : ClP w w' v' n':=by
 have hr:∀ r,v.ownBlock=some r->w.heap.size+1<=r:=fun r e=>(hrow.lt r e).1
 obtain ⟨⟨c,hm⟩,hb,_⟩:=h;exact ⟨⟨c,hm.same (hg.block _ hm.lt (fun e=>by have:=hr _ e.symm;omega))⟩,hb.grown hg hb.size (fun r e=>by have:=hr r e;omega),_,ho⟩
theorem clash_note (w:World) (pf:Nat) (vr vn vs:Value) (R:List Issue) (N:List Note) (S:List Int) (hF:FileAt w pf vr vn R N) (hN:Sl zBL 10 w vn N) (hS:Sl zAM 1 w vs S) (h12:N.length<=12) (hto:∀ x∈N,I64 x.fr/\0<=x.to/\x.to<=999) :
  Calls prog 110 #[.pointer (some ⟨pf,0,none⟩),vs,.slice none 0 0] w fun e w'=>(∃ u,e = .returned u)/\Below w.heap.size w w':=by
 obtain ⟨ip,hip,pz0,pz1,pz2⟩:=info_parts infoPair;obtain ⟨vd,vo,O,hL,_,_,_⟩:=hF.is;obtain ⟨an,capn,rfl,hmn⟩:=zD hN;obtain ⟨az,capz,rfl,hmz⟩:=zD hS;have hmm:=@run_makeMap prog;have hbig:(100000:Nat) < maxLen:=by decide
 have hb1:=zB w (.map #[] 0);have HM1:=zE (mapP_made w);have HF1:=zE (hF.ext hb1);have HN1:=zE (zJ zAN hb1 hN);have HF:=zE hF;have HL:=zE hL;have HN:=zE hN;have HS:=zE hS;have eg:=zJR;unfold Enters at eg;clear hF hL hN hS;go_enter func110,ntmps110;go_wp2_with fail;have hz1:w.heap.size < (w.alloc (.map #[] 0)).heap.size:=by simp
 generalize w.alloc (.map #[] 0)=w1 at *;refine (marks_note w1 pf vr _ R N HF1.out HN1.out h12 hto).mono ?_;rintro e w2 ⟨u,L,rfl,hu,hL25,hb2⟩;have HM2:=zE (HM1.out.ext hb2);have HB2:=zE (zA hb1 hb2);have hz2:w.heap.size < w2.heap.size:=by have:=hb2.size;omega
 obtain ⟨au,cu,rfl,_⟩:=zD hu;have HU:=zE hu;clear hb1 HM1 HF1 HN1 hu hb2 hz1;go_wp2;go_loopw [22] (fun q wr=>∃ j n:Nat,q = .int .i64 j/\j<=L.length/\n<=j*144/\Hid (MapP wr w.heap.size n/\Below w.heap.size w wr/\w2.grownBy wr (some w.heap.size))) (fun q _=>L.length - (intOf q).toNat)
 case atStart=>exact ⟨0,0,rfl,by omega,by omega,zE ⟨HM2.out,HB2.out,zBH _ _ _ rfl rfl rfl rfl⟩⟩
 case round =>
  clear HB2;obtain ⟨j,n,rfl,hj,hn,HH⟩:=hrel;by_cases hlt:j < L.length
  case pos =>
   obtain ⟨bu,ou,rfl,hc,hm64⟩:=(zY HU.out).2 j hlt;have hc:zK wr bu (ou+j*1) (.int .i64 L[j]):=zNL HH.out.2.2 (fun e=>cell_no_map (e ▸ hc) HM2.out) hc;generalize L[j]=m at *;rw [Nat.mul_one] at hc;unfold zK at hc;go_wp2_with fail;clear hc;refine (zPO wr pf _ az S.length capz rfl S m N).mono ?_;rintro e w3 ⟨k,f,s,u,mb,i,mp,rfl,hmp,hbx,hmem,hb3⟩;have HC:Hid (ClO w w2 w3 k f s u mb i mp pf (.slice az S.length capz) m S N n 0):=⟨HH.out.1.ext hb3,zA HH.out.2.1 hb3,zAG HH.out.2.2 (zAV hb3),hbx,hmem,by have:=HH.out.2.2.size;omega,hz2⟩;have c1:=(HL.out.ext HC.out.bel).cell 1 _ rfl;clear hmp hbx hmem hb3 HH;go_wp2;clear c1;generalize wr=wo at *;go_loopw [37] (fun q wr=>∃ i' n' c:Nat,q = .int .i64 i'/\i'<=N.length/\n'<=n+i'*12/\c<=i'*98304/\Hid (ClO w w2 wr k f s u mb i mp pf (.slice az S.length capz) m S N n' c)) (fun q _=>N.length - (intOf q).toNat)
   case atStart=>exact ⟨0,n,0,rfl,by omega,by omega,by omega,HC⟩
   case round =>
    clear HC;obtain ⟨i',n',c',rfl,hi,hn',hc',HC⟩:=hrel;by_cases hil:i' < N.length
    case pos =>
     go_wp2;generalize wr=wi at *;go_loopw [41] (fun q wr=>∃ k' n2 c:Nat,q = .int .i64 k'/\k'<=i'/\n2<=n'+k'/\c<=c'+k'*8192/\Hid (ClO w w2 wr k f s u mb i mp pf (.slice az S.length capz) m S N n2 c)) (fun q _=>i' - (intOf q).toNat)
     case atStart=>exact ⟨0,n',c',rfl,by omega,by omega,by omega,HC⟩
     case round =>
      clear HC;obtain ⟨k',n2,c2,rfl,hk,hn2,hc2,HC⟩:=hrel;by_cases hkl:k' < i'
      case pos =>
       have hp1:2 ^ (N.length - i')<=4096:=Nat.le_trans (Nat.pow_le_pow_right (by omega) (show N.length - i'<=12 by omega)) (by decide);have hp2:2 ^ (N.length - k')<=4096:=Nat.le_trans (Nat.pow_le_pow_right (by omega) (show N.length - k'<=12 by omega)) (by decide);have HC1:=zE (zLK w k f s u mb i mp pf vr _ _ R N S m HF.out HN.out HS.out h12 (by have:=HC.out.hmp;omega) hm64 (N.length - i') i' c2 wr (Nat.le_refl _) hil HC.out.bel HC.out.fb HC.out.mem (by omega));have hkN:k' < N.length:=by omega
       go_wp2_with fail;go_at_fn 158
       refine HC1.out.mono ?_;rintro e w4 ⟨rfl,hb4,hg4,c3,hc3,hm4⟩;have HC4:=zE (HC.out.call hb4 hg4 hm4);clear hb4 hg4 hm4 HC1 HC;generalize fAt S m N i'=z1 at *;cases z1 with
       | false =>
         go_wp2;go_roundw
         ·exact ⟨k'+1,n2,c3,by go_num,by omega,by omega,by omega,HC4⟩
         ·simp [intOf];omega
       | true =>
         have HC2:=zE (zLK w k f s u mb i mp pf vr _ _ R N S m HF.out HN.out HS.out h12 (by have:=HC4.out.hmp;omega) hm64 (N.length - k') k' c3 w4 (Nat.le_refl _) hkN HC4.out.bel HC4.out.fb HC4.out.mem (by omega));go_wp2_with fail;go_at_fn 158
         refine HC2.out.mono ?_;rintro e w5 ⟨rfl,hb5,hg5,c4,hc4,hm5⟩;have HC5:=zE (HC4.out.call hb5 hg5 hm5);clear hb5 hg5 hm5 HC2 HC4;generalize fAt S m N k'=z2 at *;cases z2 with
         | false =>
           go_wp2;go_roundw
           ·exact ⟨k'+1,n2,c4,by go_num,by omega,by omega,by omega,HC5⟩
           ·simp [intOf];omega
         | true =>
           obtain ⟨w6,hr,hM,hg⟩:=mapP_put HC5.out.map (d:=(k':Int)) (l:=(i':Int)) ⟨by omega,by omega⟩ ⟨by omega,by omega⟩ true (by omega);have HC6:=zE (HC5.out.put hg hM);clear hg hM HC5;go_wp2;go_roundw
           ·exact ⟨k'+1,n2+1,c4,by go_num,by omega,by omega,by omega,HC6⟩
           ·simp [intOf];omega
      case neg =>
       go_wp2;go_roundw
       ·exact ⟨i'+1,n2,c2,by go_num,by omega,by omega,by omega,HC⟩
       ·simp [intOf];omega
    case neg =>
     go_wp2;go_roundw
     ·exact ⟨j+1,n',by go_num,by omega,by omega,zE ⟨HC.out.map,HC.out.bel,HC.out.gr⟩⟩
     ·simp [intOf];omega
  case neg =>
   have c1:=(HL.out.ext HH.out.2.1).cell 1 _ rfl;have HP:Hid (ClP w wr (.slice none 0 0) 0):=⟨⟨_,HH.out.1⟩,HH.out.2.1,[],World.ownsRow_nil _ _ _ _⟩;clear HH HU;go_wp2;clear c1;generalize wr=wo at *;go_loopw [13,65] (fun o q wr=>∃ i n:Nat,q = .int .i64 i/\i<=N.length/\n<=i*12/\Hid (ClP w wr o n)) (fun _ q _=>N.length - (intOf q).toNat)
   case atStart=>exact ⟨0,0,rfl,by omega,by omega,HP⟩
   case round =>
    clear HP;obtain ⟨i,n,rfl,hi,hn,HP⟩:=hrel;by_cases hil:i < N.length
    case pos =>
     obtain ⟨b,off,rfl,⟨q0,q1,q2,q3,q4,q5,q6,q7,q8,q9⟩,hx64⟩:=zHS HN.out HP.out.bel i hil;generalize N[i]=x at *;have hba:=zB wr (.cells #[.int .i64 x.num,.int .i64 x.day,.int .u8 x.sg,.int .i64 x.d,.int .i64 x.l,.int .i64 x.fr,.int .i64 x.to,.int .i64 x.ca,.bool x.use,.int .u8 x.ways] 74);have LX:=zE (Lay.new wr 74 #[.int .i64 x.num,.int .i64 x.day,.int .u8 x.sg,.int .i64 x.d,.int .i64 x.l,.int .i64 x.fr,.int .i64 x.to,.int .i64 x.ca,.bool x.use,.int .u8 x.ways]);have HPA:=zE (HP.out.grow hba);have c1:=(HL.out.ext HPA.out.bel).cell 1 _ rfl;unfold zK at q0 q1 q2 q3 q4 q5 q6 q7 q8 q9;clear hba;go_wp2;clear q0 q1 q2 q3 q4 q5 q6 q7 q8 q9 c1;generalize hg:wr.heap.size=bx at *;generalize wr.alloc _=wa at *;clear hg;go_loopw [13,76] (fun o q wr=>∃ k n':Nat,q = .int .i64 k/\k<=N.length/\n'<=n+k/\Hid (ClP w wr o n'/\Lay wr bx #[.int .i64 x.num,.int .i64 x.day,.int .u8 x.sg,.int .i64 x.d,.int .i64 x.l,.int .i64 x.fr,.int .i64 x.to,.int .i64 x.ca,.bool x.use,.int .u8 x.ways] 74)) (fun _ q _=>N.length - (intOf q).toNat)
     case atStart=>exact ⟨0,n,rfl,by omega,by omega,zE ⟨HPA.out,LX.out⟩⟩
     case round =>
      clear HPA LX;obtain ⟨k,n',rfl,hk,hn',HQ⟩:=hrel;by_cases hkl:k < N.length
      case pos =>
       obtain ⟨b',off',hh,⟨q0,q1,q2,q3,q4,q5,q6,q7,q8,q9⟩,hy64⟩:=zHS HN.out HQ.out.1.bel k hkl;cases hh;generalize N[k]=y at *;have hba:=zB wr (.cells #[.int .i64 y.num,.int .i64 y.day,.int .u8 y.sg,.int .i64 y.d,.int .i64 y.l,.int .i64 y.fr,.int .i64 y.to,.int .i64 y.ca,.bool y.use,.int .u8 y.ways] 74);have LY:=Lay.new wr 74 #[.int .i64 y.num,.int .i64 y.day,.int .u8 y.sg,.int .i64 y.d,.int .i64 y.l,.int .i64 y.fr,.int .i64 y.to,.int .i64 y.ca,.bool y.use,.int .u8 y.ways];have LX:=HQ.out.2.ext hba;have HPA:=zE (HQ.out.1.grow hba);have HLX:=zE LX;obtain ⟨cm,hcm⟩:=HPA.out.map;obtain ⟨c,hlook⟩:=mapP_look hcm (d:=(i:Int)) (l:=(k:Int)) ⟨by omega,by omega⟩ ⟨by omega,by omega⟩;unfold zK at q0 q1 q2 q3 q4 q5 q6 q7 q8 q9;have x0:=LX.cell 0 _ rfl;have x3:=LX.cell 3 _ rfl;have x4:=LX.cell 4 _ rfl;have y0:=LY.cell 0 _ rfl;have y3:=LY.cell 3 _ rfl;have y4:=LY.cell 4 _ rfl;clear hba LX LY hcm HQ;by_cases hall:c=true/\x.d≠0/\x.d=y.d/\y.l < x.l
       case pos =>
        obtain ⟨rfl,h1,h2,h3⟩:=hall;have g1:(x.d != 0)=true:=by simpa using h1
        have g2:(x.d == y.d)=true:=by simpa using h2
        obtain ⟨cs,hrow⟩:=HPA.out.row;have HROW:=zE hrow;have hbn:=zB (wr.alloc (.cells #[.int .i64 y.num,.int .i64 y.day,.int .u8 y.sg,.int .i64 y.d,.int .i64 y.l,.int .i64 y.fr,.int .i64 y.to,.int .i64 y.ca,.bool y.use,.int .u8 y.ways] 74)) (.cells #[.int .i64 x.num,.int .i64 y.num] 241);have HRB:=zE (zAC hbn hrow);have HPB:=zE (HPA.out.grow hbn);have HXB:=zE (HLX.out.ext hbn);have hsz:=HPB.out.bel.size;have HCN:=zE (cell_two_new (wr.alloc (.cells #[.int .i64 y.num,.int .i64 y.day,.int .u8 y.sg,.int .i64 y.d,.int .i64 y.l,.int .i64 y.fr,.int .i64 y.to,.int .i64 y.ca,.bool y.use,.int .u8 y.ways] 74)) (.int .i64 x.num) (.int .i64 y.num) 241);rw [World.size_alloc] at HCN;have HZ:=zE (HPB.out.map.elim fun _ h=>h.lt);clear h1 h2 hrow hbn;go_wp2_with (at_builtin;refine wpList_append_own _ rfl _ _ 130 rfl (w.heap.size+1) 241 ip (.agg #[.int .i64 0,.int .i64 0]) 2 16 underlying130 hip pz0 pz1 pz2 rfl (by decide) _ _ _ rfl HRB.out ⟨wr.heap.size+1,0,none⟩ 1 1 [.int .i64 x.num,.int .i64 y.num] rfl rfl HCN.out (by simp [Value.oneCell']) (by omega) (by omega) HZ.out ?_;intro v' w4 hown' hgrow _);have HE:Hid (ClP w w4 v' (n'+1)/\Lay w4 bx #[.int .i64 x.num,.int .i64 x.day,.int .u8 x.sg,.int .i64 x.d,.int .i64 x.l,.int .i64 x.fr,.int .i64 x.to,.int .i64 x.ca,.bool x.use,.int .u8 x.ways] 74) :=
         ⟨HPB.out.app HRB.out hgrow hown',HXB.out.kept hgrow (row_lay HRB.out HXB.out (by decide))⟩
        clear hown' hgrow HRB HPB HXB HPA HLX HROW HCN HZ;go_wp2;go_roundw
        ·exact ⟨k+1,n'+1,by go_num,by omega,by omega,HE⟩
        ·simp [intOf];omega
       case neg =>
        cases c with
        | false =>
          clear hall;go_wp2;go_roundw
          ·exact ⟨k+1,n',by go_num,by omega,by omega,zE ⟨HPA.out,HLX.out⟩⟩
          ·simp [intOf];omega
        | true =>
          by_cases h1:x.d=0
          ·have g1:(x.d != 0)=false:=by simpa using h1
           clear h1 hall;go_wp2;go_roundw
           ·exact ⟨k+1,n',by go_num,by omega,by omega,zE ⟨HPA.out,HLX.out⟩⟩
           ·simp [intOf];omega
          ·have g1:(x.d != 0)=true:=by simpa using h1
           by_cases h2:x.d=y.d
           ·have g2:(x.d == y.d)=true:=by simpa using h2
            have h3:¬ (y.l < x.l):=fun h3=>hall ⟨rfl,h1,h2,h3⟩
            clear h1 h2 hall;go_wp2;go_roundw
            ·exact ⟨k+1,n',by go_num,by omega,by omega,zE ⟨HPA.out,HLX.out⟩⟩
            ·simp [intOf];omega
           ·have g2:(x.d == y.d)=false:=by simpa using h2
            clear h1 h2 hall;go_wp2;go_roundw
            ·exact ⟨k+1,n',by go_num,by omega,by omega,zE ⟨HPA.out,HLX.out⟩⟩
            ·simp [intOf];omega
      case neg =>
       go_wp2;go_roundw
       ·exact ⟨i+1,n',by go_num,by omega,by omega,zE HQ.out.1⟩
       ·simp [intOf];omega
    case neg =>go_wp2;go_ret;exact ⟨⟨_,rfl⟩,HP.out.bel⟩
end
end Go.Proofs.YtipaopbmklbmnaaGreatDoor
