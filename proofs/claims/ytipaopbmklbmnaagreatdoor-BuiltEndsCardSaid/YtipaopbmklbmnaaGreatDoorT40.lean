/- Lemmas. -/
import Derived.Deep.Slices
import Derived.Test.YtipaopbmklbmnaaGreatDoorT39
set_option linter.all false
set_option maxRecDepth 100000
set_option maxHeartbeats 0
namespace Go.Proofs.YtipaopbmklbmnaaGreatDoor
section
open Tryz
open Go.RowKit
def goC (H:Report->Has) (B:Report->Int) (L:List Span) : List Report->Option (List Span)
 | []=>some L
 | r :: rs=>if 0<=(H r).h then (if (zPY (L.getD (H r).h.toNat zCK) (zHT H B r)).lo<=(zPY (L.getD (H r).h.toNat zCK) (zHT H B r)).hi then goC H B (L.set (H r).h.toNat (zPY (L.getD (H r).h.toNat zCK) (zHT H B r))) rs else none)
   else if (zHT H B r).lo=1/\(zHT H B r).hi=0 then none else goC H B L rs
theorem goC_eq (H:Report->Has) (B:Report->Int) (rs:List Report) (L:List Span) : zJG H B L rs=goC H B L rs:=by
 induction rs generalizing L with
 | nil=>rfl
 | cons r rs ih =>
   have e:zHT H B r=zCK↔(zHT H B r).lo=1/\(zHT H B r).hi=0:=by generalize zHT H B r=s;obtain ⟨a,c⟩:=s;simp [zCK]
   simp only [zJG,goC,ih,e]
def siteC (b:Built) (S:List Int) : Option (List Span):=goC (fun r=>zZ b S r.m r.d) (zKL b S) (b.hs.map fun h=>⟨h.lo,h.hi⟩) b.rs
theorem left_C {b:Built} (h:zF b=0) {S:List Int} : zCV b S↔(siteC b S).isSome=true:=by
 have e:zJO b S=siteC b S:=goC_eq _ _ _ _;rw [<- e];cases hs:zJO b S with
 | none=>simpa using zMR h hs
 | some L=>simpa using (zFK h hs).1
def cntC (b:Built) (S:List Int) (k:Nat) : Span:=((siteC b S).getD []).getD k ⟨0,0⟩
theorem cnt_C {b:Built} (h:zF b=0) {S:List Int} (hL:zCV b S) {k:Nat} (hk:k < b.hs.length) : zLY b S k=cntC b S k:=by
 have e:zJO b S=siteC b S:=goC_eq _ _ _ _;unfold zLY cntC;rw [<- e];cases hs:zJO b S with
 | none=>exact absurd hL (zMR h hs)
 | some L =>
   obtain ⟨_,h1,h2⟩:=zFK h hs;have hk':k < L.length:=by omega
   rw [(h2 k hk').1];simp [hk']
def endsC (b:Built) (m d l:Int) (S:List Int) : List Int :=
 let x:=zZ b S m d;let s:=if x.h < 0 then (⟨0,0⟩ : Span) else cntC b S x.h.toNat
 let o:=fun n:Int=>if x.h < 0 then 0 else oldC (zCX b S x.h.toNat (b.ms.idxOf m)) x.c n
 [zGH x l (o s.lo),zGH x l (o s.hi)]
theorem ends_C {b:Built} (h:zF b=0) {S:List Int} (hL:zCV b S) (m d l:Int) : zOP b S m d l=endsC b m d l S:=by
 unfold zOP endsC;by_cases e:(zZ b S m d).h < 0
 ·simp only [e,if_true]
 ·have hk:(zZ b S m d).h.toNat < b.hs.length:=by have:=(zIY b S m d).2;omega
  have:=cnt_C h hL hk;unfold zLY at this;simp only [e,if_false,this]
def leftC (b:Built) (T:List (List Int)) : List (List Int):=T.filter (fun S=>(siteC b S).isSome)
def AllT (b:Built) (T:List (List Int)) : Prop:=Ord T/\∀ l,l∈T↔IsT (zBO b.ns.notes) l
theorem zPG {b:Built} (h:zF b=0) {T:List (List Int)} (hT:AllT b T) : zAQ b=leftC b T :=
 leftL_is ⟨hT.1.filter _,fun l=>by rw [leftC,List.mem_filter,hT.2,left_C h]⟩
theorem mem_C {b:Built} (h:zF b=0) {T:List (List Int)} {S:List Int} (hS:S∈leftC b T) : zCV b S:=(left_C h).2 (List.mem_filter.1 hS).2
theorem zPA {α β:Type} {l:List α} {f g:α->List β} (h:∀ x∈l,f x=g x) : l.flatMap f=l.flatMap g:=by
 induction l with
 | nil=>rfl
 | cons x t ih=>rw [List.flatMap_cons,List.flatMap_cons,h x (List.mem_cons_self ..),ih fun y hy=>h y (List.mem_cons_of_mem _ hy)]
theorem pieces_C {b:Built} (h:zF b=0) {T:List (List Int)} (hT:AllT b T) (m d l:Int) : zAU b (zAQ b) m d l=zBI ((leftC b T).flatMap (endsC b m d l)):=by
 rw [zPG h hT];unfold zAU;rw [zPA fun S hS=>ends_C h (mem_C h hS) m d l]
theorem until_C {b:Built} (h:zF b=0) {T:List (List Int)} (hT:AllT b T) {k:Nat} (hk:k < b.hs.length) :
  uTo b (zAQ b) k (zAQ b).length=zBI ((leftC b T).flatMap fun S=>[zEL b S k (cntC b S k).lo,zEL b S k (cntC b S k).hi]):=by
 unfold uTo;rw [List.take_length,zPG h hT,zPA fun S hS=>by rw [cnt_C h (mem_C h hS) hk]]
def partC (R:List Issue) (d l:Int) : Bool:=(zCQ R d l).any (fun x=>decide (1 < x.k))
theorem part_C (R:List Issue) (d l:Int) : zFO R d l↔partC R d l=true:=by
 unfold zFO partC;cases zCQ R d l <;> simp
def partsC (b:Built) (T:List (List Int)) (m:Int) : List Hold:=b.ns.reg.flatMap fun x =>
 let s:=zBI ((leftC b T).flatMap (endsC b m x.d x.l));if partC b.ns.reg x.d x.l=true/\0 < s.hi then [⟨x.d,x.l,s.lo,s.hi⟩] else []
theorem parts_C {b:Built} (h:zF b=0) {T:List (List Int)} (hT:AllT b T) {m:Int} (ha:zBK b m=0) : zBA b m=partsC b T m:=by
 unfold zBA partsC;rw [if_pos ha];refine zPA fun x _=>?_
 unfold zBQ;rw [pieces_C h hT,];simp only [part_C]
end
section
open Tryz
theorem ins_same (rs:List Report) (r:Report) (h:∀ x∈rs,x.num≠r.num) : insS rs r=insR rs r:=by
 have e:∀ x∈rs,decide (x.num<=r.num)=decide (x.num < r.num):=fun x hx=>by
  have:=h x hx;by_cases h1:x.num < r.num
  ·simp [h1];omega
  ·simp [h1];omega
 have e1:rs.takeWhile (fun x=>decide (x.num<=r.num))=rs.takeWhile (fun x=>decide (x.num < r.num))/\rs.dropWhile (fun x=>decide (x.num<=r.num))=rs.dropWhile (fun x=>decide (x.num < r.num)):=by
  clear h;induction rs with
  | nil=>exact ⟨rfl,rfl⟩
  | cons x rs ih =>have e0:=e x (by simp);have ih:=ih (fun y hy=>e y (by simp [hy]));simp only [List.takeWhile_cons,List.dropWhile_cons,e0];exact ⟨by rw [ih.1],by rw [ih.2]⟩
 unfold insS insR;rw [e1.1,e1.2]
theorem zNC (rs:List Report) (r:Report) : (insS rs r).Perm (r :: rs):=by
 unfold insS;refine List.perm_middle.trans ?_;rw [List.takeWhile_append_dropWhile]
theorem insR_perm (rs:List Report) (r:Report) : (insR rs r).Perm (r :: rs):=by
 unfold insR;refine List.perm_middle.trans ?_;rw [List.takeWhile_append_dropWhile]
theorem ok_rise {b:Built} (h:zCA b) : Rise b.rs:=fun i hi=>by
 have:=((h.2.2.2.2.2.2 (i+1) hi) hi).2 (by omega);simpa using this
theorem zLU {rs:List Report} (h:Rise rs) : (rs.map (·.num)).Nodup:=by
 rw [List.Nodup,List.pairwise_map,List.pairwise_iff_getElem];intro i j hi hj hij;have h1:=rise_le h (j - (i+1)) (i+1) (by omega);have h2:=h i (by omega);have e:rs[i+1+(j - (i+1))]'(by omega)=rs[j]:=by congr 1;omega
 rw [e] at h1;omega
theorem ins_ok (b:Built) (r:Report) : zCA { b with rs:=insS b.rs r } ↔ zCA (addB b r):=by
 by_cases h:∀ x∈b.rs,x.num≠r.num
 ·rw [ins_same b.rs r h];rfl
 ·have hno:∀ L:List Report,L.Perm (r :: b.rs)->¬ (L.map (·.num)).Nodup:=fun L hp hn=>by
   have:=(hp.map (·.num)).nodup_iff.1 hn;rw [List.map_cons,List.nodup_cons] at this;refine h fun x hx e=>this.1 ?_
   rw [<- e];exact List.mem_map_of_mem hx
  constructor
  ·intro hk;exact absurd (zLU (ok_rise hk)) (hno _ (zNC b.rs r))
  ·intro hk;exact absurd (zLU (ok_rise hk)) (hno _ (insR_perm b.rs r))
theorem ins_eq (b:Built) (r:Report) (h:zCA { b with rs:=insS b.rs r }) : insS b.rs r=insR b.rs r:=by
 refine ins_same b.rs r fun x hx e=>?_
 have hn:=zLU (ok_rise h);have:=((zNC b.rs r).map (·.num)).nodup_iff.1 hn;rw [List.map_cons,List.nodup_cons] at this;refine this.1 ?_;rw [<- e];exact List.mem_map_of_mem hx
end
section
open Tryz
open Go.RowKit
instance decAll {p:Prop} [Decidable p] {q:p->Prop} [∀ h,Decidable (q h)] : Decidable (∀ h,q h):=if h:p then decidable_of_iff (q h) ⟨fun a _=>a,fun a=>a h⟩ else .isTrue (fun h'=>absurd h' h)
instance (n lo hi:Int) : Decidable (In n lo hi):=inferInstanceAs (Decidable (lo<=n/\n<=hi))
instance (x:Dim) : Decidable (zOA x):=by unfold zOA;infer_instance
instance (x:Issue) : Decidable (HeadOk x):=by unfold HeadOk;infer_instance
instance (x:Issue) (k:Nat) : Decidable (zKC x k):=by unfold zKC;infer_instance
instance (x:Issue) : Decidable (zGW x):=by unfold zGW;infer_instance
instance (R:List Issue) (k:Nat) : Decidable (zHI R k):=by unfold zHI;infer_instance
instance (R:List Issue) (k:Nat) : Decidable (zLH R k):=by unfold zLH;infer_instance
instance (R:List Issue) (k:Nat) : Decidable (zIT R k):=by unfold zIT;infer_instance
instance (R:List Issue) : Decidable (zDR R):=by unfold zDR;infer_instance
instance (ms:List Int) (k:Nat) : Decidable (MsOk ms k):=by unfold MsOk;infer_instance
theorem exR_listed:zDR exR:=by decide +kernel
theorem exR_code:zX exR=0:=by
 refine zOZ exR_listed ?_ ?_
 ·rintro ⟨n,hn,h⟩
  revert n
  decide +kernel
 ·rintro ⟨n,hn,h⟩
  revert n
  decide +kernel
theorem exN_ok:zDL exR exN:=by
 refine ⟨by decide,?_,by decide⟩;intro k hk;have hk:k < 2:=hk;match k,hk with
 | 0,_=>exact show zNE exR exN 0 ⟨101,100,2,30,2,5,999,0,true,0⟩ from ⟨by unfold zNO;decide,.inr ⟨by decide,by decide +kernel⟩,fun h=>absurd h (by decide),fun k hk=>absurd hk (Nat.not_lt_zero k),.inl rfl,fun h=>absurd h (by decide)⟩
 | 1,_=>exact show zNE exR exN 1 ⟨102,200,1,10,2,8,20,0,false,0⟩ from ⟨by unfold zNO;decide,.inr ⟨by decide,by decide +kernel⟩,fun h=>absurd h (by decide),fun k hk h2=>by obtain rfl:k=0:=(by omega);exact (by decide:(101:Int)≠102),.inl rfl,fun _ _=>.inl (by decide:(100:Int) < 200)⟩
theorem exN_code:zP exR exN=0:=by unfold zP;rw [if_neg (by simp [exR_code]),if_pos exN_ok]
theorem zOM {rs:List Report} (h10:rs.length<=10) (hs:rs.Pairwise (fun x y=>x.num < y.num)) (h:∀ r∈rs,r=zJD\/r=rep2\/r=zQY\/r=rep4) : zF (exB rs)=0:=by
 have hp:∀ r,r=zJD\/r=rep2\/r=zQY\/r=rep4->zCE exR [4,6,9] r:=by rintro r (rfl | rfl | rfl | rfl) <;> exact ⟨by decide,by decide,by decide,(part_C _ _ _).2 (by decide +kernel)⟩
 have hB:zCA (exB rs):=by
  refine ⟨(by decide +kernel:zKG exR 10≠0),(by decide:([4,6,9] : List Int).length<=12),(by decide:([⟨30,1,5,9⟩] : List Heap).length<=4),h10,?_,?_,?_⟩
  ·show ∀ k,k < 3->MsOk [4,6,9] k
   decide +kernel
  ·intro k hk hk'
   obtain rfl:k=0:=by have:k < 1:=hk;omega
   exact show zFO exR 30 1/\(1:Int) < zKG exR 30/\In 5 0 200/\In 9 5 200/\_ from ⟨(part_C _ _ _).2 (by decide +kernel),by decide +kernel,by decide,by decide,fun k hk=>absurd hk (Nat.not_lt_zero k)⟩
  ·intro k hk hk';have hk2:k < rs.length:=hk';refine ⟨hp _ (h _ (List.getElem_mem hk2)),fun h0=>?_⟩;exact (List.pairwise_iff_getElem.1 hs) (k - 1) k (by omega) hk2 (by omega)
 unfold zF;rw [if_neg (by simp [exB,exN_code]),if_pos hB]
def exT:List (List Int):=[[],[102]]
theorem ex_T (rs:List Report) : AllT (exB rs) exT:=by
 refine ⟨by unfold Ord exT;decide,fun l=>?_⟩;have e:zBO (exB rs).ns.notes=[102]:=by rfl
 rw [e];constructor
 ·intro h
  have h:l=[]\/l=[102]:=by simpa [exT] using h
  rcases h with rfl | rfl
  ·exact ⟨.nil,fun x hx=>by simp at hx⟩
  ·exact ⟨List.pairwise_singleton _ _,fun x hx=>hx⟩
 ·rintro ⟨h1,h2⟩
  match l,h1,h2 with
  | [],_,_=>simp [exT]
  | [a],_,h2=>have:=h2 a (by simp);simp at this;subst this;simp [exT]
  | a :: c :: t,h1,h2 =>have ha:=h2 a (by simp);have hc:=h2 c (by simp);simp at ha hc;have:=(List.pairwise_cons.1 h1).1 c (by simp);omega
theorem ex0:zF (exB [])=0:=zOM (by decide) .nil (by simp)
theorem ex1:zF (exB [zJD])=0:=zOM (by decide) (by decide) (by simp)
theorem ex3:zF (exB [zQY])=0:=zOM (by decide) (by decide) (by simp)
theorem ex4:zF (exB [rep4])=0:=zOM (by decide) (by decide) (by simp)
theorem ex12:zF (exB [zJD,rep2])=0:=zOM (by decide) (by decide) (by simp)
theorem ex13:zF (exB [zJD,zQY])=0:=zOM (by decide) (by decide) (by simp)
theorem zRF:zAQ (exB [])=[[],[102]]:=by rw [zPG ex0 (ex_T _)];decide +kernel
theorem ex1_left:zAQ (exB [zJD])=[[102]]:=by rw [zPG ex1 (ex_T _)];decide +kernel
theorem ex4_left:zAQ (exB [rep4])=[]:=by rw [zPG ex4 (ex_T _)];decide +kernel
theorem ex13_left:zAQ (exB [zJD,zQY])=[]:=by rw [zPG ex13 (ex_T _)];decide +kernel
theorem ex_ask {rs:List Report} (h:zF (exB rs)=0) (hl:zAQ (exB rs)≠[]) {m:Int} (hm:m∈[4,6,9]) : zBK (exB rs) m=0:=by
 unfold zBK;rw [if_neg (by simp [h]),if_neg (fun h=>h hm),if_neg hl]
theorem ex_counts:zJY (exB [zJD,rep2]) [102] 0=0/\zQQ (exB [zJD,rep2]) [102] 0=⟨7,9⟩:=by
 have hL:zCV (exB [zJD,rep2]) [102]:=(left_C ex12).2 (by decide +kernel);obtain ⟨h1,h2⟩:=tell_ok (k:=0) ex12 (((ex_T _).2 _).1 (by decide)) (by decide) hL;refine ⟨h1,h2.trans ?_⟩;have:=cnt_C ex12 hL (k:=0) (by decide);unfold zLY at this;rw [this];rfl
theorem zNK {rs:List Report} (h:zF (exB rs)=0) (hl:zAQ (exB rs)≠[]) {m d l:Int} (hm:m∈[4,6,9]) (hp:partC exR d l=true) {s:Span} (hs:zBI ((leftC (exB rs) exT).flatMap (endsC (exB rs) m d l))=s) :
  zAS (exB rs) m d l=0/\zBE (exB rs) m d l=s:=by
 have ha:=ex_ask h hl hm;have hP:zFO (exB rs).ns.reg d l:=(part_C _ _ _).2 hp;exact ⟨(zNA m hP).trans ha,by rw [zRH ha hP,pieces_C h (ex_T _),hs]⟩
theorem zII:(zAS (exB []) 4 30 1=0/\zBE (exB []) 4 30 1=⟨7,7⟩)/\(zAS (exB []) 6 30 1=0/\zBE (exB []) 6 30 1=⟨5,7⟩)/\(zAS (exB []) 9 30 1=0/\zBE (exB []) 9 30 1=⟨0,2⟩) /\
  (zAS (exB []) 9 40 1=0/\zBE (exB []) 9 40 1=⟨0,2⟩)/\(zAS (exB [zJD]) 9 50 1=0/\zBE (exB [zJD]) 9 50 1=⟨1,1⟩):=by
 have h0:zAQ (exB [])≠[]:=by rw [zRF];simp
 have h1:zAQ (exB [zJD])≠[]:=by rw [ex1_left];simp
 exact ⟨zNK ex0 h0 (by decide) (by decide +kernel) rfl,zNK ex0 h0 (by decide) (by decide +kernel) rfl,zNK ex0 h0 (by decide) (by decide +kernel) rfl,zNK ex0 h0 (by decide) (by decide +kernel) rfl,zNK ex1 h1 (by decide) (by decide +kernel) rfl⟩
theorem ex_parts:zBK (exB []) 9=0/\zBA (exB []) 9=[⟨30,1,0,2⟩,⟨30,2,3,7⟩,⟨40,1,0,2⟩,⟨50,1,1,2⟩]:=by
 have ha:=ex_ask (m:=9) ex0 (by rw [zRF];simp) (by decide);refine ⟨ha,?_⟩;rw [parts_C ex0 (ex_T _) ha];rfl
theorem ex_until:untC (exB []) 0=0/\untS (exB []) 0=⟨6,9⟩:=by
 obtain ⟨h1,h2⟩:=unt_ok (k:=0) ex0 (by decide) (by rw [zRF];simp);refine ⟨h1,h2.trans ?_⟩;rw [until_C ex0 (ex_T _) (by decide)];rfl
theorem ex_settled:setC (exB [zJD])=0/\setL (exB [zJD])=[2]:=by
 obtain ⟨h1,h2⟩:=set_ok ex1 (by rw [ex1_left];simp);refine ⟨h1,h2.trans ?_⟩;rw [ex1_left];rfl
theorem ex_clash:claL (exB [rep4])=[4]:=by
 have h:Lone (exB [rep4]) rep4:=by have e:(exB [rep4]).one rep4=exB [rep4]:=rfl;rw [<- one_any ex4 (by simp [exB]),e,ex4_left]
 unfold claL;rw [if_pos ex4];have:zLC (exB [rep4]) 1=zLC (exB [rep4]) 0++[4]:=claTo_yes (k:=0) (by decide) h;exact this
theorem ex_withdraw:wdL (exB [zJD,zQY])=[1]:=by
 refine wdL_is ex13 ⟨⟨⟨List.pairwise_singleton _ _,fun x hx=>by simp at hx;subst hx;decide⟩,[],((ex_T _).2 _).1 (by decide),(left_C (but_ok ex13 _)).2 (by decide +kernel)⟩,?_⟩;intro l' ⟨hT,hF⟩;have h0:l'≠[]:=by rintro rfl;rw [but_nil] at hF;exact ((left_any ex13).2 hF) ex13_left
 have hr:zGX (exB [zJD,zQY])=[1,3]:=rfl;rw [hr] at hT;unfold LeL zFV;cases l' with
 | nil=>exact absurd rfl h0
 | cons a t =>
   have ha:=hT.2 a (by simp);cases t with
   | nil =>
     have ha:a=1\/a=3:=by simpa using ha
     rcases ha with rfl | rfl <;> decide
   | cons c u=>simp [List.length_cons]
theorem ex_add:zFZ (exB [zQY]) zJD=0/\addB (exB [zQY]) zJD=exB [zJD,zQY]:=by
 have e:addB (exB [zQY]) zJD=exB [zJD,zQY]:=rfl;exact ⟨addCode_ok ex3 (by decide) (by rw [e];exact (zS ex13).2),e⟩
end
section
open Tryz
open Go.RowKit Go.ChangeShapes Go.WideShapes
section
variable {H:Type} {enc:TypeId×Value->H} {w:World} {sp:Nat->Bool} {hd:Bool}
theorem zOY {cs:List Value} {o k j:Nat} {v:Value} (h:((cs.drop o).take k)[j]? = some v) : cs[o+j]? = some v:=by
 rw [List.getElem?_take] at h;split at h
 ·rw [List.getElem?_drop] at h;exact h
 ·cases h
theorem zIP {cs:List Value} {o:Nat} {v:Value} (h:(cs.drop o).take 1=[v]) : cs[o]? = some v:=by
 have:((cs.drop o).take 1)[0]? = some v:=by rw [h];rfl
 exact zOY this
theorem cells_i:prog.cellsOf 3=1:=by kernel_rfl
theorem cells_u:prog.cellsOf 5=1:=by kernel_rfl
theorem cells_b:prog.cellsOf 4=1:=by kernel_rfl
theorem zDB {n o:Nat} {cs:List Value} {y:DataW H×List MemPlace} (h:DataW.trod enc prog w 0 sp hd n 3 ((cs.drop o).take (prog.cellsOf 3))=some y) : ∃ x,cs[o]? = some (.int .i64 x)/\I64 x:=by
 rw [cells_i] at h;obtain ⟨x,e,_,hw⟩:=DataW.trod_int underlying3 h;refine ⟨x,zIP e,?_⟩;simp [Lit.wf,IntKind.has,IntKind.min,IntKind.max,IntKind.signed,IntKind.bits] at hw;unfold I64;omega
theorem leaf_u {n o:Nat} {cs:List Value} {y:DataW H×List MemPlace} (h:DataW.trod enc prog w 0 sp hd n 5 ((cs.drop o).take (prog.cellsOf 5))=some y) : ∃ x,cs[o]? = some (.int .u8 x)/\U8 x:=by
 rw [cells_u] at h;obtain ⟨x,e,_,hw⟩:=DataW.trod_int underlying5 h;refine ⟨x,zIP e,?_⟩;simp [Lit.wf,IntKind.has,IntKind.min,IntKind.max,IntKind.signed,IntKind.bits] at hw;unfold U8;omega
theorem leaf_b {n o:Nat} {cs:List Value} {y:DataW H×List MemPlace} (h:DataW.trod enc prog w 0 sp hd n 4 ((cs.drop o).take (prog.cellsOf 4))=some y) : ∃ x,cs[o]? = some (.bool x):=by
 rw [cells_b] at h;obtain ⟨x,e,_⟩:=DataW.trod_bool underlying4 h;exact ⟨x,zIP e⟩
theorem zDS {n:Nat} {t:TypeId} {fs:Array Field} {cs:List Value} {y:DataW H×List MemPlace} (ht:prog.underlying t=some (.struct fs)) (h:DataW.trod enc prog w 0 sp hd n t cs=some y) :
  cs.length=prog.cellsOf t/\∃ m,∀ (i:Nat) (f:Field),fs[i]? = some f->∃ z,DataW.trod enc prog w 0 sp hd m f.type ((cs.drop f.offset).take (prog.cellsOf f.type))=some z:=by
 obtain ⟨xs,m,_,_,hl,hx,hf⟩:=DataW.trod_struct ht h;refine ⟨hl,m,fun i f hi=>?_⟩;have hlt:i < xs.length:=by rw [hx];exact (Array.getElem?_eq_some_iff.1 hi).1
 exact ⟨xs[i],by rw [hf i f hi,List.getElem?_eq_getElem hlt]⟩
theorem list_of {α:Type} : ∀ (n:Nat) (p:Nat->α->Prop),(∀ i,i < n->∃ x,p i x)->∃ xs:List α,xs.length=n/\∀ i (h:i < xs.length),p i xs[i]
 | 0,_,_=>⟨[],rfl,fun i h=>by simp at h⟩
 | n+1,p,h=>by
   obtain ⟨xs,hl,hx⟩:=list_of n p (fun i hi=>h i (by omega));obtain ⟨x,hp⟩:=h n (by omega);refine ⟨xs++[x],by simp [hl],fun i hi=>?_⟩;by_cases e:i < xs.length
   ·rw [List.getElem_append_left e];exact hx i e
   ·have e2:i=n:=by simp at hi;omega
    subst e2;have:(xs++[x])[i]=x:=by simp [<- hl]
    rw [this];exact hp
theorem zMH {n o sz:Nat} {t e:TypeId} {cs:List Value} {y:DataW H×List MemPlace} {α:Type} {E:World->Nat->Nat->α->Prop} (ht:prog.underlying t=some (.slice e)) (hc:prog.cellsOf t=1) (hz:prog.cellsOf e=sz) (hpos:0 < sz)
  (hE:∀ (m:Nat) (cs':List Value) (z:DataW H×List MemPlace) (b o':Nat),DataW.trod enc prog w 0 sp hd m e cs'=some z->(∀ j v,cs'[j]? = some v->zK w b (o'+j) v)->∃ x,E w b o' x)
  (h:DataW.trod enc prog w 0 sp hd n t ((cs.drop o).take (prog.cellsOf t))=some y) : ∃ v xs,cs[o]? = some v/\Sl E sz w v xs/\Capd v xs.length:=by
 rw [hc] at h;rcases Deep.open_slice ht h with ⟨e0,_⟩ | ⟨a,len,cap,m,k,D,Pl,e0,_,hl,hm,hmm,_,hx⟩
 ·exact ⟨_,[],zIP e0,zIR _ _ _ _ _,_,_,rfl,Nat.zero_le _⟩
 ·rw [hz] at hx
  have hlm:len<=m:=by rw [hmm];split <;> omega
  have key:∀ i,i < len->∃ x,∃ b off,a=⟨b,off,none⟩/\E w b (off+i*sz) x:=fun i hi=>by
   obtain ⟨cs',h1,h2⟩:=hx i (by omega);obtain ⟨_,hlen,hcell⟩:=World.cells?_some h1;obtain ⟨cs0,h10,_⟩:=hx 0 (by omega);obtain ⟨_,hlen0,hcell0⟩:=World.cells?_some h10;obtain ⟨b,off,spot⟩:=a;have h0:=hcell0 0 hpos;rw [List.getElem?_eq_getElem (by omega)] at h0;have hspot:spot=none:=by simpa [Addr.add] using World.cell?_spot h0
   subst hspot;obtain ⟨x,hX⟩:=hE _ cs' _ b (off+i*sz) h2 (fun j v hj=>by
    have hj2:j < sz:=by rw [<- hlen];exact (List.getElem?_eq_some_iff.1 hj).1
    have:=hcell j hj2;rw [hj] at this;simp only [Addr.add_lit] at this;exact this)
   exact ⟨x,b,off,rfl,hX⟩
  obtain ⟨xs,hxl,hxs⟩:=list_of len _ key;subst hxl;refine ⟨_,xs,zIP e0,⟨some a,cap,rfl,by unfold maxLen at hm;omega,fun i hi=>?_⟩,_,_,rfl,hl⟩;obtain ⟨b,off,rfl,hX⟩:=hxs i hi;exact ⟨b,off,rfl,hX⟩
theorem el_item (m:Nat) (cs:List Value) (z:DataW H×List MemPlace) (b o:Nat) (h:DataW.trod enc prog w 0 sp hd m 97 cs=some z) (hc:∀ j v,cs[j]? = some v->zK w b (o+j) v) : ∃ x,zBV w b o x:=by
 obtain ⟨_,k,hf⟩:=zDS underlying97 h;obtain ⟨_,h0⟩:=hf 0 _ rfl;obtain ⟨x0,c0,r0⟩:=zDB h0;obtain ⟨_,h1⟩:=hf 1 _ rfl;obtain ⟨x1,c1,r1⟩:=zDB h1;exact ⟨⟨x0,x1⟩,⟨hc 0 _ c0,hc 1 _ c1⟩,r0,r1⟩
theorem el_dim (m:Nat) (cs:List Value) (z:DataW H×List MemPlace) (b o:Nat) (h:DataW.trod enc prog w 0 sp hd m 167 cs=some z) (hc:∀ j v,cs[j]? = some v->zK w b (o+j) v) : ∃ x,zGJ w b o x:=by
 obtain ⟨_,k,hf⟩:=zDS underlying167 h;obtain ⟨_,h0⟩:=hf 0 _ rfl;obtain ⟨x0,c0,r0⟩:=zDB h0;obtain ⟨_,h1⟩:=hf 1 _ rfl;obtain ⟨x1,c1,r1⟩:=zDB h1;obtain ⟨_,h2⟩:=hf 2 _ rfl;obtain ⟨x2,c2,r2⟩:=zDB h2;exact ⟨⟨x0,x1,x2⟩,⟨hc 0 _ c0,hc 1 _ c1,hc 2 _ c2⟩,r0,r1,r2⟩
theorem el_note (m:Nat) (cs:List Value) (z:DataW H×List MemPlace) (b o:Nat) (h:DataW.trod enc prog w 0 sp hd m 74 cs=some z) (hc:∀ j v,cs[j]? = some v->zK w b (o+j) v) : ∃ x,zBL w b o x:=by
 obtain ⟨_,k,hf⟩:=zDS underlying74 h;obtain ⟨_,h0⟩:=hf 0 _ rfl;obtain ⟨x0,c0,r0⟩:=zDB h0;obtain ⟨_,h1⟩:=hf 1 _ rfl;obtain ⟨x1,c1,r1⟩:=zDB h1;obtain ⟨_,h2⟩:=hf 2 _ rfl;obtain ⟨x2,c2,r2⟩:=leaf_u h2;obtain ⟨_,h3⟩:=hf 3 _ rfl;obtain ⟨x3,c3,r3⟩:=zDB h3;obtain ⟨_,h4⟩:=hf 4 _ rfl;obtain ⟨x4,c4,r4⟩:=zDB h4;obtain ⟨_,h5⟩:=hf 5 _ rfl;obtain ⟨x5,c5,r5⟩:=zDB h5;obtain ⟨_,h6⟩:=hf 6 _ rfl;obtain ⟨x6,c6,r6⟩:=zDB h6;obtain ⟨_,h7⟩:=hf 7 _ rfl;obtain ⟨x7,c7,r7⟩:=zDB h7;obtain ⟨_,h8⟩:=hf 8 _ rfl;obtain ⟨x8,c8⟩:=leaf_b h8;obtain ⟨_,h9⟩:=hf 9 _ rfl;obtain ⟨x9,c9,r9⟩:=leaf_u h9;exact ⟨⟨x0,x1,x2,x3,x4,x5,x6,x7,x8,x9⟩,⟨hc 0 _ c0,hc 1 _ c1,hc 2 _ c2,hc 3 _ c3,hc 4 _ c4,hc 5 _ c5,hc 6 _ c6,hc 7 _ c7,hc 8 _ c8,hc 9 _ c9⟩,r0,r1,r2,r3,r4,r5,r6,r7,r9⟩
theorem el_report (m:Nat) (cs:List Value) (z:DataW H×List MemPlace) (b o:Nat) (h:DataW.trod enc prog w 0 sp hd m 49 cs=some z) (hc:∀ j v,cs[j]? = some v->zK w b (o+j) v) : ∃ x,zAT w b o x:=by
 obtain ⟨_,k,hf⟩:=zDS underlying49 h;obtain ⟨_,h0⟩:=hf 0 _ rfl;obtain ⟨x0,c0,r0⟩:=zDB h0;obtain ⟨_,h1⟩:=hf 1 _ rfl;obtain ⟨x1,c1,r1⟩:=zDB h1;obtain ⟨_,h2⟩:=hf 2 _ rfl;obtain ⟨x2,c2,r2⟩:=zDB h2;obtain ⟨_,h3⟩:=hf 3 _ rfl;obtain ⟨x3,c3,r3⟩:=zDB h3;obtain ⟨_,h4⟩:=hf 4 _ rfl;obtain ⟨x4,c4,r4⟩:=leaf_u h4;exact ⟨⟨x0,x1,x2,x3,x4⟩,⟨hc 0 _ c0,hc 1 _ c1,hc 2 _ c2,hc 3 _ c3,hc 4 _ c4⟩,r0,r1,r2,r3,r4⟩
theorem el_int (m:Nat) (cs:List Value) (z:DataW H×List MemPlace) (b o:Nat) (h:DataW.trod enc prog w 0 sp hd m 3 cs=some z) (hc:∀ j v,cs[j]? = some v->zK w b (o+j) v) : ∃ x,zAM w b o x:=by
 obtain ⟨x,e,_,hw⟩:=DataW.trod_int underlying3 h;subst e;refine ⟨x,hc 0 _ rfl,?_⟩;simp [Lit.wf,IntKind.has,IntKind.min,IntKind.max,IntKind.signed,IntKind.bits] at hw;unfold I64;omega
theorem el_heap (m:Nat) (cs:List Value) (z:DataW H×List MemPlace) (b o:Nat) (h:DataW.trod enc prog w 0 sp hd m 42 cs=some z) (hc:∀ j v,cs[j]? = some v->zK w b (o+j) v) : ∃ x,zDO w b o x:=by
 obtain ⟨_,k,hf⟩:=zDS underlying42 h;obtain ⟨_,h0⟩:=hf 0 _ rfl;obtain ⟨x0,c0,r0⟩:=zDB h0;obtain ⟨_,h1⟩:=hf 1 _ rfl;obtain ⟨x1,c1,r1⟩:=zDB h1;obtain ⟨_,h2⟩:=hf 2 _ rfl;obtain ⟨_,k2,hg⟩:=zDS underlying40 h2;obtain ⟨_,g0⟩:=hg 0 _ rfl;obtain ⟨x2,c2,r2⟩:=zDB g0;obtain ⟨_,g1⟩:=hg 1 _ rfl;obtain ⟨x3,c3,r3⟩:=zDB g1;exact ⟨⟨x0,x1,x2,x3⟩,⟨hc 0 _ c0,hc 1 _ c1,hc 2 _ (zOY c2),hc 3 _ (zOY c3)⟩,r0,r1,r2,r3⟩
theorem el_issue (m:Nat) (cs:List Value) (z:DataW H×List MemPlace) (b o:Nat) (h:DataW.trod enc prog w 0 sp hd m 118 cs=some z) (hc:∀ j v,cs[j]? = some v->zK w b (o+j) v) : ∃ x,zAY w b o x:=by
 obtain ⟨_,k,hf⟩:=zDS underlying118 h;obtain ⟨_,h0⟩:=hf 0 _ rfl;obtain ⟨x0,c0,r0⟩:=zDB h0;obtain ⟨_,h1⟩:=hf 1 _ rfl;obtain ⟨x1,c1,r1⟩:=zDB h1;obtain ⟨_,h2⟩:=hf 2 _ rfl;obtain ⟨x2,c2,r2⟩:=leaf_u h2;obtain ⟨_,h3⟩:=hf 3 _ rfl;obtain ⟨v3,x3,c3,s3,_⟩:=zMH (E:=zBV) (sz:=2) underlying85 (by kernel_rfl) (by kernel_rfl) (by decide) el_item h3;obtain ⟨_,h4⟩:=hf 4 _ rfl;obtain ⟨v4,x4,c4,s4,_⟩:=zMH (E:=zGJ) (sz:=3) underlying116 (by kernel_rfl) (by kernel_rfl) (by decide) el_dim h4;exact ⟨⟨x0,x1,x2,x3,x4⟩,⟨hc 0 _ c0,hc 1 _ c1,hc 2 _ c2⟩,⟨r0,r1,r2⟩,v3,v4,hc 3 _ c3,hc 4 _ c4,s3,s4⟩
theorem arg_built {r:Reach} {b0:Nat} {v:Value} {d:DataW H} {p:List MemPlace} (hv:Value.okWide prog w r b0 32 v) (h:DataW.Trod enc prog w 0 sp hd 32 v d p) :
  ∃ vr vn vm vh vs b,v = .agg #[vr,vn,.int .i64 (Built.of b),vm,vh,vs]/\BuiltAt w vr vn vm vh vs b/\Capd vr b.ns.reg.length/\Capd vn b.ns.notes.length/\Capd vh b.hs.length:=by
 obtain ⟨cs,rfl,hsz⟩:=okWide_struct underlying32 hv;rw [show prog.cellsOf 32=6 by kernel_rfl] at hsz;obtain ⟨fuel,h⟩:=h;obtain ⟨_,k,hf⟩:=zDS underlying32 h;obtain ⟨_,h0⟩:=hf 0 _ rfl;obtain ⟨_,k0,hg⟩:=zDS underlying27 h0;obtain ⟨_,g0⟩:=hg 0 _ rfl;obtain ⟨_,k1,hr⟩:=zDS underlying24 g0;obtain ⟨_,r0⟩:=hr 0 _ rfl;obtain ⟨vr,R,cr,sr,kr⟩:=zMH (E:=zAY) (sz:=5) underlying22 (by kernel_rfl) (by kernel_rfl) (by decide) el_issue r0;obtain ⟨_,g1⟩:=hg 1 _ rfl;obtain ⟨vn,N,cn,sn,kn⟩:=zMH (E:=zBL) (sz:=10) underlying25 (by kernel_rfl) (by kernel_rfl) (by decide) el_note g1;obtain ⟨_,h1⟩:=hf 1 _ rfl;obtain ⟨of,cof,rof⟩:=zDB h1;obtain ⟨_,h2⟩:=hf 2 _ rfl;obtain ⟨vm,ms,cm,sm,_⟩:=zMH (E:=zAM) (sz:=1) underlying28 (by kernel_rfl) (by kernel_rfl) (by decide) el_int h2;obtain ⟨_,h3⟩:=hf 3 _ rfl;obtain ⟨vh,hs,ch,sh,kh⟩:=zMH (E:=zDO) (sz:=4) underlying29 (by kernel_rfl) (by kernel_rfl) (by decide) el_heap h3;obtain ⟨_,h4⟩:=hf 4 _ rfl;obtain ⟨vs,rs,cs',ss,_⟩:=zMH (E:=zAT) (sz:=5) underlying30 (by kernel_rfl) (by kernel_rfl) (by decide) el_report h4;refine ⟨vr,vn,vm,vh,vs,⟨⟨R,N⟩,of,ms,hs,rs⟩,?_,⟨sr,sn,sm,sh,ss,rof⟩,kr,kn,kh⟩;have q0:=zOY (zOY cr);have q1:=zOY cn;obtain ⟨l⟩:=cs;match l,hsz with
 | [c0,c1,c2,c3,c4,c5],_ =>simp [Value.cells] at q0 q1 cof cm ch cs';subst q0 q1 cof cm ch cs';rfl
end
end
section
open Tryz
open Go.RowKit Go.ChangeShapes Go.WideShapes
section
variable {H:Type} {enc:TypeId×Value->H} {w:World} {sp:Nat->Bool} {hd:Bool}
end
end
section
open Tryz
open Go.RowKit Go.ChangeShapes Go.WideShapes
def U32 (n:Int) : Prop:=0<=n/\n<=4294967295
def AtU32 (w:World) (b o:Nat) (x:Int) : Prop:=zK w b o (.int .u32 x)/\U32 x
section
variable {H:Type} {enc:TypeId×Value->H} {w:World} {sp:Nat->Bool} {hd:Bool}
theorem arg_u8 {r:Reach} {b0:Nat} {v:Value} {d:DataW H} {p:List MemPlace} (hv:Value.okWide prog w r b0 5 v) (h:DataW.Trod enc prog w 0 sp hd 5 v d p) :
  ∃ x:Int,v = .int .u8 x/\U8 x:=by
 obtain ⟨x,rfl⟩:=okWide_int underlying5 hv;obtain ⟨fuel,h⟩:=h;obtain ⟨y,e,_,hw⟩:=DataW.trod_int underlying5 h;have e2:x=y:=by simpa [Value.cells] using e
 subst e2;refine ⟨x,rfl,?_⟩;simp [Lit.wf,IntKind.has,IntKind.min,IntKind.max,IntKind.signed,IntKind.bits] at hw;unfold U8;omega
theorem el_u32 (m:Nat) (cs:List Value) (z:DataW H×List MemPlace) (b o:Nat) (h:DataW.trod enc prog w 0 sp hd m 114 cs=some z) (hc:∀ j v,cs[j]? = some v->zK w b (o+j) v) : ∃ x,AtU32 w b o x:=by
 obtain ⟨x,e,_,hw⟩:=DataW.trod_int underlying114 h;subst e;refine ⟨x,hc 0 _ rfl,?_⟩;simp [Lit.wf,IntKind.has,IntKind.min,IntKind.max,IntKind.signed,IntKind.bits] at hw;unfold U32;omega
theorem arg_u32s {r:Reach} {b0:Nat} {v:Value} {d:DataW H} {p:List MemPlace} (hv:Value.okWide prog w r b0 33 v) (h:DataW.Trod enc prog w 0 sp hd 33 v d p) :
  ∃ xs:List Int,Sl AtU32 1 w v xs:=by
 obtain ⟨a,n,c,rfl⟩:=okWide_slice underlying33 hv;obtain ⟨fuel,h⟩:=h;have hc:prog.cellsOf 33=1:=by kernel_rfl
 have h':DataW.trod enc prog w 0 sp hd fuel 33 (([Value.slice a n c].drop 0).take (prog.cellsOf 33))=some (d,p):=by rw [hc];exact h
 obtain ⟨v',xs,e,hs,_⟩:=zMH (o:=0) (E:=AtU32) (sz:=1) underlying33 hc (by kernel_rfl) (by decide) el_u32 h';have e2:Value.slice a n c=v':=by simpa using e
 subst e2;exact ⟨xs,hs⟩
end
end
section
open Tryz
open Go.RowKit
attribute [local go_sem] zAE
theorem ready_law (w:World) (vr vn vm vh vs:Value) (b:Built) (hB:BuiltAt w vr vn vm vh vs b) :
  Calls prog 8 #[.agg #[vr,vn,.int .i64 b.of,vm,vh,vs]] w (zAK (Tiny b/\zF b=0) w):=by
 have L:=Lay.new w 32 #[vr,vn,.int .i64 b.of,vm,vh,vs];have hb:=zB w (.cells #[vr,vn,.int .i64 b.of,vm,vh,vs] 32);have HB:=zE (hB.ext hb);clear hB;have c0:=L.cell 0 _ rfl;have c1:=L.cell 1 _ rfl;have c2:=L.cell 2 _ rfl;have c3:=L.cell 3 _ rfl;have c4:=L.cell 4 _ rfl;have c5:=L.cell 5 _ rfl;go_enter func8,ntmps8;go_wp2_with fail;clear c0 c1 c2 c3 c4 c5;generalize w.alloc _=w1 at *;refine (great08 _ _ _ _ _ _ b HB.out).mono ?_;intro e w2 hg;rcases hg.both with ⟨g1,rfl,h2⟩ | ⟨g1,rfl,h2⟩
 ·clear hg;go_wp2;go_ret;exact zAK.f (fun h=>g1 h.1) (zA hb h2)
 clear hg;have HT:=zE (Classical.byContradiction g1);replace L:=L.ext h2;replace hb:=zA hb h2;have HB:=zE (HB.out.ext h2);clear g1 h2;have c0:=L.cell 0 _ rfl;have c1:=L.cell 1 _ rfl;have c2:=L.cell 2 _ rfl;have c3:=L.cell 3 _ rfl;have c4:=L.cell 4 _ rfl;have c5:=L.cell 5 _ rfl;have l0:=L.lt;go_wp2_with fail;clear c0 c1 c2 c3 c4 c5 l0;refine (check08 _ _ _ _ _ _ b HB.out).mono ?_;rintro e w3 ⟨rfl,h3⟩;have hz:∀ c:Int,zF b=c->Hid (Tiny b/\zF b=0↔c=0):=fun c e=>⟨fun h=>e.symm.trans h.2,fun h=>⟨HT.out,e.trans h⟩⟩
 generalize hc:zF b=c at *;have hz:=hz c rfl;by_cases h0:c=0
 ·have h0':(c == 0)=true:=by simpa using h0
  go_wp2;go_ret;exact zAK.t (hz.out.2 h0) (zA hb h3)
 ·have h0':(c == 0)=false:=by simpa using h0
  have H0:=zE h0;clear h0;go_wp2;go_ret;exact zAK.f (fun h=>H0.out (hz.out.1 h)) (zA hb h3)
end
section
open Tryz
open Go.RowKit Go.Shelf
attribute [local go_sem] zAE Oper.grows Oper.growUpon
theorem left_some_ne {b:Built} {m d l:Int} (h:zAS b m d l=0) : zAQ b≠[]:=by
 intro e;obtain ⟨hv,hm,_⟩:=pieces_ok h;unfold zAS at h;have ha:zBK b m=8:=by unfold zBK;rw [if_neg (by simp [hv]),if_neg (by simp [hm]),if_pos e]
 rw [ha] at h;split at h <;> cases h
theorem piecesR_le {b:Built} {A:List (List Int)} (h:A≠[]) (m d l:Int) : (zAU b A m d l).lo<=(zAU b A m d l).hi:=by
 unfold zAU;refine spanOf_le fun e=>?_
 cases A with
 | nil=>exact h rfl
 | cons S A=>rw [List.flatMap_cons] at e;have:=congrArg List.length e;simp [zOP] at this
theorem pieceS_le {b:Built} {m d l:Int} (h:zAS b m d l=0) : (zBE b m d l).lo<=(zBE b m d l).hi:=by
 unfold zBE;rw [if_pos h];exact piecesR_le (left_some_ne h) m d l
theorem known_built (w:World) (vr vn vm vh vs:Value) (b:Built) (m d l:Int) (hA:BuiltArg w vr vn vm vh vs b) (hK:KindsAt w) (hd64:I64 d) :
  Calls prog 23 #[.agg #[vr,vn,.int .i64 b.of,vm,vh,vs],.int .i64 m,.agg #[.int .i64 d,.int .i64 l]] w fun e w'=>e = .returned (.tuple #[.int .u8 (zHD (zBE b m d l) (zAS b m d l)),.int .i64 (zAS b m d l)])/\Below w.heap.size w w':=by
 obtain ⟨ar,cr,rfl,_⟩:=zD hA.at_.reg;obtain ⟨an,cn,rfl,_⟩:=zD hA.at_.notes;obtain ⟨am,cm,rfl,_⟩:=zD hA.at_.ms;obtain ⟨ah,ch,rfl,_⟩:=zD hA.at_.hs;obtain ⟨as',cs',rfl,_⟩:=zD hA.at_.rs;have hb1:=zB w (.cells #[.slice ar b.ns.reg.length cr,.slice an b.ns.notes.length cn,.int .i64 b.of,.slice am b.ms.length cm,.slice ah b.hs.length ch,.slice as' b.rs.length cs'] 32);have hbox:=Lay.new w 32 #[.slice ar b.ns.reg.length cr,.slice an b.ns.notes.length cn,.int .i64 b.of,.slice am b.ms.length cm,.slice ah b.hs.length ch,.slice as' b.rs.length cs'];have hl1:(w.alloc (.cells #[.slice ar b.ns.reg.length cr,.slice an b.ns.notes.length cn,.int .i64 b.of,.slice am b.ms.length cm,.slice ah b.hs.length ch,.slice as' b.rs.length cs'] 32)).heap.size=w.heap.size+1:=World.size_alloc _ _;generalize hw0:w.alloc (.cells #[.slice ar b.ns.reg.length cr,.slice an b.ns.notes.length cn,.int .i64 b.of,.slice am b.ms.length cm,.slice ah b.hs.length ch,.slice as' b.rs.length cs'] 32)=w0 at hb1 hbox hl1;have hb2:=zB w0 (.cells #[.int .i64 d,.int .i64 l] 45);have href:=Lay.new w0 45 #[.int .i64 d,.int .i64 l];rw [hl1] at href;have HBW:=zE (zA hb1 hb2);have hbx:=hbox.ext hb2;have HA:=zE (hA.ext HBW.out);have HK:=zE (hK.ext HBW.out);have k0:=hbx.cell 0 _ rfl;have k1:=hbx.cell 1 _ rfl;have k2:=hbx.cell 2 _ rfl;have k3:=hbx.cell 3 _ rfl;have k4:=hbx.cell 4 _ rfl;have k5:=hbx.cell 5 _ rfl;have r0:=href.cell 0 _ rfl;have r1:=href.cell 1 _ rfl;clear hb1 hb2 hbox href hA hK hbx hl1;subst hw0;go_enter func23,ntmps23;go_wp2_with fail;clear k0 k1 k2 k3 k4 k5 r0 r1;generalize (w.alloc _).alloc _=w1 at *;refine (zKB w1 _ _ _ _ _ b m d l HA.out HK.out hd64).mono ?_;rintro e w2 ⟨rfl,hb2⟩;have HBW:=zE (zA (zA HBW.out hb2) (zB w2 (.cells #[.int .i64 (zBE b m d l).lo,.int .i64 (zBE b m d l).hi] 40)));clear hb2 HA HK;have hle:=fun h=>pieceS_le (b:=b) (m:=m) (d:=d) (l:=l) h
 obtain ⟨slo,h1⟩ : ∃ z,(zBE b m d l).lo=z:=⟨_,rfl⟩;obtain ⟨shi,h2⟩ : ∃ z,(zBE b m d l).hi=z:=⟨_,rfl⟩;obtain ⟨c,h3⟩ : ∃ z,zAS b m d l=z:=⟨_,rfl⟩;rw [h1,h2] at HBW;rw [h1,h2,h3] at hle;rw [h1,h2,h3];have HE:=zE (And.intro h1 (And.intro h2 h3));clear h1 h2 h3;by_cases hc:c=0
 case neg =>
  have hc':(c != 0)=true:=by simpa using hc
  have hk:Hid (zHD (zBE b m d l) (zAS b m d l)=0):=by unfold Hid zHD;rw [HE.out.2.2,if_pos hc]
  clear hc hle;go_wp2;go_ret2;exact ⟨by rw [hk.out,HE.out.2.2];rfl,HBW.out⟩
 case pos =>
  have hl:=hle hc;subst hc;clear hle;by_cases h0:shi=0
  ·subst h0
   have hk:Hid (zHD (zBE b m d l) (zAS b m d l)=0):=by unfold Hid zHD;rw [HE.out.1,HE.out.2.1,HE.out.2.2,if_neg (by simp),if_neg (by omega),if_pos rfl]
   go_wp2;go_ret2;exact ⟨by rw [hk.out,HE.out.2.2];rfl,HBW.out⟩
  ·have h0':(shi == 0)=false:=by simpa using h0
   by_cases h1:0 < slo
   ·have hk:Hid (zHD (zBE b m d l) (zAS b m d l)=2):=by unfold Hid zHD;rw [HE.out.1,HE.out.2.2,if_neg (by simp),if_pos h1]
    clear h0;go_wp2;go_ret2;exact ⟨by rw [hk.out,HE.out.2.2];rfl,HBW.out⟩
   ·have hk:Hid (zHD (zBE b m d l) (zAS b m d l)=1):=by unfold Hid zHD;rw [HE.out.1,HE.out.2.1,HE.out.2.2,if_neg (by simp),if_neg h1,if_neg h0]
    clear h0;go_wp2;go_ret2;exact ⟨by rw [hk.out,HE.out.2.2];rfl,HBW.out⟩
end
end Go.Proofs.YtipaopbmklbmnaaGreatDoor
