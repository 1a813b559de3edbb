/- The walks of math's small functions: IsNaN, IsInf, Abs, Copy -/
import Derived.Test.YthpdlidbaojlbaaGreatDoorQ26
set_option linter.unusedVariables false
set_option linter.unusedSimpArgs false
set_option maxHeartbeats 4000000
open Go.ChangeShapes Go.WideShapes Go.ChangeAt Go.RowKit
namespace Go.Proofs.YthpdlidbaojlbaaGreatDoor
namespace fl
def AK (N:Nat) (w:World) (e:Ending) (w':World):Prop:=∃ l ad cap,e=.returned (.slice (some ad) (l:List Nat).length cap)∧0<l.length∧l.length≤100000∧Hid (Can l∧dA l=N)∧Hid (∀ (j:Nat) u,(l.map fun d=>Value.int .u32 (d:Nat))[j]?=some u→w'.cell? (Addr.add ad j)=some u)∧Below w.heap.size w w'
theorem JX {N:Nat} {w:World} {e:Ending} {w':World} (h:jU .u32 N w e w') (h0:0<N) (hN:N<Bs ^ KC):AK N w e w':=by
 obtain⟨y,rfl,⟨l,hl,hc,rfl⟩,hb⟩:=h
 have hpos:0<l.length:=by
  cases l with
  | nil=>simp[dA] at h0
  | cons d t=>simp
 obtain⟨ad,cap,rfl,hn⟩:=hl.news hpos;exact⟨l,ad,cap,rfl,hpos,qb hc hN,aj ⟨hc,rfl⟩,aj hn,hb⟩
theorem NM {l:List Nat} {ad:Addr} {w w':World} (h:∀ (j:Nat) u,(l.map fun d=>Value.int .u32 (d:Nat))[j]?=some u→w.cell? (Addr.add ad j)=some u) (hb:Below w.heap.size w w'):∀ (j:Nat) u,(l.map fun d=>Value.int .u32 (d:Nat))[j]?=some u→w'.cell? (Addr.add ad j)=some u:=fun j u hu=>by have h1:=h j u hu;rw[←h1];exact hb.cell (rF h1)
theorem Gf {k:IntKind} {e:TypeId} {B q c:Nat} {W:World} {a:Option Addr} (h:Own k e B W (.slice a q c) (List.replicate q 0)):W.ownsRow B e 1 (.slice a q c) q ((List.replicate q 0).map fun d=>.int k (d:Nat)):=by unfold Own at h;rw[dj] at h;exact h
set_option maxRecDepth 100000 in
theorem Pq (x:Value) (n k:Nat) (w:World) (hx:Num .u32 w x n) (hn:n<Bs ^ KA) (h0:0<n) (hk:k≤10000):
  Calls Tryz.prog 180 #[x,.int .i64 k] w (jU .u32 (n*2 ^ k) w):=by
 obtain⟨i75,hi,hz,hs,hb⟩:=cF Bz;have HX:=aj hx;have HN:=aj hn;have H0:=aj h0;clear hx hn h0;obtain⟨q,hq⟩:∃ q,k / 32=q:=⟨_,rfl⟩;obtain⟨r,hr⟩:∃ r,k % 32=r:=⟨_,rfl⟩;have RN:r<32:=by omega
 have RO:(2:Nat) ^ r<4294967296:=aP (nz (by decide) RN) (by decide)
 have e1:IntKind.i64.wrap ((k:Int) / 32)=(q:Int):=by rw[show(k:Int) / 32=((k / 32:Nat):Int) by omega,hq];exact kt _ (by omega)
 have e2:(k:Int).tmod 32=(r:Int):=by rw[ik (by omega)];omega
 have e3:IntKind.u64.wrap (r:Int)=(r:Int):=gM _ (by omega);obtain⟨M,hM⟩:∃ M,2 ^ r=M:=⟨_,rfl⟩;rw[hM] at RO
 have PX:Hid (IntKind.u32.wrap (2 ^ r)=(M:Int)):=aj (by
  rw[show(2:Int) ^ r=(M:Int) by rw[←hM];simp]
  exact IntWalk.u32_in _ (by omega))
 have HQ:=aj hq;have HR:=aj hr;have HM:=aj hM;have hq1:q≤1000:=by omega
 clear hq hr hM hk
 have hmk:∀ W:World,Sem.run Tryz.prog (Instr.makeSlice 249 (.int .i64 q) (.int .i64 q)) W=.ok (.slice (some ⟨W.heap.size,0,none⟩) q q) (W.alloc (.cells (madeCells #[.int .u32 0] q) 255)):=fun W=>by have h:=p7 (P:=Tryz.prog) W 249 255 i75 _ Tryz.underlying249 hi hz .i64 .i64 q q (by omega) (by omega) (by rw[hs];omega) (by rw[hb];omega) (by omega);rw[hs,show(q:Int).toNat=q by simp,bB] at h;exact h
 have HXd:Hid (Num .u32 w.drew x n):=aj (HX.out.on (cR w 1));have HXa:Hid (Num .u32 (w.alloc (.cells (madeCells #[.int .u32 0] q) 255)).drew x n):=aj (HX.out.on (((Below.refl w.heap.size w).alloc (aq _) _).drew));have hM0:0<M:=by rw[←HM.out];exact bf (by decide)
 have hnM:n*M<Bs ^ KC:=by have e1:n*M≤n*Bs:=bG _ (bW RO);have e2:n*Bs<Bs ^ KA*Bs:=bq HN.out gB;rw[←Nat.pow_succ] at e2;have e3:Bs ^ KA.succ≤Bs ^ KC:=aS gB (by decide);omega
 have hval:Hid (∀ l,dA l=n*M→dA (List.replicate q 0++l)=n*2 ^ k):=aj (fun l hl=>by rw[uE,hl,←HM.out,show Bs=2 ^ 32 from rfl,←s8,show k=32*q+r by have:=HQ.out;have:=HR.out;omega,aY,aK (2 ^ (32*q)),aA,aK (2 ^ r)])
 have cT:Hid (∀ W,Num .u32 W x n→Calls Tryz.prog 154 #[x,.int .u32 M] W (AK (n*M) W)):=aj fun W h=>(sj x n M W h RO (aP HN.out E8)).mono fun e w' h=>JX h (df H0.out hM0) hnM
 have HZ:Hid (Own .u32 255 w.heap.size (w.alloc (.cells (madeCells #[.int .u32 0] q) 255)).drew (.slice (some ⟨w.heap.size,0,none⟩) q q) (List.replicate q 0)):=aj ((wD .u32 255 w w.heap.size q q (aq _) (aq _) (by omega)).on ((Below.refl _ _).drew));have VW:Hid (Below w.heap.size w w.drew):=aj (cR w 1);have HBa:Hid (Below w.heap.size w (w.alloc (.cells (madeCells #[.int .u32 0] q) 255)).drew):=aj (((Below.refl w.heap.size w).alloc (aq _) _).drew);clear HN hnM hM0;go_enter Tryz.func180,Tryz.ntmps180
 go_wp2_with fail
 go_region_held3 (fun _=>True) (trivial) (first|(go_at_call 154;rw[PX.out];first|(refine(cT.out _ (by with_reducible exact HXd.out)).mono ?_;rintro e w' ⟨l,ad,cy,rfl,hp1,hp2,HL,hnw,hb⟩;have tj:Hid (w.heap.size≤w'.heap.size):=aj (by have:=hb.size;have:=VW.out.size;omega);have Jb:=aj ((VW.out.trans (hb.mono VW.out.size)).alloc (by have:=hb.size;have:=VW.out.size;omega) (.cells (madeCells #[.int .u32 0] q) 255));have HO:=aj (Gf (wD .u32 255 w' w.heap.size q q (by have:=hb.size;have:=VW.out.size;omega) (aq _) (by omega)));have Eb:=aj (NM hnw.out ((Below.refl w'.heap.size w').alloc (aq _) (.cells (madeCells #[.int .u32 0] q) 255)));clear hb hnw)|(refine(cT.out _ (by with_reducible exact HXa.out)).mono ?_;rintro e w' ⟨l,ad,cy,rfl,hp1,hp2,HL,hnw,hb⟩;have tj:Hid (w.heap.size≤w.heap.size):=aj (aq _);have Jb:=aj (HBa.out.trans (hb.mono HBa.out.size));have HO:=aj (Gf (HZ.out.on hb));have Eb:=hnw;clear hb hnw))|(refine step_append_lies _ (by rfl) _ _ _ (by rfl) w.heap.size 255 i75 (.int .u32 0) 1 4 Tryz.underlying249 hi hz hs hb (by rfl) (by decide) _ q _ (by rfl) HO.out _ _ _ _ (by rfl) (by rw[aU,bB]) Eb.out Dh hp1 (by unfold maxLen;omega) (by omega) Jb.out.size _ rfl ?_;intro g cap w1 hown hgrow hat hlt;have HG:=aj hgrow;have HOW:=aj hown;clear hgrow hown hat hlt))
 all_goals
  have HF:Hid (Num .u32 w1 (.slice (some ⟨g,0,none⟩) (q+l.length) cap) (n*2 ^ k)):=aj ⟨List.replicate q 0++l,Own.lim (e:=255) (B:=w.heap.size) (by unfold Own;rw[aM,dj,aZ];exact HOW.out),AB HL.out.1 (ix hp1) q,hval.out l HL.out.2⟩;have HE:Hid (Below w.heap.size w w1):=aj (Jb.out.grown HG.out Jb.out.size (fun k e=>by simp[Value.ownBlock] at e;have:=tj.out;omega));go_wp2_with fail
  go_ret;exact⟨_,rfl,HF.out,HE.out⟩
def AP (a b:Nat) (p:Int) (w:World) (e:Ending) (w':World):Prop:=∃ r,e=.returned (.bool r)∧(r=true↔a*10 ^ (-p).toNat<b*10 ^ p.toNat)∧Below w.heap.size w w'
set_option maxRecDepth 100000 in
theorem SF (x y:Value) (a b:Nat) (p:Int) (w:World) (hx:Num .u32 w x a) (hy:Num .u32 w y b) (ha:a<Bs ^ KA) (hb:b<Bs ^ KA) (h1:-900≤p) (h2:p≤900):
  Calls Tryz.prog 183 #[x,y,.int .i64 p] w (AP a b p w):=by
 have HX:=aj hx;have HY:=aj hy;have HA:=aj ha;have HB:=aj hb;clear hx hy ha hb;go_enter Tryz.func183,Tryz.ntmps183
 go_wp2_with fail
 refine(Nj _ _ (-p) _ HX.out HA.out (by omega) (by omega)).mono ?_;rintro e1 w1 ⟨x1,rfl,hn1,hb1⟩;have N1:=aj hn1;have B1:=aj hb1;have xt:=aj (HY.out.on hb1);clear hn1 hb1;go_wp2_with fail
 refine(Nj _ _ p _ xt.out HB.out (by omega) (by omega)).mono ?_;rintro e2 w2 ⟨x2,rfl,hn2,hb2⟩;have N2:=aj hn2;have N1':=aj (N1.out.on hb2);have B2:=aj (B1.out.trans (hb2.mono B1.out.size));clear hn2 hb2;go_wp2_with fail
 refine(SC _ _ _ _ _ N1'.out N2.out (sk HA.out (by omega)) (sk HB.out (by omega))).mono ?_;rintro e3 w3 ⟨r,rfl,hr1,hr2,hb3⟩;have R1:=aj hr1;have B3:=aj (B2.out.trans (hb3.mono B2.out.size));clear hr1 hr2 hb3;go_wp2_with fail
 go_ret;exact⟨_,rfl,by rw[←R1.out];simp,B3.out⟩
theorem OG (s:ByteArray) (j:Nat) (h:bl s=List.replicate j 48):bl (s++⟨#[48]⟩)=List.replicate (j+1) 48:=by rw[GK,h,nC];rfl
set_option maxRecDepth 100000 in
theorem Ko (n:Nat) (w:World) (hn:n≤1000):
  Calls Tryz.prog 48 #[.int .i64 n] w fun e w'=>∃ t:ByteArray,e=.returned (.string t)∧bl t=List.replicate n 48∧Below w.heap.size w w':=by
 go_enter Tryz.func48,Tryz.ntmps48
 go_wp2_with fail
 go_loopw [3,5] (fun o j wr=>∃ (s:ByteArray) (j' i:Nat),o=.string s∧j=.int .i64 j'∧j'≤n∧s.size≤1000∧Hid (bl s=List.replicate j' 48)∧wr=w.drewN i) (fun _ j _=>n-(intOf j).toNat)
 case atStart=>exact⟨⟨#[]⟩,0,0,rfl,rfl,by omega,by decide,aj rfl,rfl⟩
 case round=>
  obtain⟨s,j,i,rfl,rfl,hj,hs,hb,rfl⟩:=hrel
  by_cases hlt:j<n
  ·have hb2:=aj (OG s j hb.out);have hsz:(s++(⟨#[48]⟩:ByteArray)).size≤1000:=by rw[←aL,hb2.out,dj];omega
   have tj:=aj hsz;clear hsz;go_wp2_with fail
   go_roundw
   case rel=>exact⟨_,j+1,i,rfl,by go_num,by omega,tj.out,hb2,rfl⟩
   case measure=>simp[intOf];omega
  ·obtain rfl:j=n:=by omega
   go_wp2_with fail
   go_ret;exact⟨s,rfl,hb.out,cR w i⟩
theorem Av (c:Nat) (t:List Nat) (hc:dX c) (h:∀ x∈t,dX x):cX (c::t)=(c-48)*10 ^ t.length+cX t:=by
 have h1:cX [c]=c-48:=by
  unfold dX at hc
  show(if c=46 then 0 else 0*10+(c-48))=_
  rw[aJ (by omega)];omega
 rw[←List.singleton_append,pN _ _ h,h1]
theorem Hb {a b x y P:Nat} (hx:x<P) (hy:y<P) (h:a*P+x=b*P+y):a=b∧x=y:=by
 rcases fH a b with hh|hh|hh
 ·have:=aI P (show a+1≤b from hh);rw[bS] at this;omega
 ·subst hh;omega
 ·have:=aI P (show b+1≤a from hh);rw[bS] at this;omega
theorem DL:∀ (a b:List Nat),a.length=b.length→(∀ x∈a,dX x)→(∀ x∈b,dX x)→cX a=cX b→a=b
 | [],[],_,_,_,_=>rfl
 | [],_::_,hl,_,_,_=>by simp at hl
 | _::_,[],hl,_,_,_=>by simp at hl
 | c::t,d::s,hl,ha,hb,h=>by
  have hl':t.length=s.length:=by simpa using hl
  have hc:=ha c (by simp);have hd:=hb d (by simp);have ht:∀ x∈t,dX x:=fun x hx=>ha x (bO _ hx)
  have hs:∀ x∈s,dX x:=fun x hx=>hb x (bO _ hx)
  have l1:=kD t ht;have l2:=kD s hs;rw[Av c t hc ht,Av d s hd hs,hl'] at h;rw[hl'] at l1;obtain⟨e1,e2⟩:=Hb l1 l2 h;have e3:=DL t s hl' ht hs e2;unfold dX at hc hd;have e4:c=d:=by omega
  rw[e3,e4]
def ddg (n:Nat):List Nat:=(Lib.decDigits n).map UInt8.toNat
theorem DN (x:Nat) (h:x≤9):(UInt8.ofNat (48+x)).toNat=x+48:=by simp;omega
theorem mG {n:Nat} (h:n<10):ddg n=[n+48]:=by unfold ddg;rw[Lib.decDigits,dif_pos h];simp only[bP,jD,DN n (by omega)]
theorem tM {n:Nat} (h:¬n<10):ddg n=ddg (n / 10)++[n % 10+48]:=by unfold ddg;rw[Lib.decDigits,dif_neg h];simp only[aZ,bP,jD,DN (n % 10) (by omega)]
theorem BP (n:Nat):(∀ x∈ddg n,dX x)∧cX (ddg n)=n:=by
 induction n using Nat.strongRecOn with
 | ind n ih=>
  by_cases h:n<10
  ·rw[mG h];refine⟨fun x hx=>?_,?_⟩
   ·simp only[ij] at hx;subst hx;unfold dX;omega
   ·show(if n+48=46 then 0 else 0*10+(n+48-48))=n
    rw[aJ (by omega)];omega
  ·obtain⟨h1,h2⟩:=ih (n / 10) (by omega);rw[tM h];refine⟨fun x hx=>?_,?_⟩
   ·rcases bj.mp hx with h3|h3
    ·exact h1 x h3
    ·simp only[ij] at h3;subst h3;unfold dX;omega
   ·rw[ja,aJ (by omega),h2];omega
theorem ze (n:Nat):(ddg n).length=Lib.nDigits n:=by unfold ddg;rw[aU,ko]
theorem iH (n:Nat):0<(ddg n).length:=by
 by_cases h:n<10
 ·rw[mG h];simp
 ·rw[tM h];simp
theorem BQ {n k:Nat} (h1:10 ^ k≤n) (h2:n<10 ^ (k+1)):(ddg n).length=k+1:=by rw[ze,Lib.nDigits_unique k n h1 h2]
theorem Fp {l:List Nat} {k:Nat} (hd:∀ x∈l,dX x) (hl:l.length=k+1) (h:10 ^ k≤cX l):l=ddg (cX l):=by have h2:=kD l hd;rw[hl] at h2;exact DL _ _ (by rw[hl,BQ h h2]) hd (BP _).1 (BP _).2.symm
theorem oQ {n:Nat} (h:0<n):(ddg n).getD 0 0≠48:=by
 induction n using Nat.strongRecOn with
 | ind n ih=>
  by_cases h1:n<10
  ·rw[mG h1];simp;omega
  ·rw[tM h1];have:=ih (n / 10) (by omega) (by omega);have hp:=iH (n / 10);rw[az,b8 hp,←az];exact this
def strip (l:List Nat):List Nat:=(l.reverse.dropWhile (· == 48)).reverse
theorem uw (l:List Nat) (c:Nat):strip (l++[c])=if c=48 then strip l else l++[c]:=by
 unfold strip;rw[List.reverse_append];simp only[List.reverse_cons,List.reverse_nil,List.nil_append,List.singleton_append,tW]
 by_cases h:c=48
 ·simp[h]
 ·simp[h]
theorem vH:∀ l:List UInt8,((l.dropWhile (· == 48)).map UInt8.toNat)=(l.map UInt8.toNat).dropWhile (· == 48)
 | []=>rfl
 | c::t=>by
  simp only[bP,tW]
  by_cases h:c=48
  ·subst h;have:=vH t;simpa using this
  ·have h2:¬c.toNat=48:=fun e=>h (rU.mp e)
   simp[h,h2]
theorem Em (l:List UInt8):(Lib.trimRightB l 48).map UInt8.toNat=strip (l.map UInt8.toNat):=by unfold Lib.trimRightB strip;rw[List.map_reverse,vH,List.map_reverse]
theorem Hj {l:List Nat} (h:l.getD 0 0≠48) (h0:0<l.length):strip l≠[]:=by
 have key:∀ n,∀ l:List Nat,l.length=n→l.getD 0 0≠48→0<n→strip l≠[]:=by
  intro n
  induction n with
  | zero=>intro l _ _ h;omega
  | succ n ih=>
   intro l hl h _
   rcases iu l with e|⟨t,c,e⟩
   ·rw[e] at hl;simp at hl
   ·rw[mm] at e;subst e;rw[uw];have ht:t.length=n:=by simpa using hl
    by_cases hc:c=48
    ·rw[aQ hc]
     rcases cV n with hz|hz
     ·have:t=[]:=bU.1 (by omega);subst this;simp at h;exact absurd hc h
     ·refine ih t ht ?_ hz;rw[az,b8 (by omega),←az] at h;exact h
    ·rw[aJ hc];simp
 exact key _ l rfl h h0
theorem Hi (l:List Nat):(strip l).length≤l.length:=by unfold strip;rw[List.length_reverse];refine aF (List.Sublist.length_le (List.dropWhile_sublist _)) ?_;simp
theorem ui (l:List UInt8):bl ⟨l.toArray⟩=l.map UInt8.toNat:=by unfold bl;simp
def Top (u:Nat) (p:Int):Prop:=cN 1 (p-1)≤V u*cC (p-1)∧V u*cC p<cN 1 p
theorem JA {u:Nat} {p q:Int} (h1:V u*cC p<cN 1 p) (h2:cN 1 q≤V u*cC q):q<p:=by
 by_cases hh:q<p
 ·exact hh
 ·exfalso
  obtain⟨j,hj⟩:∃ j:Nat,q=p+j:=⟨(q-p).toNat,by omega⟩;subst hj;have hs:=mr 1 j p;have d1:=gr p;have d2:=gr (p+j);have hm:cN 1 p≤cN (1*10 ^ j) p:=tq p (by have:=bf (n:=j) (show 0<10 by decide);omega);have a1:V u*cC p*cC (p+j)<cN (1*10 ^ j) p*cC (p+j):=bq (aP h1 hm) d2;have a2:cN 1 (p+j)*cC p≤V u*cC (p+j)*cC p:=aI _ h2;rw[hs] at a1;have e:V u*cC p*cC (p+j)=V u*cC (p+j)*cC p:=by rw[aA,aA,aK (cC p)]
  omega
theorem Top.unique {u:Nat} {p q:Int} (h:Top u p) (g:Top u q):p=q:=by have a:=JA h.2 g.1;have b:=JA g.2 h.1;omega
theorem rC {u D D':Nat} {q:Int} (h:gO u q D) (g:gO u q D'):D=D':=by
 have key:∀ {D D':Nat},gO u q D→gO u q D'→¬D<D':=fun {D D'} h g hh=>by have:=tq q (show D+1≤D' from hh);have:=h.2;have:=g.1;omega
 rcases fH D D' with hh|hh|hh
 ·exact(key h g hh).elim
 ·exact hh
 ·exact(key g h hh).elim
theorem Pk.unique {u L:Nat} {q:Int} {r r':Option Nat} (h:Pk u q L r) (g:Pk u q L r'):r=r':=by
 rcases h with⟨a,b,rfl⟩|⟨a,b,rfl⟩|⟨a,b,rfl⟩|⟨a,b,⟨c,rfl⟩|⟨c,rfl⟩⟩ <;>
 rcases g with⟨a',b',rfl⟩|⟨a',b',rfl⟩|⟨a',b',rfl⟩|⟨a',b',⟨c',rfl⟩|⟨c',rfl⟩⟩ <;>
 first|rfl|exact absurd a a'|exact absurd a' a|exact absurd b b'|exact absurd b' b|exact absurd c c'|exact absurd c' c
def Quiet (u:Nat) (p:Int) (k:Nat):Prop:=∀ j:Nat,1≤j→j<k→∃ L,gO u (p-j) L∧Pk u (p-j) L none
def Sh (u:Nat) (t:List Nat) (at_:Int):Prop:=∃ (p:Int) (k L D:Nat),1≤k∧Top u p∧Quiet u p k∧gO u (p-k) L∧Pk u (p-k) L (some D)∧t=strip (ddg D)∧at_=p+(ddg D).length-k
theorem Sh.unique {u:Nat} {t t':List Nat} {a a':Int} (h:Sh u t a) (g:Sh u t' a'):t=t'∧a=a':=by
 obtain⟨p,k,L,D,h1,h2,h3,h4,h5,rfl,rfl⟩:=h;obtain⟨p',k',L',D',g1,g2,g3,g4,g5,rfl,rfl⟩:=g;obtain rfl:=h2.unique g2
 have hk:k=k':=by
  rcases fH k k' with hh|hh|hh
  ·obtain⟨M,m1,m2⟩:=g3 k h1 hh;obtain rfl:=rC h4 m1
   cases h5.unique m2
  ·exact hh
  ·obtain⟨M,m1,m2⟩:=h3 k' g1 hh;obtain rfl:=rC g4 m1
   cases g5.unique m2
 subst hk;obtain rfl:=rC h4 g4;have:=h5.unique g5;simp only[fZ] at this;subst this;exact⟨rfl,rfl⟩
theorem iE {u L k:Nat} {p:Int} (ht:Top u p) (hf:gO u (p-k) L) (hk:1≤k):10 ^ (k-1)≤L∧L<10 ^ k:=by
 obtain⟨q,hq⟩:∃ q,p-k=q:=⟨_,rfl⟩;rw[hq] at hf;obtain⟨t1,t2⟩:=ht;have d0:=gr q;constructor
 ·by_cases hh:10 ^ (k-1)≤L
  ·exact hh
  ·exfalso
   have hs:=mr 1 (k-1) q;rw[show q+((k-1:Nat):Int)=p-1 by omega,dv] at hs;have d1:=gr (p-1);have h1:cN (L+1) q≤cN (10 ^ (k-1)) q:=tq q (by omega);have a1:V u*cC q*cC (p-1)<cN (10 ^ (k-1)) q*cC (p-1):=bq (aP hf.2 h1) d1;have a2:cN 1 (p-1)*cC q≤V u*cC (p-1)*cC q:=aI _ t1;have e:V u*cC q*cC (p-1)=V u*cC (p-1)*cC q:=by rw[aA,aA,aK (cC q)]
   omega
 ·by_cases hh:L<10 ^ k
  ·exact hh
  ·exfalso
   have hs:=mr 1 k q;rw[show q+(k:Int)=p by omega,dv] at hs;have d1:=gr p;have h1:cN (10 ^ k) q≤cN L q:=tq q (by omega);have a1:cN (10 ^ k) q*cC p≤V u*cC q*cC p:=aI _ (aF h1 hf.1);have a2:V u*cC p*cC q<cN 1 p*cC q:=bq t2 d0;have e:V u*cC q*cC p=V u*cC p*cC q:=by rw[aA,aA,aK (cC q)]
   omega
theorem qX {u L D:Nat} {q:Int} (h:Pk u q L (some D)):D=L∨D=L+1:=by
 rcases h with⟨a,b,c⟩|⟨a,b,c⟩|⟨a,b,c⟩|⟨a,b,⟨c,d⟩|⟨c,d⟩⟩
 ·cases c
 ·simp at c;exact .inl c
 ·simp at c;exact .inr c
 ·simp at d;exact .inr d
 ·simp at d;exact .inl d
theorem yx {u:Nat} {p:Int} {k:Nat} (h0:0<u) (ht:Top u p) (hq:Quiet u p k):k≤17:=by
 by_cases hh:k≤17
 ·exact hh
 ·exfalso
  obtain⟨L,h1,h2⟩:=hq 17 (by omega) (by omega);have h3:=T7 h0 ht.1 h1
  rcases h2 with⟨a,b,_⟩|⟨_,_,c⟩|⟨_,_,c⟩|⟨_,_,⟨_,c⟩|⟨_,c⟩⟩
  ·rcases h3 with h3|h3
   ·exact a h3
   ·exact b h3
  all_goals cases c
theorem Quiet.next {u:Nat} {p:Int} {k L:Nat} (h:Quiet u p k) (hf:gO u (p-k) L) (hp:Pk u (p-k) L none):Quiet u p (k+1):=by
 intro j h1 h2
 by_cases hj:j<k
 ·exact h j h1 hj
 ·obtain rfl:j=k:=by omega
  exact⟨L,hf,hp⟩
def tT (d:List Nat) (p:Int):List Nat:=
 if p < -4∨17<p then
  (if 1<d.length then d.take 1++[46]++d.drop 1 else d)++[101,if p<1 then 45 else 43]++(if max (p-1) (1-p)<10 then [48] else [])++ddg (max (p-1) (1-p)).toNat
 else if p≤0 then [48,46]++List.replicate (-p).toNat 48++d
 else if d.length≤p then d++List.replicate (p-d.length).toNat 48
 else d.take p.toNat++[46]++d.drop p.toNat
def fG (x:Nat) (t:List Nat):Prop:=
 if cD<x % 9223372036854775808 then t=[110,97,110]
 else if x % 9223372036854775808=cD then t=(if 9223372036854775808≤x then [45] else [])++[105,110,102]
 else if x % 9223372036854775808=0 then t=(if 9223372036854775808≤x then [45] else [])++[48]
 else ∃ d p,Sh (x % 9223372036854775808) d p∧t=(if 9223372036854775808≤x then [45] else [])++tT d p
theorem fG.unique {x:Nat} {t t':List Nat} (h:fG x t) (g:fG x t'):t=t':=by
 unfold fG at h g
 split at h
 ·rename_i h1;rw[aQ h1] at g;rw[h,g]
 ·rename_i h1
  rw[aJ h1] at g
  split at h
  ·rename_i h2;rw[aQ h2] at g;rw[h,g]
  ·rename_i h2
   rw[aJ h2] at g
   split at h
   ·rename_i h3;rw[aQ h3] at g;rw[h,g]
   ·rename_i h3
    rw[aJ h3] at g;obtain⟨d,p,a,rfl⟩:=h;obtain⟨d',p',a',rfl⟩:=g;obtain⟨rfl,rfl⟩:=a.unique a';rfl
open Ieee
theorem Da {N D x:Nat} (hD:0<D) (h:V x*D=N):eZ N D x:=oG (by decide) hD (by rw[h,bB]) (rh rfl)
theorem Gn {s:Bool} {u m:Nat} {i:Int} (r:Reads s u m i) (h:0<u):0<m:=by
 rcases cV m with h1|h1
 ·have:=r.val;rw[h1,fO] at this;have:=zO u;omega
 ·exact h1
theorem Kw {s t:Bool} {u v:Nat} (hu:u<cD) (hv:v<cD) (h0:0<u) (h1:0<v):
  ∃ w,eZ (V u*V v) (2 ^ K74) w∧Ieee.double.mul (sgw s+u) (sgw t+v)=some (sgw (s ^^ t)+min w cD):=by
 obtain⟨m,i,r1⟩:=reads s u hu;obtain⟨n,j,r2⟩:=reads t v hv;have hm:=Gn r1 h0;have hn:=Gn r2 h1;obtain⟨w,hw,e⟩:=vt (s ^^ t) (m*n) (i+j) (df hm hn);refine⟨w,oG (bf (by decide)) (bf (by decide)) ?_ hw,?_⟩
 ·have k1:=r1.le;have k2:=r2.le;rw[←r1.val,←r2.val];have l1:m*n*2 ^ (i+j+1074).toNat*2 ^ K74=m*n*(2 ^ (i+j+1074).toNat*2 ^ K74):=aA _ _ _;have l2:m*2 ^ (i+1074).toNat*(n*2 ^ (j+1074).toNat)*2 ^ (-(i+j+1074)).toNat=m*n*(2 ^ (i+1074).toNat*2 ^ (j+1074).toNat*2 ^ (-(i+j+1074)).toNat):=by simp only[aA,aK,bH]
  rw[l1,l2,←aY,←aY,←aY,GC i j k1 k2 K74 nM]
 ·unfold Format.mul;rw[r1.read,r2.read];simp only[Datum.product,Option.map_some,Format.write,e]
theorem Aj {u v x:Nat} (hu:u<cD) (hv:v<cD) (hx:x<cD) (h0:0<u) (h1:0<v) (h:V u*V v=V x*2 ^ K74):Ieee.double.mul u v=some x:=by obtain⟨w,hw,e⟩:=Kw (s:=false) (t:=false) hu hv h0 h1;have hP:0<2 ^ K74:=bf (by decide);obtain rfl:=nh hP hw (Da hP h.symm);rw[dB (bW hx)] at e;simpa[sgw] using e
theorem Ef (X M:Nat) (e1:X % 9223372036854775808=X) (e2:X / 9223372036854775808 % 2=0) (e3:¬X<B) (e4:X<cD) (e5:B+X % B=M) (e6:X / B=1075) (hM:M<18446744073709551616):
  floatToIntVal .f64 X .u64=some (M:Int):=by
 have hr:Ieee.double.read X=.number false M 0:=by unfold Format.read;simp only[LQ,DO,GH,vJ,e1,e2,aJ e3,aQ e4,e5,e6];rfl
 have hd:(FloatKind.f64.decode X).toInt .zero=some (M:Int):=by
  show(Ieee.double.read X).toInt .zero=_
  rw[hr];simp[Datum.toInt,Datum.integral,Toward.cut,signed]
 unfold floatToIntVal;rw[hd];simp only;rw[aQ];have e1:IntKind.u64.min=0:=by decide
 have e2:IntKind.u64.max=18446744073709551615:=by decide
 rw[e1,e2];omega
theorem Hc (m X M:Nat) (h:m<4503599627370496) (hX:m+4841369599423283200=X) (hM:m+4503599627370496=M):floatToIntVal .f64 X .u64=some (M:Int):=by have hB:B=4503599627370496:=rfl;have hi:cD=9218868437227405312:=rfl;exact Ef X M (by omega) (by omega) (by omega) (by omega) (by rw[hB];omega) (by rw[hB];omega) (by omega)
def BJ (d:Int):Bool:=
 match Ieee.double.mul (floatOfInt .f64 d) 4599094494223104511 with
 | some x=>
  match FloatKind.f64.decode x with
  | .number s m i=>
   match floatToIntVal .f64 (FloatKind.f64.encode ((Datum.number s m i).integral .down)) .i64 with
   | some n=>decide (-500≤n) && decide (n≤500)
   | none=>false
  | _=>false
 | none=>false
def qz:Nat→Int→Bool
 | 0,_=>true
 | n+1,d=>BJ d && qz n (d+1)
theorem vD:∀ {n:Nat} {d:Int},qz n d=true→∀ i:Nat,i<n→BJ (d+i)=true
 | n+1,d,h,0,_=>by unfold qz at h;simp only[cQ] at h;simpa using h.1
 | n+1,d,h,i+1,hi=>by
  unfold qz at h;simp only[cQ] at h;have:=vD h.2 i (by omega)
  rwa [show d+((i+1:Nat):Int)=d+1+i by omega]
theorem Lw:qz 2201 (-1100)=true:=by decide +kernel
theorem IJ (d:Int) (h1:-1100≤d) (h2:d≤1100):∃ x s m i n,Ieee.double.mul (floatOfInt .f64 d) 4599094494223104511=some x∧FloatKind.f64.decode x=.number s m i∧
  floatToIntVal .f64 (FloatKind.f64.encode ((Datum.number s m i).integral .down)) .i64=some n∧-500≤n∧n≤500:=by
 have h:=vD Lw (d+1100).toNat (by omega);rw[show -1100+(((d+1100).toNat:Nat):Int)=d by omega] at h;unfold BJ at h
 split at h
 ·rename_i x hx
  split at h
  ·rename_i s m i hr
   split at h
   ·rename_i n hn
    simp only[cQ,dr] at h;exact⟨x,s,m,i,n,hx,hr,hn,h.1,h.2⟩
   ·cases h
  ·cases h
 ·cases h
def uO (u y:Nat) (e:Int):Prop:=B≤y∧y<cD∧V y=V u*2 ^ (-e).toNat∧(e=0∨e=-52∧y / 4503599627370496≤60)
theorem Vh:V 4841369599423283200=4503599627370496*2 ^ K74:=by decide +kernel
theorem Kp {u:Nat} (h0:0<u) (h:u<4503599627370496):∃ y,Ieee.double.mul u 4841369599423283200=some y∧uO u y (-52):=by
 have hl1:2 ^ u.log2≤u:=jg (by omega);have hl2:u<2 ^ (u.log2+1):=jf;have hB:(2:Nat) ^ 52=B:=rfl;have xh:B=4503599627370496:=rfl
 have hg:u.log2≤51:=by
  rcases dD 51 u.log2 with h3|h3
  ·have:2 ^ 52≤2 ^ u.log2:=aS (by decide) h3;omega
  ·exact h3
 generalize u.log2=g at *
 have b1:B≤u*2 ^ (52-g):=by
  have:2 ^ g*2 ^ (52-g)≤u*2 ^ (52-g):=aI _ hl1
  rwa [←aY,eB (by omega)] at this
 have b2:u*2 ^ (52-g)<2*B:=by have:u*2 ^ (52-g)<2 ^ (g+1)*2 ^ (52-g):=bq hl2 (bf (by decide));rw[←aY,show g+1+(52-g)=53 by omega] at this;exact this
 have hV:V (g*B+u*2 ^ (52-g))=u*4503599627370496:=by rw[rL _ _ b1 b2,aA,←aY,show 52-g+g=52 by omega]
 have b3:g*B≤51*B:=aI _ hg;have hi:cD=9218868437227405312:=rfl;have hy:g*B+u*2 ^ (52-g)<cD:=by omega
 refine⟨g*B+u*2 ^ (52-g),Aj (by omega) (by decide) hy h0 (by decide) ?_,by omega,hy,?_,.inr ⟨rfl,by omega⟩⟩
 ·rw[hV,Vh,mR (by omega),aA]
 ·rw[hV,mR (by omega)];rfl
theorem Ih {u:Nat} (h:4503599627370496≤u) (hi:u<cD):uO u u 0:=⟨h,hi,by simp,.inl rfl⟩
theorem GS {y:Nat} (h:B≤y):V y=(y % 4503599627370496+4503599627370496)*2 ^ (y / 4503599627370496-1):=by have hB:B=4503599627370496:=rfl;unfold V;rw[aJ (by omega),hB,jC 4503599627370496]
def frE (y:Nat) (e:Int):Int:=e+(y / 4503599627370496:Nat)-1022
theorem Sg {u y:Nat} {e:Int} (h:uO u y e):-1074≤frE y e∧frE y e≤1024∧(frE y e<53∨e=0):=by obtain⟨h1,h2,_,h4⟩:=h;have hB:B=4503599627370496:=rfl;have hi:cD=9218868437227405312:=rfl;unfold frE;omega
theorem Lz {u y:Nat} {e:Int} (h:uO u y e) {k:Nat} (hk:frE y e=53+k):(y % 4503599627370496+4503599627370496)*2 ^ k*2 ^ K74=V u*1:=by
 obtain⟨h1,h2,h3,h4⟩:=h;have hB:B=4503599627370496:=rfl;have hi:cD=9218868437227405312:=rfl;have hK:=nM;unfold frE at hk;obtain rfl:e=0:=by omega
 rw[GS h1,show(-(0:Int)).toNat=0 from rfl,Nat.pow_zero] at h3;rw[←h3,aA,←aY]
 congr 2
 omega
theorem Fi {u y:Nat} {e:Int} (h:uO u y e) {k:Nat} (hk:frE y e+k=53):(y % 4503599627370496+4503599627370496)*2 ^ K74=V u*(1*2 ^ k):=by
 obtain⟨h1,h2,h3,h4⟩:=h;have hB:B=4503599627370496:=rfl;have hi:cD=9218868437227405312:=rfl;have hK:=nM;unfold frE at hk;rw[GS h1] at h3;obtain⟨j,hj⟩:∃ j,k=(-e).toNat+j:=⟨k-(-e).toNat,by omega⟩;rw[hj,dv,aY,←aA,←h3,aA,←aY]
 congr 2
 omega
theorem T8:V 4607182418800017408=1*2 ^ K74:=by decide +kernel
theorem Im {z:Nat} (h0:0<z) (hz:z<cD):Ieee.double.mul 4607182418800017408 z=some z:=Aj (by decide) hz hz (by decide) h0 (by rw[T8,dv,aK])
theorem Jp (X:Nat) (hX:X<9223372036854775808):bits BinOp.andNot IntKind.u64 (X:Int) 9218868437227405312=((X % 4503599627370496:Nat):Int):=by
 have h:=si X 9218868437227405312 (by omega) (by decide);have e:(18446744073709551615-9218868437227405312:Nat)=(2 ^ 63)||| (2 ^ 52-1):=by decide
 rw[e,qH,gD,show(2:Nat) ^ 63=9223372036854775808 by decide,BZ,show X / 9223372036854775808=0 by omega] at h;simpa using h
theorem Jo (c m:Nat) (hc:c % 4503599627370496=0) (hc2:c<18446744073709551616) (hm:m<4503599627370496):bits BinOp.or IntKind.u64 (m:Int) (c:Int)=((m+c:Nat):Int):=by have h:=mu m c (by omega) hc2;rw[s9,nat_join52 c m hc hm,jC] at h;exact h
theorem G9 (q:Nat) (hq:q<2048):bits BinOp.and IntKind.u64 (q:Int) 2047=(q:Int):=by have h:=mW q 2047 (by omega) (by decide);rw[nat_mask11,ej hq] at h;exact h
theorem IB (q:Nat) (hq:q<2048):bits BinOp.and IntKind.i64 (q:Int) 2047=(q:Int):=by
 show IntKind.i64.wrap ((BitVec.ofInt 64 (q:Int) &&& BitVec.ofInt 64 2047).toNat:Int)=_
 have e:(BitVec.ofInt 64 (2047:Int)).toNat=2047:=by decide
 rw[BitVec.toNat_and,ofInt_u64 q (by omega),e,nat_mask11,ej hq,kt _ (by omega)]
theorem Wt (X:Nat) (hX:X<18446744073709551616):bits BinOp.andNot IntKind.u64 (X:Int) 9223372036854775808=((X % 9223372036854775808:Nat):Int):=by
 have h:=si X 9223372036854775808 hX (by decide);have e:(18446744073709551615-9223372036854775808:Nat)=2 ^ 63-1:=by decide
 rw[e,gD] at h;exact h
theorem kC (a:Nat) (w:World):(callFunc 46 #[.float .f64 a]).run Tryz.prog w=.ok (.value (.int .u64 a)) w:=by kernel_rfl
theorem xS (a:Int) (w:World):(callFunc 24 #[.int .u64 a]).run Tryz.prog w=.ok (.value (.float .f64 a.toNat)) w:=by kernel_rfl
theorem NO (s:Bool) (u:Nat) (h:u<9223372036854775808):Op.negFloat .f64 (sgw s+u)=sgw (!s)+u:=by
 have key:u ^^^ 9223372036854775808=9223372036854775808+u:=by
  have ha:u &&& 9223372036854775808=0:=by
   rw[BZ];have:u / 9223372036854775808=0:=by omega
   rw[this]
  have hx:u ^^^ 9223372036854775808=u ||| 9223372036854775808:=by
   apply nB
   intro i;have h1:(u &&& 9223372036854775808).testBit i=false:=by rw[ha];simp
   rw[lh] at h1;rw[k8,oV]
   cases hA:u.testBit i<;>cases hB:Nat.testBit 9223372036854775808 i<;>simp_all
  rw[hx,s9,oH 63 9223372036854775808 u (by decide) (by omega)]
 show(sgw s+u) ^^^ 9223372036854775808=sgw (!s)+u
 cases s
 ·show(0+u) ^^^ _=9223372036854775808+u
  rw[bD,key]
 ·show(9223372036854775808+u) ^^^ _=0+u
  rw[←key,Nat.xor_assoc,Nat.xor_self,Nat.xor_zero,bD]
theorem oD (s:Bool):Ieee.double.read (sgw s+cD)=.infinity s:=by cases s<;>decide +kernel
theorem JY (s:Bool) (u:Nat) (h1:cD<u) (h2:u<9223372036854775808):∃ a b,Ieee.double.read (sgw s+u)=.nan a b:=by
 have hi:cD=9218868437227405312:=rfl;have hB:B=4503599627370496:=rfl;have e1:(sgw s+u) % 9223372036854775808=u:=by cases s<;>simp[sgw]<;>omega
 unfold Format.read;simp only[LQ,DO,GH,vJ,e1];rw[aJ (by omega),aJ (by omega),aJ (by omega)];exact⟨_,_,rfl⟩
theorem C3 (s:Bool) (u:Nat) (h:u≤cD):Ieee.double.order (sgw s+u) (sgw s+u)=some .eq:=by
 rcases dY h with h1|h1
 ·rw[kA s s u u h1 h1];simp
 ·subst h1;unfold Format.order;rw[oD];simp[Datum.order]
theorem Gi (s:Bool) (u v:Nat) (h1:cD<u) (h2:u<9223372036854775808):Ieee.double.order (sgw s+u) v=none:=by obtain⟨a,b,e⟩:=JY s u h1 h2;unfold Format.order;rw[e];simp[Datum.order]
theorem Bl (s:Bool) (u:Nat) (h:u≤cD):∃ o,Ieee.double.order (sgw s+u) 9218868437227405311=some o∧(o=.gt↔s=false∧u=cD):=by
 have hm:(9218868437227405311:Nat)=sgw false+(cD-1):=by decide
 rcases dY h with h1|h1
 ·have hv:=kA s false u (cD-1) h1 (by decide);rw[←hm] at hv;refine⟨_,hv,?_⟩;have hle:V u≤V (cD-1):=zN (by omega);rw[iN];simp only[sI];constructor
  ·intro hh
   cases s<;>simp at hh<;>omega
  ·rintro⟨_,e⟩;omega
 ·subst h1;obtain⟨m,i,r⟩:=reads false (cD-1) (by decide);have hr:=r.read;rw[←hm] at hr;unfold Format.order;rw[oD,hr];refine⟨_,rfl,?_⟩;cases s<;>simp
theorem Kl (s:Bool) (u:Nat) (h:u<cD):∃ o,Ieee.double.order (sgw s+u) 0=some o∧(o=.eq↔u=0)∧(o=.lt↔s=true∧0<u):=by
 have hv:=kA s false u 0 h (by decide);rw[show sgw false+0=0 from rfl] at hv;refine⟨_,hv,?_,?_⟩
 ·rw[Int.compare_eq_eq,rK];have hg:=zO u;have hz:u=0→V u=0:=fun e=>by rw[e];exact rK
  cases s<;>simp[sI]<;>omega
 ·rw[iM,rK];have hg:=zO u;have hz:u=0→V u=0:=fun e=>by rw[e];exact rK
  cases s<;>simp[sI]<;>omega
theorem wI (x:Nat) (b:Bool) (w:World) (h:(FloatKind.f64.format.order x x != some .eq)=b):
  Calls Tryz.prog 68 #[.float .f64 x] w fun e w'=>e=.returned (.bool b)∧w=w':=by
 have H:=aj h;clear h;go_enter Tryz.func68,Tryz.ntmps68
 go_wp2_with fail
 go_ret;exact⟨by rw[←H.out];rfl,rfl⟩
theorem OL (s:Bool) (u:Nat) (w:World) (h:u<9223372036854775808):
  Calls Tryz.prog 115 #[.float .f64 (sgw s+u)] w fun e w'=>e=.returned (.float .f64 u)∧w=w':=by
 have hz:=Wt (sgw s+u) (by cases s<;>simp[sgw]<;>omega);rw[show(sgw s+u) % 9223372036854775808=u by cases s<;>simp[sgw]<;>omega] at hz;have hb:=kC (sgw s+u);have hf:=xS;obtain⟨x,hx⟩:∃ x,sgw s+u=x:=⟨_,rfl⟩;rw[hx] at hz hb ⊢;clear hx h;go_enter Tryz.func115,Tryz.ntmps115
 go_wp2_with fail
 go_ret;exact⟨by simp,rfl⟩
theorem wJ (s:Bool) (u:Nat) (k:Int) (b:Bool) (w:World) (h:u≤cD) (hk:k=1∨k=-1∨k=0) (hb:b=decide (u=cD∧(k=1→s=false)∧(k=-1→s=true))):
  Calls Tryz.prog 112 #[.float .f64 (sgw s+u),.int .i64 k] w fun e w'=>e=.returned (.bool b)∧w=w':=by
 have hu:u<9223372036854775808:=cE h (by decide)
 rcases hk with rfl|rfl|rfl
 ·obtain⟨o,ho,hg⟩:=Bl s u h;have ho':FloatKind.f64.format.order (sgw s+u) 9218868437227405311=some o:=ho;have vC:Hid (b=(o == .gt)):=aj (by rw[hb,eL];simp[hg];exact And.comm);obtain⟨x,hx⟩:∃ x,sgw s+u=x:=⟨_,rfl⟩;rw[hx] at ho' ⊢;clear hx h hb ho hg
  rcases o with _|_|_
  all_goals
   go_enter Tryz.func112,Tryz.ntmps112
   go_wp2_with fail
   go_ret;exact⟨by rw[vC.out];rfl,rfl⟩
 ·obtain⟨o,ho,hg⟩:=Bl (!s) u h;have ho':FloatKind.f64.format.order (sgw (!s)+u) 9218868437227405311=some o:=ho;have vC:Hid (b=(o == .gt)):=aj (by rw[hb,eL];simp[hg];exact And.comm);have hn:=NO s u hu;obtain⟨x,hx⟩:∃ x,sgw s+u=x:=⟨_,rfl⟩;obtain⟨y,hy⟩:∃ x,sgw (!s)+u=x:=⟨_,rfl⟩;rw[hy] at ho' hn;rw[hx] at hn ⊢;clear hx hy h hb ho hg
  rcases o with _|_|_
  all_goals
   go_enter Tryz.func112,Tryz.ntmps112
   go_wp2_with fail
   go_ret;exact⟨by rw[vC.out];rfl,rfl⟩
 ·obtain⟨o,ho,hg⟩:=Bl false u h;rw[show sgw false+u=u from bD u] at ho;have ho':FloatKind.f64.format.order u 9218868437227405311=some o:=ho;have vC:Hid (b=(o == .gt)):=aj (by rw[hb,eL];simp[hg]);have ca:=OL s u w hu;obtain⟨x,hx⟩:∃ x,sgw s+u=x:=⟨_,rfl⟩;rw[hx] at ca ⊢;clear hx h hb ho hg
  rcases o with _|_|_
  all_goals
   go_enter Tryz.func112,Tryz.ntmps112
   go_wp2_with fail
   refine ca.mono ?_;rintro e w' ⟨rfl,rfl⟩;go_wp2_with fail
   go_ret;exact⟨by rw[vC.out];rfl,rfl⟩
theorem JK (s:Bool) (u:Nat) (w:World) (h:u<9223372036854775808):
  Calls Tryz.prog 113 #[.float .f64 (sgw s+u)] w fun e w'=>e=.returned (.bool s)∧w=w':=by
 have hb:=kC (sgw s+u);cases s
 ·have hx:sgw false+u=u:=bD u;rw[hx] at hb ⊢;clear hx;go_enter Tryz.func113,Tryz.ntmps113
  go_wp2_with fail
  go_ret;exact⟨rfl,rfl⟩
 ·obtain⟨x,hx⟩:∃ x,sgw true+u=x:=⟨_,rfl⟩;have h1:9223372036854775808≤x:=by rw[←hx];simp[sgw]
  have h2:x<18446744073709551616:=by rw[←hx];simp[sgw];omega
  rw[hx] at hb ⊢;have hw:wrap64 (x:Int)<0:=by unfold wrap64;omega
  clear hx;go_enter Tryz.func113,Tryz.ntmps113
  go_wp2_with fail
  go_ret;exact⟨rfl,rfl⟩
end fl
end Go.Proofs.YthpdlidbaojlbaaGreatDoor
