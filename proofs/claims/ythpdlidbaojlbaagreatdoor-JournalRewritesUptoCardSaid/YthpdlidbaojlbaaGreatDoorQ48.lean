/- jw.card: JournalRewrites holds (Upto form, a tied card): Rewrite of any values, spoilt twins and all, tells what the document tells. Conditions: the values' bulk is at most 2^20, as the given row says. -/
import Derived.Test.YthpdlidbaojlbaaGreatDoorRows
import Derived.Test.YthpdlidbaojlbaaGreatDoorChecked
import Derived.Test.YthpdlidbaojlbaaGreatDoorQ47
import Derived.Test.YthpdlidbaojlbaaGreatDoorTie
import Derived.Test.YthpdlidbaojlbaaGreatDoorCards
set_option linter.unusedVariables false
set_option linter.unusedSimpArgs false
set_option maxHeartbeats 4000000
open Go.ChangeShapes Go.WideShapes Go.ChangeAt Go.RowKit
namespace Go.Proofs.YthpdlidbaojlbaaGreatDoor
namespace jw
open Go.Deep
open ks (af ae)
section
variable {H:Type} {enc:TypeId×Value→H} {P:Program} {w:World} {base:Nat} {spare:Nat→Bool} {held:Bool}
theorem pF {t e:TypeId} {fs:Array Field} {fuel:Nat} {cs:List Value} {x:DataW H×List MemPlace} (ht:P.underlying t=some (.slice e)) (he:P.underlying e=some (.struct fs))
  (hone:∀ (i:Nat) (f:Field),fs[i]?=some f→f.offset=i∧P.cellsOf f.type=1) (hC:P.cellsOf e=fs.size) (h:DataW.trod enc P w base spare held fuel t cs=some x):
  (cs=[.slice none 0 0]∧x=(.nil,[]))∨
  ∃ (a:Addr) (len cap n:Nat) (V:Nat→Nat→Value) (Y:Nat→Nat→DataW H×List MemPlace) (sp:List (DataW H)) (pl:List MemPlace),cs=[.slice (some a) len cap]∧len≤cap∧cap≤maxLen∧
   x=(.slice ((List.range len).map fun i=>.agg ((List.range fs.size).map fun j=>(Y i j).1)) sp,pl)∧
   ∀ i,i<len→∀ (j:Nat) (f:Field),fs[j]?=some f→w.cell? (a.add (i*fs.size+j))=some (V i j)∧DataW.trod enc P w base spare held n f.type [V i j]=some (Y i j):=by
 rcases open_slice ht h with h0|⟨a,len,cap,m,n,D,Pl,rfl,hb,hl,hm,hmm,rfl,hx⟩
 ·exact Or.inl h0
 right
 have hlm:len≤m:=by rw[hmm];split<;>omega
 have each:∀ i,i<len→∃ q:(Nat→Value)×(Nat→DataW H×List MemPlace),D i=.agg ((List.range fs.size).map fun j=>(q.2 j).1)∧∀ (j:Nat) (f:Field),fs[j]?=some f→
   w.cell? (a.add (i*fs.size+j))=some (q.1 j)∧DataW.trod enc P w base spare held (n-1) f.type [q.1 j]=some (q.2 j):=by
  intro i hi;obtain⟨cs',h1,h2⟩:=hx i (by omega);rw[hC] at h1;obtain⟨_,hlen,hcell⟩:=World.cells?_some h1;obtain⟨xs,k,hk,hxy,_,hxl,hf⟩:=DataW.trod_struct he h2;have hk':k=n-1:=by omega
  subst hk';simp only[Prod.mk.injEq] at hxy;refine⟨(fun j=>cs'.getD j undef,fun j=>xs.getD j (.nil,[])),?_,fun j f hj=>?_⟩
  ·rw[hxy.1,map_by_index xs (.nil,[]) (·.1),hxl]
  ·have hlt:j<fs.size:=(kx.1 hj).1;obtain⟨ho,hc1⟩:=hone j f hj;have g:=hf j f hj;rw[ho,hc1,take1_drop cs' j undef (by omega),ag (by omega)] at g;constructor
   ·have h3:=hcell j hlt;rw[add_add,ag (by omega)] at h3;rw[h3];simp[List.getD,ag (show j<cs'.length by omega)]
   ·rw[g];simp[List.getD,ag (show j<xs.length by omega)]
 obtain⟨q,hq⟩:=choose_lt each;refine⟨a,len,cap,n-1,fun i=>(q i).1,fun i=>(q i).2,(List.range (m-len)).map (fun j=>D (len+j)),MemPlace.row a (m*P.cellsOf e)++(List.range m).flatMap Pl,rfl,hl,hm,?_,fun i hi j f hj=>(hq i hi).2 j f hj⟩;rw[nT (fun i hi=>(hq i (l8.1 hi)).1)]
theorem xN {α:Type} {IM:α→List Value} {k:Nat} (hk:0<k) {a:Addr} {len cap:Nat} {l:List α} (hlen:l.length=len) (hl:len≤cap) (hm:cap≤maxLen) (henc:∀ x,(IM x).length=k)
  (h:∀ i x,l[i]?=some x→∀ j u,(IM x)[j]?=some u→w.cell? (a.add (i*k+j))=some u):eh IM k w (.slice (some a) len cap) l:=by
 refine⟨some a,cap,by rw[hlen],by omega,hm,(fun h0=>by cases h0),fun h0=>?_⟩;obtain⟨b,off,spot⟩:=a;obtain⟨x,hx⟩:∃ x,l[0]?=some x:=⟨_,ag h0⟩;obtain⟨u,hu⟩:∃ u,(IM x)[0]?=some u:=⟨_,ag (by rw[henc];exact hk)⟩;have hc:=h 0 _ hx 0 u hu;have:spot=none:=by simpa[Addr.add] using World.cell?_spot hc
 subst this;refine⟨b,off,rfl,fun i x hi j u hu=>?_⟩;have hc:=h i x hi j u hu;have hadd:(⟨b,off,none⟩:Addr).add (i*k+j)=⟨b,off+i*k+j,none⟩:=by unfold Addr.add;split<;>simp_all [fW]
 rw[hadd] at hc;exact hc
theorem vd {α:Type} (IM:α→List Value) (k:Nat):eh IM k w (.slice none 0 0) ([]:List α):=⟨none,0,rfl,aq _,by simp,fun _=>rfl,fun h=>by simp at h⟩
theorem xq {α:Type} (f:α→DataW H) (g:α→Nat) (h:∀ x,g x≤Rows.uptoBulk (f x)):∀ l:List α,(l.map g).sum≤Rows.uptoBulkAll (l.map f)
 | []=>by simp
 | x::l=>by have:=h x;have:=xq f g h l;simp only[bP,List.sum_cons,Rows.uptoBulkAll];omega
theorem IX (ss:List ByteArray):jH ss≤Rows.uptoBulkAll (strs (H:=H) ss):=xq _ _ (fun s=>by simp[Rows.uptoBulk]) ss
theorem oT (elems sp:List (DataW H)):Rows.uptoBulkAll elems≤Rows.uptoBulk (.slice elems sp):=by simp only[Rows.uptoBulk];omega
theorem Ag {e q:TypeId} {fuel:Nat} {v:Value} {x:DataW H×List MemPlace} (he:P.underlying e=some (.slice q)) (hq:P.underlying q=some .string) (cq:P.cellsOf q=1)
  (h:DataW.trod enc P w base (fun _=>true) held fuel e [v]=some x):∃ ss:List ByteArray,eh b9 1 w v ss∧jH ss≤Rows.uptoBulk x.1:=by
 rcases open_strings he hq cq h with⟨hcs,rfl⟩|⟨a,len,cap,ss,hcs,_,hl,hm,hz,rfl,hcell,hsz⟩
 ·simp at hcs;subst hcs;exact⟨[],vd _ _,by simp[jH]⟩
 ·simp only[kY] at hz;simp at hcs;subst hcs;have hlt:(ss.take len).length=len:=by rw[aR];omega
  refine⟨ss.take len,xN (by decide) hlt hl hm (fun _=>rfl) (fun i s hi j u hu=>?_),aF (IX _) (oT _ _)⟩;have hil:i<len:=by have:=(au.1 hi).1;omega
  obtain⟨rfl,rfl⟩:j=0∧u=.string s:=by
   cases j with
   | zero=>simp[b9] at hu;exact⟨rfl,hu.symm⟩
   | succ j=>simp[b9] at hu
  have:=hcell i (by omega);rw[bB,Nat.add_zero,this];rw[dP,aQ hil] at hi;rw[az,hi];rfl
theorem Ib {e q:TypeId} {fuel:Nat} {v:Value} {x:DataW H×List MemPlace} (he:P.underlying e=some (.slice q)) (hq:P.underlying q=some (.int .u64)) (cq:P.cellsOf q=1)
  (h:DataW.trod enc P w base (fun _=>true) held fuel e [v]=some x):∃ bs:List Nat,eh On 1 w v bs∧(∀ b∈bs,b<18446744073709551616)∧bs.length≤Rows.uptoBulk x.1:=by
 rcases open_ints he hq cq h with⟨hcs,rfl⟩|⟨a,len,cap,zs,hcs,_,hl,hm,hz,rfl,hcell,hwf⟩
 ·simp at hcs;subst hcs;exact⟨[],vd _ _,by simp,by simp⟩
 ·simp only[kY] at hz;simp at hcs;subst hcs;have hlt:((zs.take len).map Int.toNat).length=len:=by rw[aU,aR];omega
  have hb:∀ z∈zs,0≤z∧z<18446744073709551616:=fun z hz=>by have:=hwf z hz;simp[Lit.wf,IntKind.min,IntKind.max,IntKind.signed,IntKind.bits] at this;omega
  refine⟨(zs.take len).map Int.toNat,xN (by decide) hlt hl hm (fun _=>rfl) (fun i s hi j u hu=>?_),fun b hbm=>?_,?_⟩
  ·have hil:i<len:=by have:=(au.1 hi).1;omega
   obtain⟨rfl,rfl⟩:j=0∧u=.int .u64 (s:Int):=by
    cases j with
    | zero=>simp[On] at hu;exact⟨rfl,hu.symm⟩
    | succ j=>simp[On] at hu
   have hc:=hcell i (by omega);rw[bB,Nat.add_zero,hc];rw[bK,dP,aQ hil,lY] at hi;obtain⟨z,hz2,rfl⟩:=hi;have h0:=hb z (aB hz2);rw[az,hz2];simp only[Option.getD_some];rw[Int.toNat_of_nonneg h0.1]
  ·obtain⟨z,hz2,rfl⟩:=aV.1 hbm;have:=hb z (gL hz2);omega
  ·refine aF ?_ (oT _ _)
   have h1:∀ l:List Int,l.length≤Rows.uptoBulkAll (lits (H:=H) .u64 l):=fun l=>by
    induction l with
    | nil=>simp
    | cons x l ih=>unfold lits at ih ⊢;simp only[bP,List.length_cons,Rows.uptoBulkAll,Rows.uptoBulk];omega
   have h2:=h1 (zs.take len);rw[aU];exact h2
end
theorem EC (d:Ca):(kX d).map (fun x=>x.1)=d.lN:=by
 unfold kX;rw[kG]
 apply dG
 intro i
 by_cases h:i<d.lN.length
 ·simp[h,wv,az]
 ·simp[h]
end jw
namespace jw
open Go.Deep
open ks (af ae)
section
variable {H:Type} {enc:TypeId×Value→H} {w:World} {base:Nat} {held:Bool}
theorem Ic {fuel:Nat} {v:Value} {x:DataW H×List MemPlace} (h:DataW.trod enc Tryz.prog w base (fun _=>true) held fuel 33 [v]=some x):
  ∃ ps:List (ByteArray×ByteArray),eh gJ 2 w v ps∧jH (ps.map (fun x=>x.1))+jH (ps.map (fun x=>x.2))≤Rows.uptoBulk x.1:=by
 rcases pF Tryz.underlying33 Tryz.underlying51 (hone_of (by kernel_rfl)) (by kernel_rfl) h with⟨hcs,rfl⟩|⟨a,len,cap,n,V,Y,sp,pl,hcs,hl,hm,rfl,hx⟩
 ·simp at hcs;subst hcs;exact⟨[],vd _ _,by simp[jH]⟩
 ·simp at hcs;subst hcs
  have each:∀ i,i<len→∃ p:ByteArray×ByteArray,V i 0=.string p.1∧V i 1=.string p.2∧(Y i 0).1=.lit (.string p.1.data.toList)∧(Y i 1).1=.lit (.string p.2.data.toList):=by intro i hi;obtain⟨_,h0⟩:=hx i hi 0 _ rfl;obtain⟨_,h1⟩:=hx i hi 1 _ rfl;obtain⟨s0,e0,y0,_⟩:=mb Tryz.underlying9 h0;obtain⟨s1,e1,y1,_⟩:=mb Tryz.underlying9 h1;exact⟨(s0,s1),by simpa using e0,by simpa using e1,by rw[y0],by rw[y1]⟩
  obtain⟨p,hp⟩:=choose_lt each;refine⟨(List.range len).map p,xN (by decide) (by simp) hl hm (fun _=>rfl) (fun i s hi j u hu=>?_),?_⟩
  ·have hil:i<len:=by have:=(au.1 hi).1;simpa using this
   have hs:p i=s:=by simpa[hil] using hi
   subst hs;obtain⟨p0,p1,_,_⟩:=hp i hil
   rcases j with _|_|j
   ·simp[gJ] at hu;rw[←hu,←p0];exact(hx i hil 0 _ rfl).1
   ·simp[gJ] at hu;rw[←hu,←p1];exact(hx i hil 1 _ rfl).1
   ·simp[gJ] at hu
  ·refine aF ?_ (oT _ _)
   have key:∀ l:List Nat,(∀ i∈l,i<len)→jH ((l.map p).map (fun x=>x.1))+jH ((l.map p).map (fun x=>x.2))≤Rows.uptoBulkAll (l.map fun i=>DataW.agg ((List.range 2).map fun j=>(Y i j).1)):=by
    intro l
    induction l with
    | nil=>intro _;simp[jH]
    | cons i l ih=>
     intro hi;have h1:=ih (fun j hj=>hi j (by simp[hj]));obtain⟨_,_,y0,y1⟩:=hp i (hi i (by simp));simp only[bP,Fx,Rows.uptoBulkAll]
     have h2:(p i).1.size+1+((p i).2.size+1)≤Rows.uptoBulk (DataW.agg ((List.range 2).map fun j=>(Y i j).1)):=by simp[rW,Rows.uptoBulk,Rows.uptoBulkAll,y0,y1]
     omega
   exact key _ (fun i hi=>l8.1 hi)
instance:Inhabited VE:=⟨⟨⟨ByteArray.empty,0,0,ByteArray.empty,[],[],[],[]⟩,.slice none 0 0,.slice none 0 0,.slice none 0 0,.slice none 0 0⟩⟩
theorem Ia {fuel:Nat} {v:Value} {x:DataW H×List MemPlace} (h:DataW.trod enc Tryz.prog w base (fun _=>true) held fuel 22 [v]=some x):
  ∃ l:List VE,AH w v l∧(∀ e∈l,DW e.d∧e.d.bits.length≤Rows.uptoBulk x.1)∧jc (l.map (fun e=>eG e.d))≤Rows.uptoBulk x.1:=by
 rcases pF Tryz.underlying22 Tryz.underlying42 (hone_of (by kernel_rfl)) (by kernel_rfl) h with⟨hcs,rfl⟩|⟨a,len,cap,n,V,Y,sp,pl,hcs,hl,hm,rfl,hx⟩
 ·simp at hcs;subst hcs;exact⟨[],⟨vd _ _,by simp⟩,by simp,by simp[jc]⟩
 ·simp at hcs;subst hcs
  have each:∀ i,i<len→∃ e:VE,(∀ j u,(sQ e)[j]?=some u→V i j=u)∧I5 w e∧DW e.d∧e.d.bits.length+sV (eG e.d)≤Rows.uptoBulk (DataW.agg ((List.range 8).map fun j=>(Y i j).1)):=by
   intro i hi;obtain⟨_,h0⟩:=hx i hi 0 _ rfl;obtain⟨_,h1⟩:=hx i hi 1 _ rfl;obtain⟨_,h2⟩:=hx i hi 2 _ rfl;obtain⟨_,h3⟩:=hx i hi 3 _ rfl;obtain⟨_,h4⟩:=hx i hi 4 _ rfl;obtain⟨_,h5⟩:=hx i hi 5 _ rfl;obtain⟨_,h6⟩:=hx i hi 6 _ rfl;obtain⟨_,h7⟩:=hx i hi 7 _ rfl;obtain⟨key,e0,y0,_⟩:=mb Tryz.underlying9 h0;obtain⟨dl,e1,y1,wdl⟩:=tl Tryz.underlying2 h1;obtain⟨kd,e2,y2,_⟩:=tl Tryz.underlying3 h2;obtain⟨tx,e3,y3,_⟩:=mb Tryz.underlying9 h3;obtain⟨it,r4,b4⟩:=Ag Tryz.underlying32 Tryz.underlying9 (by kernel_rfl) h4;obtain⟨ps,r5,b5⟩:=Ic h5;obtain⟨ms,r6,b6⟩:=Ag Tryz.underlying32 Tryz.underlying9 (by kernel_rfl) h6;obtain⟨bs,r7,hbs,b7⟩:=Ib Tryz.underlying40 Tryz.underlying47 (by kernel_rfl) h7;simp only[List.cons.injEq,and_true] at e0 e1 e2 e3;refine⟨⟨⟨key,dl,kd,tx,it,ps,ms,bs⟩,V i 4,V i 5,V i 6,V i 7⟩,fun j u hu=>?_,⟨r4,r5,r6,r7⟩,⟨?_,hbs⟩,?_⟩
   ·simp only[sQ] at hu
    rcases j with _|_|_|_|_|_|_|_|j<;>simp at hu<;>first|exact hu|(rw[←hu];first|exact e0|exact e1|exact e2|exact e3)
   ·simp[Lit.wf,IntKind.min,IntKind.max,IntKind.signed,IntKind.bits] at wdl;simp only;omega
   ·have hrm:=EC ⟨key,dl,kd,tx,it,ps,ms,bs⟩;simp only at hrm;simp only[sV,eG,nQ,hrm];have hy0:Rows.uptoBulk (Y i 0).1=key.size+1:=by rw[y0];simp[Rows.uptoBulk]
    have hy3:Rows.uptoBulk (Y i 3).1=tx.size+1:=by rw[y3];simp[Rows.uptoBulk]
    have hag:Rows.uptoBulk (Y i 0).1+Rows.uptoBulk (Y i 3).1+Rows.uptoBulk (Y i 4).1+Rows.uptoBulk (Y i 5).1+Rows.uptoBulk (Y i 6).1+Rows.uptoBulk (Y i 7).1≤Rows.uptoBulk (DataW.agg ((List.range 8).map fun j=>(Y i j).1)):=by simp only[rW,List.range_zero,List.nil_append,List.cons_append,bP,jD,aZ,Rows.uptoBulk,Rows.uptoBulkAll];omega
    omega
  obtain⟨p,hp⟩:=choose_lt each
  have hall:∀ l:List Nat,(∀ i∈l,i<len)→jc ((l.map p).map (fun e=>eG e.d))≤Rows.uptoBulkAll (l.map fun i=>DataW.agg ((List.range 8).map fun j=>(Y i j).1))∧∀ i∈l,(p i).d.bits.length≤Rows.uptoBulkAll (l.map fun i=>DataW.agg ((List.range 8).map fun j=>(Y i j).1)):=by
   intro l
   induction l with
   | nil=>intro _;simp[jc]
   | cons i l ih=>
    intro hi;obtain⟨h1,h2⟩:=ih (fun j hj=>hi j (by simp[hj]));obtain⟨_,_,_,hb⟩:=hp i (hi i (by simp));simp only[bP,rH,Rows.uptoBulkAll];refine⟨by omega,fun j hj=>?_⟩
    rcases bM.1 hj with rfl|hj
    ·omega
    ·have:=h2 j hj;omega
  obtain⟨hb1,hb2⟩:=hall (List.range len) (fun i hi=>l8.1 hi);refine⟨(List.range len).map p,⟨xN (by decide) (by simp) hl hm (fun _=>rfl) (fun i s hi j u hu=>?_),fun e he=>?_⟩,fun e he=>?_,aF hb1 (oT _ _)⟩
  ·have hil:i<len:=by have:=(au.1 hi).1;simpa using this
   have hs:p i=s:=by simpa[hil] using hi
   subst hs;have h1:=(hp i hil).1 j u hu;rw[←h1];have hj:j<8:=by have:=(au.1 hu).1;simpa[sQ] using this
   rcases j with _|_|_|_|_|_|_|_|j
   ·exact(hx i hil 0 _ rfl).1
   ·exact(hx i hil 1 _ rfl).1
   ·exact(hx i hil 2 _ rfl).1
   ·exact(hx i hil 3 _ rfl).1
   ·exact(hx i hil 4 _ rfl).1
   ·exact(hx i hil 5 _ rfl).1
   ·exact(hx i hil 6 _ rfl).1
   ·exact(hx i hil 7 _ rfl).1
   ·omega
  ·obtain⟨i,hi,rfl⟩:=aV.1 he;exact(hp i (l8.1 hi)).2.1
  ·obtain⟨i,hi,rfl⟩:=aV.1 he;exact⟨(hp i (l8.1 hi)).2.2.1,aF (hb2 i hi) (oT _ _)⟩
end
end jw
namespace ks
theorem jf0:(Rows.journalRewritesUptoRow.wf (OpenSpec.ofChange (Rows.OpenSpec.upto Rows.journalRewritesSpec).bare):Bool)=true:=by kernel_rfl
theorem jf1:(laidOutB Tryz.prog:Bool)=true:=by kernel_rfl
theorem jf2:(mapsRowed Tryz.prog:Bool)=true:=by kernel_rfl
theorem jf3:(Tryz.f3.params.all (Tryz.prog.readableRec ·):Bool)=true:=by kernel_rfl
theorem jf4:(namedTie Tryz.prog Rows.journalRewritesUptoRow.named (Rows.OpenSpec.upto Rows.journalRewritesSpec).bare.vars:Bool)=true:=by kernel_rfl
theorem jf5:((Rows.journalRewritesUptoRow.stops == []):Bool)=true:=by kernel_rfl
theorem jf6:((Tryz.prog.stops == []):Bool)=true:=by kernel_rfl
theorem jf7:((Rows.journalRewritesUptoRow.knobs == []):Bool)=true:=by kernel_rfl
theorem jf8:((Tryz.prog.stopKnobs == []):Bool)=true:=by kernel_rfl
theorem jf9:((Rows.journalRewritesUptoRow.inPlace == Tryz.prog.inPlace 3):Bool)=true:=by kernel_rfl
theorem Xf:((Rows.journalRewritesUptoRow.unfollowed == Tryz.prog.unfollowed 3):Bool)=true:=by kernel_rfl
theorem Xe:((Rows.journalRewritesUptoRow.recurses == Tryz.prog.recurses 3):Bool)=true:=by kernel_rfl
theorem Xd:((Rows.journalRewritesUptoRow.named == Tryz.prog.varsNamed 3):Bool)=true:=by kernel_rfl
theorem Xc:((Rows.journalRewritesUptoRow.maps == (Tryz.f3.params.toList++(Rows.OpenSpec.upto Rows.journalRewritesSpec).bare.plain.varTypes Tryz.prog).any (Tryz.prog.mapsRec ·)):Bool)=true:=by kernel_rfl
theorem Xb:((Rows.journalRewritesUptoRow.ifaces == (Tryz.f3.params.toList++(Rows.OpenSpec.upto Rows.journalRewritesSpec).bare.plain.varTypes Tryz.prog).any (Tryz.prog.ifacesRec ·)):Bool)=true:=by kernel_rfl
theorem Xa:((Rows.journalRewritesUptoRow.mapsOut == Tryz.prog.mapsAmong Tryz.f3.resultTypes.toList):Bool)=true:=by kernel_rfl
theorem W9:((Rows.journalRewritesUptoRow.loops == (Tryz.f3.params.toList++(Rows.OpenSpec.upto Rows.journalRewritesSpec).bare.plain.varTypes Tryz.prog).any (Tryz.prog.loopsFrom ·)):Bool)=true:=by kernel_rfl
theorem W7:((Rows.journalRewritesUptoRow.wideKeys == (Tryz.f3.params.toList++(Rows.OpenSpec.upto Rows.journalRewritesSpec).bare.plain.varTypes Tryz.prog++Tryz.f3.resultTypes.toList).any (Tryz.prog.wideKeysFrom ·)):Bool)=true:=by kernel_rfl
theorem W6:((Rows.OpenSpec.upto Rows.journalRewritesSpec).bare.vars.all (Tryz.prog.varReadable ·):Bool)=true:=by kernel_rfl
theorem WZ:(Tryz.f3.resultTypes.all (fun t=>Tryz.prog.readableRec t && decide (t<Tryz.prog.types.size)):Bool)=true:=by kernel_rfl
theorem WY:((Rows.journalRewritesUptoRow.ifacesOut == Tryz.f3.resultTypes.toList.any (Tryz.prog.ifacesRec ·)):Bool)=true:=by kernel_rfl
theorem WX:((Rows.journalRewritesUptoRow.loopsOut == Tryz.f3.resultTypes.toList.any (Tryz.prog.loopsFrom ·)):Bool)=true:=by kernel_rfl
theorem WW:((Rows.journalRewritesUptoRow.plainKeys == Tryz.prog.plainKeys):Bool)=true:=by kernel_rfl
theorem WV:(Rows.journalRewritesUptoRow.shortTexts.isNone:Bool)=true:=by kernel_rfl
theorem WU:(Tryz.prog.stopsHeard:Bool)=true:=by kernel_rfl
theorem WT:(Tryz.prog.mayEnter:Bool)=true:=by kernel_rfl
theorem WS:((Rows.journalRewritesUptoRow.lifted == Tryz.prog.liftsFinal):Bool)=true:=by kernel_rfl
theorem WR:((Tryz.prog.make == some Rows.journalRewritesUptoRow.make):Bool)=true:=by kernel_rfl
theorem WQ:((Rows.journalRewritesUptoRow.pinned == Rows.journalRewritesUptoRow.pinnedBy):Bool)=true:=by kernel_rfl
theorem WO:((Rows.journalRewritesUptoRow.veiled == (Tryz.f3.params.toList++(Rows.OpenSpec.upto Rows.journalRewritesSpec).bare.plain.varTypes Tryz.prog++Tryz.f3.resultTypes.toList).any (Tryz.prog.veiledRec ·)):Bool)=true:=by kernel_rfl
theorem WN:(Rows.journalRewritesUptoRow.veiledFits Tryz.prog Tryz.f3.params.toList (Tryz.f3.params.toList++(Rows.OpenSpec.upto Rows.journalRewritesSpec).bare.plain.varTypes Tryz.prog++Tryz.f3.resultTypes.toList):Bool)=true:=by kernel_rfl
theorem Bu:joinedFacts Tryz.prog 3 Tryz.f3 (Rows.OpenSpec.upto Rows.journalRewritesSpec).bare Rows.journalRewritesUptoRow=true:=by unfold joinedFacts;rw[jf0,jf1,jf2,jf3,jf4,jf5,jf6,jf7,jf8,jf9,Xf,Xe,Xd,Xc,Xb,Xa,W9,W7,W6,WZ,WY,WX,WW,WV,WU,WT,WS,WR,WQ,WO,WN];simp only[qh,Bool.and_true];kernel_rfl
theorem Dk:Tryz.f3.isInstance Tryz.prog Rows.journalRewritesUptoRow.origin Rows.journalRewritesUptoRow.targs:=pG (by kernel_rfl)
theorem E9:Tryz.f3.isWrapper Tryz.prog Rows.journalRewritesUptoRow.wrapper Rows.journalRewritesUptoRow.mainSum:=by unfold Func.isWrapper;first|(rw[aQ (by decide +kernel)];kernel_rfl)|(rw[aJ (by decide +kernel)];exact⟨rfl,rfl⟩)
theorem yZ:Tryz.prog.funcNamed Rows.journalRewritesUptoRow.func=some 3:=by kernel_rfl
end ks
namespace fl
open Go.Lib
theorem my {P:Program} {w:World} {n:String} {d:DataW Unit} (h:VarReads P w n d) {g t:Nat} (hg:P.globalNamed n=some g) (ht:(P.globals[g]?).map (·.type)=some t):
  ∃ cs fuel p,w.var? P n=some cs∧DataW.trod (fun _=>()) P w 0 (fun _=>true) false fuel t cs.toList=some (d,p):=by
 obtain⟨g',t',cs,fuel,p,hg',ht',hv,hd⟩:=h;obtain rfl:=cK (hg.symm.trans hg');obtain rfl:=cK (ht.symm.trans ht');exact⟨cs,fuel,p,hv,hd⟩
section
variable {P:Program} {w:World} {sp:Nat→Bool} {held:Bool}
theorem Nf {fuel:Nat} {t:TypeId} {cs:List Value} {x:DataW Unit×List MemPlace} {k:FloatKind} (ht:P.underlying t=some (.float k)) (h:DataW.trod (fun _=>()) P w 0 sp held fuel t cs=some x):
  ∃ b,cs=[.float k b]∧x=(.lit (.float k b),[]):=by
 cases fuel with
 | zero=>simp[DataW.trod] at h
 | succ n=>
  unfold DataW.trod at h;rw[ht] at h
  split at h<;>simp_all
theorem fld {fuel:Nat} {t:TypeId} {cs:List Value} {ds:List (DataW Unit)} {p:List MemPlace} {fs:Array Field} (ht:P.underlying t=some (.struct fs)) (h:DataW.trod (fun _=>()) P w 0 sp held fuel t cs=some (.agg ds,p))
  (i:Nat) (f:Field) (hf:fs[i]?=some f) {k:IntKind} (hk:P.underlying f.type=some (.int k)) (hc:P.cellsOf f.type=1) {z:Int} (hz:ds[i]?=some (.lit (.int k z))):cs[f.offset]?=some (.int k z):=by
 obtain⟨xs,n,rfl,hx,hl,hxl,hfs⟩:=DataW.trod_struct ht h;have h0:=hfs i f hf;have e:=congrArg Prod.fst hx;simp only[DataW.agg.injEq] at e;subst e;rw[bK] at hz
 cases hb:xs[i]? with
 | none=>rw[hb] at hz;cases hz
 | some b=>rw[hb] at hz h0;simp only[Option.map_some,fZ] at hz;obtain⟨m,hm,rfl,_⟩:=tl hk h0;simp only[DataW.lit.injEq,Lit.int.injEq,yj] at hz;subst hz;rw[hc] at hm;have:=congrArg (·[0]?) hm;simpa[dP,fS] using this
end
theorem N0 {W:World} (h:VarReads Tryz.prog W "internal/strconv.float64info" Rows.laid_internal_strconv_float64info):W.cell? ⟨9,0,none⟩=some (.int .u64 52):=by obtain⟨cs,fuel,p,hv,hd⟩:=my h (g:=9) (t:=350) (by kernel_rfl) (by kernel_rfl);have h1:=fld Tryz.underlying350 hd 0 _ rfl (k:=.u64) (by kernel_rfl) (by kernel_rfl) (z:=52) rfl;rw[jI (by kernel_rfl) hv 0,←ff];exact h1
theorem Rf {W:World} (h:VarReads Tryz.prog W "internal/strconv.optimize" Rows.laid_internal_strconv_optimize):W.cell? ⟨8,0,none⟩=some (.bool true):=by
 obtain⟨cs,fuel,p,hv,hd⟩:=my h (g:=8) (t:=4) (by kernel_rfl) (by kernel_rfl);obtain⟨b,hb,hx⟩:=DataW.trod_bool Tryz.underlying4 hd;have e:=congrArg Prod.fst hx
 have e2:true=b:=by have:(DataW.lit (.bool true):DataW Unit)=.lit (.bool b):=e;simpa using this
 rw[jI (by kernel_rfl) hv 0,←ff,hb,←e2];rfl
theorem Qd {W:World} (h:VarReads Tryz.prog W "internal/strconv.pow10Tab" Rows.laid_internal_strconv_pow10Tab):P10 W:=by
 obtain⟨cs,fuel,p,hv,hd⟩:=my h (g:=15) (t:=389) (by kernel_rfl) (by kernel_rfl);obtain⟨xs,m,rfl,hx,hl,hxl,hel⟩:=DataW.trod_array Tryz.underlying389 hd
 have e:Go.Pinned.pow10Rows.map (fun x=>(DataW.agg [.lit (.int .u64 x.1),.lit (.int .u64 x.2)]:DataW Unit))=xs.map (·.1):=by have:=congrArg Prod.fst hx;have h2:(DataW.agg (Go.Pinned.pow10Rows.map (fun x=>(DataW.agg [.lit (.int .u64 x.1),.lit (.int .u64 x.2)]:DataW Unit))):DataW Unit)=.agg (xs.map (·.1)):=this;simpa only[DataW.agg.injEq] using h2
 have hc2:Tryz.prog.cellsOf 388=2:=by kernel_rfl
 intro i hi;have h1:=hel i hi;rw[hc2] at h1;have hb:∃ b,xs[i]?=some b:=⟨xs[i]'(by omega),ag (by omega)⟩;obtain⟨⟨bd,bp⟩,hb⟩:=hb
 have hr:Go.Pinned.pow10Rows[i]?=some (tHi i,tLo i):=by
  unfold tHi tLo;have:i<Go.Pinned.pow10Rows.length:=by rw[wY];exact hi
  rw[az,ag this];rfl
 have e2:=congrArg (·[i]?) e;simp only[bK,hr,hb,Option.map_some,fZ] at e2;rw[hb] at h1;subst e2;have f0:=fld Tryz.underlying388 h1 0 _ rfl (k:=.u64) (by kernel_rfl) (by kernel_rfl) (z:=(tHi i:Nat)) rfl;have f1:=fld Tryz.underlying388 h1 1 _ rfl (k:=.u64) (by kernel_rfl) (by kernel_rfl) (z:=(tLo i:Nat)) rfl;have c0:=jI (w:=W) (show Tryz.prog.globalNamed "internal/strconv.pow10Tab"=some 15 by kernel_rfl) hv (i*2);have c1:=jI (w:=W) (show Tryz.prog.globalNamed "internal/strconv.pow10Tab"=some 15 by kernel_rfl) hv (i*2+1);rw[←ff] at c0 c1;refine⟨c0.trans ?_,c1.trans ?_⟩
 ·have:(List.take 2 (List.drop (i*2) cs.toList))[0]?=some (.int .u64 (tHi i:Nat)):=f0;simpa[dP,fS] using this
 ·have:(List.take 2 (List.drop (i*2) cs.toList))[1]?=some (.int .u64 (tLo i:Nat)):=f1;simpa[dP,fS] using this
theorem Re {W:World} (h:VarReads Tryz.prog W "internal/strconv.float64pow10" Rows.laid_internal_strconv_float64pow10):
  ∃ g o,W.cell? ⟨14,0,none⟩=some (.slice (some ⟨g,o,none⟩) 23 23)∧∀ i,i≤22→W.cell? ⟨g,o+i,none⟩=some (.float .f64 (jt.getD i 0)):=by
 obtain⟨cs,fuel,p,hv,hd⟩:=my h (g:=14) (t:=385) (by kernel_rfl) (by kernel_rfl);have hdd:(Rows.laid_internal_strconv_float64pow10:DataW Unit)=.slice (jt.map fun b=>.lit (.float .f64 b)) []:=by rfl
 rw[hdd] at hd;have hc:Tryz.prog.cellsOf 52=1:=by kernel_rfl
 rcases DataW.trod_slice Tryz.underlying385 hd with⟨_,hx⟩|⟨a,len,cap,el,rs,m,rfl,hcs,hx,_,hlc,_,hel,helem,hsp,_⟩
 ·cases hx
 have e0:=congrArg Prod.fst hx;simp only[DataW.slice.injEq] at e0;obtain⟨eE,eR⟩:=e0
 have hlen:len=23:=by have:=congrArg List.length eE;simp only[aU] at this;rw[hel] at this;exact this.symm
 have hrs:rs.length=0:=by have:=congrArg List.length eR;simp only[aU,List.length_nil] at this;exact this.symm
 have hcap:cap=23:=by have:=(hsp rfl).1;omega
 have hcell:∀ i,i<23→W.cell? (a.add i)=some (.float .f64 (jt.getD i 0)):=by
  intro i hi;have h1:=helem i (by omega);rw[hc] at h1;obtain⟨b,hb⟩:∃ b,el[i]?=some b:=⟨el[i]'(by omega),ag (by omega)⟩;rw[hb] at h1;obtain⟨ce,hce,hte⟩:=Option.bind_eq_some_iff.1 h1;obtain⟨z,hz,hbz⟩:=Nf Tryz.underlying52 hte
  have hb1:b.1=.lit (.float .f64 (jt.getD i 0)):=by have:=congrArg (·[i]?) eE;have hl2:jt.length=23:=rfl;simp only[bK,hb,Option.map_some] at this;rw[ag (by omega)] at this;simp only[Option.map_some,fZ] at this;rw[az,ag (by omega)];exact this.symm
  rw[hbz] at hb1;simp only[DataW.lit.injEq,Lit.float.injEq,yj] at hb1;obtain⟨_,_,hcc⟩:=World.cells?_some hce;have:=hcc 0 (by omega);rw[hz] at this;simp only[bB] at this;have e1:(a.add i).add 0=a.add i:=by simp[Addr.add]
  rw[e1] at this;rw[this,←hb1];rfl
 obtain⟨R,o,sR⟩:=a
 obtain rfl:sR=none:=by
  have h00:=hcell 0 (by decide);have:(Addr.add ⟨R,o,sR⟩ 0)=⟨R,o,sR⟩:=by simp[Addr.add]
  rw[this] at h00;exact Go.Proofs.cell_spot h00
 refine⟨R,o,?_,fun j hj=>?_⟩
 ·rw[jI (by kernel_rfl) hv 0,←ff,hcs,hlen,hcap];rfl
 ·have:=hcell j (by omega)
  rwa [iO] at this
theorem U8 {W:World} {nm:String} {x:DataW Unit} (h:VarReads Tryz.prog W "strconv.ErrRange" (.iface nm x)):∃ ev,W.cell? ⟨6,0,none⟩=some ev∧(ev=.nilIface∨∃ te pe,ev=.iface te pe):=by
 obtain⟨cs,fuel,p,hv,hd⟩:=my h (g:=6) (t:=280) (by kernel_rfl) (by kernel_rfl)
 have key:∃ u v,cs.toList=[.iface u v]:=by
  cases fuel with
  | zero=>simp[DataW.trod] at hd
  | succ n=>
   unfold DataW.trod at hd;rw[Tryz.underlying280] at hd
   split at hd<;>simp_all
 obtain⟨u,v,hk⟩:=key;refine⟨.iface u v,?_,.inr ⟨u,v,rfl⟩⟩;rw[jI (by kernel_rfl) hv 0,←ff,hk];rfl
theorem P9 {W:World} (h:VarReads Tryz.prog W "internal/strconv.uint64pow10" Rows.laid_internal_strconv_uint64pow10):Lib.TabIs Tryz.prog W "internal/strconv.uint64pow10" .u64 Lib.pow10Tab:=by
 obtain⟨cs,fuel,p,hv,hd⟩:=my h (g:=1) (t:=301) (by kernel_rfl) (by kernel_rfl);have hdd:(Rows.laid_internal_strconv_uint64pow10:DataW Unit)=Lib.tabData .u64 Lib.pow10Tab:=by rfl
 rw[hdd] at hd;have:=Lib.cells_of_tab Tryz.underlying301 Tryz.underlying47 (by kernel_rfl) (by kernel_rfl) hd;unfold Lib.TabIs;rw[hv,←this]
theorem U6 {W:World} {l:List (String×DataW Unit)} (h:laidMet Tryz.prog l W)
  (h1:("internal/strconv.float64info",Rows.laid_internal_strconv_float64info)∈l) (h2:("internal/strconv.optimize",Rows.laid_internal_strconv_optimize)∈l) (h3:("internal/strconv.pow10Tab",Rows.laid_internal_strconv_pow10Tab)∈l)
  (h4:("internal/strconv.float64pow10",Rows.laid_internal_strconv_float64pow10)∈l) (h5:("strconv.ErrRange",Rows.laid_strconv_ErrRange)∈l) (h6:("internal/strconv.uint64pow10",Rows.laid_internal_strconv_uint64pow10)∈l):ad3 W:=
 ⟨⟨⟨N0 (iL h h1),Re (iL h h4)⟩,Rf (iL h h2),Qd (iL h h3),U8 (iL h h5)⟩,P9 (iL h h6)⟩
end fl
namespace jw
open ks (af)
theorem own:ownKnob Tryz.prog.godebug=none:=by kernel_rfl
theorem laidOut:laidOutB Tryz.prog=true:=by kernel_rfl
theorem Oh {W:World} (h:laidMetH Tryz.prog Rows.journalRewritesUptoRow.laid W):fl.ad3 W:=by rw[pt _ _ _ (by kernel_rfl)] at h;exact fl.U6 h (by simp[Rows.journalRewritesUptoRow]) (by simp[Rows.journalRewritesUptoRow]) (by simp[Rows.journalRewritesUptoRow]) (by simp[Rows.journalRewritesUptoRow]) (by simp[Rows.journalRewritesUptoRow]) (by simp[Rows.journalRewritesUptoRow])
theorem YT (os:Os) (args:Array Value):laidMetH Tryz.prog Rows.journalRewritesUptoRow.laid ((World.laidAll Tryz.prog os Rows.journalRewritesUptoRow.laid).forCall (fun _ _=>0) ⟨#[],args,[]⟩).memory:=by rw[pt _ _ _ (by kernel_rfl)];exact laidMet_laidAll _ (by kernel_rfl) (by kernel_rfl)
theorem bound {H:Type} {ds:List (DataW H)} (h:Rows.uptoSmall H ds=true):Rows.uptoBulkAll ds≤1048576:=pG h
set_option maxRecDepth 100000 in
theorem lifted (os:Os) (started:os.Started) (H:Type) (enc:TypeId×Value→H) (F:Stop.Interp):
  ReturnsInHanded {} Tryz.checked os 3 .any ((Rows.OpenSpec.upto Rows.journalRewritesSpec).preRow enc Tryz.prog Tryz.f3 Rows.journalRewritesUptoRow.domain false Rows.journalRewritesUptoRow.laid) (((Rows.OpenSpec.upto Rows.journalRewritesSpec).at F).post enc Tryz.prog Tryz.f3 false true false false):=by
 have hread:∃ places,DataW.whole enc Tryz.prog ((World.laidAll Tryz.prog os Rows.journalRewritesUptoRow.laid).forCall (fun _ _=>0) ⟨#[],#[.slice none 0 0],[]⟩).memory Tryz.f3.params.toList Rows.journalRewritesSpec.vars false #[Value.slice none 0 0].toList 8=some ([.nil],[],places):=⟨[],by kernel_rfl⟩;obtain⟨places,hx⟩:=hread;have hok:Input.okWideB Tryz.prog ((World.laidAll Tryz.prog os Rows.journalRewritesUptoRow.laid).forCall (fun _ _=>0) ⟨#[],#[.slice none 0 0],[]⟩) 3 ⟨#[],#[.slice none 0 0],[]⟩=true:=by kernel_rfl
 refine returnsInHanded_of_row (C:=Tryz.checked) (s:=Rows.OpenSpec.upto Rows.journalRewritesSpec) own started (by kernel_rfl) Tryz.func3
  ⟨World.laidAll Tryz.prog os Rows.journalRewritesUptoRow.laid,fun _ _=>0,⟨#[],#[.slice none 0 0],[]⟩,World.laidAll_os _ _ _,World.shaped_of_ZipB (by kernel_rfl) (by kernel_rfl),(qK (base:=0) hok).1,(qK hok).2,
   OpenSpec.preRow_of_cond 8 hx (by kernel_rfl) (fun k hk=>by cases hk;kernel_rfl) (by kernel_rfl) (YT os _),by
    simp only[Assume.holds]
    exact⟨by simp,by simp,fun _=>Modest.zero,by simp,by simp⟩⟩ ?_
 intro W base args ds gs before hval0 hW _ hcond _ hL _ _;have hval:∀ (j:Nat) t v,Tryz.f3.params[j]?=some t→args[j]?=some v→Value.okWide Tryz.prog W .any base t v:=hval0;have hW':=hW;have hk:=bound (hcond _ rfl);obtain⟨p,q,hA0,hV,rfl,hfz,hnd⟩:=hW;have hA:DataW.TrodAll enc Tryz.prog W 0 (fun _=>true) true Tryz.f3.params.toList args.toList ds p:=hA0;rw[Tryz.params3] at hA hval;obtain⟨v0,vs0,d0,ds0,p0,q0,hargs,rfl,rfl,h0,r0⟩:=trodAll_cons hA;obtain⟨rfl,rfl,rfl⟩:=trodAll_nil r0;obtain rfl:args=#[v0]:=by cases args;simp_all
 obtain⟨rfl,rfl⟩:=trodVars_none hV;have k0:=h0;have lt0:∀ x∈p0,x.block<W.heap.size:=by obtain⟨m,hm⟩:=k0;exact DataW.trod_lt m _ _ _ hm
 obtain⟨a0,WI,cap0,rfl⟩:=okWide_slice Tryz.underlying22 (hval 0 22 v0 rfl rfl);obtain⟨fuel,hf⟩:=h0;obtain⟨l,hl1,hl2,hl3⟩:=Ia (v:=.slice a0 WI cap0) hf
 have hb0:Rows.uptoBulk d0≤1048576:=by simp only[cZ,Rows.uptoBulkAll] at hk;omega
 simp only at hl2 hl3;clear hA0 hval0;obtain⟨pr,wK,hdl⟩:=libs (Oh hL);refine(WJ pr ks.qt l _ W wK hdl hl1 (fun e he=>⟨(hl2 e he).1,aF (hl2 e he).2 hb0⟩) (aF hl3 hb0)).mono fun e W' ⟨he,hkeep⟩=>?_
 subst he;have bel:=hkeep.below;exact⟨_,rfl,_,_,_,[],_,[],hW',trodAll_mk1 (shut_bool Tryz.underlying4 _),(trodAll_cons_mk (Below.trod laidOut (by kernel_rfl) (pG (by kernel_rfl)) k0 bel lt0) trodAll_mk0),rfl,bel.frame _,fun h=>by cases h⟩
theorem over:Rows.JournalRewritesUptoSaid:=
 OpenClaim.holds_of_cond 3 Tryz.f3 rfl rfl rfl rfl rfl rfl rfl ⟨rfl,rfl,rfl,rfl,rfl⟩ rfl rfl rfl rfl rfl ks.yZ Tryz.func3 ks.Bu
  ks.Dk ks.E9
  (fun os started H enc _ F=>by rw[OpenClaim.pre_eq_preRow];exact lifted os started H enc F)
abbrev No:List LaidKind:=[.data,.data,.widerDeep,.widerDeep,.data,.data,.data,.data,.data,.data,.sentinel,.sentinel,.pinned,.pinned,.pinned]
theorem M8:Rows.journalRewritesUptoRow.wfByText (Rows.OpenSpec.upto Rows.journalRewritesSpec)=true:=by kernel_rfl
theorem NS:Tryz.pinned.checked.prog.mainIs=some (true, "8d8c78a33672cf0bd1e8ef037b8986c381ef9054226bd0c03ed69536a186675c".toList):=by kernel_rfl
theorem EZ:true=Tryz.pinned.checked.prog.looks []:=by kernel_rfl
theorem Og:false=Rows.journalRewritesUptoRow.goesBy Tryz.pinned.checked.prog:=by kernel_rfl
theorem Kq:Tryz.pinned.checked.prog.wantsStandIn 22=false:=by kernel_rfl
theorem Fw (f:FuncId) (fn:Func) (hf:Tryz.pinned.checked.prog.funcNamed Rows.journalRewritesUptoRow.func=some f) (hfn:Tryz.pinned.checked.prog.funcs[f]?=some fn):true=Tryz.pinned.checked.prog.looks []∧∀ (j:Nat) t,fn.params[j]?=some t→Tryz.pinned.checked.prog.wantsStandIn t=false:=by
 have e1:Tryz.prog.funcNamed Rows.journalRewritesUptoRow.func=some f:=hf;have e2:Tryz.prog.funcs[f]?=some fn:=hfn;rw[ks.yZ] at e1;obtain rfl:=cK e1;rw[Tryz.func3] at e2;obtain rfl:=cK e2;refine⟨EZ,fun j t ht=>?_⟩;rw[Tryz.params3] at ht
 have h3:t=22:=by
  rcases j with _|j
  ·simpa using ht.symm
  ·simp at ht
 subst h3;exact Kq
theorem card:Rows.JournalRewritesUptoCardSaid:=
 Claim7.holds_tied_plain_at (p:=Tryz.pinned) (s:=Rows.OpenSpec.upto Rows.journalRewritesSpec) (c:=Rows.journalRewritesUptoRow) .later [] No true (true, "8d8c78a33672cf0bd1e8ef037b8986c381ef9054226bd0c03ed69536a186675c") true
  over (fun _ h=>by cases h) M8 (fun _ h=>by cases h) journalRewritesUpto_row_tie rfl ⟨rfl,rfl⟩ NS rfl Fw Og
#print axioms card
end jw
end Go.Proofs.YthpdlidbaojlbaaGreatDoor
