/- The walks of score's ten, left, bits and less. -/
import Derived.Test.YthpdlidbaojlbaaGreatDoorQ22
set_option linter.unusedVariables false
set_option linter.unusedSimpArgs false
set_option maxHeartbeats 4000000
open Go.ChangeShapes Go.WideShapes Go.ChangeAt Go.RowKit
namespace Go.Proofs.YthpdlidbaojlbaaGreatDoor
namespace fl
def Lim (k:IntKind) (w:World) (x:Value) (l:List Nat):Prop:=∃ a cap,x=.slice a l.length cap∧l.length≤cap∧(0<l.length→∃ g off,a=some ⟨g,off,none⟩∧∀ i,i<l.length→w.cell? ⟨g,off+i,none⟩=some (.int k (l.getD i 0:Nat)))
def Num (k:IntKind) (w:World) (x:Value) (n:Nat):Prop:=∃ l,Lim k w x l∧Can l∧dA l=n
theorem rF {w:World} {p:Addr} {v:Value} (h:w.cell? p=some v):p.block<w.heap.size:=by
 by_cases hh:p.block<w.heap.size
 ·exact hh
 ·have:w.heap[p.block]?=none:=rR (by omega);unfold World.cell? at h;rw[this] at h;simp at h
theorem Lim.on {k:IntKind} {w w':World} {x:Value} {l:List Nat} (h:Lim k w x l) (hb:Below w.heap.size w w'):Lim k w' x l:=by obtain⟨a,cap,rfl,hc,h⟩:=h;refine⟨a,cap,rfl,hc,fun hp=>?_⟩;obtain⟨g,off,rfl,hr⟩:=h hp;refine⟨g,off,rfl,fun i hi=>?_⟩;have h1:=hr i hi;rw[←h1];exact hb.cell (rF h1)
theorem Num.on {k:IntKind} {w w':World} {x:Value} {n:Nat} (h:Num k w x n) (hb:Below w.heap.size w w'):Num k w' x n:=by obtain⟨l,h1,h2,h3⟩:=h;exact⟨l,h1.on hb,h2,h3⟩
theorem cR (w:World) (n:Nat):Below w.heap.size w (w.drewN n):=by
 induction n with
 | zero=>exact Below.refl _ _
 | succ n ih=>exact ih.trans ⟨rfl,rfl,rfl,aq _,fun _ _=>rfl⟩
theorem qE {B:Nat} {a w:World} (h:Below B a w) (n:Nat):Below B a (w.drewN n):=by
 induction n with
 | zero=>exact h
 | succ n ih=>exact ih.trans ⟨rfl,rfl,rfl,aq _,fun _ _=>rfl⟩
theorem Lim.take {k:IntKind} {w:World} {a:Option Addr} {n cap:Nat} {l:List Nat} (h:Lim k w (.slice a n cap) l) {j:Nat} (hj:j≤n):Lim k w (.slice a j cap) (l.take j):=by
 obtain⟨a',cap',he,hc,h⟩:=h;simp only[pQ] at he;obtain⟨rfl,rfl,rfl⟩:=he;have hl:(l.take j).length=j:=by rw[aR];omega
 refine⟨a,cap,by rw[hl],by omega,fun hp=>?_⟩;rw[hl] at hp ⊢;obtain⟨g,off,e,hr⟩:=h (by omega);refine⟨g,off,e,fun i hi=>?_⟩;rw[hr i (by omega)];simp[az,hi]
def AJ (l:List Nat) (j:Nat):Prop:=j≤l.length∧dA (l.take j)=dA l
theorem AJ.next {l:List Nat} {j:Nat} (h:AJ l j) (hp:0<j) (hz:l.getD (j-1) 0=0):AJ l (j-1):=by obtain⟨h1,h2⟩:=h;refine⟨by omega,?_⟩;obtain⟨i,rfl⟩:∃ i,j=i+1:=⟨j-1,by omega⟩;rw[cW] at hz ⊢;rw[j4 (by omega),hz] at h2;simpa using h2
theorem AJ.can {l:List Nat} {j:Nat} (h:AJ l j) (hl:kF l) (hz:0<j→l.getD (j-1) 0≠0):Can (l.take j):=by
 refine⟨hl.take j,fun d hd=>?_⟩;have hlen:(l.take j).length=j:=by rw[aR];have:=h.1;omega
 rw[iy,hlen] at hd
 by_cases hp:0<j
 ·have:=hz hp;rw[dP,aQ (by omega)] at hd;rw[az,hd] at this;exact this
 ·obtain rfl:j=0:=by omega
  simp at hd
def jU (k:IntKind) (n:Nat) (w:World) (e:Ending) (w':World):Prop:=∃ y,e=.returned y∧Num k w' y n∧Below w.heap.size w w'
theorem Jz (x:Value) (l:List Nat) (w:World) (hx:Lim .u32 w x l) (hl:kF l) (hn:l.length≤1000000):
  Calls Tryz.prog 184 #[x] w (jU .u32 (dA l) w):=by
 obtain⟨a,cap,rfl,hcap,hr⟩:=hx;have HR:=aj hr;have HL:=aj hl;have Dw:l.length≤cap:=hcap;obtain⟨n,hnn⟩:∃ n,l.length=n:=⟨_,rfl⟩;have HN:=aj hnn;rw[hnn] at hn hcap ⊢;clear hr hl hnn Dw;go_enter Tryz.func184,Tryz.ntmps184
 go_wp2_with fail
 go_loopw [0] (fun x wr=>∃ (j i:Nat),x=.slice a j cap∧Hid (AJ l j)∧j≤n∧wr=w.drewN i) (fun x _=>match x with|.slice _ j _=>j|_=>0)
 case atStart=>exact⟨n,0,rfl,aj ⟨by rw[HN.out];exact aq _,by rw[←HN.out,fA]⟩,aq _,rfl⟩
 case round=>
  obtain⟨j,i,rfl,hT,hj,rfl⟩:=hrel
  by_cases hp:0<j
  ·obtain⟨g,off,ea,hc⟩:=HR.out (by rw[HN.out];omega);subst ea;have hcell:=hc (j-1) (by rw[HN.out];omega);clear hc;obtain⟨d,hd⟩:∃ d,l.getD (j-1) 0=d:=⟨_,rfl⟩;rw[hd] at hcell;have HD:=aj hd;clear hd;have hj1:(j:Int)-1=((j-1:Nat):Int):=by omega
   by_cases hz:d=0
   ·subst hz;go_wp2_with fail
    go_roundw
    case rel=>exact⟨j-1,i,rfl,aj (hT.out.next hp HD.out),by omega,rfl⟩
    case measure=>simp;omega
   ·have hz':((d:Int) == 0)=false:=by simp;omega
    go_wp2_with fail
    go_ret;exact⟨_,rfl,⟨l.take j,((Lim.take ⟨some ⟨g,off,none⟩,cap,by rw[HN.out],by rw[HN.out];exact hcap,HR.out⟩ hj).on (cR w i)),hT.out.can HL.out (fun _=>by rw[HD.out];exact hz),hT.out.2⟩,cR w i⟩
  ·obtain rfl:j=0:=by omega
   go_wp2_with fail
   go_ret;exact⟨_,rfl,⟨l.take 0,((Lim.take ⟨a,cap,by rw[HN.out],by rw[HN.out];exact hcap,HR.out⟩ hj).on (cR w i)),hT.out.can HL.out (fun h=>absurd h (by omega)),hT.out.2⟩,cR w i⟩
def lj (a b:Nat) (w:World) (e:Ending) (w':World):Prop:=∃ r:Int,e=.returned (.int .i64 r)∧(r<0↔a<b)∧(0<r↔b<a)∧Below w.heap.size w w'
theorem SC (x y:Value) (m n:Nat) (w:World) (hx:Num .u32 w x m) (hy:Num .u32 w y n) (hm:m<Bs ^ KC) (hn:n<Bs ^ KC):
  Calls Tryz.prog 155 #[x,y] w (lj m n w):=by
 obtain⟨l,hl,hc,rfl⟩:=hx;obtain⟨r,hr,hd,rfl⟩:=hy;have h1:l.length≤100000:=qb hc hm;have h2:r.length≤100000:=qb hd hn;obtain⟨a,cap,rfl,hcap,hl⟩:=hl;obtain⟨b,cap',rfl,Dw,hr⟩:=hr;have HR:=aj hr;have HL:=aj hl;have HC:=aj hc;have HD:=aj hd;clear hl hr hc hd hcap Dw hm hn
 by_cases hlen:l.length=r.length
 ·obtain⟨n,hnn⟩:∃ n,l.length=n:=⟨_,rfl⟩;have HN:=aj hnn;have HM:=aj (hlen.symm.trans hnn);rw[←hlen,hnn];rw[hnn] at h1;clear hnn hlen h2;have hne:((n:Int) != (n:Int))=false:=by simp
  go_enter Tryz.func155,Tryz.ntmps155
  go_wp2_with fail
  go_loopw [5] (fun x wr=>∃ (j i:Nat),x=.int .i64 ((j:Int)-1)∧Hid (dA (l.drop j)=dA (r.drop j))∧j≤n∧wr=w.drewN i) (fun x _=>(intOf x+1).toNat)
  case atStart=>exact⟨n,0,rfl,aj (by rw[eY (by rw[HN.out];exact aq _),eY (by rw[HM.out];exact aq _)]),aq _,rfl⟩
  case round=>
   obtain⟨j,i,rfl,hT,hj,rfl⟩:=hrel
   by_cases hp:0<j
   ·obtain⟨j,rfl⟩:∃ q,j=q+1:=⟨j-1,by omega⟩;obtain⟨g,off,ea,hca⟩:=HL.out (by rw[HN.out];omega);obtain⟨g',off',eb,hcb⟩:=HR.out (by rw[HM.out];omega);subst ea;subst eb;have hcell:=hca j (by rw[HN.out];omega);have hcell':=hcb j (by rw[HM.out];omega);clear hca hcb;obtain⟨d,hd⟩:∃ d,l.getD j 0=d:=⟨_,rfl⟩;obtain⟨d',hd'⟩:∃ d,r.getD j 0=d:=⟨_,rfl⟩;rw[hd] at hcell;rw[hd'] at hcell';have HE:=aj hd;have HF:=aj hd';clear hd hd';have hj1:((j+1:Nat):Int)-1=(j:Int):=by omega
    rw[hj1];go_wp2_with fail
    by_cases hlt:d<d'
    ·go_quiet (fail)
     go_wp2_with fail
     go_ret
     exact⟨-1,rfl,by
      have:=iD HC.out.1 (i:=j) (by rw[HN.out];omega) (by rw[HM.out];omega) hT.out (by rw[HE.out,HF.out];exact hlt);omega,by
      have:=iD HC.out.1 (i:=j) (by rw[HN.out];omega) (by rw[HM.out];omega) hT.out (by rw[HE.out,HF.out];exact hlt)
      omega,qE (cR w _) _⟩
    ·go_quiet (fail)
     go_wp2_with fail
     by_cases hgt:d'<d
     ·go_quiet (fail)
      go_wp2_with fail
      go_ret
      exact⟨1,rfl,by
       have:=iD HD.out.1 (i:=j) (by rw[HM.out];omega) (by rw[HN.out];omega) hT.out.symm (by rw[HE.out,HF.out];exact hgt);omega,by
       have:=iD HD.out.1 (i:=j) (by rw[HM.out];omega) (by rw[HN.out];omega) hT.out.symm (by rw[HE.out,HF.out];exact hgt)
       omega,qE (qE (cR w _) _) _⟩
     ·go_quiet (fail)
      go_wp2_with fail
      go_roundw
      case rel=>exact⟨j,_,rfl,aj (by rw[tG (by rw[HN.out];omega),tG (l:=r) (by rw[HM.out];omega),hT.out,HE.out,HF.out,Nat.le_antisymm (dS hgt) (dS hlt)]),by omega,rfl⟩
      case measure=>simp[intOf]
   ·obtain rfl:j=0:=by omega
    go_wp2_with fail
    go_ret;have he:dA l=dA r:=hT.out;exact⟨0,rfl,by omega,by omega,cR w _⟩
 ·have hne:((l.length:Int) != (r.length:Int))=true:=by simp;omega
  go_enter Tryz.func155,Tryz.ntmps155
  go_wp2_with fail
  go_ret;refine⟨(l.length:Int)-r.length,rfl,⟨fun h=>oS HC.out HD.out (by omega),fun h=>?_⟩,⟨fun h=>oS HD.out HC.out (by omega),fun h=>?_⟩,Below.refl _ _⟩
  ·have:=uM HC.out HD.out (bW h);omega
  ·have:=uM HD.out HC.out (bW h);omega
section
variable {P:Program} (w:World)
theorem A7 (base:Nat) (t ty e:TypeId) (i:TypeInfo) (z:Value) (bytes:Nat) (ht:P.underlying t=some (.slice e)) (hi:P.info? e=some i) (hz:i.zero=some z)
  (hsize:i.size=1) (hby:i.bytes=bytes) (hzs:z.cells.size=1)
  (v:Value) (n:Nat) (xs:List Value) (hown:w.ownsRow base e 1 v n xs)
  (a:Addr) (m c:Nat) (news:List Value) (hl:news.length=m) (hm:0<m) (hnews:∀ j u,news[j]?=some u→w.cell? (a.add j)=some u) (h1:∀ u∈news,u.oneCell'=true)
  (h63:n+m≤maxLen) (hbytes:(n+m)*bytes≤140737488355328) (hbase:base≤w.heap.size):
  ∃ g2 cap2 w',(Builtin.append_ #[t,t] ty #[v,.slice (some a) m c]).run P w=.ok (.slice (some ⟨g2,0,none⟩) (n+m) cap2) w'∧
   w'.ownsRow base e 1 (.slice (some ⟨g2,0,none⟩) (n+m) cap2) (n+m) (xs++news)∧w.grownBy w' v.ownBlock∧(v.ownBlock=some g2∨(w.heap.size≤g2∧w.grownBy w' none)):=by
 have hl1:news.length=m*1:=by omega
 obtain⟨v',w',hr,ho,hg,hn⟩:=run_append_own (P:=P) w base t ty e i z 1 bytes ht hi hz hsize hby hzs (by decide) v n xs hown a m c news hl1 hnews h1 h63 hbytes hbase;have hsmall:n+m≤9223372036854775807:=by simp only[maxLen] at h63;omega
 rcases hown.2 with⟨rfl,rfl⟩|⟨g,cap,cur,rfl,hbg,hgg,hnc,hcm,hcs,htake⟩
 ·have hr2:=oB (P:=P) w t ty e i z ht hi hz a m c news (by rw[hsize];exact hl1) hnews hm (by omega) (by rw[hby];have hb:=hbytes;simp only[bD] at hb;omega);rw[hr] at hr2;simp only[jJ] at hr2;obtain⟨rfl,rfl⟩:=hr2;refine⟨_,_,_,by simpa using hr,by simpa using ho,hg,.inr ⟨aq _,⟨rfl,rfl,rfl,by simp,fun k hk _=>Below.heap_alloc w.drew _ k hk⟩⟩⟩
 ·by_cases hroom:n+m≤cap
  ·have hr2:=run_append_room (P:=P) w t ty e i ht hi g n cap cur hgg a m c news (by rw[hsize];exact hl1) hnews h1 hroom (by rw[hsize];omega);rw[hr] at hr2;simp only[jJ] at hr2;obtain⟨rfl,rfl⟩:=hr2;exact⟨_,_,_,hr,ho,hg,.inl rfl⟩
  ·have holds:∀ j u,xs[j]?=some u→w.cell? ((⟨g,0,none⟩:Addr).add j)=some u:=hown.cells (g:=g) rfl;have hr2:=nH (P:=P) w t ty e i z ht hi hz ⟨g,0,none⟩ n cap xs (by rw[hsize];exact hown.1) holds a m c news (by rw[hsize];exact hl1) hnews (by omega) (by omega) (by rw[hby];exact sL (by omega) hbytes);rw[hr] at hr2;simp only[jJ] at hr2;obtain⟨rfl,rfl⟩:=hr2;exact⟨_,_,_,hr,ho,hg,.inr ⟨aq _,⟨rfl,rfl,rfl,by simp,fun k hk _=>Below.heap_alloc w.drew _ k hk⟩⟩⟩
theorem mq {ops:Array Oper} {rest:List Oper} {o:Oper} {a:Act} {Q:Exit→Act→World→Prop} (hgd:o.guard=none) (s x:Operand) (t:TypeId)
  (ho:o.op=.call { callee:=.builtin .append,args:=#[s,x],argTypes:=#[t,t] })
  (base:Nat) (e:TypeId) (i:TypeInfo) (z:Value) (bytes:Nat) (ht:P.underlying t=some (.slice e)) (hi:P.info? e=some i) (hz:i.zero=some z)
  (hsize:i.size=1) (hby:i.bytes=bytes) (hzs:z.cells.size=1)
  (v:Value) (n:Nat) (xs:List Value) (hs:a.eval s=v) (hown:w.ownsRow base e 1 v n xs)
  (ad:Addr) (m c:Nat) (news:List Value) (hx:a.eval x=.slice (some ad) m c) (hl:news.length=m) (hm:0<m) (hnews:∀ j u,news[j]?=some u→w.cell? (ad.add j)=some u) (h1:∀ u∈news,u.oneCell'=true)
  (h63:n+m≤maxLen) (hbytes:(n+m)*bytes≤140737488355328) (hbase:base≤w.heap.size)
  (h:∀ g2 cap2 w',w'.ownsRow base e 1 (.slice (some ⟨g2,0,none⟩) (n+m) cap2) (n+m) (xs++news)→w.grownBy w' v.ownBlock→(v.ownBlock=some g2∨(w.heap.size≤g2∧w.grownBy w' none))→wpList P ops Q rest (a.put o.dst (.slice (some ⟨g2,0,none⟩) (n+m) cap2)) w'):wpList P ops Q (o::rest) a w:=by
 refine qQ hgd fun K hK=>?_
 obtain⟨g2,cap2,w',hr,h2,h3,h4⟩:=A7 (P:=P) w base t o.type e i z bytes ht hi hz hsize hby hzs v n xs hown ad m c news hl hm hnews h1 h63 hbytes hbase;unfold Oper.wp;simp[execOp,ho,resolve,invoke,builtin,hs,hx,hr,Result.andThen];exact hK _ _ (h g2 cap2 w' h2 h3 h4)
end
def Own (k:IntKind) (e:TypeId) (B:Nat) (w:World) (v:Value) (xs:List Nat):Prop:=w.ownsRow B e 1 v xs.length (xs.map fun d=>.int k (d:Nat))
theorem Di (W:World) (v:Value) (t:TypeId):∀ (j:Nat) u,[v][j]?=some u→(W.alloc (.cells #[v] t)).cell? ((⟨W.heap.size,0,none⟩:Addr).add j)=some u:=by
 intro j u hu;have hadd:(⟨W.heap.size,0,none⟩:Addr).add j=⟨W.heap.size,j,none⟩:=by unfold Addr.add;split<;>simp_all
 rw[hadd];unfold World.cell?;rw[show(W.alloc (.cells #[v] t)).heap[W.heap.size]?=some _ from iZ W _];simpa using hu
theorem Own.lim {k:IntKind} {e:TypeId} {B:Nat} {w:World} {v:Value} {xs:List Nat} (h:Own k e B w v xs):Lim k w v xs:=by
 have h':w.ownsRow B e 1 v xs.length (xs.map fun d=>.int k (d:Nat)):=h
 rcases h'.2 with⟨rfl,hn⟩|⟨g,cap,cur,rfl,hbg,hgg,hnc,hcm,hcs,htake⟩
 ·exact⟨none,0,by rw[hn],by omega,fun hp=>absurd hp (by omega)⟩
 ·refine⟨some ⟨g,0,none⟩,cap,rfl,hnc,fun hp=>⟨g,0,rfl,fun i hi=>?_⟩⟩;have hc:=h'.cells (g:=g) rfl i (.int k (xs.getD i 0:Nat)) (by rw[bK,ag hi,az,ag hi];rfl);have hadd:(⟨g,0,none⟩:Addr).add i=⟨g,0+i,none⟩:=by unfold Addr.add;split<;>simp_all
  rwa [hadd] at hc
theorem Own.form {k:IntKind} {e:TypeId} {B:Nat} {w:World} {v:Value} {xs:List Nat} (h:Own k e B w v xs):∃ a cap,v=.slice a xs.length cap∧(0<xs.length→∃ g,a=some ⟨g,0,none⟩)∧∀ b,v.ownBlock=some b→B≤b:=by
 have h':w.ownsRow B e 1 v xs.length (xs.map fun d=>.int k (d:Nat)):=h
 rcases h'.2 with⟨rfl,hn⟩|⟨g,cap,cur,rfl,hbg,hgg,hnc,hcm,hcs,htake⟩
 ·exact⟨none,0,by rw[hn],fun hp=>absurd hp (by omega),fun b hb=>by simp[Value.ownBlock] at hb⟩
 ·exact⟨_,cap,rfl,fun _=>⟨g,rfl⟩,fun b hb=>by simp[Value.ownBlock] at hb;omega⟩
theorem Own.on {k:IntKind} {e:TypeId} {B:Nat} {w w':World} {v:Value} {xs:List Nat} (h:Own k e B w v xs) (hb:Below w.heap.size w w'):Own k e B w' v xs:=by
 have h':w.ownsRow B e 1 v xs.length (xs.map fun d=>.int k (d:Nat)):=h;refine⟨h'.1,?_⟩
 rcases h'.2 with h0|⟨g,cap,cur,e0,hbg,hgg,hr⟩
 ·exact .inl h0
 ·have hlt:g<w.heap.size:=by
   by_cases hh:g<w.heap.size
   ·exact hh
   ·rw[rR (by omega)] at hgg;cases hgg
  exact .inr ⟨g,cap,cur,e0,hbg,by rw[hb.block g hlt];exact hgg,hr⟩
section
variable {P:Program}
theorem mU {ops:Array Oper} {rest:List Oper} {o:Oper} {a:Act} {Q:Exit→Act→World→Prop} (hgd:o.guard=none) (s x:Operand) (t:TypeId)
  (ho:o.op=.call { callee:=.builtin .append,args:=#[s,x],argTypes:=#[t,t] })
  (B:Nat) (e:TypeId) (k:IntKind) (i:TypeInfo) (bytes:Nat) (ht:P.underlying t=some (.slice e)) (hi:P.info? e=some i) (hz:i.zero=some (.int k 0))
  (hsize:i.size=1) (hby:i.bytes=bytes) (hbs:bytes≤8)
  (v:Value) (xs:List Nat) (wb:World) (D:Int) (d:Nat) (hD:D=(d:Int)) (hs:a.eval s=v) (hown:Own k e B wb v xs)
  (hx:a.eval x=.slice (some ⟨wb.heap.size,0,none⟩) 1 1) (hn:xs.length≤10000000) (hbase:B≤wb.heap.size)
  (h:∀ v' w',Own k e B w' v' (xs++[d])→Below B wb w'→wpList P ops Q rest (a.put o.dst v') w'):wpList P ops Q (o::rest) a (wb.alloc (.cells #[.int k D] e)):=by
 subst hD
 refine mq (P:=P) _ hgd s x t ho B e i (.int k 0) bytes ht hi hz hsize hby rfl v xs.length (xs.map fun d=>.int k (d:Nat)) hs (World.ownsRow.alloc hown _) ⟨wb.heap.size,0,none⟩ 1 1 [.int k (d:Nat)] hx rfl (by omega)
  (Di wb _ e) (by intro u hu;simp at hu;subst hu;rfl) (by unfold maxLen;omega) (by
   have:(xs.length+1)*bytes≤(xs.length+1)*8:=bG _ hbs
   omega) (by simp;omega) ?_
 intro g2 cap2 w' ho1 hg1 hd1;refine h _ w' ?_ ?_
 ·unfold Own;simp only[aM,List.length_cons,List.length_nil,aZ,bP,jD];exact ho1
 ·obtain⟨_,_,_,_,zI⟩:=hown.form;exact((Below.refl B wb).alloc hbase _).grown hg1 (by simp;omega) zI
end
end fl
namespace fl
theorem Bz:(Tryz.prog.info? 255).map (fun i=>(i.zero,i.size,i.bytes))=some (some (.int .u32 0),1,4):=by kernel_rfl
def OQ (l:List Nat) (m j c:Nat) (xs:List Nat):Prop:=j≤l.length∧xs.length=j∧kF xs∧c<Bs∧dA xs+Bs ^ j*c=dA (l.take j)*m
theorem OQ.next {l:List Nat} {m j c:Nat} {xs:List Nat} (h:OQ l m j c xs) (hl:kF l) (hm:m<Bs) (hj:j<l.length):
  OQ l m (j+1) ((c+l.getD j 0*m) / Bs) (xs++[(c+l.getD j 0*m) % Bs]):=by
 obtain⟨h1,h2,h3,h4,h5⟩:=h;have he:c+l.getD j 0*m=(c+l.getD j 0*m) % Bs+Bs*((c+l.getD j 0*m) / Bs):=(nL _ _).symm;exact⟨hj,by simp[h2],h3.snoc (dq _ gB),Ak h4 (hl.get j) hm he,Kv hj h2 h5 he⟩
set_option maxRecDepth 100000 in
theorem sj (x:Value) (n m:Nat) (w:World) (hx:Num .u32 w x n) (hm:m<Bs) (hn:n<Bs ^ KC):
  Calls Tryz.prog 154 #[x,.int .u32 m] w (jU .u32 (n*m) w):=by
 obtain⟨i75,hi,hz,hs,hb⟩:=cF Bz;obtain⟨l,hl,hc,rfl⟩:=hx;have h1:l.length≤100000:=qb hc hn;obtain⟨a,cap,rfl,hcap,hl⟩:=hl;have HL:=aj hl;have HC:=aj hc;have HM:=aj hm;clear hl hc hm hn;obtain⟨n,hnn⟩:∃ n,l.length=n:=⟨_,rfl⟩;have HN:=aj hnn;rw[hnn] at hcap h1 ⊢;clear hnn;go_enter Tryz.func154,Tryz.ntmps154
 go_wp2_with (at_make;refine wpList_make_own _ rfl _ _ 249 rfl w.heap.size 255 i75 _ 1 Tryz.underlying249 hi hz hs _ _ _ (n+1) rfl rfl ?_ ?_ ?_ ?_ ?_;go_num;(rw[hb];omega);(unfold maxLen;omega);exact aq _;intro w1 ho1 hg1;have Cq:=aj (show Own .u32 255 w.heap.size w1 _ [] from ho1);have HB1:=aj ((Below.refl w.heap.size w).grown hg1 (aq _) (fun k e=>by cases e));clear ho1 hg1)
 go_loopw [5,6,15] (fun v c j wr=>∃ (c' j':Nat) (xs:List Nat),c=.int .u64 c'∧j=.int .i64 j'∧j'≤n∧c'<4294967296∧Hid (OQ l m j' c' xs)∧Hid (Own .u32 255 w.heap.size wr v xs)∧Hid (Below w.heap.size w wr)) (fun _ _ j _=>n-(intOf j).toNat)
 case atStart=>exact⟨0,0,[],rfl,rfl,by omega,by decide,aj ⟨by omega,rfl,kF.nil,by decide,by simp[dA]⟩,Cq,HB1⟩
 case round=>
  obtain⟨c,j,xs,rfl,rfl,hj,hcb,hR,hO,hB⟩:=hrel
  by_cases hlt:j<n
  ·obtain⟨g,off,ea,hca⟩:=HL.out (by rw[HN.out];omega);subst ea;have hcell0:=hca j (by rw[HN.out];omega);have hcell:wr.cell? ⟨g,off+j,none⟩=some (.int .u32 (l.getD j 0:Nat)):=by rw[←hcell0];exact hB.out.cell (rF hcell0)
   clear hca hcell0;obtain⟨d,hd⟩:∃ d,l.getD j 0=d:=⟨_,rfl⟩;rw[hd] at hcell;have hdb:d<4294967296:=by rw[←hd];exact HC.out.1.get j
   have HE:=aj hd;clear hd;have hp1:0≤(d:Int)*(m:Int):=gh (by omega) (by omega)
   have hp2:(d:Int)*(m:Int)≤18446744065119617025:=by
    have:=gK (kg hdb) (kg HM.out);have h2:(4294967296-1)*(Bs-1)=18446744065119617025:=by decide
    rw[h2] at this;have h3:=Int.ofNat_le.mpr this
    rwa [Int.natCast_mul] at h3
   have hmb:m<4294967296:=HM.out;have hsz:=hB.out.size;have we:=hO.out;obtain⟨va,vc,rfl,_⟩:=we.form;have HO:=aj we;have hxl:xs.length≤10000000:=by have:=hR.out.2.1;omega
   have hcast:((c:Int)+(d:Int)*(m:Int))=((c+d*m:Nat):Int):=by simp
   have hmod:((c:Int)+(d:Int)*(m:Int)) % 4294967296=(((c+d*m) % Bs:Nat):Int):=by rw[hcast];rfl
   have hdiv:((c:Int)+(d:Int)*(m:Int)) / 4294967296=(((c+d*m) / Bs:Nat):Int):=by rw[hcast];rfl
   have Td:=aj hmod;have HD1:=aj hdiv;clear hO we hmod hdiv hcast;go_wp2_with (at_builtin;refine mU rfl (.tmp 26) (.tmp 29) 249 rfl w.heap.size 255 .u32 i75 4 Tryz.underlying249 hi hz hs hb (by decide) (.slice va xs.length vc) xs wr _ ((c+d*m) % Bs) Td.out rfl HO.out rfl hxl hsz ?_;intro v2 w2 ho2 hb2;have AL:=aj ho2;have HB2:=aj (hB.out.trans hb2);clear ho2 hb2)
   go_roundw
   case rel=>have hn:=hR.out.next HC.out.1 HM.out (by rw[HN.out];exact hlt);rw[HE.out] at hn;exact⟨(c+d*m) / Bs,j+1,xs++[(c+d*m) % Bs],(by rw[HD1.out]),by go_num,by omega,hn.2.2.2.1,aj hn,AL,HB2⟩
   case measure=>simp[intOf];omega
  ·have hsz:=hB.out.size;have we:=hO.out;obtain⟨va,vc,rfl,_⟩:=we.form;have HO:=aj we;have hxl:xs.length≤10000000:=by have:=hR.out.2.1;omega
   clear hO we;obtain rfl:j=n:=by omega
   have hfin:Hid (dA (xs++[c])=dA l*m):=aj (by
    have:=hR.out
    rw[mC,this.2.1,this.2.2.2.2,←HN.out,fA])
   have hlow:Hid (kF (xs++[c])):=aj (hR.out.2.2.1.snoc hcb);go_wp2_with (at_builtin;refine mU rfl (.tmp 34) (.tmp 37) 249 rfl w.heap.size 255 .u32 i75 4 Tryz.underlying249 hi hz hs hb (by decide) (.slice va xs.length vc) xs wr _ c ?_ rfl HO.out rfl hxl hsz ?_;omega;intro v2 w2 ho2 hb2;have AL:=aj ho2;have HB2:=aj (hB.out.trans hb2);clear ho2 hb2)
   refine(Jz _ _ _ AL.out.lim hlow.out (by have:=hR.out.2.1;rw[aM,List.length_singleton];omega)).mono ?_;rintro e w3 ⟨y,rfl,hy,hb3⟩;have HY:=aj hy;have HB3:=aj hb3;clear hy hb3;go_wp2_with fail
   go_ret;exact⟨_,rfl,hfin.out ▸ HY.out,HB2.out.trans (HB3.out.mono HB2.out.size)⟩
theorem IV (x:Nat) (hx:x<18446744073709551616):kF [x % Bs,x / Bs]∧dA [x % Bs,x / Bs]=x:=by
 refine⟨fun d hd=>?_,?_⟩
 ·simp only[bM,dU,sy] at hd
  rcases hd with rfl|rfl
  ·exact dq _ gB
  ·exact kh hx
 ·simp only[dA,Nat.mul_zero,Nat.add_zero];exact nL _ _
set_option maxRecDepth 100000 in
theorem Js (x:Nat) (w:World) (hx:x<18446744073709551616):
  Calls Tryz.prog 178 #[.int .u64 x] w (jU .u32 x w):=by
 have h2:=IV x hx;have H2:=aj h2;clear h2;have hm1:Hid ((x:Int) % 4294967296=((x % Bs:Nat):Int)):=aj rfl;have hm2:Hid ((x:Int) / 4294967296=((x / Bs:Nat):Int)):=aj rfl
 have hlim:Hid (Lim .u32 (w.alloc (.cells #[.int .u32 (x % Bs:Nat),.int .u32 (x / Bs:Nat)] 255)) (.slice (some ⟨w.heap.size,0,none⟩) 2 2) [x % Bs,x / Bs]):=aj (by
  refine⟨_,2,rfl,by simp,fun _=>⟨w.heap.size,0,rfl,fun i hi=>?_⟩⟩;unfold World.cell?;rw[show(w.alloc (.cells #[.int .u32 (x % Bs:Nat),.int .u32 (x / Bs:Nat)] 255)).heap[w.heap.size]?=some _ from iZ w _];simp only[List.length_cons,List.length_nil] at hi
  match i,hi with
  | 0,_=>rfl
  | 1,_=>rfl)
 go_enter Tryz.func178,Tryz.ntmps178
 go_wp2_with fail
 rw[hm1.out,hm2.out];refine(Jz _ _ _ hlim.out H2.out.1 (by simp)).mono ?_;rintro e w3 ⟨y,rfl,hy,hb3⟩;have HY:=aj hy;have HB3:=aj hb3;clear hy hb3;go_wp2_with fail
 go_ret;exact⟨_,rfl,H2.out.2 ▸ HY.out,((Below.refl w.heap.size w).alloc (aq _) _).trans (HB3.out.mono (by simp))⟩
def zQ (a:Nat) (n k:Int) (cur:Nat):Prop:=k≤n∧(0≤n→0≤k)∧cur*10 ^ k.toNat=a*10 ^ n.toNat
theorem zQ.le {a:Nat} {n k:Int} {cur:Nat} (h:zQ a n k cur) (hn:n≤1000) (ha:a<Bs ^ KA):cur<Bs ^ KC:=by have h1:cur*1≤cur*10 ^ k.toNat:=bG _ (bf (by decide));rw[h.2.2] at h1;have h2:10 ^ n.toNat≤Bs ^ n.toNat:=nR (by decide) _;have h3:Bs ^ n.toNat≤Bs ^ KB:=aS gB (by unfold KB;omega);have h4:a*10 ^ n.toNat≤a*Bs ^ KB:=bG _ (aF h2 h3);have h5:a*Bs ^ KB<Bs ^ KA*Bs ^ KB:=bq ha (zj _);rw[←aY] at h5;have h6:Bs ^ (KA+KB)≤Bs ^ KC:=aS gB kac;rw[bB] at h1;exact cE (aF h1 h4) (aP h5 h6)
theorem zQ.next {a:Nat} {n k:Int} {cur:Nat} (h:zQ a n k cur) (s:Nat) (hk:(s:Int)≤k):zQ a n (k-s) (cur*10 ^ s):=by
 refine⟨by have:=h.1;omega,fun _=>by omega,?_⟩;rw[←h.2.2,aA,←aY]
 congr 2
 omega
set_option maxRecDepth 100000 in
theorem Nj (x:Value) (a:Nat) (n:Int) (w:World) (hx:Num .u32 w x a) (ha:a<Bs ^ KA) (hn:n≤1000) (hn0:-1000≤n):
  Calls Tryz.prog 153 #[x,.int .i64 n] w (jU .u32 (a*10 ^ n.toNat) w):=by
 have HX:=aj hx;have HA:=aj ha;clear hx ha;go_enter Tryz.func153,Tryz.ntmps153
 go_wp2_with fail
 go_loopw [0,1] (fun y k wr=>∃ (k':Int) (cur:Nat),k=.int .i64 k'∧k'≤n∧-1000≤k'∧Hid (zQ a n k' cur)∧Hid (Num .u32 wr y cur)∧Hid (Below w.heap.size w wr)) (fun _ k _=>(intOf k).toNat)
 case atStart=>exact⟨n,a,rfl,by omega,hn0,aj ⟨by omega,fun h=>h,rfl⟩,HX,aj (Below.refl _ _)⟩
 case round=>
  obtain⟨k,cur,rfl,hk,hk0,hT,hN,hB⟩:=hrel
  by_cases h9:9≤k
  ·go_wp2_with fail
   refine(sj _ _ 1000000000 _ hN.out (by decide) (hT.out.le hn HA.out)).mono ?_;rintro e w3 ⟨y,rfl,hy,hb3⟩;have HY:=aj hy;have HB3:=aj hb3;clear hy hb3;go_wp2_with fail
   go_roundw
   case rel=>exact⟨k-9,cur*10 ^ 9,by go_num,by omega,by omega,aj (hT.out.next 9 h9),HY,aj (hB.out.trans (HB3.out.mono hB.out.size))⟩
   case measure=>simp[intOf];omega
  ·go_wp2_with fail
   go_loopw [0,1] (fun y k wr=>∃ (k':Int) (cur:Nat),k=.int .i64 k'∧k'≤n∧-1000≤k'∧Hid (zQ a n k' cur)∧Hid (Num .u32 wr y cur)∧Hid (Below w.heap.size w wr)) (fun _ k _=>(intOf k).toNat)
   case atStart=>exact⟨k,cur,rfl,hk,hk0,hT,hN,hB⟩
   case round=>
    clear hT hN hB h9 hk hk0;obtain⟨k,cur,rfl,hk,hk0,hT,hN,hB⟩:=hrel
    by_cases h0:0<k
    ·go_wp2_with fail
     refine(sj _ _ 10 _ hN.out (by decide) (hT.out.le hn HA.out)).mono ?_;rintro e w3 ⟨y,rfl,hy,hb3⟩;have HY:=aj hy;have HB3:=aj hb3;clear hy hb3;go_wp2_with fail
     go_roundw
     case rel=>exact⟨k-1,cur*10 ^ 1,by go_num,by omega,by omega,aj (hT.out.next 1 (by omega)),HY,aj (hB.out.trans (HB3.out.mono hB.out.size))⟩
     case measure=>simp[intOf];omega
    ·go_wp2_with fail
     go_ret;have he:=hT.out.2.2;rw[show k.toNat=0 by omega,Nat.pow_zero,bB] at he;exact⟨_,rfl,he ▸ hN.out,hB.out⟩
def MM (n:Nat) (w:World) (e:Ending) (w':World):Prop:=∃ t:Nat,e=.returned (.int .i64 t)∧2 ^ t≤2*n∧n<2 ^ t∧Below w.heap.size w w'
set_option maxRecDepth 100000 in
theorem PH (x:Value) (n:Nat) (w:World) (hx:Num .u32 w x n) (hn:n<Bs ^ KC) (h0:0<n):
  Calls Tryz.prog 182 #[x] w (MM n w):=by
 obtain⟨l,hl,hc,rfl⟩:=hx;have h1:l.length≤100000:=qb hc hn;obtain⟨a,cap,rfl,hcap,hl⟩:=hl
 have hpos:0<l.length:=by
  cases l with
  | nil=>simp[dA] at h0
  | cons d t=>simp
 obtain⟨g,off,rfl,hca⟩:=hl hpos;obtain⟨j,hj⟩:∃ j,l.length=j+1:=⟨l.length-1,by omega⟩;have hcell:=hca j (by omega);obtain⟨d,hd⟩:∃ d,l.getD j 0=d:=⟨_,rfl⟩;have hdb:d<4294967296:=by rw[←hd];exact hc.1.get j
 have hd0:d≠0:=by rw[←hd];refine hc.2 _ ?_;rw[iy,hj,cW,az,ag (by omega)];rfl
 rw[hd] at hcell;have HC:=aj hc;have HE:=aj hd;have HJ:=aj hj;rw[hj] at h1 ⊢;clear hl hca hd hj hc hn h0 hcap hpos;have cL:=Tryz.bits_Len32 d w (by omega) (by omega);obtain⟨b1,b2,b3,b4⟩:=vQ d (by omega) (by omega);have Ys:Lib.bitLen d≤32:=Lib.bitLen_le d 32 (by omega) (by omega);rw[show(d:Int).toNat=d by simp] at cL;obtain⟨t,ht⟩:∃ t,Lib.bitLen d=t+1:=⟨Lib.bitLen d-1,by omega⟩;rw[ht] at cL b3 b4 Ys;have HF:=aj (Iy HC.out.1 HJ.out (t:=t) (by rw[HE.out];rw[Nat.pow_succ] at b3;omega) (by rw[HE.out];exact b4));clear b1 b2 b3 b4 ht;go_enter Tryz.func182,Tryz.ntmps182
 go_wp2_with fail
 refine cL.mono ?_;clear cL;rintro e w' ⟨rfl,rfl⟩;go_wp2_with fail
 go_ret;refine⟨32*j+t+1,?_,?_,HF.out.2,Below.refl _ _⟩
 ·congr 2
 ·have:=HF.out.1;rw[Nat.pow_succ];omega
theorem Lim.news {k:IntKind} {w:World} {x:Value} {l:List Nat} (h:Lim k w x l) (hne:0<l.length):
  ∃ ad cap,x=.slice (some ad) l.length cap∧∀ (j:Nat) u,(l.map fun d=>Value.int k (d:Nat))[j]?=some u→w.cell? (ad.add j)=some u:=by
 obtain⟨a,cap,rfl,hc,h⟩:=h;obtain⟨g,off,rfl,hr⟩:=h hne;refine⟨_,cap,rfl,fun j u hu=>?_⟩;rw[bK] at hu
 by_cases hj:j<l.length
 ·have h1:=hr j hj;rw[ag hj] at hu;simp only[Option.map_some,fZ] at hu;rw[az,ag hj] at h1;have hadd:(⟨g,off,none⟩:Addr).add j=⟨g,off+j,none⟩:=by unfold Addr.add;split<;>simp_all
  rw[hadd,h1,←hu];rfl
 ·rw[bR (by omega)] at hu;cases hu
def Je (l:List Nat) (w:World) (e:Ending) (w':World):Prop:=∃ y,e=.returned y∧Own .u32 255 w.heap.size w' y l∧Below w.heap.size w w'
set_option maxRecDepth 100000 in
theorem SD (x:Value) (l:List Nat) (w:World) (hx:Lim .u32 w x l) (hne:0<l.length) (hl:l.length≤100000):
  Calls Tryz.prog 185 #[x] w (Je l w):=by
 obtain⟨i75,hi,hz,hs,hb⟩:=cF Bz;obtain⟨ad,cap,rfl,hnews⟩:=hx.news hne;have HX:=aj hnews;have hown:Hid ((w.alloc (.cells #[] 255)).ownsRow w.heap.size 255 1 (.slice (some ⟨w.heap.size,0,none⟩) 0 0) 0 []):=aj (pP w #[] 0 (aq _) (by decide) rfl);obtain⟨n,hn⟩:∃ n,l.length=n:=⟨_,rfl⟩;have HN:=aj hn
 have hbel:Hid (∀ j u,(l.map fun d=>Value.int .u32 (d:Nat))[j]?=some u→(w.alloc (.cells #[] 255)).cell? (ad.add j)=some u):=aj (fun j u hu=>by
  have h1:=HX.out j u hu;rw[←h1]
  exact((Below.refl w.heap.size w).alloc (aq _) _).cell (rF h1))
 have hone:Hid (∀ u∈(l.map fun d=>Value.int .u32 (d:Nat)),u.oneCell'=true):=aj (by
  intro u hu;obtain⟨d,_,rfl⟩:=aV.mp hu
  rfl)
 rw[hn] at hne hl ⊢;clear hx hnews hn;have heq:∀ W:World,Sem.run Tryz.prog (binOp BinOp.eql 249 (.slice (some ad) n cap) (.slice none 0 0)) W=.ok (.bool false) W:=fun W=>Lib.run_eql_slice_nil W 249 255 (some ad) n cap 0 0 Tryz.underlying249
 go_enter Tryz.func185,Tryz.ntmps185
 go_wp2_with (at_builtin;refine mq _ rfl (.tmp 5) (.tmp 6) 249 rfl w.heap.size 255 i75 (.int .u32 0) 4 Tryz.underlying249 hi hz hs hb rfl (.slice (some ⟨w.heap.size,0,none⟩) 0 0) 0 [] rfl hown.out ad n cap (l.map fun d=>Value.int .u32 (d:Nat)) rfl ?_ hne hbel.out hone.out ?_ ?_ ?_ ?_;(rw[aU,HN.out]);(unfold maxLen;omega);omega;simp;intro g2 cap2 w2 ho2 hg2 hx2;have AL:=aj ho2;have HG2:=aj hg2;clear ho2 hg2 hx2)
 go_ret;refine⟨_,rfl,?_,((Below.refl w.heap.size w).alloc (aq _) _).grown HG2.out (by simp) (fun k e=>by simp[Value.ownBlock] at e;omega)⟩;unfold Own;rw[HN.out];simpa using AL.out
end fl
end Go.Proofs.YthpdlidbaojlbaaGreatDoor
