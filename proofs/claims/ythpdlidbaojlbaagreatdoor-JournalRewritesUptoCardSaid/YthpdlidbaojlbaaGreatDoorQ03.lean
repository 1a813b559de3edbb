/- What Rewrite tells, as plain data: groups of words parted in -/
import Derived.Test.YthpdlidbaojlbaaGreatDoorQ02
set_option linter.unusedVariables false
set_option linter.unusedSimpArgs false
set_option maxHeartbeats 4000000
open Go.ChangeShapes Go.WideShapes Go.ChangeAt Go.RowKit
namespace Go.Proofs.YthpdlidbaojlbaaGreatDoor
namespace jr
def GW (w:World) (B L:Nat) (x:Value) (ss:List ByteArray):Prop:=w.ownsRow B 9 1 x ss.length (ss.map Value.string)∧∀ k,x.ownBlock=some k→k<L
def I6 (w:World) (B L:Nat) (v:Value) (ll:List (List ByteArray)):Prop:=
 ∃ xs,w.ownsRow B 32 1 v ll.length xs∧(∀ k,v.ownBlock=some k→k<L)∧(∀ i,i<ll.length→∃ x,xs[i]?=some x∧GW w B L x (ll.getD i []))∧
  ∀ (i j:Nat) (x y:Value),i<j→xs[i]?=some x→xs[j]?=some y→∀ k,x.ownBlock=some k→y.ownBlock≠some k
theorem vm {w:World} {base:Nat} {e:TypeId} {size n:Nat} {v:Value} {xs:List Value} (h:w.ownsRow base e size v n xs):
  ∃ a cap,v=.slice a n cap∧cap≤maxLen∧n≤cap∧(0<n→∃ g,a=some ⟨g,0,none⟩):=by
 rcases h.2 with⟨rfl,rfl⟩|⟨g,cap,cur,rfl,hb,hg,hn,hc,_⟩
 ·exact⟨none,0,rfl,by simp[maxLen],aq _,fun h=>by omega⟩
 ·exact⟨_,cap,rfl,hc,hn,fun _=>⟨g,rfl⟩⟩
theorem tC {w:World} {b1 b2:Nat} {e1 e2:TypeId} {s1 s2 n1 n2:Nat} {v1 v2:Value} {x1 x2:List Value} (h1:w.ownsRow b1 e1 s1 v1 n1 x1) (h2:w.ownsRow b2 e2 s2 v2 n2 x2) (he:e1≠e2):∀ k,v1.ownBlock=some k→v2.ownBlock≠some k:=by
 intro k hk1 hk2
 rcases h1.2 with⟨rfl,_⟩|⟨g1,OA,jv,rfl,_,hg1,_⟩
 ·simp[Value.ownBlock] at hk1
 ·rcases h2.2 with⟨rfl,_⟩|⟨g2,cap2,qe,rfl,_,hg2,_⟩
  ·simp[Value.ownBlock] at hk2
  ·simp[Value.ownBlock] at hk1 hk2;subst hk1;subst hk2;rw[hg1] at hg2;simp at hg2;exact he hg2.2
theorem Fv (W:World) (o:Obj) (v:Value) (t:TypeId):∀ (j:Nat) u,[v][j]?=some u→((W.alloc o).alloc (.cells #[v] t)).cell? ((⟨W.heap.size+1,0,none⟩:Addr).add j)=some u:=by have:=tO (W.alloc o) [v] t;simpa using this
theorem Ie {a:Option Addr} {n c:Nat}:∀ u∈[Value.slice a n c],u.oneCell'=true:=by intro u hu;simp at hu;subst hu;rfl
theorem NG {s:ByteArray}:∀ u∈[Value.string s],u.oneCell'=true:=by intro u hu;simp at hu;subst hu;rfl
def PK (w:World) (B L:Nat) (v:Value) (n:Nat) (xZ:List Value) (ll:List (List ByteArray)) (k:Nat) (xs:List Value) (wr:World):Prop:=Kept (fun k=>k<B∨L≤k) w wr∧wr.ownsRow B 32 1 v n xs∧∀ j,k≤j→j<n→xs[j]?=xZ[j]?∧∃ x,xZ[j]?=some x∧GW wr B L x (ll.getD j [])
def DY (w:World) (B L:Nat) (v:Value) (n:Nat) (xZ:List Value) (ll:List (List ByteArray)) (k:Nat) (xs:List Value) (x:Value) (m:Nat) (wi:World):Prop:=Kept (fun k=>k<B∨L≤k) w wi∧wi.ownsRow B 32 1 v n xs∧(∃ ys,wi.ownsRow B 9 1 x m ys)∧∀ j,k<j→j<n→xs[j]?=xZ[j]?∧∃ y,xZ[j]?=some y∧GW wi B L y (ll.getD j [])
theorem DY.put {w:World} {B L:Nat} {v:Value} {n:Nat} {xZ:List Value} {ll:List (List ByteArray)} {k:Nat} {xs:List Value} {m g c q:Nat} {wi:World} (hq:q<m)
  (h:DY w B L v n xZ ll k xs (.slice (some ⟨g,0,none⟩) m c) m wi) (hg:g<L) (hx:xZ[k]?=some (.slice (some ⟨g,0,none⟩) m c))
  (hp:∀ (i j:Nat) (x y:Value),i<j→xZ[i]?=some x→xZ[j]?=some y→∀ k,x.ownBlock=some k→y.ownBlock≠some k) (u:Value):
  DY w B L v n xZ ll k xs (.slice (some ⟨g,0,none⟩) m c) m (wi.setCell ⟨g,q,none⟩ u):=by
 obtain⟨h1,h2,⟨ys,h3⟩,h4⟩:=h;have hgB:B≤g:=(h3.lt g rfl).1;refine⟨h1.setCell (fun _ hs=>by rcases hs with hs|hs<;>simp at hs<;>omega) u,fe (a:=⟨g,q,none⟩) h2 (fun e=>tC h2 h3 (by decide) _ e rfl) u,⟨_,(h3.stored q u).1⟩,fun j hj hjn=>?_⟩;obtain⟨e,y,hy,hi,hl⟩:=h4 j hj hjn;exact⟨e,y,hy,fe (a:=⟨g,q,none⟩) hi (hp k j _ y hj hx hy g rfl) u,hl⟩
theorem I4 {wr w1:World} {B g n cap k:Nat} {xs ys zs:List Value} {x u:Value} {m g2 cap2:Nat} {o:Obj} (hr:wr.ownsRow B 32 1 (.slice (some ⟨g,0,none⟩) n cap) n xs) (hy:wr.ownsRow B 9 1 x m ys)
  (ho:w1.ownsRow B 9 1 (.slice (some ⟨g2,0,none⟩) (m+1) cap2) (m+1) zs) (hg:(wr.alloc o).grownBy w1 x.ownBlock) (hm:0<m+1)
  (hc:wr.cell? ⟨g,k,none⟩=some u) (hk:k<n):
  (∃ c,w1.cell? ⟨g2,0,none⟩=some c)∧w1.frozen? ⟨g2,0,none⟩=false∧(∀ y,(w1.setCell ⟨g2,0,none⟩ y).cell? ⟨g,k,none⟩=some u)∧(∀ y,(w1.setCell ⟨g2,0,none⟩ y).frozen? ⟨g,k,none⟩=false)∧(∃ c,w1.cell? ⟨g,k,none⟩=some c)∧Hid (w1.ownsRow B 32 1 (.slice (some ⟨g,0,none⟩) n cap) n xs∧g2≠g):=by
 have hrow:w1.ownsRow B 32 1 (.slice (some ⟨g,0,none⟩) n cap) n xs:=(hr.alloc o).kept hg (.inr (fun e=>tC hr hy (by decide) g rfl (e ▸ rfl)));have hne:g2≠g:=fun e=>tC ho hrow (by decide) g2 rfl (by rw[e];rfl)
 have hcg:w1.cell? ⟨g,k,none⟩=some u:=by rw[hrow.cellAt k (by omega),←hr.cellAt k (by omega)];exact hc
 refine⟨Ae ho hm,ho.frozenAt 0,fun y=>?_,fun y=>?_,⟨u,hcg⟩,hrow,hne⟩
 ·rw[kJ w1 _ _ _ (fun e=>hne (congrArg Addr.block e))];exact hcg
 ·rw[ml];exact hrow.frozenAt k
theorem Nl {w wr w1:World} {B L:Nat} {n k m g cap g2 cap2:Nat} {xZ xs ys zs:List Value} {ll:List (List ByteArray)} {x:Value} {o:Obj}
  (hlt:k<n) (hx:xZ[k]?=some x) (hgl:∀ g',x.ownBlock=some g'→B≤g'∧g'<L)
  (hp:∀ (i j:Nat) (x y:Value),i<j→xZ[i]?=some x→xZ[j]?=some y→∀ k,x.ownBlock=some k→y.ownBlock≠some k)
  (hk:Kept (fun k=>k<B∨L≤k) w wr) (hr:wr.ownsRow B 32 1 (.slice (some ⟨g,0,none⟩) n cap) n xs) (hy:wr.ownsRow B 9 1 x m ys)
  (hrest:∀ j,k<j→j<n→xs[j]?=xZ[j]?∧∃ y,xZ[j]?=some y∧GW wr B L y (ll.getD j [])) (hg1:B≤g) (hg2:g<L)
  (ho:w1.ownsRow B 9 1 (.slice (some ⟨g2,0,none⟩) (m+1) cap2) (m+1) zs) (hg:(wr.alloc o).grownBy w1 x.ownBlock) (hd:x.ownBlock=some g2∨((wr.alloc o).heap.size≤g2∧(wr.alloc o).grownBy w1 none))
  (hr1:w1.ownsRow B 32 1 (.slice (some ⟨g,0,none⟩) n cap) n xs) (hne:g2≠g) (u:Value):
  PK w B L (.slice (some ⟨g,0,none⟩) n cap) n xZ ll (k+1) (xs.set k (.slice (some ⟨g2,0,none⟩) (m+1) cap2)) ((w1.setCell ⟨g2,0,none⟩ u).setCell ⟨g,k,none⟩ (.slice (some ⟨g2,0,none⟩) (m+1) cap2)):=by
 have hsz:=hk.size;refine⟨(((hk.alloc o).grown hg ?_).setCell ?_ u).setCell ?_ _,((fe (a:=⟨g2,0,none⟩) hr1 (fun e=>hne (cK e).symm) u).stored k _).1,?_⟩
 ·intro j hj _ hs;have:=hgl j hj;omega
 ·intro hlt2 hs;simp only at hlt2 hs
  rcases hd with hd|⟨hd,_⟩
  ·have:=hgl g2 hd;omega
  ·simp at hd;omega
 ·intro _ hs;simp only at hs;omega
 ·intro j hj hjn;obtain⟨e,y,hy0,hi,hl⟩:=hrest j (by omega) hjn;refine⟨by rw[List.getElem?_set_ne (by omega)];exact e,y,hy0,?_,hl⟩
  have a1:w1.ownsRow B 9 1 y (ll.getD j []).length ((ll.getD j []).map Value.string):=(hi.alloc o).kept hg (by
   cases hb:y.ownBlock with
   | none=>exact .inl rfl
   | some b=>exact .inr (fun e=>hp k j x y (by omega) hx hy0 b e.symm hb))
  have a2:y.ownBlock≠some g2:=fun e=>by
   rcases hd with hd|⟨hd,_⟩
   ·exact hp k j x y (by omega) hx hy0 g2 hd e
   ·have:=(hi.lt g2 e).2;simp at hd;omega
  have a3:=fe (a:=⟨g2,0,none⟩) a1 a2 u;exact fe (a:=⟨g,k,none⟩) a3 (fun e=>tC a1 hr1 (by decide) _ e rfl) _
theorem Qh {w wr w1:World} {B L:Nat} {n cap g2:Nat} {a:Option Addr} {xs:List Value} {o1 o2:Obj}
  (hk:Kept (fun k=>k<B∨L≤k) w wr) (hr:wr.ownsRow B 32 1 (.slice a n cap) n xs) (hL:∀ k,(Value.slice a n cap).ownBlock=some k→k<L)
  (hg:((wr.alloc o1).alloc o2).grownBy w1 (Value.slice a n cap).ownBlock) (hd:(Value.slice a n cap).ownBlock=some g2∨(((wr.alloc o1).alloc o2).heap.size≤g2∧((wr.alloc o1).alloc o2).grownBy w1 none)) (u:Value):
  Kept (fun k=>k<B∨L≤k) w (w1.setCell ⟨g2,0,none⟩ u):=by
 have hsz:=hk.size;refine((((hk.alloc o1).alloc o2).grown hg ?_).setCell ?_ u)
 ·intro j hj _ hs;have h1:=(hr.lt j hj).1;have h2:=hL j hj;omega
 ·intro hlt2 hs;simp only at hlt2 hs
  rcases hd with hd|⟨hd,_⟩
  ·have h1:=(hr.lt g2 hd).1;have h2:=hL g2 hd;omega
  ·simp at hd;omega
set_option maxRecDepth 100000 in
set_option maxHeartbeats 6000000 in
theorem Qg (ll:List (List ByteArray)) (B L:Nat) (v:Value) (w:World) (hown:I6 w B L v ll) (hB:B≤w.heap.size) (hL:L≤w.heap.size)
  (hn:ll.length≤16777216) (hm:∀ l∈ll,l.length≤16777216):
  Calls Tryz.prog 9 #[v] w (VX (fun k=>k<B∨L≤k) w):=by
 obtain⟨i9,hi9,iV,iA,im⟩:=cF Up;obtain⟨i45,Yg,Xg,XO,Yr⟩:=cF RE;obtain⟨xZ,ue,XI,RW,UT⟩:=hown;obtain⟨a,cap,hv,hcap,Py,ha⟩:=vm ue;subst hv;obtain⟨n,hnn⟩:∃ n,ll.length=n:=⟨_,rfl⟩;rw[hnn] at ue XI RW Py ha hn ⊢;have hm':∀ i,i<n→(ll.getD i []).length≤16777216:=fun i hi=>hm _ (by rw[az,ag (by rw[hnn];exact hi)];simp)
 have HN:=jk hnn;have HM:=jk hm';have Ea:=jk ue;have HV:=jk XI;have HI:=jk RW;have HP:=jk UT;have HA:=jk ha;have HC:=jk hcap;clear hnn hm hm' ue XI RW UT ha hcap Py;go_enter Tryz.func9,Tryz.ntmps9
 go_wp2
 go_loopw [7,2,3,4] (fun i _ _ _ wr=>∃ (k:Nat) (xs:List Value),i=.int .i64 k∧k≤n∧PK w B L (.slice a n cap) n xZ ll k xs wr) (fun i _ _ _ _=>n-(intOf i).toNat)
 case atStart=>exact⟨0,xZ,rfl,by omega,Kept.refl _ _,Ea.out,fun j _ hj=>⟨rfl,HI.out j hj⟩⟩
 case round=>
  obtain⟨k,xs,rfl,hk,hrel⟩:=hrel
  by_cases hlt:k<n
  ·obtain⟨hkept,hrow,hrest⟩:=hrel;obtain⟨g,rfl⟩:=HA.out (by omega);obtain⟨hx1,x,hx2,RV⟩:=hrest k (aq _) hlt;obtain⟨m,hmm⟩:∃ m,(ll.getD k []).length=m:=⟨_,rfl⟩;have hmb:=HM.out k hlt;rw[hmm] at hmb;obtain⟨hin1,hin2⟩:=RV;rw[hmm] at hin1;obtain⟨ax,cx,rfl,hcx,hmc,hax⟩:=vm hin1;have hcell:=hrow.cellAt k (by omega);rw[hx1,hx2] at hcell;have hfz:=hrow.frozenAt k;have hlt':(k:Int)<(n:Int):=by omega
   have HK:=jk hkept;have HR:=jk hrow;have HX:=jk hrest;have OY:=jk hx2;have Jh:=jk hx1;have Wr:=jk hin1;have HIL:=jk hin2;have HAX:=jk hax;have VI:=jk hmm;have HCX:=jk hcx;clear hkept hrow hrest hx1 hx2 hin1 hin2 hax hmm hcx hmc;go_wp2
   obtain⟨wo,rfl⟩:∃ wo:World,wo=wr:=⟨_,rfl⟩
   go_loopw [15,3] (fun i _ wi=>∃ (q:Nat),i=.int .i64 q∧q≤m∧DY w B L (.slice (some ⟨g,0,none⟩) n cap) n xZ ll k xs (.slice ax m cx) m wi) (fun i _ _=>m-(intOf i).toNat)
   case atStart=>exact⟨0,rfl,by omega,HK.out,HR.out,⟨_,Wr.out⟩,fun j hj hjn=>HX.out j (by omega) hjn⟩
   case round=>
    obtain⟨q,rfl,hq,hin⟩:=hrel
    by_cases hlq:q<m
    ·obtain⟨g',rfl⟩:=HAX.out (by omega);have We:=HIL.out g' rfl;have vU:Hid (DY w B L (.slice (some ⟨g,0,none⟩) n cap) n xZ ll k xs (.slice (some ⟨g',0,none⟩) m cx) m (wr.setCell ⟨g',q,none⟩ (.string ⟨#[115,112,111,105,108,116]⟩))):=hin.put hlq We OY.out HP.out _;have hcell1:=hin.2.1.cellAt k (by omega);rw[Jh.out,OY.out] at hcell1;obtain⟨ys,hys⟩:=hin.2.2.1;have abZ:=hys.frozenAt q
     obtain⟨yq,hyq⟩:∃ y,wr.cell? ⟨g',q,none⟩=some y:=by rw[hys.cellAt q (by omega)];exact⟨_,ag (by rw[hys.1];omega)⟩
     have X8:(q:Int)<(m:Int):=by omega
     clear hin hys hfz hcell;go_wp2
     go_roundw
     case rel=>exact⟨q+1,by go_num,by omega,vU.out⟩
     case measure=>simp[intOf];omega
    ·have hge:(m:Int)≤(q:Int):=by omega
     have hcell1:=hin.2.1.cellAt k (by omega);rw[Jh.out,OY.out] at hcell1;obtain⟨hk1,Pw,⟨ys,hys⟩,Li⟩:=hin;have rP:=jk hk1;have HR1:=jk Pw;have xt:=jk hys;have OX:=jk Li;clear hk1 Pw hys Li hfz hcell;have We:∀ g',(Value.slice ax m cx).ownBlock=some g'→B≤g'∧g'<L:=fun g' e=>⟨(xt.out.lt g' e).1,HIL.out g' e⟩
     have zu:=jk We;have hgo:B≤g:=(HR1.out.lt g rfl).1;have Yi:g<L:=HV.out g rfl;have Ld:B≤(wr.alloc (.cells #[.string ⟨#[109,111,114,101]⟩] 9)).heap.size:=by have:=rP.out.size;simp;omega
     have tj:=jk Ld;clear We Ld;go_wp2_with (at_builtin;refine mq _ rfl _ _ 32 rfl B 9 i9 _ 16 Tryz.underlying32 hi9 iV iA im rfl _ m ys rfl (xt.out.alloc _) _ 1 1 [.string ⟨#[109,111,114,101]⟩] rfl rfl (by decide) ?_ ?_ ?_ ?_ ?_ ?_;exact tO wr [.string ⟨#[109,111,114,101]⟩] 9;exact NG;(unfold maxLen;omega);omega;exact tj.out;intro g2 cap2 w1 ho1 hg1 hd1;obtain⟨⟨c0,hc0⟩,hf0,hcg,hfg,⟨c0',hc0'⟩,AL⟩:=I4 HR1.out xt.out ho1 hg1 (by omega) hcell1 (by omega);have HO:=jk ho1;have HG:=jk hg1;have HD:=jk hd1;clear ho1 hg1 hd1 hcell1)
     go_roundw
     case rel=>exact⟨k+1,_,by go_num,by omega,Nl hlt OY.out zu.out HP.out rP.out HR1.out xt.out OX.out hgo Yi HO.out HG.out HD.out AL.out.1 AL.out.2 _⟩
     case measure=>simp[intOf];omega
  ·obtain⟨hkept,hrow,_⟩:=hrel;have hge:(n:Int)≤(k:Int):=by omega
   have HK:=jk hkept;have HR:=jk hrow;have Ld:∀ o1 o2,B≤((wr.alloc o1).alloc o2).heap.size:=by intro o1 o2;have:=hkept.size;simp;omega
   have tj:=jk Ld;clear hkept hrow Ld;go_wp2_with (at_builtin;refine mq _ rfl _ _ 25 rfl B 32 i45 _ 24 Tryz.underlying25 Yg Xg XO Yr rfl _ n xs rfl ((HR.out.alloc _).alloc _) _ 1 1 [.slice (some ⟨wr.heap.size,0,none⟩) 1 1] rfl rfl (by decide) ?_ ?_ ?_ ?_ ?_ ?_;exact Fv wr _ _ 32;exact Ie;(unfold maxLen;omega);omega;exact tj.out _ _;intro g2 cap2 w1 ho1 hg1 hd1;have hf1:=ho1.frozenAt 0;obtain⟨c0,hc0⟩:=Ae ho1 (by omega);have HO:=jk ho1;have HG:=jk hg1;have HD:=jk hd1;clear ho1 hg1 hd1)
   go_end0
   exact⟨rfl,Qh HK.out HR.out HV.out HG.out HD.out _⟩
end jr
namespace jw
open ks (af ae hlt ah bC alloc_old aG aX aT)
variable {α:Type}
structure Enc (enc:α→List Value) (k:Nat):Prop where
 n:∀ x,(enc x).length=k
 one:∀ x,∀ u∈enc x,u.oneCell'=true
 pos:0<k
def eh (enc:α→List Value) (k:Nat) (w:World) (v:Value) (l:List α):Prop:=∃ a cap,v=.slice a l.length cap∧l.length≤cap∧cap≤maxLen∧(a=none→cap=0)∧(0<l.length→∃ g off,a=some ⟨g,off,none⟩∧∀ i x,l[i]?=some x→∀ j u,(enc x)[j]?=some u→w.cell? ⟨g,off+i*k+j,none⟩=some u)
theorem ak {w w':World} (h:af [] w w') {a:Addr} {u:Value} (hc:w.cell? a=some u):w'.cell? a=some u:=(ez (h.block _ (du w a hc) (by simp))).trans hc
theorem eM {bs:List Nat} {w w':World} (h:af bs w w') {a:Addr} {u:Value} (hc:w.cell? a=some u) (hb:a.block∉bs):w'.cell? a=some u:=(ez (h.block _ (du w a hc) hb)).trans hc
theorem rB {bs:List Nat} {w w':World} (h:af bs w w') {a:Addr} {u:Value} (hc:w.cell? a=some u) (hb:a.block∉bs):w'.frozen? a=w.frozen? a:=rJ (h.block _ (du w a hc) hb)
theorem eh.aN {enc:α→List Value} {k:Nat} {w w':World} {v:Value} {l:List α} (h:eh enc k w v l) (hk:af [] w w'):eh enc k w' v l:=by obtain⟨a,cap,hv,h1,h2,h3,hr⟩:=h;refine⟨a,cap,hv,h1,h2,h3,fun hn=>?_⟩;obtain⟨g,off,ha,hc⟩:=hr hn;exact⟨g,off,ha,fun i x hx j u hu=>ak hk (hc i x hx j u hu)⟩
def bF (enc:α→List Value) (k:Nat) (ty:TypeId) (B:Nat) (w:World) (v:Value) (l:List α):Prop:=w.ownsRow B ty k v l.length (l.flatMap enc)
theorem iF {enc:α→List Value} {k:Nat} (he:∀ x,(enc x).length=k) (l:List α):(l.flatMap enc).length=l.length*k:=by
 induction l with
 | nil=>simp
 | cons x l ih=>rw[di,aM,ih,he,List.length_cons,l0,jC]
theorem pK {enc:α→List Value} {k:Nat} (he:∀ x,(enc x).length=k):∀ (l:List α) (i j:Nat) (x:α),l[i]?=some x→j<k→(l.flatMap enc)[i*k+j]?=(enc x)[j]?
 | [],i,j,x,h,hj=>by simp at h
 | y::l,0,j,x,h,hj=>by simp at h;subst h;rw[di,b8 (by rw[he];omega)];simp
 | y::l,i+1,j,x,h,hj=>by simp at h;rw[di,bN (by rw[he,l0];omega),show(i+1)*k+j-(enc y).length=i*k+j by rw[he,l0];omega];exact pK he l i j x h hj
namespace bF
variable {enc:α→List Value} {k:Nat} {ty:TypeId} {B:Nat} {w w':World} {v:Value} {l:List α}
theorem nil (enc:α→List Value) (k:Nat) (ty:TypeId) (B:Nat) (w:World):bF enc k ty B w (.slice none 0 0) []:=by unfold bF;exact pO _ _ _ _
theorem bY (h:bF enc k ty B w v l) (hk:∀ b,v.ownBlock=some b→w'.heap[b]?=w.heap[b]?):bF enc k ty B w' v l:=by
 refine⟨h.1,?_⟩
 rcases h.2 with h2|⟨g,cap,cur,rfl,hb,hg,r⟩
 ·exact .inl h2
 ·exact .inr ⟨g,cap,cur,rfl,hb,(hk g rfl).trans hg,r⟩
theorem lt (h:bF enc k ty B w v l):∀ b,v.ownBlock=some b→B≤b∧b<w.heap.size:=World.ownsRow.lt h
theorem keeps {bs:List Nat} (h:bF enc k ty B w v l) (hk:af bs w w') (hb:∀ b,v.ownBlock=some b→b∉bs):bF enc k ty B w' v l:=h.bY (fun b e=>hk.block b (h.lt b e).2 (hb b e))
theorem aN (h:bF enc k ty B w v l) (hk:af [] w w'):bF enc k ty B w' v l:=h.keeps hk (fun _ _=>by simp)
theorem form (h:bF enc k ty B w v l):∃ a cap,v=.slice a l.length cap∧l.length≤cap∧cap≤maxLen∧(a=none→cap=0)∧(0<l.length→∃ g,a=some ⟨g,0,none⟩):=by
 rcases h.2 with⟨rfl,h0⟩|⟨g,cap,cur,rfl,_,_,h1,h2,_⟩
 ·exact⟨none,0,by rw[h0],by omega,by simp[maxLen],fun _=>rfl,fun hn=>by omega⟩
 ·exact⟨_,cap,rfl,h1,h2,(fun e=>by cases e),fun _=>⟨g,rfl⟩⟩
theorem cell (he:∀ x,(enc x).length=k) {g n cap:Nat} (h:bF enc k ty B w (.slice (some ⟨g,0,none⟩) n cap) l) {i:Nat} {x:α} (hx:l[i]?=some x) {j:Nat} {u:Value} (hu:(enc x)[j]?=some u):w.cell? ⟨g,i*k+j,none⟩=some u:=by
 have hj:j<k:=by have:=(au.1 hu).1;rw[he] at this;exact this
 have hi:=(au.1 hx).1;obtain⟨a,c,hv,_⟩:=h.form
 injection hv with e1 e2 e3
 subst e2;have h2:w.ownsRow B ty k (.slice (some ⟨g,0,none⟩) l.length cap) l.length (l.flatMap enc):=h
 have hlt:i*k+j<l.length*k:=by have:=aI k (show i+1≤l.length by omega);rw[l0] at this;omega
 rw[h2.cellAt _ hlt,pK he l i j x hx hj];exact hu
theorem frozen {g n cap:Nat} (h:bF enc k ty B w (.slice (some ⟨g,0,none⟩) n cap) l) (j:Nat):w.frozen? ⟨g,j,none⟩=false:=by
 obtain⟨a,c,hv,_⟩:=h.form
 injection hv with e1 e2 e3
 subst e2;exact World.ownsRow.frozenAt h j
theorem row (h:bF enc k ty B w v l) (he:∀ x,(enc x).length=k):eh enc k w v l:=by obtain⟨a,cap,rfl,h1,h2,h3,ha⟩:=h.form;refine⟨a,cap,rfl,h1,h2,h3,fun hn=>?_⟩;obtain⟨g,rfl⟩:=ha hn;exact⟨g,0,rfl,fun i x hx j u hu=>by rw[bD];exact h.cell he hx hu⟩
theorem Bb (h:bF enc k ty B w v l) {B':Nat} (hb:∀ b,v.ownBlock=some b→B'≤b):bF enc k ty B' w v l:=by
 refine⟨h.1,?_⟩
 rcases h.2 with h2|⟨g,cap,cur,rfl,_,r⟩
 ·exact .inl h2
 ·exact .inr ⟨g,cap,cur,rfl,hb g rfl,r⟩
theorem mono (h:bF enc k ty B w v l) {B':Nat} (hb:B'≤B):bF enc k ty B' w v l:=h.Bb (fun b e=>by have:=(h.lt b e).1;omega)
theorem app {n m:Nat} {g cap:Nat} {xs:List α} (h:w.ownsRow B ty k (.slice (some ⟨g,0,none⟩) (n+m) cap) (n+m) (l.flatMap enc++xs.flatMap enc)) (hn:n=l.length) (hm:m=xs.length):
  bF enc k ty B w (.slice (some ⟨g,0,none⟩) (n+m) cap) (l++xs):=by
 unfold bF;rw[aM,←hn,←hm,gk];exact h
theorem Y4 {n:Nat} {g cap:Nat} {x:α} {news:List Value} (h:w.ownsRow B ty k (.slice (some ⟨g,0,none⟩) (n+1) cap) (n+1) (l.flatMap enc++news)) (hn:n=l.length) (hx:news=enc x):
  bF enc k ty B w (.slice (some ⟨g,0,none⟩) (n+1) cap) (l++[x]):=app (xs:=[x]) (by simpa[hx] using h) hn rfl
theorem apart {β:Type} {enc2:β→List Value} {k2 B2:Nat} {Z4:TypeId} {v2:Value} {l2:List β} (h:bF enc k ty B w v l) (h2:bF enc2 k2 Z4 B2 w v2 l2) (hne:ty≠Z4):∀ b,v.ownBlock=some b→v2.ownBlock≠some b:=by
 intro b hb1 hb2
 rcases h.2 with⟨rfl,_⟩|⟨g1,OA,jv,rfl,_,hg1,_⟩
 ·simp[Value.ownBlock] at hb1
 ·rcases h2.2 with⟨rfl,_⟩|⟨g2,cap2,qe,rfl,_,hg2,_⟩
  ·simp[Value.ownBlock] at hb2
  ·simp[Value.ownBlock] at hb1 hb2;subst hb1;subst hb2;rw[hg1] at hg2;simp at hg2;exact hne hg2.2
theorem bw (h:bF enc k ty B w v l) {b:Nat} {c:Array Value} {t:TypeId} {fz:Nat×Nat} (hb:w.heap[b]?=some (.cells c t fz)) (hne:ty≠t):v.ownBlock≠some b:=by
 intro e
 rcases h.2 with⟨rfl,_⟩|⟨g1,OA,jv,rfl,_,hg1,_⟩
 ·simp[Value.ownBlock] at e
 ·simp[Value.ownBlock] at e;subst e;rw[hg1] at hb;simp at hb;exact hne hb.2.1
end bF
theorem j5 {a b:World} {row:Option Nat} (h:a.grownBy b row):af row.toList a b:=⟨h.os,h.tape,h.output,h.size,fun i hi hs=>h.block i hi (fun e=>hs (by rw[←e];simp))⟩
structure gX (w:World) (F:List Nat) (w':World) (F':List Nat):Prop where
 k:af F w w'
 b:∀ c∈F',c∈F∨w.heap.size≤c
theorem gX.refl (w:World) (F:List Nat):gX w F w F:=⟨af.refl _ _,fun c hc=>.inl hc⟩
theorem gX.trans {w w1 w2:World} {F F1 F2:List Nat} (h:gX w F w1 F1) (h2:gX w1 F1 w2 F2):gX w F w2 F2:=
 ⟨h.k.step h2.k h.b,fun c hc=>by
  rcases h2.b c hc with h3|h3
  ·exact h.b c h3
  ·right;have:=h.k.size;omega⟩
theorem gX.aN {w w1 w2:World} {F F1:List Nat} (h:gX w F w1 F1) (hk:af [] w1 w2):gX w F w2 F1:=⟨h.k.trans (hk.mono (by simp)),h.b⟩
theorem gX.of0 {w w1:World} (F:List Nat) (hk:af [] w w1):gX w F w1 F:=⟨hk.mono (by simp),fun c hc=>.inl hc⟩
def Off (v:Value) (n:Nat) (F:List Nat):Prop:=0<n→∀ b,v.ownBlock=some b→b∉F
theorem eh.keeps {enc:α→List Value} {k:Nat} {w w':World} {v:Value} {l:List α} {F:List Nat} (h:eh enc k w v l) (hk:af F w w') (ho:Off v l.length F):eh enc k w' v l:=by obtain⟨a,cap,rfl,h1,h2,h3,hr⟩:=h;refine⟨a,cap,rfl,h1,h2,h3,fun hn=>?_⟩;obtain⟨g,off,rfl,hc⟩:=hr hn;exact⟨g,off,rfl,fun i x hx j u hu=>eM hk (hc i x hx j u hu) (ho hn g rfl)⟩
def b9 (s:ByteArray):List Value:=[.string s]
def gJ (x:ByteArray×ByteArray):List Value:=[.string x.1,.string x.2]
def dN (x:ByteArray×Nat):List Value:=[.string x.1,.float .f64 x.2]
theorem nI (x:ByteArray×Nat):(dN x).length=2:=rfl
theorem DB (l:List ByteArray):l.flatMap b9=l.map Value.string:=by
 induction l with
 | nil=>rfl
 | cons x l ih=>rw[di,ih];rfl
theorem eh.texts {w:World} {v:Value} {l:List ByteArray} (h:eh b9 1 w v l):∃ a cap,v=.slice a l.length cap∧l.length≤cap∧cap≤maxLen∧(a=none→cap=0)∧(0<l.length→∃ g off,a=some ⟨g,off,none⟩∧∀ i x,l[i]?=some x→w.cell? ⟨g,off+i,none⟩=some (.string x)):=by obtain⟨a,cap,h0,h1,h2,h4,h3⟩:=h;refine⟨a,cap,h0,h1,h2,h4,fun hn=>?_⟩;obtain⟨g,off,ha,hc⟩:=h3 hn;exact⟨g,off,ha,fun i x hx=>by have:=hc i x hx 0 (.string x) rfl;rwa [bB,Nat.add_zero] at this⟩
theorem eh.bL {w:World} {v:Value} {l:List (ByteArray×ByteArray)} (h:eh gJ 2 w v l):∃ a cap,v=.slice a l.length cap∧l.length≤cap∧cap≤maxLen∧(a=none→cap=0)∧(0<l.length→∃ g off,a=some ⟨g,off,none⟩∧∀ i x,l[i]?=some x→w.cell? ⟨g,off+i*2,none⟩=some (.string x.1)∧w.cell? ⟨g,off+i*2+1,none⟩=some (.string x.2)):=by obtain⟨a,cap,h0,h1,h2,h4,h3⟩:=h;refine⟨a,cap,h0,h1,h2,h4,fun hn=>?_⟩;obtain⟨g,off,ha,hc⟩:=h3 hn;exact⟨g,off,ha,fun i x hx=>⟨hc i x hx 0 _ rfl,hc i x hx 1 _ rfl⟩⟩
theorem eh.lN {w:World} {v:Value} {l:List (ByteArray×Nat)} (h:eh dN 2 w v l):∃ a cap,v=.slice a l.length cap∧l.length≤cap∧cap≤maxLen∧(a=none→cap=0)∧(0<l.length→∃ g off,a=some ⟨g,off,none⟩∧∀ i x,l[i]?=some x→w.cell? ⟨g,off+i*2,none⟩=some (.string x.1)∧w.cell? ⟨g,off+i*2+1,none⟩=some (.float .f64 x.2)):=by obtain⟨a,cap,h0,h1,h2,h4,h3⟩:=h;refine⟨a,cap,h0,h1,h2,h4,fun hn=>?_⟩;obtain⟨g,off,ha,hc⟩:=h3 hn;exact⟨g,off,ha,fun i x hx=>⟨hc i x hx 0 _ rfl,hc i x hx 1 _ rfl⟩⟩
end jw
namespace jw
open ks (af ae hlt ah bC alloc_old aG aX aT)
variable {α:Type}
theorem tO (W:World) (cs:List Value) (t:TypeId):∀ j u,cs[j]?=some u→(W.alloc (.cells cs.toArray t)).cell? ((⟨W.heap.size,0,none⟩:Addr).add j)=some u:=by
 intro j u hu;have hadd:(⟨W.heap.size,0,none⟩:Addr).add j=⟨W.heap.size,j,none⟩:=by unfold Addr.add;split<;>simp_all
 rw[hadd];unfold World.cell?;rw[show(W.alloc (.cells cs.toArray t)).heap[W.heap.size]?=some _ from iZ W _];simpa using hu
theorem xz {W w2:World} {o:Obj} {row:Option Nat} (h:(W.alloc o).grownBy w2 row):af row.toList W w2:=j5 ⟨h.os,h.tape,h.output,by have:=h.size;simp at this;omega,fun k hk hr=>(h.block k (by simp;omega) hr).trans (Below.heap_alloc _ _ _ hk)⟩
structure eW (enc:α→List Value) (k:Nat) (e:TypeId) (B:Nat) (W w':World) (v:Value) (l:List α) (y:α) (g n cap:Nat):Prop where
 own:bF enc k e B w' (.slice (some ⟨g,0,none⟩) (n+1) cap) (l++[y])
 bY:af v.ownBlock.toList W w'
 at_:v.ownBlock=some g∨W.heap.size≤g
 lt:g<w'.heap.size
structure jy (enc:α→List Value) (k:Nat) (e:TypeId) (B:Nat) (W w':World) (v v':Value) (l ys:List α):Prop where
 own:bF enc k e B w' v' (l++ys)
 bY:af v.ownBlock.toList W w'
 at_:∀ g,v'.ownBlock=some g→v.ownBlock=some g∨W.heap.size≤g
section
variable {P:Program}
theorem AR {W:World} {ob:Obj} {o:Oper} {a:Act} {K:Act→World→Prop} {Q:Exit→Act→World→Prop} (s x:Operand) (t:TypeId)
  (ho:o.op=.call { callee:=.builtin .append,args:=#[s,x],argTypes:=#[t,t] }) (enc:α→List Value) (k:Nat) (e:TypeId) (B:Nat) (i:TypeInfo) (z:Value) (bytes:Nat)
  (ht:P.underlying t=some (.slice e)) (hi:P.info? e=some i) (hz:i.zero=some z) (hsize:i.size=k) (hby:i.bytes=bytes) (hzs:z.cells.size=k) (he:Enc enc k)
  (v:Value) (n:Nat) (l:List α) (y:α) (hs:a.eval s=v) (hown:bF enc k e B W v l) (hn:n=l.length) (et:TypeId) (zI:ob=.cells (enc y).toArray et) (c:Nat) (hx:a.eval x=.slice (some ⟨W.heap.size,0,none⟩) 1 c)
  (h63:n+1≤maxLen) (hbytes:(n+1)*bytes≤140737488355328) (hB:B≤W.heap.size)
  (h:∀ g cap w',eW enc k e B W w' v l y g n cap→K (a.put o.dst (.slice (some ⟨g,0,none⟩) (n+1) cap)) w'):o.wp P a (W.alloc ob) K Q:=by
 subst zI hn;refine wp_append_lies (W.alloc (.cells (enc y).toArray et)) s x t ho B e i z k bytes ht hi hz hsize hby hzs he.pos v l.length (l.flatMap enc) hs (World.ownsRow.alloc hown _) ⟨W.heap.size,0,none⟩ 1 c (enc y) hx (by rw[he.n];omega) (tO W (enc y) et) (he.one y) (by decide) h63 hbytes (by simp;omega) _ rfl ?_;intro g cap w' ho2 hg hgb hgl;refine h g cap w' ⟨bF.Y4 ho2 rfl rfl,xz hg,?_,hgl⟩
 rcases hgb with h1|h1
 ·exact .inl h1
 ·right;rw[h1];simp
theorem gV {W:World} {ob:Obj} {ops:Array Oper} {rest:List Oper} {o:Oper} {a:Act} {Q:Exit→Act→World→Prop} (hgd:o.guard=none) (s x:Operand) (t:TypeId)
  (ho:o.op=.call { callee:=.builtin .append,args:=#[s,x],argTypes:=#[t,t] }) (enc:α→List Value) (k:Nat) (e:TypeId) (B:Nat) (i:TypeInfo) (z:Value) (bytes:Nat)
  (ht:P.underlying t=some (.slice e)) (hi:P.info? e=some i) (hz:i.zero=some z) (hsize:i.size=k) (hby:i.bytes=bytes) (hzs:z.cells.size=k) (he:Enc enc k)
  (v:Value) (n:Nat) (l:List α) (y:α) (hs:a.eval s=v) (hown:bF enc k e B W v l) (hn:n=l.length) (et:TypeId) (zI:ob=.cells (enc y).toArray et) (c:Nat) (hx:a.eval x=.slice (some ⟨W.heap.size,0,none⟩) 1 c)
  (h63:n+1≤maxLen) (hbytes:(n+1)*bytes≤140737488355328) (hB:B≤W.heap.size)
  (h:∀ g cap w',eW enc k e B W w' v l y g n cap→wpList P ops Q rest (a.put o.dst (.slice (some ⟨g,0,none⟩) (n+1) cap)) w'):wpList P ops Q (o::rest) a (W.alloc ob):=
 qQ hgd fun _ hK=>AR s x t ho enc k e B i z bytes ht hi hz hsize hby hzs he v n l y hs hown hn et zI c hx h63 hbytes hB fun g cap w' hp=>hK _ _ (h g cap w' hp)
theorem ei {W:World} {ob:Obj} {ops:Array Oper} {o:Oper} {a:Act} {K:Act→World→Prop} {Q:Exit→Act→World→Prop} {E:Prop} (hgd:o.guard=none) (s x:Operand) (t:TypeId)
  (ho:o.op=.call { callee:=.builtin .append,args:=#[s,x],argTypes:=#[t,t] }) (enc:α→List Value) (k:Nat) (e:TypeId) (B:Nat) (i:TypeInfo) (z:Value) (bytes:Nat)
  (ht:P.underlying t=some (.slice e)) (hi:P.info? e=some i) (hz:i.zero=some z) (hsize:i.size=k) (hby:i.bytes=bytes) (hzs:z.cells.size=k) (he:Enc enc k)
  (v:Value) (n:Nat) (l:List α) (y:α) (hs:a.eval s=v) (hown:bF enc k e B W v l) (hn:n=l.length) (et:TypeId) (zI:ob=.cells (enc y).toArray et) (c:Nat) (hx:a.eval x=.slice (some ⟨W.heap.size,0,none⟩) 1 c)
  (h63:n+1≤maxLen) (hbytes:(n+1)*bytes≤140737488355328) (hB:B≤W.heap.size)
  (h:∀ g cap w',eW enc k e B W w' v l y g n cap→K (a.put o.dst (.slice (some ⟨g,0,none⟩) (n+1) cap)) w'):
  if Region.wanted o (yielded ops a.tmps)=true then Oper.wp P o a (W.alloc ob) K Q else E:=by
 have hw:Region.wanted o (yielded ops a.tmps)=true:=by simp[Region.wanted,hgd]
 rw[aQ hw];exact AR s x t ho enc k e B i z bytes ht hi hz hsize hby hzs he v n l y hs hown hn et zI c hx h63 hbytes hB h
theorem zU {W:World} {o:Oper} {a:Act} {K:Act→World→Prop} {Q:Exit→Act→World→Prop} (s x:Operand) (t:TypeId)
  (ho:o.op=.call { callee:=.builtin .append,args:=#[s,x],argTypes:=#[t,t] }) (enc:α→List Value) (k:Nat) (e:TypeId) (B:Nat) (i:TypeInfo) (z:Value) (bytes:Nat)
  (ht:P.underlying t=some (.slice e)) (hi:P.info? e=some i) (hz:i.zero=some z) (hsize:i.size=k) (hby:i.bytes=bytes) (hzs:z.cells.size=k) (he:Enc enc k)
  (v:Value) (l:List α) (ys:List α) (u:Value) (hs:a.eval s=v) (hown:bF enc k e B W v l) (hx:a.eval x=u) (hr:eh enc k W u ys)
  (h63:l.length+ys.length≤maxLen) (hbytes:(l.length+ys.length)*bytes≤140737488355328) (hB:B≤W.heap.size)
  (h:∀ v' w',jy enc k e B W w' v v' l ys→K (a.put o.dst v') w'):o.wp P a W K Q:=by
 obtain⟨v',w',hrun,hsp⟩:∃ v' w',(Builtin.append_ #[t,t] o.type #[v,u]).run P W=.ok v' w'∧jy enc k e B W w' v v' l ys:=by
  obtain⟨ad,cap,rfl,_,_,h0,hc⟩:=hr
  cases ad with
  | none=>
   have hy:ys=[]:=by
    cases ys with
    | nil=>rfl
    | cons y ys=>obtain⟨g,off,e2,_⟩:=hc (by simp);cases e2
   subst hy;rw[h0 rfl];refine⟨v,W,run_append_owned_none W B t o.type e i k ht hi v l.length _ hown,⟨by rw[cZ];exact hown,af.refl _ _,fun g hg=>.inl hg⟩⟩
  | some ad=>
   have hnews:∀ j x,(ys.flatMap enc)[j]?=some x→W.cell? (ad.add j)=some x:=by
    intro j x hj;have hjl:=(au.1 hj).1;rw[iF he.n] at hjl;have hk:=he.pos;have hil:j / k<ys.length:=by rw[gw hk];exact hjl
    obtain⟨g,off,e2,hcc⟩:=hc (cE (bz _) hil);obtain rfl:=cK e2;have hjj:j / k*k+j % k=j:=by rw[aK];exact cY j k
    have hx:=pK he.n ys (j / k) (j % k) ys[j / k] (ag hil) (dq _ hk);rw[hjj,hj] at hx;have:=hcc (j / k) ys[j / k] (ag hil) (j % k) x hx.symm;rw[fW,hjj] at this;rw[iO];exact this
   have hone:∀ x∈ys.flatMap enc,x.oneCell'=true:=by intro x hx;obtain⟨y,_,hy⟩:=mJ.1 hx;exact he.one y x hy
   obtain⟨v',w',hrun,h2,h3,_,h5⟩:=run_append_own_at (P:=P) W B t o.type e i z k bytes ht hi hz hsize hby hzs he.pos v l.length _ hown ad ys.length cap (ys.flatMap enc) (iF he.n ys) hnews hone h63 hbytes hB;refine⟨v',w',hrun,⟨?_,j5 h3,fun g hg=>?_⟩⟩
   ·unfold bF;rw[aM,gk];exact h2
   ·rcases h5 with h5|h5
    ·left;rw[←h5];exact hg
    ·right;rw[hg] at h5;rw[cK h5];exact aq _
 unfold Oper.wp execOp;simp only[ho,resolve,invoke,builtin,jA,Sem.run_pure,Result.andThen_ok,qI,bP,jD,hs,hx,hrun];exact h v' w' hsp
theorem iP {W:World} {ops:Array Oper} {rest:List Oper} {o:Oper} {a:Act} {Q:Exit→Act→World→Prop} (hgd:o.guard=none) (s x:Operand) (t:TypeId)
  (ho:o.op=.call { callee:=.builtin .append,args:=#[s,x],argTypes:=#[t,t] }) (enc:α→List Value) (k:Nat) (e:TypeId) (B:Nat) (i:TypeInfo) (z:Value) (bytes:Nat)
  (ht:P.underlying t=some (.slice e)) (hi:P.info? e=some i) (hz:i.zero=some z) (hsize:i.size=k) (hby:i.bytes=bytes) (hzs:z.cells.size=k) (he:Enc enc k)
  (v:Value) (l:List α) (ys:List α) (u:Value) (hs:a.eval s=v) (hown:bF enc k e B W v l) (hx:a.eval x=u) (hr:eh enc k W u ys)
  (h63:l.length+ys.length≤maxLen) (hbytes:(l.length+ys.length)*bytes≤140737488355328) (hB:B≤W.heap.size)
  (h:∀ v' w',jy enc k e B W w' v v' l ys→wpList P ops Q rest (a.put o.dst v') w'):wpList P ops Q (o::rest) a W:=
 qQ hgd fun _ hK=>zU s x t ho enc k e B i z bytes ht hi hz hsize hby hzs he v l ys u hs hown hx hr h63 hbytes hB fun v' w' hp=>hK _ _ (h v' w' hp)
theorem wV {W:World} {ops:Array Oper} {o:Oper} {a:Act} {K:Act→World→Prop} {Q:Exit→Act→World→Prop} {E:Prop} (hgd:o.guard=none) (s x:Operand) (t:TypeId)
  (ho:o.op=.call { callee:=.builtin .append,args:=#[s,x],argTypes:=#[t,t] }) (enc:α→List Value) (k:Nat) (e:TypeId) (B:Nat) (i:TypeInfo) (z:Value) (bytes:Nat)
  (ht:P.underlying t=some (.slice e)) (hi:P.info? e=some i) (hz:i.zero=some z) (hsize:i.size=k) (hby:i.bytes=bytes) (hzs:z.cells.size=k) (he:Enc enc k)
  (v:Value) (l:List α) (ys:List α) (u:Value) (hs:a.eval s=v) (hown:bF enc k e B W v l) (hx:a.eval x=u) (hr:eh enc k W u ys)
  (h63:l.length+ys.length≤maxLen) (hbytes:(l.length+ys.length)*bytes≤140737488355328) (hB:B≤W.heap.size)
  (h:∀ v' w',jy enc k e B W w' v v' l ys→K (a.put o.dst v') w'):
  if Region.wanted o (yielded ops a.tmps)=true then Oper.wp P o a W K Q else E:=by
 have hw:Region.wanted o (yielded ops a.tmps)=true:=by simp[Region.wanted,hgd]
 rw[aQ hw];exact zU s x t ho enc k e B i z bytes ht hi hz hsize hby hzs he v l ys u hs hown hx hr h63 hbytes hB h
theorem Ha {W:World} {o:Oper} {a:Act} {K:Act→World→Prop} {Q:Exit→Act→World→Prop} (d s:Operand) (t t':TypeId) (ho:o.op=.call { callee:=.builtin .copy,args:=#[d,s],argTypes:=#[t,t'] })
  (v u:Value) (hd:a.eval d=v) (hs:a.eval s=u) {v':Value} {w':World} (hr:(Builtin.copy_ #[t,t'] o.type #[v,u]).run P W=.ok v' w') (h:K (a.put o.dst v') w'):o.wp P a W K Q:=by
 unfold Oper.wp execOp;simp only[ho,resolve,invoke,builtin,jA,Sem.run_pure,Result.andThen_ok,qI,bP,jD,hd,hs,hr];exact h
theorem wW {W:World} {ops:Array Oper} {o:Oper} {a:Act} {K:Act→World→Prop} {Q:Exit→Act→World→Prop} {E:Prop} (hgd:o.guard=none) (d s:Operand) (t t':TypeId) (ho:o.op=.call { callee:=.builtin .copy,args:=#[d,s],argTypes:=#[t,t'] })
  (v u:Value) (hd:a.eval d=v) (hs:a.eval s=u) {v':Value} {w':World} (hr:(Builtin.copy_ #[t,t'] o.type #[v,u]).run P W=.ok v' w') (h:K (a.put o.dst v') w'):
  if Region.wanted o (yielded ops a.tmps)=true then Oper.wp P o a W K Q else E:=by
 have hw:Region.wanted o (yielded ops a.tmps)=true:=by simp[Region.wanted,hgd]
 rw[aQ hw];exact Ha d s t t' ho v u hd hs hr h
end
theorem dR:Enc b9 1:=⟨fun _=>rfl,fun x u hu=>by simp[b9] at hu;rw[hu];rfl,by decide⟩
theorem qd:Enc gJ 2:=⟨fun _=>rfl,fun x u hu=>by simp[gJ] at hu;rcases hu with rfl|rfl<;>rfl,by decide⟩
theorem mF:Enc dN 2:=⟨fun _=>rfl,fun x u hu=>by simp[dN] at hu;rcases hu with rfl|rfl<;>rfl,by decide⟩
end jw
namespace jw
abbrev Words:=List ByteArray
def dz:Words→Nat
 | []=>0
 | w::l=>w.size+dz l
theorem lE (a b:Words):dz (a++b)=dz a+dz b:=by
 induction a with
 | nil=>simp[dz]
 | cons x l ih=>simp only[List.cons_append,dz,ih];omega
def writes (name key:ByteArray):List Words→Words→Nat→List Words→List Words
 | done,cur,n,[]=>done++[cur]
 | done,cur,n,g::gs=>if n=64∨4194304<dz cur+dz g then writes name key (done++[cur]) ([name,key]++g) 1 gs else writes name key done (cur++g) (n+1) gs
def iG:Nat→Nat→Words→List Words→Words×List Words
 | size,n,e,[]=>(e,[])
 | size,n,e,g::gs=>if n<64∧¬4194304<size+dz g then iG (size+dz g) (n+1) (e++g) gs else (e,g::gs)
theorem wM:∀ (l:List Words) (size n:Nat) (e:Words),(iG size n e l).2.length≤l.length
 | [],size,n,e=>by simp[iG]
 | g::gs,size,n,e=>by
  unfold iG;split
  ·have:=wM gs (size+dz g) (n+1) (e++g);simp;omega
  ·simp
def parts (name key:ByteArray):Nat→List Words→List Words
 | 0,_=>[]
 | f+1,[]=>[]
 | f+1,g::gs=>(iG (dz [name,key]) 0 [name,key] (g::gs)).1::parts name key f (iG (dz [name,key]) 0 [name,key] (g::gs)).2
def Fits (name key:ByteArray) (l:List Words):Prop:=∀ g∈l,dz [name,key]+dz g≤4194304
theorem tL:∀ (l:List Words) (size n:Nat) (e:Words),∀ g∈(iG size n e l).2,g∈l
 | [],size,n,e,g,hg=>by simp[iG] at hg
 | x::gs,size,n,e,g,hg=>by
  unfold iG at hg
  split at hg
  ·exact bO _ (tL gs _ _ _ g hg)
  ·exact hg
theorem mT (name key:ByteArray):∀ (l:List Words) (done:List Words) (cur:Words) (n:Nat),writes name key done cur n l=done++writes name key [] cur n l
 | [],done,cur,n=>by simp[writes]
 | g::gs,done,cur,n=>by
  unfold writes;split
  ·rw[mT name key gs (done++[cur]),mT name key gs ([]++[cur])];simp
  ·exact mT name key gs done _ _
theorem uR (name key:ByteArray):∀ (l:List Words) (cur:Words) (n:Nat),n≤64→Fits name key l→
  writes name key [] cur n l=(iG (dz cur) n cur l).1::(match (iG (dz cur) n cur l).2 with|[]=>[]|g::gs=>writes name key [] [name,key] 0 (g::gs))
 | [],cur,n,_,_=>by simp[writes,iG]
 | g::gs,cur,n,hn,hf=>by
  unfold writes iG
  by_cases h:n=64∨4194304<dz cur+dz g
  ·rw[aQ h,aJ (by omega)];have h0:¬((0:Nat)=64∨4194304<dz [name,key]+dz g):=by have:=hf g (by simp);omega
   simp only;rw[mT,aJ h0];rfl
  ·rw[aJ h,aQ (by omega),←lE];exact uR name key gs (cur++g) (n+1) (by omega) (fun x hx=>hf x (by simp[hx]))
theorem uQ (name key:ByteArray):∀ (f:Nat) (l:List Words),l≠[]→l.length≤f→Fits name key l→writes name key [] [name,key] 0 l=parts name key f l
 | 0,l,h,hl,_=>by
  cases l with
  | nil=>exact absurd rfl h
  | cons g gs=>simp at hl
 | f+1,[],h,_,_=>absurd rfl h
 | f+1,g::gs,h,hl,hf=>by
  rw[uR name key (g::gs) [name,key] 0 (by omega) hf];unfold parts
  congr 1
  have hlen:(iG (dz [name,key]) 0 [name,key] (g::gs)).2.length≤f:=by unfold iG;rw[aQ ⟨by omega,by have:=hf g (by simp);omega⟩];have:=wM gs (dz [name,key]+dz g) (0+1) ([name,key]++g);simp at hl;omega
  have hsub:=tL (g::gs) (dz [name,key]) 0 [name,key]
  cases hr:(iG (dz [name,key]) 0 [name,key] (g::gs)).2 with
  | nil=>simp only;cases f<;>rfl
  | cons x xs=>simp only;rw[hr] at hlen hsub;exact uQ name key f (x::xs) (by simp) hlen (fun y hy=>hf y (hsub y hy))
end jw
end Go.Proofs.YthpdlidbaojlbaaGreatDoor
