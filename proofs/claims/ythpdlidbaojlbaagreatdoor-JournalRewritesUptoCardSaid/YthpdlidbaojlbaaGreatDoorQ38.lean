/- journal.Rewrite. -/
import Derived.Test.YthpdlidbaojlbaaGreatDoorQ37
set_option linter.unusedVariables false
set_option linter.unusedSimpArgs false
set_option maxHeartbeats 4000000
open Go.ChangeShapes Go.WideShapes Go.RowKit
namespace Go.Proofs.YthpdlidbaojlbaaGreatDoor
namespace jw
open ks (af ae hlt ah bC alloc_old aG aX aT dp DM)
theorem xK {α:Type}:∀ (l m:List α),l.Nodup→(∀ x,x∈l→x∈m)→l.length≤m.length
 | [],m,_,_=>bz _
 | x::l,m,hn,hs=>by
  obtain⟨a,b,rfl⟩:=List.append_of_mem (hs x (by simp));have hn2:=bT.1 hn
  have:=xK l (a++b) hn2.2 (fun y hy=>by
   have h1:=hs y (by simp[hy])
   rcases bj.1 h1 with h1|h1
   ·exact bh _ h1
   ·rcases bM.1 h1 with rfl|h1
    ·exact absurd hy hn2.1
    ·exact bA _ h1)
  simp at this ⊢;omega
theorem oF {α:Type} {lt:α→α→Prop} (Un:∀ a,¬lt a a) {l:List α} (h:l.Pairwise lt):l.Nodup:=(h.imp (fun {a b} hab (e:a=b)=>Un a (by rw[←e] at hab;exact hab)):l.Pairwise (fun a b=>a≠b))
theorem jV.lens {p q:cG} (h:jV p q):q.items.length≤p.items.length∧q.bL.length≤p.bL.length∧q.bI.length≤p.bI.length:=by
 refine⟨?_,xK _ _ (oF (fun a=>uT a.1) h.bL.1) (fun x hx=>(h.bL.2 x).1 hx),xK _ _ (oF (fun a=>by show ¬rk.gN a a<0;rw[rk.qp];omega) h.bI.1) (fun x hx=>(h.bI.2 x).1 hx)⟩;have hi:=h.items
 split at hi
 ·exact xK _ _ (oF uT hi.1) (fun x hx=>(hi.2 x).1 hx)
 ·rw[hi];exact aq _
theorem jV.item {p q:cG} (h:jV p q) {x:ByteArray} (hx:x∈q.items):x∈p.items:=by
 have hi:=h.items
 split at hi
 ·exact(hi.2 x).1 hx
 ·rw[hi] at hx;exact hx
theorem pJ {p q:cG} (h:jV p q) (hs:jz p) (pr:Nat→ByteArray):(eV pr q).length≤nQ p:=by rw[mE];obtain⟨a,b,c⟩:=h.lens;have h1:=ow p.items;have h2:=ow (p.bL.map (fun x=>x.1));have h3:=ow (p.bI.map (fun x=>x.1));rw[aU] at h2 h3;unfold nQ;omega
theorem rz {p q:cG} (h:jV p q) (hs:jz p) (hfl:∀ x∈p.bI,x.2<18446744073709551616) {pr:Nat→ByteArray} (hpr:∀ x,x<18446744073709551616→(pr x).size≤2000):∀ g∈eV pr q,zp g:=by
 intro g hg;unfold eV at hg
 rcases bj.1 hg with hg|hg
 ·rcases bj.1 hg with hg|hg
  ·obtain⟨x,hx,rfl⟩:=aV.1 hg;have:=hs.item (h.item hx);exact⟨by simp,by simp[dz];omega⟩
  ·obtain⟨x,hx,rfl⟩:=aV.1 hg;have hx2:=(h.bL.2 x).1 hx;have h1:=hs.field hx2;have h2:=hs.val hx2;exact⟨by simp,by simp[dz];omega⟩
 ·obtain⟨x,hx,rfl⟩:=aV.1 hg;have hx2:=(h.bI.2 x).1 hx;have h1:=hs.mem hx2;have h2:=hpr x.2 (hfl x hx2);exact⟨by simp,by simp[dz];omega⟩
theorem uu (name key:ByteArray):∀ (l:List Words) (done:List Words) (cur:Words) (n:Nat),(writes name key done cur n l).length≤done.length+l.length+1
 | [],done,cur,n=>by simp[writes]
 | g::gs,done,cur,n=>by
  unfold writes;split
  ·have:=uu name key gs (done++[cur]) ([name,key]++g) 1;simp at this ⊢;omega
  ·have:=uu name key gs done (cur++g) (n+1);simp at this ⊢;omega
theorem Ee {p q:cG} (h:jV p q) (ho:OkP p) (hne:¬lp p) (hs:jz p) (hfl:∀ x∈p.bI,x.2<18446744073709551616) {pr:Nat→ByteArray} (hpr:∀ x,x<18446744073709551616→(pr x).size≤2000) (tx:Int→ByteArray) (key:ByteArray) (hk:key.size≤1048576) (dl:Int):
  writes (iS q.kind) key [] (gU q.kind key q.text) 0 (eV pr q)++(if 0<dl then [[od,key,tx dl]] else [])=vG pr tx key dl q:=by
 unfold vG gU
 congr 1
 have hkd:=h.kind
 by_cases h1:q.kind=1
 ·rw[aQ h1,aQ h1];have hkp:=ho.kind;rw[hkd] at h1
  have e1:q.items=[]:=by
   cases hq:q.items with
   | nil=>rfl
   | cons x l=>have hx:=h.item (x:=x) (by rw[hq];simp);have:=hkp.hi;rw[h1] at this;simp at this;rw[this] at hx;simp at hx
  have e2:q.bL=[]:=by
   cases hq:q.bL with
   | nil=>rfl
   | cons x l=>have hx:=(h.bL.2 x).1 (by rw[hq];simp);have:=hkp.hp;rw[h1] at this;simp at this;rw[this] at hx;simp at hx
  have e3:q.bI=[]:=by
   cases hq:q.bI with
   | nil=>rfl
   | cons x l=>have hx:=(h.bI.2 x).1 (by rw[hq];simp);have:=hkp.hr;rw[h1] at this;simp at this;rw[this] at hx;simp at hx
  unfold eV;rw[e1,e2,e3];simp[writes,iS]
 ·rw[aJ h1,aJ h1];refine uQ _ _ _ _ ?_ (aq _) ?_
  ·intro hg;have hz:=mE pr q;rw[hg] at hz;simp at hz;have e1:q.items=[]:=bU.1 (by omega);have e2:q.bL=[]:=bU.1 (by omega);have e3:q.bI=[]:=bU.1 (by omega)
   apply hne
   refine⟨fun h=>h1 (hkd.trans h),?_,?_,?_⟩
   ·cases hp:p.items with
    | nil=>rfl
    | cons x l=>
     have hi:=h.items
     split at hi
     ·have:=(hi.2 x).2 (by rw[hp];simp);rw[e1] at this;simp at this
     ·rw[e1,hp] at hi;cases hi
   ·cases hp:p.bL with
    | nil=>rfl
    | cons x l=>have:=(h.bL.2 x).2 (by rw[hp];simp);rw[e2] at this;simp at this
   ·cases hp:p.bI with
    | nil=>rfl
    | cons x l=>have:=(h.bI.2 x).2 (by rw[hp];simp);rw[e3] at this;simp at this
  ·intro g hg;have h2:=(rz h hs hfl hpr g hg).2;have h3:=oI q.kind;simp[dz];omega
structure StE where
 d:gn
 iv:Value
 pv:Value
 rv:Value
def pL (e:StE):List Value:=[.string e.d.key,.int .i64 e.d.val.kind,.string e.d.val.text,e.iv,e.pv,e.rv,.int .i64 e.d.dl]
structure Mi (w:World) (v:Value) (l:List StE):Prop where
 form:∃ a cap,v=.slice a l.length cap∧l.length≤cap∧cap≤maxLen∧(0<l.length→∃ g off,a=some ⟨g,off,none⟩∧∀ i e,l[i]?=some e→∀ j u,(pL e)[j]?=some u→w.cell? ⟨g,off+i*7+j,none⟩=some u)
 rows:∀ e∈l,eh b9 1 w e.iv e.d.val.items∧eh gJ 2 w e.pv e.d.val.bL∧eh dN 2 w e.rv e.d.val.bI
variable {P:Program} {ops:Array Oper} {md:Region.Mode} {Q:Exit→Act→World→Prop}
def Gx (md:Region.Mode) (ops:Array Oper) (m:Nat):Nat→Nat→Array Bool→Bool
 | 0,k,listed=>Region.lexFrom md ops m k listed
 | g+1,k,listed=>decide (Region.ready md ops listed=[k]) && Gx md ops m g (k+1) (listed.setIfInBounds k true)
def wh (P:Program) (ops:Array Oper) (Q:Exit→Act→World→Prop) (l2:List Oper):List Oper→Act→World→Prop
 | [],a,w=>wpQuiet P ops (fun w'=>∃ n,w'=w.drewN n) (fun a'=>∀ w',(∃ n,w'=w.drewN n)→Q .normal a' w') l2 a
 | o::l,a,w=>∀ K:Act→World→Prop,(∀ a w,wh P ops Q l2 l a w→K a w)→if Region.wanted o (yielded ops a.tmps)=true then Oper.wp P o a w K Q else K (a.put o.dst undef) w
theorem dm {l2 l:List Oper} {o:Oper} {a:Act} {w:World} (h:∀ K:Act→World→Prop,(∀ a w,wh P ops Q l2 l a w→K a w)→if Region.wanted o (yielded ops a.tmps)=true then Oper.wp P o a w K Q else K (a.put o.dst undef) w):wh P ops Q l2 (o::l) a w:=h
theorem fg {l2:List Oper} {a:Act} {w:World} (h:wpQuiet P ops (fun w'=>∃ n,w'=w.drewN n) (fun a'=>∀ w',(∃ n,w'=w.drewN n)→Q .normal a' w') l2 a):wh P ops Q l2 [] a w:=h
theorem yf (hs:Region.noSelect ops=true) (l2:List Oper):∀ (l1:List Oper) (k:Nat) (listed:Array Bool) (a:Act) (w:World),(∀ j,(l1++l2)[j]?=ops[k+j]?)→
  Gx md ops l2.length l1.length k listed=true→wh P ops Q l2 l1 a w→wpAny P md ops Q (l1.length+l2.length) listed a w
 | [],k,listed,a,w,hl,hB,h=>by rw[List.length_nil,bD];exact wpAny_of_quiet (C:=fun w'=>∃ n,w'=w.drewN n) (Q:=fun a'=>∀ w',(∃ n,w'=w.drewN n)→Q .normal a' w') (fun _ w' hw' h=>h w' hw') _ _ _ _ ⟨0,rfl⟩ (wpAnyQ_lex hs l2 k listed a (by simpa using hl) hB h)
 | o::l,k,listed,a,w,hl,hB,h=>by
  have h0:ops[k]?=some o:=by simpa using(hl 0).symm
  simp only[List.length_cons,Gx,cQ,dr] at hB;rw[show(o::l).length+l2.length=(l.length+l2.length)+1 by simp;omega];refine⟨fun h1=>(by rw[hB.1] at h1;cases h1),fun i hi=>?_⟩;rw[hB.1] at hi;have hik:i=k:=by simpa using hi
  subst hik;exact wpOp_step h0 (fun K' hK=>h K' (fun a w hh=>hK a w (yf hs l2 l (i+1) _ a w (fun j=>by have:=hl (j+1);simpa[fW,jC 1 j] using this) hB.2 hh)))
theorem ek {id:Nat} {a:Act} {w:World} {l:List Oper} (n:Nat) (hm:P.follows .mixedOrders=true) (hB:(Region.noSelect l.toArray && Gx .any l.toArray (l.drop n).length (l.take n).length 0 (Array.replicate l.toArray.size false))=true)
  (h:wh P l.toArray Q (l.drop n) (l.take n) a w.drew):(Code.region id l.toArray true).wp P Q a w:=by
 rw[cQ] at hB;refine wp_region_any hm ?_;have:=yf hB.1 (l.drop n) (l.take n) 0 _ a w.drew (fun j=>by rw[eH];simp) hB.2 h;rw[←aM,eH] at this;simpa using this
end jw
namespace jw
open ks (af ae hlt ah bC alloc_old aG aX aT dp DM)
def jm (l:List StE) (k:Nat):Option ByteArray:=if k=0 then none else (l[k-1]?).map (fun e=>e.d.key)
structure RwI (pr:Nat→ByteArray) (tx:Int→ByteArray) (w W0:World) (l:List StE) (k:Nat) (X:World) (v:Value) (es:List EF) (n:Nat):Prop where
 i:jl w.heap.size X w.heap.size v es n
 f:gX W0 (eP w.heap.size (.slice none 0 0) []) X (eP w.heap.size v es)
 len:es.length≤2*jc ((l.take k).map (fun e=>e.d))
 rel:∀ o,nK pr tx (jm l k) ((l.drop k).map (fun e=>e.d)) o→nK pr tx none (l.map (fun e=>e.d)) (o.map (fun e=>es.map (fun x=>x.ws)++e))
theorem prev_next {l:List StE} {k:Nat} {e:StE} (h:l[k]?=some e):jm l (k+1)=some e.d.key:=by unfold jm;rw[aJ (by omega),cW,h];rfl
theorem drop_at {α:Type} {l:List α} {k:Nat} {x:α} (h:l[k]?=some x):l.drop k=x::l.drop (k+1):=by obtain⟨hl,rfl⟩:=au.1 h;exact eT hl
def RwR (pr:Nat→ByteArray) (tx:Int→ByteArray) (l:List gn) (w:World) (r:Ending) (w':World):Prop:=af [] w w'∧((nK pr tx none l none∧r=.returned (.tuple #[.slice none 0 0,.int .i64 280]))∨∃ Oo v es,nK pr tx none l (some Oo)∧r=.returned (.tuple #[v,.int .i64 0])∧dI w.heap.size w' v es∧es.map (fun x=>x.ws)=Oo)
theorem FW {l:List StE} (h:jc (l.map (fun e=>e.d))≤1048576) {e:StE} (he:e∈l):jz e.d.val∧e.d.key.size≤1048576:=u9 h (aV.2 ⟨e,he,rfl⟩)
theorem AD {l:List StE} {k:Nat} {e:StE} (h:l[k]?=some e):jc ((l.take (k+1)).map (fun e=>e.d))=jc ((l.take k).map (fun e=>e.d))+sV e.d:=by rw[jZ h,aZ];unfold jc;simp
theorem RwI.bad {pr:Nat→ByteArray} {tx:Int→ByteArray} {w W0:World} {l:List StE} {k:Nat} {X:World} {v:Value} {es:List EF} {n:Nat} (h:RwI pr tx w W0 l k X v es n) {e:StE} (he:l[k]?=some e) (hno:¬s7 (jm l k) e.d):nK pr tx none (l.map (fun e=>e.d)) none:=by have:=h.rel none (by rw[drop_at he,bP];exact nK.bad _ _ _ hno);exact this
theorem RwI.next {pr:Nat→ByteArray} {tx:Int→ByteArray} {w W0:World} {l:List StE} {k:Nat} {wr X:World} {v v':Value} {es es':List EF} {n n':Nat} (h:RwI pr tx w W0 l k wr v es n) {e:StE} (he:l[k]?=some e) (hrow:s7 (jm l k) e.d) {q:cG} (hq:jV e.d.val q)
  (hi:jl w.heap.size X w.heap.size v' es' n') (hf:gX wr (eP w.heap.size v es) X (eP w.heap.size v' es')) (hlen:es'.length≤es.length+nQ e.d.val+2) (hes:es'.map (fun x=>x.ws)=es.map (fun x=>x.ws)++vG pr tx e.d.key e.d.dl q):RwI pr tx w W0 l (k+1) X v' es' n':=by
 refine⟨hi,h.f.trans hf,?_,fun o ho=>?_⟩
 ·rw[AD he];have:=h.len;unfold sV;omega
 ·have h1:nK pr tx (jm l k) ((l.drop k).map (fun e=>e.d)) (o.map (fun r=>vG pr tx e.d.key e.d.dl q++r)):=by rw[drop_at he,bP];refine nK.cons _ _ _ q o hrow hq ?_;rw[←prev_next he];exact ho
  have h2:=h.rel _ h1
  have e2:o.map (fun r=>es'.map (fun x=>x.ws)++r)=(o.map (fun r=>vG pr tx e.d.key e.d.dl q++r)).map (fun r=>es.map (fun x=>x.ws)++r):=by
   cases o with
   | none=>rfl
   | some r=>simp[hes,aD]
  rw[e2];exact h2
structure RwM (pr:Nat→ByteArray) (w wr:World) (key:ByteArray) (val:cG) (dl:Int) (v:Value) (es:List EF) (X:World) (v':Value) (es':List EF) (n':Nat) (q:cG):Prop where
 i:jl w.heap.size X w.heap.size v' es' n'
 f:gX wr (eP w.heap.size v es) X (eP w.heap.size v' es')
 nq:jV val q
 e:es'.map (fun x=>x.ws)=es.map (fun x=>x.ws)++writes (iS q.kind) key [] (gU q.kind key q.text) 0 (eV pr q)
 bx:∃ bc:Array Value,X.heap[wr.heap.size]?=some (.cells bc 38 (0,0))
 c0:X.cell? ⟨wr.heap.size,0,none⟩=some (.string key)
 c6:X.cell? ⟨wr.heap.size,6,none⟩=some (.int .i64 dl)
theorem RwM.len {pr:Nat→ByteArray} {w wr:World} {key:ByteArray} {val:cG} {dl:Int} {v:Value} {es:List EF} {X:World} {v':Value} {es':List EF} {n':Nat} {q:cG} (h:RwM pr w wr key val dl v es X v' es' n' q) (hs:jz val):es'.length≤es.length+nQ val+1:=by have h1:=congrArg List.length h.e;rw[aM,aU,aU] at h1;have h2:=uu (iS q.kind) key (eV pr q) [] (gU q.kind key q.text) 0;have h3:=pJ h.nq hs pr;simp at h2;omega
theorem Rg {B:Nat} {X:World} {wb:Nat} {v:Value} {es:List EF} {n:Nat} (h:jl B X wb v es n) {b:Nat} {bc:Array Value} (hb:X.heap[b]?=some (.cells bc 38 (0,0))):b∉eP wb v es:=by
 intro hm;unfold eP xl at hm
 rcases bM.1 hm with rfl|hm
 ·have h1:=h.hd;rw[hb] at h1;simp at h1
 ·rcases bj.1 hm with hm|hm
  ·exact h.ef.row.bw hb (by decide) (by simpa using hm)
  ·obtain⟨e,he,rfl⟩:=aV.1 hm;exact(h.ef.each e he).bw hb (by decide) rfl
theorem rG (l:List StE) (k:Nat):jc ((l.take k).map (fun e=>e.d))≤jc (l.map (fun e=>e.d)):=by
 have h3:l.map (fun e=>e.d)=(l.take k).map (fun e=>e.d)++(l.drop k).map (fun e=>e.d):=by rw[←aZ,eH]
 rw[h3];unfold jc;rw[aZ,List.sum_append];omega
theorem NW (key pk:ByteArray) (bl:Bool) (h:Op.bytesLess pk.toList key.toList=bl):(Op.bytesLess key.toList pk.toList || key.toList == pk.toList)=!bl:=by
 have e0:bl=true↔tlt pk key:=by rw[←h,oN,cz,dW,dW];rfl
 have e1:Op.bytesLess key.toList pk.toList=true↔tlt key pk:=by rw[oN,cz,dW,dW];rfl
 have e2:(key.toList == pk.toList)=true↔key=pk:=by rw[mH,dW,dW];exact⟨data_inj,fun h=>by rw[h]⟩
 rw[eL,jL,e1,e2]
 cases bl with
 | false=>
  refine⟨fun _=>rfl,fun _=>?_⟩
  rcases FQ key pk with h1|h1|h1
  ·exact .inl h1
  ·exact .inr h1
  ·have:=e0.2 h1;cases this
 | true=>
  have h1:=e0.1 rfl;refine⟨fun h2=>?_,fun h2=>by cases h2⟩
  rcases h2 with h2|h2
  ·exact absurd h1 (AT _ _ h2)
  ·rw[h2] at h1;exact absurd h1 (uT _)
set_option maxRecDepth 100000 in
theorem CI (pr:Nat→ByteArray) (tx:Int→ByteArray) (B0:Nat) (v:Value) (l:List StE) (w:World) (wK:uq pr tx B0 w) (h:Mi w v l) (hb:jc (l.map (fun e=>e.d))≤1048576) (hfl:∀ e∈l,∀ x∈e.d.val.bI,x.2<18446744073709551616) (hdl:∀ e∈l,-9223372036854775808≤e.d.dl∧e.d.dl≤9223372036854775807):
  Calls Tryz.prog 6 #[v] w fun r w'=>RwR pr tx (l.map (fun e=>e.d)) w r w':=by
 obtain⟨va,fD,rfl,hcap,hcm,hva⟩:=h.form;have H:=ae h;have Ji:=ae hva;have qM:=ae wK;have MY:=ae hb;have qO:=ae hfl;have VS:=ae hdl;obtain⟨n,hn⟩:∃ n,l.length=n:=⟨_,rfl⟩;rw[hn] at H Ji ⊢
 have hnb:n≤1048576:=by have:=tR (l.map (fun e=>e.d));rw[aU,hn] at this;omega
 have HN:=ae hn;obtain⟨W0,hW0⟩:∃ W0,W0=w.alloc (.cells #[.slice none 0 0,.int .i64 0] 60):=⟨_,rfl⟩;have hw0:jl w.heap.size W0 w.heap.size (.slice none 0 0) [] 0:=by rw[hW0];exact⟨aG w _,dI.nil _ _,aq _⟩
 have hk0:af [] w W0:=by rw[hW0];exact(af.refl _ w).alloc _
 have HI0:Hid (RwI pr tx w W0 l 0 W0 (.slice none 0 0) [] 0):=ae ⟨hw0,gX.refl _ _,by simp,fun o ho=>by
  have e:o.map (fun e=>([]:List EF).map (fun x=>x.ws)++e)=o:=by cases o<;>simp
  rw[e]
  simpa[jm] using ho⟩
 have ME:=ae hk0;have HW0:=ae hW0;have HZ0:=ae (show W0.heap.size=w.heap.size+1 by rw[hW0];simp);clear h hva wK hb hfl hdl hn hw0 hk0 hcap hcm;go_enter Tryz.func6,Tryz.ntmps6
 go_upto_region 2 with(fail)
 rw[←hW0];clear hW0;go_wp2_with fail
 go_loopw [13,5,6,7,8] (fun i _ _ _ _ X=>∃ (k:Nat) (v:Value) (es:List EF) (m:Nat),i=.int .i64 (k:Int)∧k≤n∧Hid (RwI pr tx w W0 l k X v es m)) (fun i _ _ _ _ _=>n-(intOf i).toNat)
 case atStart=>exact⟨0,_,_,_,rfl,bz _,HI0⟩
 case round=>
  obtain⟨k,v,es,m,rfl,hk,HV⟩:=hrel;have pq:af [] w wr:=ME.out.step HV.out.f.k (fun b hb=>.inr (by simp[eP,xl,Value.ownBlock] at hb;omega));have kK:=ae pq
  by_cases hlt:k<n
  ·obtain⟨e,he⟩:∃ e,l[k]?=some e:=⟨_,ag (by rw[HN.out];exact hlt)⟩;obtain⟨g,off,rfl,hcc⟩:=Ji.out (by omega);have hcd:=hcc k e he;have hem:=aB he;obtain⟨r1,r2,r3⟩:=H.out.rows e hem;obtain⟨sm,JJ⟩:=FW MY.out hem;have hsx:∀ (j:Nat) (u:Value),(pL e)[j]?=some u→wr.cell? ⟨g,off+k*7+j,none⟩=some u:=fun j u hu=>ak pq (hcd j u hu)
   have hkn:(k:Int)<(n:Int):=by omega
   obtain⟨w3,hw3⟩:∃ w3,wr.alloc (.cells (pL e).toArray 38)=w3:=⟨_,rfl⟩;have hb3:w3.heap[wr.heap.size]?=some (.cells (pL e).toArray 38 (0,0)):=by rw[←hw3];exact aG wr _
   have hk3:af [] wr w3:=by rw[←hw3];exact(af.refl _ wr).alloc _
   have VB:=ae (ofC e.d.val e.iv e.pv e.rv w3 sm (qO.out e hem) ((r1.aN pq).aN hk3) ((r2.aN pq).aN hk3) ((r3.aN pq).aN hk3));have HE:=ae he;have pV:=ae sm;have xG:=ae JJ;have O9:=ae (VS.out e hem);have Ch:=ae (qO.out e hem);have zt:=ae hk3;have HB3:=ae hb3;obtain⟨⟨key,val,dl⟩,iv,pv,rv⟩:=e;simp only at r1 r2 r3 VB pV xG O9 Ch;obtain⟨ia,nY,rfl,_⟩:=r1;obtain⟨pa,pj,rfl,_⟩:=r2;obtain⟨ra,qU,rfl,_⟩:=r3;have x0:=hsx 0 _ rfl;have x1:=hsx 1 _ rfl;have x2:=hsx 2 _ rfl;have x3:=hsx 3 _ rfl;have x4:=hsx 4 _ rfl;have x5:=hsx 5 _ rfl;have x6:=hsx 6 _ rfl;unfold pL at hw3 hb3;simp only[Nat.add_zero] at x0 x1 x2 x3 x4 x5 x6 hw3 hb3;have y0:w3.cell? ⟨wr.heap.size,0,none⟩=some (.string key):=by rw[ah hb3];rfl
   have y1:w3.cell? ⟨wr.heap.size,1,none⟩=some (.int .i64 val.kind):=by rw[ah hb3];rfl
   have y2:w3.cell? ⟨wr.heap.size,2,none⟩=some (.string val.text):=by rw[ah hb3];rfl
   have y3:w3.cell? ⟨wr.heap.size,3,none⟩=some (.slice ia val.items.length nY):=by rw[ah hb3];rfl
   have y4:w3.cell? ⟨wr.heap.size,4,none⟩=some (.slice pa val.bL.length pj):=by rw[ah hb3];rfl
   have y5:w3.cell? ⟨wr.heap.size,5,none⟩=some (.slice ra val.bI.length qU):=by rw[ah hb3];rfl
   have y6:w3.cell? ⟨wr.heap.size,6,none⟩=some (.int .i64 dl):=by rw[ah hb3];rfl
   clear he hcc hcd hem sm JJ hsx hk3 hb3 pq;go_wp2_with fail
   refine VB.out.mono ?_;rintro r w5 (⟨e,hne,hno,rfl,hk5⟩|⟨hok,vb,rfl,Lc,hk5⟩)
   ·have HBAD:=ae (HV.out.bad HE.out (fun hr=>hno hr.ok));have AO:=ae ((kK.out.trans zt.out).trans hk5);have hneb:(e != 0)=true:=by simp[hne]
    clear hno hk5 y0 y1 y2 y3 y4 y5 y6;go_wp2_with fail
    go_quiet (fail)
    go_wp2_with fail
    go_ret2
    exact⟨AO.out.drewN _,.inl ⟨HBAD.out,rfl⟩⟩
   ·obtain⟨bad,hbad⟩:∃ b:Bool,b=true↔¬s7 (jm l k) ⟨key,val,dl⟩:=by classical exact⟨decide _,cz⟩
    have zx:=ae hbad;have pW:=ae hok;have Mw:=ae Lc;have AO:=ae hk5;have z0:=ak hk5 y0;have z6:=ak hk5 y6;have HZ:=ae (And.intro z0 z6);clear hbad hok Lc hk5 y0 y1 y2 y3 y4 y5 y6 x0 x1 x2 x3 x4 x5 x6;unfold dp
    go_upto_region 6 with(fail)
    go_cut [60] (fun t wx=>t=.bool bad∧Hid (af [] w5 wx))
    case first Jc Kc zK hKc=>
     obtain⟨bE,R8⟩:∃ b:Bool,b=true↔lp val:=by classical exact⟨decide _,cz⟩
     have PZ:=ae R8;have Ck:=ae (show ∀ X,af [] w5 X→Calls Tryz.prog 18 #[dp vb] X fun r w'=>r=.returned (.bool bE)∧af [] X w' from fun X hk=>(LK (Mw.out.aN hk) pW.out.kind).mono fun r w' ⟨⟨b,h1,h2⟩,h3⟩=>⟨by rw[h1];congr 2;rw[eL,h2,R8],h3⟩);have hkl:decide ((1048576:Int)<(key.size:Int))=false:=by have:=xG.out;simp;omega
     unfold dp at Ck;clear R8
     rcases bE with _|_
     ·have hdn:decide (dl<0)=decide (dl<0):=rfl;clear hdn
      by_cases h1:dl<0
      ·have HT:=ae (show bad=true from zx.out.2 (fun hr=>by have:=hr.dl.1;simp only at this;omega));have g1:decide (dl<0)=true:=by simp[h1]
       refine ek 5 (by kernel_rfl) (by kernel_rfl) ?_;simp only[List.take_succ_cons,List.take_zero,dt,dE]
       iterate 4
        refine dm (fun K hK=>?_);go_simp;refine hK _ _ ?_;clear hK K
       refine dm (fun K hK=>?_);go_simp;go_at_call 18;refine(Ck.out _ ((af.refl _ _).drew)).mono ?_;rintro r w7 ⟨rfl,mi⟩;have k7:af [] w5 w7:=((af.refl [] w5).drew).trans mi;have q0:=ak k7 z0;have q6:=ak k7 z6;have K7:=ae k7;clear mi k7;show K _ _
       refine hK _ _ ?_;clear hK K;refine fg ?_
       repeat(go_big_quiet_step (fail))
       refine fT ?_;rintro _ ⟨nq,rfl⟩;refine hKc _ _ (gE (zK _ _ ?_))
       (repeat apply Exists.intro)
       refine⟨⟨?_,ae (K7.out.drewN nq)⟩,rfl⟩;rw[HT.out]
      ·have g1:decide (dl<0)=false:=by simp;omega
       by_cases h2:9007199254740992<dl
       ·have HT:=ae (show bad=true from zx.out.2 (fun hr=>by have:=hr.dl.2;simp only at this;omega));have g2:decide ((9007199254740992:Int)<dl)=true:=by simp[h2]
        refine ek 5 (by kernel_rfl) (by kernel_rfl) ?_;simp only[List.take_succ_cons,List.take_zero,dt,dE]
        iterate 4
         refine dm (fun K hK=>?_);go_simp;refine hK _ _ ?_;clear hK K
        refine dm (fun K hK=>?_);go_simp;go_at_call 18;refine(Ck.out _ ((af.refl _ _).drew)).mono ?_;rintro r w7 ⟨rfl,mi⟩;have k7:af [] w5 w7:=((af.refl [] w5).drew).trans mi;have q0:=ak k7 z0;have q6:=ak k7 z6;have K7:=ae k7;clear mi k7;show K _ _
        refine hK _ _ ?_;clear hK K;refine fg ?_
        repeat(go_big_quiet_step (fail))
        refine fT ?_;rintro _ ⟨nq,rfl⟩;refine hKc _ _ (gE (zK _ _ ?_))
        (repeat apply Exists.intro)
        refine⟨⟨?_,ae (K7.out.drewN nq)⟩,rfl⟩;rw[HT.out]
       ·have g2:decide ((9007199254740992:Int)<dl)=false:=by simp;omega
        have fN:=ae (show(∀ q,jm l k=some q→tlt q key)→s7 (jm l k) ⟨key,val,dl⟩ from fun hup=>⟨pW.out,fun he=>by have:=PZ.out.2 he;first|cases this|trivial,xG.out,⟨by simp only;omega,by simp only;omega⟩,hup⟩)
        by_cases h3:k=0
        ·have HT:=ae (show bad=false from by
          cases bad
          ·rfl
          ·exact absurd (fN.out (fun q hq=>by rw[h3] at hq;simp[jm] at hq)) (zx.out.1 rfl))
         subst h3;refine ek 5 (by kernel_rfl) (by kernel_rfl) ?_;simp only[List.take_succ_cons,List.take_zero,dt,dE]
         iterate 4
          refine dm (fun K hK=>?_);go_simp;refine hK _ _ ?_;clear hK K
         refine dm (fun K hK=>?_);go_simp;go_at_call 18;refine(Ck.out _ ((af.refl _ _).drew)).mono ?_;rintro r w7 ⟨rfl,mi⟩;have k7:af [] w5 w7:=((af.refl [] w5).drew).trans mi;have q0:=ak k7 z0;have q6:=ak k7 z6;have K7:=ae k7;clear mi k7;show K _ _
         refine hK _ _ ?_;clear hK K;refine fg ?_
         repeat(go_big_quiet_step (fail))
         refine fT ?_;rintro _ ⟨nq,rfl⟩;refine hKc _ _ (gE (zK _ _ ?_))
         (repeat apply Exists.intro)
         refine⟨⟨?_,ae (K7.out.drewN nq)⟩,rfl⟩;rw[HT.out]
        ·obtain⟨km,hkm⟩:∃ km,km=k-1:=⟨_,rfl⟩;obtain⟨e',he'⟩:∃ e',l[km]?=some e':=⟨_,ag (by rw[HN.out];omega)⟩;obtain⟨g',off',hgg,hcc⟩:=Ji.out (by omega)
         injection hgg with hgg
         injection hgg with hg1 hg2
         subst hg1 hg2;have TL:=ak ((kK.out.trans zt.out).trans AO.out) (hcc km e' he' 0 _ rfl);obtain⟨pk,hpk⟩:∃ pk,e'.d.key=pk:=⟨_,rfl⟩;have z7:w5.cell? ⟨g,off+km*7,none⟩=some (.string pk):=by rw[←hpk];exact TL
         have VA:=ae (show jm l k=some pk from by unfold jm;rw[aJ h3,←hkm,he',←hpk];rfl);have hk0:decide ((0:Int)<(k:Int))=true:=by simp;omega
         have Yf:decide (0<k)=true:=by simp;omega
         have hwk:wrap64 ((k:Int)-1)=(km:Int):=by unfold wrap64;omega
         have hwi:(k:Int)-1=(km:Int):=by omega
         have XG:IntKind.i64.wrap (km:Int)=(km:Int):=by rw[cH];omega
         have Ya:(km:Int)<(n:Int):=by omega
         have Yb:(0:Int)≤(km:Int):=by omega
         obtain⟨bl,hbl⟩:∃ bl,Op.bytesLess pk.toList key.toList=bl:=⟨_,rfl⟩
         have hbt:bl=true↔tlt pk key:=by rw[←hbl,oN,cz,dW,dW];rfl
         have Tg:=ae hbt;have PT:=ae (NW key pk bl hbl);clear he' hcc TL hpk hkm hbt
         rcases bl with _|_
         ·have HT:=ae (show bad=true from zx.out.2 (fun hr=>by have:=Tg.out.2 (hr.up pk VA.out);cases this));refine ek 5 (by kernel_rfl) (by kernel_rfl) ?_;simp only[List.take_succ_cons,List.take_zero,dt,dE]
          iterate 4
           refine dm (fun K hK=>?_);go_simp;refine hK _ _ ?_;clear hK K
          refine dm (fun K hK=>?_);go_simp;go_at_call 18;refine(Ck.out _ ((af.refl _ _).drew)).mono ?_;rintro r w7 ⟨rfl,mi⟩;have k7:af [] w5 w7:=((af.refl [] w5).drew).trans mi;have q0:=ak k7 z0;have q6:=ak k7 z6;have q7:=ak k7 z7;have K7:=ae k7;clear mi k7;show K _ _
          refine hK _ _ ?_;clear hK K;refine fg ?_
          repeat(go_big_quiet_step (fail))
          refine fT ?_;rintro _ ⟨nq,rfl⟩;refine hKc _ _ (gE (zK _ _ ?_))
          (repeat apply Exists.intro)
          refine⟨⟨?_,ae (K7.out.drewN nq)⟩,rfl⟩;rw[HT.out];exact congrArg Value.bool PT.out
         ·have HT:=ae (show bad=false from by
           cases bad
           ·rfl
           ·exact absurd (fN.out (fun q hq=>by rw[VA.out] at hq;injection hq with hq;rw[←hq];exact Tg.out.1 rfl)) (zx.out.1 rfl))
          refine ek 5 (by kernel_rfl) (by kernel_rfl) ?_;simp only[List.take_succ_cons,List.take_zero,dt,dE]
          iterate 4
           refine dm (fun K hK=>?_);go_simp;refine hK _ _ ?_;clear hK K
          refine dm (fun K hK=>?_);go_simp;go_at_call 18;refine(Ck.out _ ((af.refl _ _).drew)).mono ?_;rintro r w7 ⟨rfl,mi⟩;have k7:af [] w5 w7:=((af.refl [] w5).drew).trans mi;have q0:=ak k7 z0;have q6:=ak k7 z6;have q7:=ak k7 z7;have K7:=ae k7;clear mi k7;show K _ _
          refine hK _ _ ?_;clear hK K;refine fg ?_
          repeat(go_big_quiet_step (fail))
          refine fT ?_;rintro _ ⟨nq,rfl⟩;refine hKc _ _ (gE (zK _ _ ?_))
          (repeat apply Exists.intro)
          refine⟨⟨?_,ae (K7.out.drewN nq)⟩,rfl⟩;rw[HT.out];exact congrArg Value.bool PT.out
     ·have HT:=ae (show bad=true from zx.out.2 (fun hr=>hr.ne (PZ.out.1 (by first|rfl|trivial))));refine ek 5 (by kernel_rfl) (by kernel_rfl) ?_;simp only[List.take_succ_cons,List.take_zero,dt,dE]
      iterate 4
       refine dm (fun K hK=>?_);go_simp;refine hK _ _ ?_;clear hK K
      refine dm (fun K hK=>?_);go_simp;go_at_call 18;refine(Ck.out _ ((af.refl _ _).drew)).mono ?_;rintro r w7 ⟨rfl,mi⟩;have k7:af [] w5 w7:=((af.refl [] w5).drew).trans mi;have q0:=ak k7 z0;have q6:=ak k7 z6;have K7:=ae k7;clear mi k7;show K _ _
      refine hK _ _ ?_;clear hK K;refine fg ?_
      repeat(go_big_quiet_step (fail))
      refine fT ?_;rintro _ ⟨nq,rfl⟩;refine hKc _ _ (gE (zK _ _ ?_))
      (repeat apply Exists.intro)
      refine⟨⟨?_,ae (K7.out.drewN nq)⟩,rfl⟩;rw[HT.out]
    case rest=>
     obtain⟨rfl,zA⟩:=hcut
     rcases bad with _|_
     ·have hrow:s7 (jm l k) ⟨key,val,dl⟩:=gq fun hn=>by have:=zx.out.2 hn;first|cases this|exact this
      have fN:=ae hrow;clear hrow z0 z6;have VL:=ae ((zt.out.trans AO.out).trans zA.out);have z0:wc.cell? ⟨wr.heap.size,0,none⟩=some (.string key):=ak zA.out HZ.out.1;have z6:wc.cell? ⟨wr.heap.size,6,none⟩=some (.int .i64 dl):=ak zA.out HZ.out.2;have vV:=ae (fun X (hk:af [] wc X)=>J9 ((Mw.out.aN zA.out).aN hk) pW.out)
      have HVC:=ae (show ∀ (X:World) (q:cG) (vi vp vr:Value),af [] wc X→jV val q→jB wc.heap.size X vi vp vr q.items q.bL q.bI→Calls Tryz.prog 19 #[dp w.heap.size,.string key,.agg #[.int .i64 q.kind,.string q.text,vi,vp,vr]] X fun r w'=>r=.returned (.tuple #[])∧∃ v' es' n',RwM pr w wr key val dl v es w' v' es' n' q from fun X q vi vp vr hk hq hp=>by
       have hkX:=VL.out.trans hk;have Yc:=(AO.out.trans zA.out).trans hk;have hwl:=HV.out.i.lt
       have hbd:∀ (u:Value) (t:TypeId) {α:Type} (enc:α→List Value) (kk:Nat) (ll:List α),bF enc kk t wc.heap.size X u ll→∀ nn,Off u nn (eP w.heap.size v es):=fun u t α enc kk ll ho nn _ b hb hm=>by have h1:=(ho.lt b hb).1;have h2:=(hwl b hm).2;have:=VL.out.size;omega
       have hgb:=pJ hq pV.out pr
       have hel:es.length+(eV pr q).length≤134217728:=by have h1:=HV.out.len;have h2:=rG l k;have h4:=MY.out;have h5:=pV.out.b;omega
       have hkd:=pW.out.kind.hk;refine(P3 pr tx B0 w.heap.size w.heap.size v es m key q vi vp vr X (qM.out.on (((kK.out.trans hkX)).ep qM.out.sz (by simp))) qM.out.sz (HV.out.i.aN hkX) (by rw[hq.kind];exact hkd) (hp.items.row dR.n) (hp.bL.row qd.n) (hp.bI.row mF.n) (hbd _ _ _ _ _ hp.items _) (hbd _ _ _ _ _ hp.bL _) (hbd _ _ _ _ _ hp.bI _) (rz hq pV.out Ch.out qM.out.short) xG.out (by rw[hq.text];exact pV.out.text) hel (fun x hx=>Ch.out x ((hq.bI.2 x).1 hx))).mono ?_;rintro r w' ⟨h1,v',es',n',h2,h3,h4⟩;refine⟨h1,v',es',n',⟨h2,?_,hq,h4,⟨_,h3.k.get (Yc.get HB3.out (by simp)) (fun hm=>absurd (hwl _ hm).2 (kT _))⟩,?_,?_⟩⟩
       ·exact(gX.of0 _ hkX).trans h3
       ·exact eM h3.k (ak hk z0) (fun hm=>absurd (hwl _ hm).2 (kT _))
       ·exact eM h3.k (ak hk z6) (fun hm=>absurd (hwl _ hm).2 (kT _)))
      have HZC:=ae (And.intro z0 z6);unfold dp at vV HVC;go_wp2_with fail
      go_region_held3 (fun w'=>w'.cell? ⟨wr.heap.size,0,none⟩=some (.string key)) (first|exact z0|exact q0|exact p0|(go_keep;done)) ((first|(go_at_call 20;refine(vV.out _ ((af.refl _ _).drew)).mono ?_;rintro r w7 ⟨q,iv,pv,rv,rfl,hp7,hn7,mi⟩;have q0:=ak (((af.refl [] wc).drew).trans mi) z0;have HP7:=ae hp7;have HN7:=ae hn7;have HK7:=ae (((af.refl [] wc).drew).trans mi);clear hp7 hn7 mi)|(go_at_call 19;refine(HVC.out _ _ _ _ _ HK7.out HN7.out HP7.out).mono ?_;rintro r w8 ⟨rfl,v8,Wk,n8,h8⟩;have p0:=h8.c0;have H8:=ae h8;clear h8)))
      have p6:=H8.out.c6;have Ty:=ae (Ee H8.out.nq pW.out fN.out.ne pV.out Ch.out qM.out.short tx key xG.out dl);have kN:=ae (H8.out.len pV.out);clear z0 z6 q0
      by_cases hd0:0<dl
      ·have hd1:decide (0<dl)=true:=by simp[hd0]
       rw[aQ hd0] at Ty;have GX:=ae (fun X (hk:af [] w8 X)=>(qM.out.on (((kK.out.ep qM.out.sz (by simp)).trans (H8.out.f.k.ep (aF qM.out.sz kK.out.size) (fun b hb=>aF qM.out.sz (HV.out.i.lt b hb).1))).trans (hk.ep (aF qM.out.sz (aF kK.out.size H8.out.f.k.size)) (by simp)))).text X (Below.refl _ _) dl O9.out)
       have ZY:=ae (show ∀ X,af [] w8 X→Calls Tryz.prog 21 #[.pointer (some ⟨w.heap.size,0,none⟩),.slice (some ⟨X.heap.size,0,none⟩) 3 3] (X.alloc (.cells #[.string ⟨#[80,69,88,80,73,82,69,65,84]⟩,.string key,.string (tx dl)] 9)) fun r w2=>r=.returned (.tuple #[])∧
         ∃ v',jl w.heap.size w2 w.heap.size v' (Wk++[⟨X.heap.size,3,[od,key,tx dl]⟩]) 0∧gX X (eP w.heap.size v8 Wk) w2 (eP w.heap.size v' (Wk++[⟨X.heap.size,3,[od,key,tx dl]⟩])) from fun X hk=>
        AE w.heap.size w.heap.size v8 Wk n8 [od,key,tx dl] X (H8.out.i.aN hk) (by have h1:=HV.out.len;have h2:=rG l k;have h3:=MY.out;have h4:=pV.out.b;have h5:=kN.out;omega) (by simp))
       obtain⟨bc,hbc⟩:=H8.out.bx;have sh:=ae (Rg H8.out.i hbc);clear hbc;go_wp2_with fail
       go_region_held3 (fun w'=>w'.cell? ⟨wr.heap.size,0,none⟩=some (.string key)∧w'.cell? ⟨wr.heap.size,6,none⟩=some (.int .i64 dl)) (first|exact⟨p0,p6⟩|exact⟨t0,t6⟩|exact⟨s0,s6⟩|exact⟨ak ((af.refl [] _).alloc _) s0,ak ((af.refl [] _).alloc _) s6⟩|(go_keep;done)) ((first|(go_at_call 22;refine(GX.out _ ((af.refl _ _).drew)).mono ?_;rintro r w9 ⟨rfl,RU⟩;have k9:af [] w8 w9:=((af.refl [] w8).drew).trans RU;have s0:=ak k9 p0;have s6:=ak k9 p6;have K9:=ae k9;clear RU k9)|(go_at_call 21;refine(ZY.out _ K9.out).mono ?_;rintro r Jt ⟨rfl,v10,UK,N8⟩;have t0:=eM N8.k s0 sh.out;have t6:=eM N8.k s6 sh.out;have ZJ:=ae UK;have ZS:=ae N8;clear UK N8)))
       have zr:=ae (HV.out.next HE.out fN.out H8.out.nq ZJ.out (H8.out.f.trans ((gX.of0 _ K9.out).trans ZS.out)) (by rw[aM,List.length_singleton];have:=kN.out;simp only;omega) (by rw[aZ,H8.out.e,aD,←Ty.out];rfl));clear p0 p6 s0 s6 t0 t6;go_wp2_with fail
       exact⟨⟨k+1,_,_,_,rfl,by omega,zr⟩,by simp[intOf];omega⟩
      ·have hd1:decide (0<dl)=false:=by simp;omega
       rw[aJ hd0,cZ] at Ty;have zr:=ae (HV.out.next HE.out fN.out H8.out.nq H8.out.i H8.out.f (by have:=kN.out;simp only;omega) (by rw[H8.out.e,Ty.out]));clear p0;go_wp2_with fail
       exact⟨⟨k+1,_,_,_,rfl,by omega,zr⟩,by simp[intOf];omega⟩
     ·have HBAD:=ae (HV.out.bad HE.out (zx.out.1 (by first|rfl|trivial)));go_wp2_with fail
      go_ret2
      exact⟨((kK.out.trans zt.out).trans AO.out).trans zA.out,.inl ⟨HBAD.out,rfl⟩⟩
  ·obtain rfl:k=n:=by omega
   obtain⟨ea,ec,RJ,-⟩:=HV.out.i.ef.row.form;obtain⟨en,hen⟩:∃ en,es.length=en:=⟨_,rfl⟩;rw[hen] at RJ;have hv0:wr.cell? ⟨w.heap.size,0,none⟩=some v:=HV.out.i.c0;rw[RJ] at hv0;have HVE:=ae RJ;clear RJ hen;have S5:=ae (HV.out.rel (some []) (by rw[jF (by rw[HN.out];exact aq _)];exact nK.nil _));go_wp2_with fail
   go_ret2
   refine⟨kK.out,.inr ⟨_,v,es,S5.out,by rw[HVE.out];rfl,HV.out.i.ef,by simp⟩⟩
end jw
end Go.Proofs.YthpdlidbaojlbaaGreatDoor
